/- Contracts of the functions that look whether archives are valid. No conditions. -/
import Derived.Test.YtgbggaddpbghfaaGreatKAC
namespace Go.Proofs.YtgbggaddpbghfaaGreat
open Go Go.KA Go.Proofs Go.Proofs.Tryz
set_option maxHeartbeats 16000000
set_option maxRecDepth 100000
noncomputable def JU(P:Prop):Bool:= @decide P (Classical.propDecidable _)
theorem oZ{P:Prop}(h:P):JU P=true:= @decide_eq_true P (Classical.propDecidable _) h
theorem Lt{P:Prop}(h:¬P):JU P=false:= @decide_eq_false P (Classical.propDecidable _) h
theorem Dl{P:Prop}(h:JU P=true):P:= @of_decide_eq_true P (Classical.propDecidable _) h
def Alike(x y:aT):Prop:=x.id=y.id->x.bT=false->y.bT=false->x.entry=y.entry
theorem Alike.symm{x y:aT}(h:Alike x y):Alike y x:=fun h1 h2 h3=>(h h1.symm h3 h2).symm
theorem Alike.refl(x:aT):Alike x x:=fun _ _ _=>rfl
def eE(l:List aT):Prop:=∀x∈l,∀y∈l,Alike x y
theorem eE.nil:eE []:=by simp[eE]
theorem eE.next{l:List aT}{i:Nat}(h:i<l.length)(h1:eE (l.take i))(h2:∀y∈l.take i,Alike l[i] y):eE (l.take (i+1)):=by
 rw[List.take_add_one,List.getElem?_eq_getElem h];intro x hx y hy;simp only[Option.toList_some,ao,List.mem_singleton]at hx hy;rcases hx with hx|rfl<;>rcases hy with hy|rfl
 ·exact h1 x hx y hy
 ·exact(h2 x hx).symm
 ·exact h2 y hy
 ·exact .refl _
theorem Iu(l:List aT):aS prog 89 [.c (.ro 7 (l.map bG))] (B (JU (eE l))):=by
 have TH:∀i k (hi:i<l.length) (hk:k<l.length),l[i].id=l[k].id->l[i].bT=false->l[k].bT=false-> ¬l[i]=l[k]-> ¬eE l:=by
  intro i k hi hk h1 h2 h3 h4 hA;have:=hA _ (ag hi) _ (ag hk) h1 h2 h3;refine h4 ?_;generalize l[i]=x at*;generalize l[k]=y at*;cases x;cases y;simp_all
 refine cF func89 (h:=?_)
 repeat'((conv=>whnf);first
  |(apply bP.mk;first|(exact eM (Lt (TH i k (by omega) (by omega) (by assumption) (by assumption) (by assumption) h));done)|(exact gO (oZ (by have:=(‹i≤l.length/\eE _›).2;rwa[ar (by omega)]at this));done)|skip)|(show aZ 2 _ _ _ _ _ _;refine lp (Nat) [0] (fun i=>[(3,I i)]) (fun i=>i≤l.length/\eE (l.take i)) (fun i=>l.length-i) 0 (by exact⟨ah _,eE.nil⟩) (fun i ha=>?_))|(show aZ 5 _ _ _ _ _ _;refine lp (Nat) [0,3] (fun k=>[(4,I k)]) (fun k=>k≤i/\ ∀j (hj:j<l.length) (hi:i<l.length),j<k->Alike l[i] l[j]) (fun k=>i-k) 0 (by exact⟨ah _,fun j _ _ hj=>by omega⟩) (fun k ha=>?_))
  |refine nx (k+1:Nat) (by(refine⟨by show k+1≤_;omega,fun j hj hi vx=>?_⟩;rcases Nat.lt_succ_iff_lt_or_eq.1 vx with vx|rfl;exact ha.2 j hj hi vx;intro a1 a2 a3;simp_all))
  |refine nx (i+1:Nat) (by(have hi:i<l.length:=(by omega);refine⟨hi,eE.next hi (‹i≤l.length/\eE _›).2 fun y hy=>?_⟩;obtain⟨j,hj,e⟩:=List.mem_iff_getElem.1 hy;rw[aq]at hj;rw[List.getElem_take]at e;rw[<-e];exact ha.2 j (by omega) hi (by omega)))
  |(apply Fact.mk;intro hL;try simp only[aa,maxLen]at hL)
  |((apply bX;constructor)<;>intro h<;>(try simp only[aa]at h)<;>(try first|omega|contradiction))|(show ay _ 43 _ _ _ _;refine cP rfl (Kc _ _) ?_)
  |refine aR ?_|(show Index _ _ _;first|(refine Index.mk _ (bZ (i:=i) (by omega)) ?_)|(refine Index.mk _ (bZ (i:=k) (by omega)) ?_)|fail)
  |refine nB ?_
  |refine nO ?_)
abbrev ck:bj:=⟨false,[],0⟩
def g8(t a:Int)(n:Int)(p:c8):Bool:=ee 0 (n-1) p.mc&&cU t a p.note
noncomputable def fM(a:aB):Bool:=
 cE a.sig.aK a.sig.aF&&(ee 1 5 a.az.length&&(decide ((a.aL.length:Int)≤12)&&(a.az.all (cO a.sig.aK a.sig.aF)&&(a.aL.all (g8 a.sig.aK a.sig.aF a.az.length)&&JU (eE (fC a))))))
abbrev mE(q:Int × dS):Value × SV:=(.int .i64 q.1, .a 5 (kC q.2))
theorem aaR(l:List (Int × dS))(id:Int):(∃(j:Nat) (e:dS),l[j]? =some (id,e))\/ ∀q∈l,q.1≠id:=by
 by_cases h:∃q∈l,q.1=id
 ·obtain⟨q,hq,rfl⟩:=h;obtain⟨j,hj,e⟩:=List.mem_iff_getElem.1 hq;exact .inl ⟨j,q.2,by rw[List.getElem?_eq_getElem hj,e]⟩
 ·exact .inr fun q hq e=>h ⟨q,hq,e⟩
theorem T3{l:List (Int × dS)}{id:Int}(h:∀q∈l,q.1≠id):∀p∈l.map mE,p.1≠ .int .i64 id:=by
 intro p hp e;obtain⟨q,hq,rfl⟩:=List.mem_map.1 hp;simp at e;exact h q hq e
theorem Zm{l:List (Int × dS)}{id:Int}{j:Nat}{e:dS}(h:l[j]? =some (id,e)):(l.map mE)[j]? =some (.int .i64 id, .a 5 (kC e)):=by
 rw[List.getElem?_map,h];rfl
theorem _root_.Go.KA.oR.same{es:List (Value × SV)}{k:Value}{v:SV}{K:List (Value × SV)->Prop}(j:Nat)(h:es[j]? =some (k,v))(g:K es):oR es k v K:=by
 refine oR.y5 j v h ?_;obtain⟨hj,e⟩:=List.getElem?_eq_some_iff.1 h;have:es.set j (k,v)=es:=by
  rw[<-e];exact List.set_getElem_self hj
 rw[this];exact g
theorem _root_.Go.KA.oR.more{α:Type}{f:α->Value × SV}{l:List α}{k:Value}{v:SV}{K:List (Value × SV)->Prop}(q:α)(hq:f q=(k,v))(h:∀p∈l.map f,p.1≠k)(g:K ((l++[q]).map f)):oR (l.map f) k v K:=by
 refine oR.new h ?_;rw[<-hq];simpa using g
structure Kept(l:List aT)(i:Nat)(K:List (Int × dS)):Prop where
 lt:i≤l.length
 mem:∀q∈K,∃x∈l.take i,x.bT=false/\x.id=q.1/\x.entry=q.2
 all:∀x∈l.take i,x.bT=false->(x.id,x.entry)∈K
 FI:eE (l.take i)
theorem Kept.zero(l:List aT):Kept l 0 []:=⟨ah _,by simp,by simp,by simpa using eE.nil⟩
theorem pC{α:Type}{l:List α}{i:Nat}(h:i<l.length){x:α}(hx:x∈l.take (i+1)):x∈l.take i\/x=l[i]:=by
 rw[List.take_add_one,List.getElem?_eq_getElem h]at hx;rcases ao.1 hx with hx|hx
 ·exact .inl hx
 ·exact .inr (List.mem_singleton.1 hx)
theorem sG{α:Type}{l:List α}{i:Nat}(h:i<l.length){x:α}(hx:x∈l.take i\/x=l[i]):x∈l.take (i+1):=by
 rw[List.take_add_one,List.getElem?_eq_getElem h];exact ao.2 (hx.imp id fun e=>List.mem_singleton.2 e)
theorem Kept.skip{l:List aT}{i:Nat}{K:List (Int × dS)}(hK:Kept l i K)(h:i<l.length)(hr:l[i].bT=true):Kept l (i+1) K:=by
 refine⟨h,fun q hq=>?_,fun x hx N5=>?_,eE.next h hK.FI fun y hy=>?_⟩
 ·obtain⟨x,h1,h2⟩:=hK.mem q hq;exact⟨x,sG h (.inl h1),h2⟩
 ·rcases pC h hx with hx|rfl
  ·exact hK.all x hx N5
  ·rw[hr]at N5;cases N5
 ·intro _ h2;rw[hr]at h2;cases h2
theorem Kept.y5{l:List aT}{i j:Nat}{K:List (Int × dS)}(hK:Kept l i K)(h:i<l.length)(_hr:l[i].bT=false)(hj:K[j]? =some (l[i].id,l[i].entry)):Kept l (i+1) K:=by
 refine⟨h,fun q hq=>?_,fun x hx N5=>?_,eE.next h hK.FI fun y hy h1 h2 h3=>?_⟩
 ·obtain⟨x,h1,h2⟩:=hK.mem q hq;exact⟨x,sG h (.inl h1),h2⟩
 ·rcases pC h hx with hx|rfl
  ·exact hK.all x hx N5
  ·exact List.mem_of_getElem? hj
 ·obtain⟨x,g1,g2,g3,g4⟩:=hK.mem _ (List.mem_of_getElem? hj)
  dsimp only at g3 g4
  rw[<-g4];exact hK.FI x g1 y hy (g3.trans h1) g2 h3
theorem Kept.new{l:List aT}{i:Nat}{K:List (Int × dS)}(hK:Kept l i K)(h:i<l.length)(hr:l[i].bT=false)(hm:∀q∈K,q.1≠l[i].id):Kept l (i+1) (K++[(l[i].id,l[i].entry)]):=by
 refine⟨h,fun q hq=>?_,fun x hx N5=>?_,eE.next h hK.FI fun y hy h1 h2 h3=>?_⟩
 ·rcases ao.1 hq with hq|hq
  ·obtain⟨x,h1,h2⟩:=hK.mem q hq;exact⟨x,sG h (.inl h1),h2⟩
  ·have hq:=List.mem_singleton.1 hq;subst hq;exact⟨l[i],sG h (.inr rfl),hr,rfl,rfl⟩
 ·rcases pC h hx with hx|rfl
  ·exact ao.2 (.inl (hK.all x hx N5))
  ·simp
 ·exact absurd h1.symm (hm _ (hK.all y hy h3))
theorem Kept.bad{l:List aT}{i j:Nat}{K:List (Int × dS)}{e:dS}(hK:Kept l i K)(h:i<l.length)(hr:l[i].bT=false)(hj:K[j]? =some (l[i].id,e))(jr:¬e=l[i].entry):¬eE l:=by
 intro hA;obtain⟨x,g1,g2,g3,g4⟩:=hK.mem _ (List.mem_of_getElem? hj)
 dsimp only at g3 g4
 exact jr (by rw[<-g4];exact hA x (List.mem_of_mem_take g1) _ (ag h) g3 g2 hr)
theorem Kept.done{l:List aT}{i:Nat}{K:List (Int × dS)}(hK:Kept l i K)(h:¬i<l.length):eE l:=by
 have:=hK.FI;rwa[ar (by omega)]at this
theorem Kept.Zd{l:List aT}{i:Nat}{K:List (Int × dS)}(hK:Kept l i K)(h:i<l.length)(hr:(l.getD i n0).bT=true):Kept l (i+1) K:=hK.skip h (by rwa[getD_eq h]at hr)
theorem Kept.abT{l:List aT}{i j:Nat}{K:List (Int × dS)}(hK:Kept l i K)(h:i<l.length)(hr:(l.getD i n0).bT=false)(hj:K[j]? =some ((l.getD i n0).id,(l.getD i n0).entry)):Kept l (i+1) K:=by
 rw[getD_eq h]at hr hj;exact hK.y5 h hr hj
theorem Kept.aa9{l:List aT}{i:Nat}{K:List (Int × dS)}(hK:Kept l i K)(h:i<l.length)(hr:(l.getD i n0).bT=false)(hm:∀q∈K,q.1≠(l.getD i n0).id):Kept l (i+1) (K++[((l.getD i n0).id,(l.getD i n0).entry)]):=by
 rw[getD_eq h]at hr hm⊢;exact hK.new h hr hm
theorem Kept.abX{l:List aT}{i j:Nat}{K:List (Int × dS)}{e:dS}(hK:Kept l i K)(h:i<l.length)(hr:(l.getD i n0).bT=false)(hj:K[j]? =some ((l.getD i n0).id,e))(jr:¬e=(l.getD i n0).entry):¬eE l:=by
 rw[getD_eq h]at hr hj jr;exact hK.bad h hr hj jr
abbrev GA(a:aB):Prop:=cE a.sig.aK a.sig.aF=true/\ee 1 5 a.az.length=true/\(a.aL.length:Int)≤12/\a.az.all (cO a.sig.aK a.sig.aF)=true/\a.aL.all (g8 a.sig.aK a.sig.aF a.az.length)=true/\eE (fC a)
theorem mb(a:aB):fM a=true↔GA a:=by
 unfold fM;simp only[ab,decide_eq_true_eq];constructor
 ·rintro⟨h1,h2,h3,h4,h5,h6⟩;exact⟨h1,h2,h3,h4,h5,Dl h6⟩
 ·rintro⟨h1,h2,h3,h4,h5,h6⟩;exact⟨h1,h2,h3,h4,h5,oZ h6⟩
theorem LH{a:aB}(h:¬GA a):fM a=false:=by
 cases hb:fM a with
 |false=>rfl
 |true=>exact absurd ((mb a).1 hb) h
abbrev lF:c8:=⟨0,n0⟩
theorem D3{t a n:Int}{l:List c8}{k:Nat}(hk:k<l.length)(h:ee 0 (n-1) (l.getD k lF).mc=false\/cU t a (l.getD k lF).note=false):g8 t a n l[k]=false:=by
 rw[getD_eq hk]at h;unfold g8;rcases h with h|h<;>rw[h]
 ·rfl
 ·rw[Bool.and_false]
theorem LW{t a n:Int}{l:List c8}{k:Nat}(hk:k<l.length)(h1:ee 0 (n-1) (l.getD k lF).mc=true)(h2:cU t a (l.getD k lF).note=true):g8 t a n l[k]=true:=by
 rw[getD_eq hk]at h1 h2;unfold g8;rw[h1,h2];rfl
theorem fW(a:aB)(hl:bS a≤1048576):aS prog 13 [.a 4 (aW a)] (B (fM a)):=by
 have Ff:∀i (h:i<a.az.length),db a.az[i]≤1048576:=fun i h=>by
  have:=di db (ag h);simp only[bS]at hl;omega
 have A3:∀i (h:i<a.aL.length),bU (a.aL.getD i lF).note≤1048576:=fun i h=>by
  rw[getD_eq h];have:=di gG (ag h);simp only[bS,gG]at hl this;omega
 have zp:=Ie a hl;generalize hal':fC a=L at zp;refine cF func13 (h:=?_)
 repeat'((conv=>whnf);first
  |(apply bP.mk;first|((refine eM (LH ?_);rintro⟨g1,g2,g3,g4,g5,g6⟩;first|omega|(rw[g1]at h;cases h;done)|(rw[g2]at h;cases h;done)|(rw[eQ (i:=i) (by omega) h]at g4;cases g4;done)|(rw[eQ (i:=k) (by omega) (D3 (by omega) (.inl h))]at g5;cases g5;done)|(rw[eQ (i:=k) (by omega) (D3 (by omega) (.inr h))]at g5;cases g5;done)|(rw[hal']at g6;exact Kept.abX ha (by omega) (by assumption) hj h g6));done)|((refine gO ((mb a).2 ⟨by assumption,by assumption,by omega,fO (by omega) (by assumption),fO (by omega) (by assumption),by rw[hal'];exact Kept.done ha (by omega)⟩));done)|skip)|(show aZ 5 _ _ _ _ _ _;refine lp (Nat) [1,3,32,33] (fun i=>[(34,I i)]) (fun i=>i≤a.az.length/\(a.az.take i).all (cO a.sig.aK a.sig.aF)=true) (fun i=>a.az.length-i) 0 (by exact⟨ah _,rfl⟩) (fun i ha=>?_))|(show aZ 11 _ _ _ _ _ _;refine lp (Nat) [1,3,45,46] (fun k=>[(47,I k)]) (fun k=>k≤a.aL.length/\(a.aL.take k).all (g8 a.sig.aK a.sig.aF a.az.length)=true) (fun k=>a.aL.length-k) 0 (by exact⟨ah _,rfl⟩) (fun k ha=>?_))|(show aZ 18 _ _ _ _ _ _;refine qJ (Nat × List (Int × dS)) [8,68,69] (fun⟨m,K⟩=>[(70,I m)]) (fun⟨m,K⟩=>[(1, .pD (some .i64) (K.map mE))]) (fun⟨m,K⟩=>Kept L m K) (fun⟨m,K⟩=>L.length-m) (0,[]) (by exact Kept.zero _) (fun A ha=>?_);obtain⟨m,K⟩:=A;have ha:Kept L m K:=ha)
  |refine nx (i+1:Nat) (by exact eN (by omega) ha h)
  |refine nx (k+1:Nat) (by exact eN (by omega) ha (LW (by omega) (by assumption) h))
  |refine nx ((m+1,K):Nat × List (Int × dS)) (by exact Kept.Zd ha (by omega) (by assumption))
  |refine nx ((m+1,K):Nat × List (Int × dS)) (by exact Kept.abT ha (by omega) (by assumption) hj)
  |refine nx ((m+1,K++[((L.getD m n0).id,(L.getD m n0).entry)]):Nat × List (Int × dS)) (by exact Kept.aa9 ha (by omega) (by assumption) hmiss)
  |(apply Fact.mk;intro hL;try simp only[aa,maxLen]at hL)
  |((apply bX;constructor)<;>intro h<;>(try simp only[aa]at h)<;>(try first|omega|contradiction))|(show ay _ 44 _ _ _ _;refine cP rfl (rC _ _) ?_)|(show ay _ 45 _ _ _ _;refine cP rfl (eg _ _ _) ?_)|(show ay _ 46 _ _ _ _;refine cP rfl (FE _ _ _ (Ff i (by omega))) ?_)|(show ay _ 47 _ _ _ _;refine cP rfl (BY _ _ _ (A3 k (by omega))) ?_)|(show ay _ 48 _ _ _ _;refine cG [] rfl (zp) ?_)|(show ay _ 49 _ _ _ _;refine cP rfl (Ds e (L.getD m n0).entry) ?_)|(show EJ _ _ _;rcases aaR K (L.getD m n0).id with⟨j,e,hj⟩|hmiss<;>(first|refine EJ.Xi j _ (Zm hj) ?_|refine EJ.Na (T3 hmiss) ?_))|(show oR _ _ _ _;(first|(have h5:e=(L.getD m n0).entry:=(by assumption);rw[h5]at hj;refine oR.same j (Zm hj) ?_)|refine oR.more ((L.getD m n0).id,(L.getD m n0).entry) rfl (T3 hmiss) ?_))
  |refine aR ?_|(show Index _ _ _;first|(refine Index.mk _ (bZ (i:=i) (by omega)) ?_)|(refine Index.mk _ (aN (d:=lF) (i:=k) (by omega)) ?_)|(refine Index.mk _ (aN (d:=n0) (i:=m) (by omega)) ?_)|fail)
  |refine nO ?_)
theorem G3(a:aB)(hl:bS a≤1048576):aS prog 39 [.c (.rp 4 (aW a))] (B (fM a)):=by
 have Ff:∀i (h:i<a.az.length),db (a.az.getD i ck)≤1048576:=fun i h=>by
  rw[getD_eq h];have:=di db (ag h);simp only[bS]at hl;omega
 have A3:∀i (h:i<a.aL.length),bU (a.aL.getD i lF).note≤1048576:=fun i h=>by
  rw[getD_eq h];have:=di gG (ag h);simp only[bS,gG]at hl this;omega
 have hn:∀i (h:i<a.az.length),(a.az.getD i ck).notes.length≤1048576:=fun i h=>by
  have h1:=Ff i h;have h2:=eP bU (a.az.getD i ck).notes;simp only[db]at h1;omega
 have hb:∀i,((a.az.take i).flatMap bj.notes).length≤1048576:=fun i=>by
  have h1:=y4 (f:=bj.notes) (g:=db) (fun s=>eP bU s.notes) (a.az.take i);have h2:=sR (f:=db) a.az i;simp only[bS,fU]at hl;omega
 have hf:a.aL.length≤1048576:=by simp only[bS,fU]at hl;omega
 refine cF func39 (h:=?_)
 repeat'((conv=>whnf);first
  |(apply bP.mk;first|((refine eM (LH ?_);rintro⟨g1,g2,g3,g4,g5,g6⟩;first|omega|(rw[g1]at h;cases h;done)|(rw[g2]at h;cases h;done)|(have hi:i<a.az.length:=(by omega);rw[getD_eq hi]at h;rw[eQ hi h]at g4;cases g4;done)|(rw[eQ (i:=k) (by omega) (D3 (by omega) (.inl h))]at g5;cases g5;done)|(rw[eQ (i:=k) (by omega) (D3 (by omega) (.inr h))]at g5;cases g5;done));done)|skip)|(show aZ 6 _ _ _ _ _ _;refine qJ (Nat × List aT) [0,3] (fun⟨i,R⟩=>[(4, .lw 0),(5,I i)]) (fun⟨i,R⟩=>[(0, .row none 51 7 (R.map bG))]) (fun⟨i,R⟩=>i≤a.az.length/\(a.az.take i).all (cO a.sig.aK a.sig.aF)=true/\R=(a.az.take i).flatMap bj.notes) (fun⟨i,R⟩=>a.az.length-i) (0,[]) (by exact⟨ah _,rfl,rfl⟩) (fun A ha=>?_);obtain⟨i,R⟩:=A;have ha:i≤a.az.length/\(a.az.take i).all (cO a.sig.aK a.sig.aF)=true/\R=(a.az.take i).flatMap bj.notes:=ha)|(show aZ 12 _ _ _ _ _ _;refine qJ (Nat × List aT) [0,3] (fun⟨k,S⟩=>[(4, .lw 0),(6,I k)]) (fun⟨k,S⟩=>[(0, .row none 51 7 (S.map bG))]) (fun⟨k,S⟩=>k≤a.aL.length/\(a.aL.take k).all (g8 a.sig.aK a.sig.aF a.az.length)=true/\S=R++(a.aL.take k).map c8.note) (fun⟨k,S⟩=>a.aL.length-k) (0,R) (by exact⟨ah _,rfl,by simp⟩) (fun A ha=>?_);obtain⟨k,S⟩:=A;have ha:k≤a.aL.length/\(a.aL.take k).all (g8 a.sig.aK a.sig.aF a.az.length)=true/\S=R++(a.aL.take k).map c8.note:=ha)
  |refine nx ((i+1,R++(a.az.getD i ck).notes):Nat × List aT) (by(have hi:i<a.az.length:=(by omega);rw[getD_eq hi]at h⊢;refine⟨hi,mi hi ha.2.1 h,?_⟩;show R++_=_;rw[sQ hi,ha.2.2]))
  |refine nx ((k+1,S++[(a.aL.getD k lF).note]):Nat × List aT) (by(have hk:k<a.aL.length:=(by omega);refine⟨hk,mi hk ha.2.1 (LW hk h (by assumption)),?_⟩;show S++_=_;rw[jL hk,ha.2.2,List.append_assoc,getD_eq hk]))
  |(apply Fact.mk;intro hL;try simp only[aa,maxLen]at hL)
  |((apply bX;constructor)<;>intro h<;>(try simp only[aa]at h)<;>(try first|omega|contradiction))|(show ay _ 85 _ _ _ _;refine cP rfl (mY _ _) ?_)|(show ay _ 86 _ _ _ _;refine cP rfl (ed _ _ _) ?_)|(show ay _ 87 _ _ _ _;refine cP rfl (Dr _ _ _ (Ff i (by omega))) ?_)|(show ay _ 88 _ _ _ _;refine cP rfl (Ba _ _ _ (A3 k (by omega))) ?_)|(show ay _ 89 _ _ _ _;refine cP rfl (Iu S) ?_)
  |refine aR ?_|(show Index _ _ _;first|(refine Index.mk _ (aN (d:=ck) (i:=i) (by omega)) ?_)|(refine Index.mk _ (aN (d:=lF) (i:=k) (by omega)) ?_)|fail)
  |refine nB ?_|(show bh _ _;refine bh.mk (by first|((have h2:=ha.2.2;have h1:=hb i;simp only[aa,maxLen];first|(have h3:=hn i (by omega);rw[<-h2]at h1;constructor<;>omega)|(have h8:=(‹_/\_/\R=_›:i≤_/\_/\R=_).2.2;rw[<-h8]at h1;have h4:=congrArg List.length h2;simp only[ai,aa,aq]at h4;simp only[List.length_cons,List.length_nil];constructor<;>omega)))|fail) ?_)
  |refine nO ?_)
 have h7:=(‹_/\_/\R=_›:i≤_/\(a.az.take i).all _=true/\R=_);have h8:=h7.2.2;have h6:=h7.2.1;have h9:=ha.2.2;have h5:=ha.2.1;rw[ar (show a.az.length≤i by omega)]at h8 h6;rw[ar (show a.aL.length≤k by omega)]at h9 h5;have e:S=fC a:=by rw[h9,h8];rfl
 have h4:cE a.sig.aK a.sig.aF=true:=by assumption
 have h3:ee 1 5 a.az.length=true:=by assumption
 have h2:decide ((a.aL.length:Int)≤12)=true:=decide_eq_true (by omega);unfold fM;rw[h4,h3,h2,h6,h5,e];rfl
def cK(t a:Int)(e:bH):Bool:=
 ee 1 9 e.kind&&(ee 0 999 e.a&&(ee 0 999 e.b&&(ee 0 999 e.c&&((decide (e.kind=2)||(decide (e.kind=3)||decide (e.b=0)))&&((decide (e.kind=3)||decide (e.c=0))&&
    (if e.kind=1 then dE t a e.bI e.proof&&((e.nH.length:Int)==5)else decide ((e.bI.length:Int)=0)&&(Al e.proof&&((e.nH.length:Int)==0))))))))
def BS(k:Int):Int:=if k=2 then 2 else if k=3 then 3 else 1
theorem IU(k:Int):aS prog 90 [I k] (I (BS k)):=by
 refine cF func90 (h:=?_)
 repeat'((conv=>whnf);first
  |(apply bP.mk;first|((simp_all[BS,dj,dh];done);done)|skip)
  |((apply bX;constructor)<;>intro h<;>(try simp only[aa]at h)<;>(try first|omega|contradiction)))
theorem Qq(k:Int):(k=2/\BS k=2)\/(k=3/\BS k=3)\/(¬k=2/\ ¬k=3/\BS k=1):=by
 unfold BS;by_cases h2:k=2
 ·exact .inl ⟨h2,by rw[if_pos h2]⟩
 ·by_cases h3:k=3
  ·exact .inr (.inl ⟨h3,by rw[if_neg h2,if_pos h3]⟩)
  ·exact .inr (.inr ⟨h2,h3,by rw[if_neg h2,if_neg h3]⟩)
theorem JF(t a:Int)(e:bH)(hl:cL e.proof≤1048576):aS prog 50 [.a 2 [J t,J a], .a 9 (cj e)] (B (cK t a e)):=by
 refine cF func50 (h:=?_)
 repeat'((conv=>whnf);first
  |(apply bP.mk;first|(simp_all[cK,dj,dh];done)|skip)
  |(apply Fact.mk;intro hL;try simp only[aa,maxLen]at hL)
  |((apply bX;constructor)<;>intro h<;>(try simp only[aa]at h)<;>(try first|omega|contradiction))|(show ay _ 45 _ _ _ _;refine cP rfl (eg _ _ _) ?_)|(show ay _ 97 _ _ _ _;refine cP rfl (zT t a e.bI e.proof hl) ?_)|(show ay _ 100 _ _ _ _;refine cP rfl (vk e.proof) ?_))
theorem Is(x:aB)(e:bH)(hl:cL e.proof≤1048576):aS prog 40 [.c (.rp 4 (aW x)), .c (.rp 9 (cj e))] (B (cK x.sig.aK x.sig.aF e)):=by
 have hr:aS prog 91 [.a 2 [J x.sig.aK,J x.sig.aF], .c (.ro 1 (e.bI.map eI)), .c (.rp 4 ((cj e).drop 5))] (B (dE x.sig.aK x.sig.aF e.bI e.proof)):=(xF _ _ e.bI e.proof hl).cut (.same (.same (.cut (k:=3) (by omega) .nil)));have he:aS prog 92 [.c (.rp 4 ((cj e).drop 5))] (B (Al e.proof)):=(xO e.proof).cut (.cut (k:=3) (by omega) .nil);have hu:=Qq e.kind;refine cF func40 (h:=?_)
 repeat'((conv=>whnf);first
  |(apply bP.mk;first|(simp_all[cK,dj,dh];done)|(simp_all[cK,dj,dh];omega;done)|((have hk:e.kind=3:=(by omega);clear hu;simp only[aa];simp_all[cK,dj,dh];done);done)|skip)
  |(apply Fact.mk;intro hL;try simp only[aa,maxLen]at hL)
  |((apply bX;constructor)<;>intro h<;>(try simp only[aa]at h)<;>(try first|omega|contradiction))|(show ay _ 90 _ _ _ _;refine cP rfl (IU e.kind) ?_)|(show ay _ 86 _ _ _ _;refine cP rfl (ed _ _ _) ?_)|(show ay _ 91 _ _ _ _;refine cP rfl (hr) ?_)|(show ay _ 92 _ _ _ _;refine cP rfl (he) ?_)
  |refine nB ?_)
noncomputable def m7(x:aB)(e:bH):Bool:=fM x&&cK x.sig.aK x.sig.aF e
theorem BF(x:aB)(e:bH)(hx:bS x≤1048576)(he:gi e≤1048576):aS prog 14 [.a 4 (aW x), .a 9 (cj e)] (B (m7 x e)):=by
 have hp:cL e.proof≤1048576:=by simp only[gi]at he;omega
 refine cF func14 (h:=?_)
 repeat'((conv=>whnf);first
  |(apply bP.mk;first|((unfold m7;rw[h];rfl);done)|skip)
  |((apply bX;constructor)<;>intro h<;>(try simp only[aa]at h)<;>(try first|omega|contradiction))|(show ay _ 13 _ _ _ _;refine cP rfl (fW x hx) ?_)|(show ay _ 50 _ _ _ _;refine cP rfl (JF _ _ e hp) ?_))
def bW(a:aB)(s:Int):Bool:=ee 0 ((a.az.length:Int)-1) s
noncomputable def sW(a:aB)(s id:Int):Int:=if fM a=false then 1 else if bW a s=false\/ee 0 99 id=false then 2 else 0
theorem zY(a:aB)(s:Int):aS prog 81 [.a 4 (aW a),I s] (B (bW a s)):=by
 refine cF func81 (h:=?_)
 repeat'((conv=>whnf);first
  |(apply bP.mk;first|((simp only[aa];rfl);done)|skip)
  |(apply Fact.mk;intro hL;try simp only[aa,maxLen]at hL)|(show ay _ 45 _ _ _ _;refine cP rfl (eg _ _ _) ?_)
  |refine aR ?_)
theorem GH(a:aB)(s:Int):aS prog 104 [.c (.rp 4 (aW a)),I s] (B (bW a s)):=by
 refine cF func104 (h:=?_)
 repeat'((conv=>whnf);first
  |(apply bP.mk;first|((simp only[aa];rfl);done)|skip)
  |(apply Fact.mk;intro hL;try simp only[aa,maxLen]at hL)|(show ay _ 86 _ _ _ _;refine cP rfl (ed _ _ _) ?_)
  |refine aR ?_)
theorem mQ(a:aB)(s id:Int)(hl:bS a≤1048576):aS prog 55 [.a 4 (aW a),I s,I id] (I (sW a s id)):=by
 refine cF func55 (h:=?_)
 repeat'((conv=>whnf);first
  |(apply bP.mk;first|((simp_all[sW,dj,dh];done);done)|skip)
  |((apply bX;constructor)<;>intro h<;>(try simp only[aa]at h)<;>(try first|omega|contradiction))|(show ay _ 13 _ _ _ _;refine cP rfl (fW a hl) ?_)|(show ay _ 81 _ _ _ _;refine cP rfl (zY a s) ?_)|(show ay _ 45 _ _ _ _;refine cP rfl (eg _ _ _) ?_))
theorem r6(a:aB)(s id:Int)(hl:bS a≤1048576):aS prog 57 [.c (.rp 4 (aW a)),I s,I id] (I (sW a s id)):=by
 refine cF func57 (h:=?_)
 repeat'((conv=>whnf);first
  |(apply bP.mk;first|((simp_all[sW,dj,dh];done);done)|skip)
  |((apply bX;constructor)<;>intro h<;>(try simp only[aa]at h)<;>(try first|omega|contradiction))|(show ay _ 39 _ _ _ _;refine cP rfl (G3 a hl) ?_)|(show ay _ 104 _ _ _ _;refine cP rfl (GH a s) ?_)|(show ay _ 86 _ _ _ _;refine cP rfl (ed _ _ _) ?_))
theorem tG{a:aB}{s id:Int}(h:sW a s id=0):GA a/\bW a s=true/\ee 0 99 id=true:=by
 unfold sW at h;cases hg:fM a with
 |false=>rw[hg]at h;simp at h
 |true=>
  rw[hg]at h;refine⟨(mb a).1 hg,?_⟩;cases h1:bW a s<;>cases h2:ee 0 99 id<;>simp_all
def fF(n:Nat)(p:Nat->Bool):List Int:=((List.range n).filter p).map fun(i:Nat)=>(i:Int)
theorem pq{n:Nat}{p:Nat->Bool}(h:p n=true):fF (n+1) p=fF n p++[(n:Int)]:=by
 simp[fF,List.range_succ,h]
theorem oK{n:Nat}{p:Nat->Bool}(h:p n=false):fF (n+1) p=fF n p:=by
 simp[fF,List.range_succ,h]
theorem jI(n:Nat)(p:Nat->Bool):(fF n p).length≤n:=by
 have:=List.length_filter_le p (List.range n);simpa[fF]using this
abbrev uV(l:List Int)(c:Int):SV:= .tup [.c (.ows 2 1 (l.map eI)),I c]
abbrev qH(a:aB):SV:= .a 4 (aW a)
abbrev sav(s:bj):List aT:=(s.notes.drop (0:Int).toNat).take (s.saved.toNat-(0:Int).toNat)
def jG(a:aB)(r:Bool)(id:Int)(i:Nat):Bool:=decide (0≤bf (sav (a.az.getD i ck)) r id)
theorem wx{a:aB}(h:GA a){i:Nat}(hi:i<a.az.length):0≤(a.az.getD i ck).saved/\(a.az.getD i ck).saved≤((a.az.getD i ck).notes.length:Int):=by
 have h4:=aj.1 h.2.2.2.1 _ (ag hi);rw[getD_eq hi];unfold cO at h4;simp only[ab]at h4;exact bQ h4.2.1
section
variable(a:aB)(r:Bool)(id:Int)(hl:bS a≤1048576)
include hl
theorem IK(h:sW a 0 id=0):aE prog 25 [qH a,B r,I id] [] (uV (fF a.az.length (jG a r id)) 0):=by
 have hg:=(tG h).1;have hk:=mQ a 0 id hl;rw[h]at hk;have h5:=bQ hg.2.1;have hlen:=jI;refine cX func25 (h:=?_)
 repeat'((conv=>whnf);first
  |refine aI.mk ?_ ?_|(show aZ 6 _ _ _ _ _ _;refine qJ (Nat × List Int) [1,2,20,21] (fun⟨i,R⟩=>[(9, .lw 2),(22,I i)]) (fun⟨i,R⟩=>[(2, .row none 2 1 (R.map eI))]) (fun⟨i,R⟩=>i≤a.az.length/\R=fF i (jG a r id)) (fun⟨i,R⟩=>a.az.length-i) (0,[]) (by exact⟨ah _,rfl⟩) (fun A ha=>?_);obtain⟨i,R⟩:=A;have ha:i≤a.az.length/\R=fF i (jG a r id):=ha;have hb:=hlen i (jG a r id);rw[<-ha.2]at hb)
  |refine nx ((i+1,R++[(i:Int)]):Nat × List Int) (by exact⟨by show i+1≤_;omega,by show R++[_]=_;rw[pq (decide_eq_true h),ha.2]⟩)
  |refine nx ((i+1,R):Nat × List Int) (by exact⟨by show i+1≤_;omega,by show R=_;rw[oK (decide_eq_false h),ha.2]⟩)
  |(apply Fact.mk;intro hL;try simp only[aa,maxLen]at hL)
  |((apply bX;constructor)<;>intro h<;>(try simp only[aa]at h)<;>(try first|omega|contradiction))|(show ay _ 55 _ _ _ _;refine cP rfl (hk) ?_)|(show ay _ 59 _ _ _ _;refine cP rfl (ry (a.az.getD i ck).notes 0 (a.az.getD i ck).saved r id) ?_)
  |refine aR ?_|(show Index _ _ _;first|(refine Index.mk _ (aN (d:=ck) (i:=i) (by omega)) ?_)|fail)|(show bh _ _;refine bh.mk (by first|((have:=wx hg (i:=i) (by omega);simp only[aa];omega))|((simp only[aa,List.length_cons,List.length_nil,maxLen];constructor<;>omega))|fail) ?_)
  |refine nO ?_)
 all_goals first|rfl|trivial|(have e:i=a.az.length:=(by omega);have h9:=ha.2;rw[e]at h9;rw[h9];done)
theorem Ar(h:sW a 0 id=0):aE prog 26 [qH a,B r,I id] [] (uV (fF a.az.length (jG a r id)) 0):=by
 have hg:=(tG h).1;have hk:=r6 a 0 id hl;rw[h]at hk;have h5:=bQ hg.2.1;have hlen:=jI;refine cX func26 (h:=?_)
 repeat'((conv=>whnf);first
  |refine aI.mk ?_ ?_|(show aZ 6 _ _ _ _ _ _;refine qJ (Nat × List Int) [1,2,3] (fun⟨i,R⟩=>[(9, .lw 2),(10,I i)]) (fun⟨i,R⟩=>[(2, .row none 2 1 (R.map eI))]) (fun⟨i,R⟩=>i≤a.az.length/\R=fF i (jG a r id)) (fun⟨i,R⟩=>a.az.length-i) (0,[]) (by exact⟨ah _,rfl⟩) (fun A ha=>?_);obtain⟨i,R⟩:=A;have ha:i≤a.az.length/\R=fF i (jG a r id):=ha;have hb:=hlen i (jG a r id);rw[<-ha.2]at hb)
  |refine nx ((i+1,R++[(i:Int)]):Nat × List Int) (by exact⟨by show i+1≤_;omega,by show R++[_]=_;rw[pq (decide_eq_true h),ha.2]⟩)
  |refine nx ((i+1,R):Nat × List Int) (by exact⟨by show i+1≤_;omega,by show R=_;rw[oK (decide_eq_false h),ha.2]⟩)
  |(apply Fact.mk;intro hL;try simp only[aa,maxLen]at hL)
  |((apply bX;constructor)<;>intro h<;>(try simp only[aa]at h)<;>(try first|omega|contradiction))|(show ay _ 57 _ _ _ _;refine cP rfl (hk) ?_)|(show ay _ 60 _ _ _ _;refine cP rfl (xS (a.az.getD i ck).notes 0 (a.az.getD i ck).saved r id) ?_)
  |refine aR ?_|(show Index _ _ _;first|(refine Index.mk _ (aN (d:=ck) (i:=i) (by omega)) ?_)|fail)
  |refine nB ?_|(show bh _ _;refine bh.mk (by first|((have:=wx hg (i:=i) (by omega);simp only[aa];omega))|((simp only[aa,List.length_cons,List.length_nil,maxLen];constructor<;>omega))|fail) ?_)
  |refine nO ?_)
 all_goals first|rfl|trivial|(have e:i=a.az.length:=(by omega);have h9:=ha.2;rw[e]at h9;rw[h9];done)
end
section
open Go Go.KA
theorem c9{α:Type}{l:List α}{i:Nat}{x:α}(h:i<l.length):(l.set i x)[i]? =some x:=by simp[h]
end
abbrev cC(x:aA):List CV:=[J x.kind,J x.num, .own 66 3 (x.kids.map aM)]
theorem uu{l:List aA}{i:Nat}{rows:List (List CV)}(hi:i<l.length)(h:rows=(l.take i).map aM):rows++[cC l[i]]=(l.take (i+1)).map aM:=by
 rw[jL hi,h,dQ]
theorem D9(x:aA)(hl:x.kids.length≤1048576)(hx:∀k∈x.kids,aE prog 65 [.a 3 (aD k)] [] (.a 3 (cC k))):aE prog 65 [.a 3 (aY x)] [] (.a 3 (cC x)):=by
 refine cX func65 (h:=?_)
 repeat'((conv=>whnf);first
  |refine aI.mk ?_ ?_|(show aZ 3 _ _ _ _ _ _;refine qJ (Nat × List (List CV)) [2,3,12,13] (fun⟨i,rows⟩=>[(14,I (i:Nat))]) (fun⟨i,rows⟩=>[(5, .cells [.c (J x.kind), .c (J x.num), .lw 3]),(3, .aU none 66 3 rows)]) (fun⟨i,rows⟩=>i≤x.kids.length/\rows=(x.kids.take i).map aM) (fun⟨i,rows⟩=>x.kids.length-i) (0,[]) (by exact⟨ah _,rfl⟩) (fun A ha=>?_);obtain⟨i,rows⟩:=A;have ha:i≤x.kids.length/\rows=(x.kids.take i).map aM:=ha;have sU:rows.length=i:=(by rw[ha.2,aa,aq];omega))
  |refine nx ((i+1,rows++[cC x.kids[i]]):Nat × List (List CV)) (by exact⟨by show i+1≤_;omega,uu (by omega) ha.2⟩)
  |(apply Fact.mk;intro hL;try simp only[aa,maxLen]at hL)
  |((apply bX;constructor)<;>intro h<;>(try simp only[aa]at h)<;>(try first|omega|contradiction))|(show ay _ 65 _ _ _ _;refine cG [] rfl (hx _ (ag (by omega))) ?_)
  |refine aR ?_|(show Index _ _ _;first|(refine Index.mk _ (bZ (i:=i) (by omega)) ?_)|fail)
  |refine nB ?_|(show bh _ _;refine bh.mk (by first|((simp only[List.length_cons,List.length_nil,maxLen];constructor<;>omega))|fail) ?_)
  |refine nO ?_)
 all_goals first|rfl|trivial|(have h9:=ha.2;rw[ar (by omega)]at h9;rw[h9];rfl)
theorem JO(x:aA)(hl:x.kids.length≤1048576)(hx:∀k∈x.kids,aE prog 137 [.c (.rp 3 (aD k))] [] (.a 3 (cC k))):aE prog 137 [.c (.rp 3 (aY x))] [] (.a 3 (cC x)):=by
 refine cX func137 (h:=?_)
 repeat'((conv=>whnf);first
  |refine aI.mk ?_ ?_|(show aZ 3 _ _ _ _ _ _;refine qJ (Nat × List (List CV)) [0,2,3] (fun⟨i,rows⟩=>[(4,I (i:Nat))]) (fun⟨i,rows⟩=>[(4, .cells [.c (J x.kind), .c (J x.num), .lw 2]),(2, .aU none 66 3 rows)]) (fun⟨i,rows⟩=>i≤x.kids.length/\rows=(x.kids.take i).map aM) (fun⟨i,rows⟩=>x.kids.length-i) (0,[]) (by exact⟨ah _,rfl⟩) (fun A ha=>?_);obtain⟨i,rows⟩:=A;have ha:i≤x.kids.length/\rows=(x.kids.take i).map aM:=ha;have sU:rows.length=i:=(by rw[ha.2,aa,aq];omega))
  |refine nx ((i+1,rows++[cC x.kids[i]]):Nat × List (List CV)) (by exact⟨by show i+1≤_;omega,uu (by omega) ha.2⟩)
  |(apply Fact.mk;intro hL;try simp only[aa,maxLen]at hL)
  |((apply bX;constructor)<;>intro h<;>(try simp only[aa]at h)<;>(try first|omega|contradiction))|(show ay _ 137 _ _ _ _;refine cG [] rfl (hx _ (ag (by omega))) ?_)
  |refine aR ?_|(show Index _ _ _;first|(refine Index.mk _ (bZ (i:=i) (by omega)) ?_)|fail)
  |refine nB ?_|(show bh _ _;refine bh.mk (by first|((simp only[List.length_cons,List.length_nil,maxLen];constructor<;>omega))|fail) ?_)
  |refine nO ?_)
 all_goals first|rfl|trivial|(have h9:=ha.2;rw[ar (by omega)]at h9;rw[h9];rfl)
theorem rX(x:aA)(hb:aH x≤1048576):aE prog 65 [.a 3 (aD x)] [] (.a 3 (cC x)):=by
 rw[bK];have h1:fU aH x.kids≤aH x:=by
  cases x;simp only[aH,oy,aA.kids];exact aw _
 exact D9 x (by have:=eP aH x.kids;omega) fun k Yk=>rX k (by have:=di aH Yk;omega)
 termination_by SizeOf.sizeOf x
 decreasing_by
  have:=List.sizeOf_lt_of_mem Yk;cases x;simp only[aA.mk.sizeOf_spec];show SizeOf.sizeOf k<_;simp only[aA.kids]at this;omega
theorem fa(x:aA)(hb:aH x≤1048576):aE prog 137 [.c (.rp 3 (aD x))] [] (.a 3 (cC x)):=by
 rw[bK];have h1:fU aH x.kids≤aH x:=by
  cases x;simp only[aH,oy,aA.kids];exact aw _
 exact JO x (by have:=eP aH x.kids;omega) fun k Yk=>fa k (by have:=di aH Yk;omega)
 termination_by SizeOf.sizeOf x
 decreasing_by
  have:=List.sizeOf_lt_of_mem Yk;cases x;simp only[aA.mk.sizeOf_spec];show SizeOf.sizeOf k<_;simp only[aA.kids]at this;omega
theorem lW(x:aA)(hb:aH x≤1048576):aE prog 65 [.a 3 (aY x)] [] (.a 3 (cC x)):=by
 have:=rX x hb;rwa[bK]at this
theorem rJ(x:aA)(hb:aH x≤1048576)(r:List CV)(n:Nat)(hn:3≤n):aE prog 137 [.c (.rp n (aY x++r))] [] (.a 3 (cC x)):=by
 have:=fa x hb;rw[bK]at this;exact this.cut (.cut (k:=3) hn .nil)
inductive pI:List CV->List CV->Prop
 |nil:pI [] []
 |same {c cs dn} (h:pI cs dn):pI (c::cs) (c::dn)
 |up {ty sz rows cs dn} (h:pI cs dn):pI (.ows ty sz rows::cs) (.own ty sz rows::dn)
theorem pI.den{w:World}{ok:Nat->Prop}{cs dn:List CV}(h:pI cs dn):∀{vs:List Value} {f:List Nat},Den w ok cs vs f->Den w ok dn vs f:=by
 induction h with
 |nil=>intro vs f h;exact h
 |same h ih=>
  intro vs f hd;cases hd with
  |any h1 ht=>exact .any h1 (ih ht)
  |val h1 ht=>exact .val h1 (ih ht)
  |cb ht=>exact .cb (ih ht)
  |ro a b c d e f ht=>exact .ro a b c d e f (ih ht)
  |rp a b c d ht=>exact .rp a b c d (ih ht)
  |own a b c ht=>exact .own a b c (ih ht)
  |ows a b c ht=>exact .ows a b c (ih ht)
  |fQ a b c ht=>exact .fQ a b c (ih ht)
  |op a b ht=>exact .op a b (ih ht)
  |jB a b c ht=>exact .jB a b c (ih ht)
 |up h ih=>
  intro vs f hd;cases hd with
  |ows a b c ht=>
   have:=Den.own a b c (ih ht);simpa using this
theorem pI.len{cs dn:List CV}(h:pI cs dn):cs.length=dn.length:=by
 induction h<;>simp_all
theorem aE.Zy{P:Program}{f:Nat}{args:List SV}{cs dn:List CV}{n:Nat}{c:Int}(h:aE P f args [] (.tup [.a n cs,I c]))(hc:pI cs dn):aE P f args [] (.tup [.a n dn,I c]):=by
 refine⟨h.1,fun w ok vs fs h1 h2 h3 h4=>(h.2 w ok vs fs h1 h2 h3 h4).mono ?_⟩;rintro e w' ⟨v,fr,fo,h5,h6,h7,h8,h9,Cz⟩;refine⟨v,fr,fo,h5,h6,h7,h8,?_,Cz⟩;cases h9 with
 |v h=>
  cases h with
  |v h=>
   cases h fun _=>none with
   |c h=>cases h
 |tup h=>
  cases h with
  |cons ha ht=>
   refine .tup (.cons ?_ ht);cases ha with
   |v h=>
    refine .v fun ρ=>?_
    cases h ρ with
    |c h=>cases h
    |a a1 a2=>first|exact .a (hc.len▸a1) (hc.den a2)|exact .a hc.len.symm (hc.den a2)|exact .a hc.len.symm (hc.den a1)
   |a hl h=>exact .a (hc.len▸hl) (hc.den h)
theorem FW(l:List Int)(hl:l.length≤1048576):aE prog 112 [.c (.ro 1 (l.map eI))] [] (.c (.ows 2 1 (l.map eI))):=by
 refine cX func112 (h:=?_)
 repeat'((conv=>whnf);first
  |refine aI.mk ?_ ?_
  |(apply Fact.mk;intro hL;try simp only[aa,maxLen]at hL)
  |((apply bX;constructor)<;>intro h<;>(try simp only[aa]at h)<;>(try first|omega|contradiction))|(show VT _ _;refine VT.mk fun b hb=>?_)|(show bh _ _;refine bh.mk (by first|((simp only[aa,List.length_nil,maxLen];constructor<;>omega))|fail) ?_))
 all_goals first|rfl|trivial|(rw[hb h])
theorem km(l:List Int)(hl:l.length≤1048576):aE prog 133 [.c (.ro 1 (l.map eI))] [] (.c (.ows 2 1 (l.map eI))):=by
 refine cX func133 (h:=?_)
 repeat'((conv=>whnf);first
  |refine aI.mk ?_ ?_
  |(apply Fact.mk;intro hL;try simp only[aa,maxLen]at hL)|(show bh _ _;refine bh.mk (by first|((simp only[aa,List.length_nil,maxLen];constructor<;>omega))|fail) ?_))
 all_goals first|rfl|trivial
theorem uG(l:List aA)(hl:fU aH l≤1048576):aE prog 199 [.c (.ro 3 (l.map aD))] [] (.c (.own 66 3 (l.map aM))):=by
 have hn:=eP aH l;have hc:∀i (hi:i<l.length),aE prog 65 [.a 3 (aD l[i])] [] (.a 3 (cC l[i])):=fun i hi=>rX _ (by have:=di aH (ag hi);omega)
 refine cX func199 (h:=?_)
 repeat'((conv=>whnf);first
  |refine aI.mk ?_ ?_|(show aZ 3 _ _ _ _ _ _;refine qJ (Nat × List (List CV)) [9,10] (fun⟨i,rows⟩=>[(3, .lw 1),(11,I (i:Nat))]) (fun⟨i,rows⟩=>[(1, .aU none 66 3 rows)]) (fun⟨i,rows⟩=>i≤l.length/\rows=(l.take i).map aM) (fun⟨i,rows⟩=>l.length-i) (0,[]) (by exact⟨ah _,rfl⟩) (fun A ha=>?_);obtain⟨i,rows⟩:=A;have ha:i≤l.length/\rows=(l.take i).map aM:=ha;have sU:rows.length=i:=(by rw[ha.2,aa,aq];omega))
  |refine nx ((i+1,rows++[cC l[i]]):Nat × List (List CV)) (by exact⟨by show i+1≤_;omega,uu (by omega) ha.2⟩)
  |(apply Fact.mk;intro hL;try simp only[aa,maxLen]at hL)
  |((apply bX;constructor)<;>intro h<;>(try simp only[aa]at h)<;>(try first|omega|contradiction))|(show ay _ 65 _ _ _ _;refine cG [] rfl (hc i (by omega)) ?_)
  |refine aR ?_|(show Index _ _ _;first|(refine Index.mk _ (bZ (i:=i) (by omega)) ?_)|fail)|(show bh _ _;refine bh.mk (by first|((simp only[List.length_cons,List.length_nil,aa,maxLen];constructor<;>omega))|((simp only[aa];omega))|fail) ?_)
  |refine nO ?_)
 all_goals first|rfl|trivial|(have h9:=ha.2;rw[ar (by omega)]at h9;rw[h9])
theorem tt(l:List aA)(hl:fU aH l≤1048576):aE prog 186 [.c (.ro 3 (l.map aD))] [] (.c (.own 66 3 (l.map aM))):=by
 have hn:=eP aH l;have hc:∀i (hi:i<l.length),aE prog 137 [.c (.rp 3 (aD l[i]))] [] (.a 3 (cC l[i])):=fun i hi=>fa _ (by have:=di aH (ag hi);omega)
 refine cX func186 (h:=?_)
 repeat'((conv=>whnf);first
  |refine aI.mk ?_ ?_|(show aZ 3 _ _ _ _ _ _;refine qJ (Nat × List (List CV)) [0] (fun⟨i,rows⟩=>[(3, .lw 1),(4,I (i:Nat))]) (fun⟨i,rows⟩=>[(1, .aU none 66 3 rows)]) (fun⟨i,rows⟩=>i≤l.length/\rows=(l.take i).map aM) (fun⟨i,rows⟩=>l.length-i) (0,[]) (by exact⟨ah _,rfl⟩) (fun A ha=>?_);obtain⟨i,rows⟩:=A;have ha:i≤l.length/\rows=(l.take i).map aM:=ha;have sU:rows.length=i:=(by rw[ha.2,aa,aq];omega))
  |refine nx ((i+1,rows++[cC l[i]]):Nat × List (List CV)) (by exact⟨by show i+1≤_;omega,uu (by omega) ha.2⟩)
  |(apply Fact.mk;intro hL;try simp only[aa,maxLen]at hL)
  |((apply bX;constructor)<;>intro h<;>(try simp only[aa]at h)<;>(try first|omega|contradiction))|(show ay _ 137 _ _ _ _;refine cG [] rfl (hc i (by omega)) ?_)
  |refine aR ?_|(show Index _ _ _;first|(refine Index.mk _ (bZ (i:=i) (by omega)) ?_)|fail)|(show bh _ _;refine bh.mk (by first|((simp only[List.length_cons,List.length_nil,aa,maxLen];constructor<;>omega))|fail) ?_)
  |refine nO ?_)
 all_goals first|rfl|trivial|(have h9:=ha.2;rw[ar (by omega)]at h9;rw[h9])
theorem G4(s:aP)(hb:cq s≤1048576):aE prog 173 [.a 5 (cD s)] [] (.a 5 (bx s)):=by
 have h0:s.path.length≤1048576/\fU aH s.aK≤1048576/\fU aH s.dy≤1048576:=by simp only[cq]at hb;omega
 refine cX func173 (h:=?_)
 repeat'((conv=>whnf);first
  |refine aI.mk ?_ ?_|(show ay _ 112 _ _ _ _;refine cG [] rfl (FW s.path h0.1) ?_)|(show ay _ 199 _ _ _ _;refine cG [] rfl (uG s.aK h0.2.1) ?_)|(show ay _ 199 _ _ _ _;refine cG [] rfl (uG s.dy h0.2.2) ?_)
  |refine nB ?_)
 all_goals first|rfl|trivial
theorem By(s:aP)(hb:cq s≤1048576):aE prog 166 [.c (.rp 5 (cD s))] [] (.a 5 (bx s)):=by
 have h0:s.path.length≤1048576/\fU aH s.aK≤1048576/\fU aH s.dy≤1048576:=by simp only[cq]at hb;omega
 refine cX func166 (h:=?_)
 repeat'((conv=>whnf);first
  |refine aI.mk ?_ ?_|(show ay _ 133 _ _ _ _;refine cG [] rfl (km s.path h0.1) ?_)|(show ay _ 186 _ _ _ _;refine cG [] rfl (tt s.aK h0.2.1) ?_)|(show ay _ 186 _ _ _ _;refine cG [] rfl (tt s.dy h0.2.2) ?_)
  |refine nB ?_)
 all_goals first|rfl|trivial
end Go.Proofs.YtgbggaddpbghfaaGreat
