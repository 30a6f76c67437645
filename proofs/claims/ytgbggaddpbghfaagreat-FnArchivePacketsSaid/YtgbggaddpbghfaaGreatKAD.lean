/- Contracts of the functions that compare entries and notes, and that gather all notes. No conditions. -/
import Derived.Test.YtgbggaddpbghfaaGreatKAC
namespace Go.Proofs.YtgbggaddpbghfaaGreat
open Go Go.KA Go.Proofs
set_option maxHeartbeats 16000000
set_option maxRecDepth 100000
theorem PC(x y:dD):eqv x y=((x.id==y.id)&&(eqv x.bj y.bj&&eqv x.proof y.proof)):=by
 cases x;cases y
 refine Bool.eq_iff_iff.2 ?_
 simp
theorem z7(x y:dD):aD Tryz.prog 49 [.a 5 (kz x), .a 5 (kz y)] (B (eqv x y)):=by
 rw[PC]
 refine cF Tryz.func49 (h:= ?_)
 repeat'((conv=>whnf);first
  |(apply bh.mk;first|((simp_all[fx,cO,cM];done);done)|skip)
  |((first|apply bA|apply bB|apply bC|apply bD|apply bE|apply bF)<;>intro h<;>(try simp only[List.length_map] at h)<;>(try omega)<;>(try contradiction))|(guard_target=aa _ 98 _ _ _ _;refine cP rfl (Eb _ _) ?_)|(guard_target=aa _ 99 _ _ _ _;refine cP rfl (Ae x.proof y.proof) ?_))
theorem mH(x y:ae)(r s:List CV)(n:Nat)(hn:3≤n):aD Tryz.prog 51 [.c (.rp n (aI x++r)), .c (.rp n (aI y++s))] (B (eqv x y)):=by
 have:=nL x y
 rw[a9,a9] at this
 have h1:aD Tryz.prog 51 [.c (.rp 3 (aI x)), .c (.rp n (aI y++s))] (B (eqv x y)):=this.cut (.same (.cut (cs:=aI y++s) (k:=3) hn .nil))
 exact h1.cut (.cut (cs:=aI x++r) (k:=3) hn (.same .nil))
theorem tw(x y:cx):aD Tryz.prog 16 [.a 3 (cK x), .a 3 (cK y)] (B (eqv x y)):=by
 rw[QC]
 refine cF Tryz.func16 (h:= ?_)
 repeat'((conv=>whnf);first
  |(apply bh.mk;first|((refine dV ?_;rw[ke (by omega),Bool.and_false]);done)|((refine fF ?_;rw[j9 ha.2.1 (by omega) ha.2.2];simp_all;done);done)|((refine dV ?_;simp_all;done);done)|((have hi:i<x.ao.length:=(by omega);have hj:i<y.ao.length:=(by omega);refine dV ?_;rw[mS hi hj,Bool.and_false];rw[P8];simp_all[getD_eq hi,getD_eq hj,fx]);done)|skip)|(guard_target=~ aK 4 _ _ _ _ _ _;refine lp (Nat) [2,3] (fun i=>[(5,I i)]) (fun i=>i≤x.ao.length∧x.ao.length=y.ao.length∧x.ao.take i=y.ao.take i) (fun i=>x.ao.length-i) 0 (by exact⟨Nat.zero_le _,by omega,rfl⟩) (fun i ha=> ?_))
  |refine nx (i+1:Nat) (by(have hi:i<x.ao.length:=(by omega);have hj:i<y.ao.length:=(by omega);refine⟨hi,ha.2.1,mJ hi hj ha.2.2 ?_⟩;rw[P8];simp_all[getD_eq hi,getD_eq hj]))
  |(apply Fact.mk;intro hL;try simp only[List.length_map,maxLen] at hL)
  |((first|apply bA|apply bB|apply bC|apply bD|apply bE|apply bF)<;>intro h<;>(try simp only[List.length_map] at h)<;>(try omega)<;>(try contradiction))|(guard_target=aa _ 52 _ _ _ _;refine cP rfl (vD _ _) ?_)|(guard_target=aa _ 51 _ _ _ _;(first|refine aa.pure _ _ rfl (mH (x.ao.getD i c0).left (y.ao.getD i c0).left _ _ 9 (by omega)) rfl _ rfl ?_|refine aa.pure _ _ rfl (mH (x.ao.getD i c0).right (y.ao.getD i c0).right _ _ 6 (by omega)) rfl _ rfl ?_))
  |refine aR ?_|(guard_target=Index _ _ _;first|(refine Index.mk _ (aF (d:=c0) (i:=i) (by omega)) ?_)|fail)
  |refine nB ?_
  |refine nO ?_)
theorem Qm(x y:aM):eqv x y=((x.bU==y.bU)&&((x.id==y.id)&&eqv x.entry y.entry)):=by
 cases x;cases y
 refine Bool.eq_iff_iff.2 ?_
 simp
theorem q6(x y:aM):aD Tryz.prog 43 [.c (.rp 7 (bg x)), .c (.rp 7 (bg y))] (B (eqv x y)):=by
 rw[Qm,PC]
 refine cF Tryz.func43 (h:= ?_)
 repeat'((conv=>whnf);first
  |(apply bh.mk;first|((simp_all[fx,cO,cM];done);done)|skip)
  |((first|apply bA|apply bB|apply bC|apply bD|apply bE|apply bF)<;>intro h<;>(try simp only[List.length_map] at h)<;>(try omega)<;>(try contradiction))|(guard_target=aa _ 94 _ _ _ _;refine cP rfl (xE _ _) ?_)|(guard_target=aa _ 16 _ _ _ _;refine cP rfl (tw x.entry.proof y.entry.proof) ?_)
  |refine nB ?_)
def iz(a:af):List aM:=a.ab.flatMap aO.notes++a.aw.map cB.note
theorem tX{α β:Type}{f:α→List β}{l:List α}{i:Nat}(h:i<l.length):(l.take (i+1)).flatMap f=(l.take i).flatMap f++f l[i]:=by
 rw[List.take_add_one,List.getElem?_eq_getElem h,List.flatMap_append]
 simp
theorem iG{α β:Type}{f:α→β}{l:List α}{i:Nat}(h:i<l.length):(l.take (i+1)).map f=(l.take i).map f++[f l[i]]:=by
 rw[List.take_add_one,List.getElem?_eq_getElem h,List.map_append]
 rfl
theorem xz{α:Type}{f:α→List aM}{g:α→Nat}(hg:∀x,(f x).length≤g x):∀(l:List α),(l.flatMap f).length≤cZ g l
 |[]=>Nat.le_refl _
 |x::xs=>by
  have h1:=xz hg xs
  have h2:=hg x
  simp only[List.flatMap_cons,List.length_append,cZ]
  omega
theorem DL(a:af)(hl:b8 a≤1048576):ah Tryz.prog 48 [.a 4 (az a)] [] (.c (.ows 51 7 ((iz a).map bg))):=by
 have hb:∀i,((a.ab.take i).flatMap aO.notes).length≤1048576:=fun i=>by
  have h1:=xz (f:=aO.notes) (g:=c7) (fun s=>dB bu s.notes) (a.ab.take i)
  have h2:=qn (f:=c7) a.ab i
  simp only[b8,eK] at hl
  omega
 have hf:a.aw.length≤1048576:=by simp only[b8,eK] at hl;omega
 have hn:∀i,i<a.ab.length→(a.ab.getD i ⟨false,[],0⟩).notes.length≤1048576:=fun i h=>by
  rw[getD_eq h]
  have h1:=cS c7 (List.getElem_mem h)
  have h2:=dB bu (a.ab[i]).notes
  simp only[b8,c7] at hl h1
  omega
 refine cX Tryz.func48 (h:= ?_)
 repeat'((conv=>whnf);first
  |refine aq.mk ?_ ?_|(guard_target=~ aK 3 _ _ _ _ _ _;refine sM (Nat × List aM) [1,10,11] (fun⟨i,R⟩=>[(3, .lw 2),(12,I i)]) (fun⟨i,R⟩=>[(2, .row none 51 7 (R.map bg))]) (fun⟨i,R⟩=>i≤a.ab.length∧R=(a.ab.take i).flatMap aO.notes) (fun⟨i,R⟩=>a.ab.length-i) (0,[]) (by exact⟨Nat.zero_le _,rfl⟩) (fun A ha=> ?_);obtain⟨i,R⟩:=A;have ha:i≤a.ab.length∧R=(a.ab.take i).flatMap aO.notes:=ha)|(guard_target=~ aK 8 _ _ _ _ _ _;refine sM (Nat × List aM) [22,23] (fun⟨k,S⟩=>[(3, .lw 2),(24,I k)]) (fun⟨k,S⟩=>[(2, .row none 51 7 (S.map bg))]) (fun⟨k,S⟩=>k≤a.aw.length∧S=R++(a.aw.take k).map cB.note) (fun⟨k,S⟩=>a.aw.length-k) (0,R) (by exact⟨Nat.zero_le _,by simp⟩) (fun A ha=> ?_);obtain⟨k,S⟩:=A;have ha:k≤a.aw.length∧S=R++(a.aw.take k).map cB.note:=ha)
  |refine nx ((i+1,R++(a.ab.getD i ⟨false,[],0⟩).notes):Nat × List aM) (by(have hi:i<a.ab.length:=(by omega);refine⟨hi, ?_⟩;show R++_=_;rw[tX hi,ha.2,getD_eq hi]))
  |refine nx ((k+1,S++[a.aw[k].note]):Nat × List aM) (by(have hk:k<a.aw.length:=(by omega);refine⟨hk, ?_⟩;show S++_=_;rw[iG hk,ha.2,List.append_assoc]))
  |(apply Fact.mk;intro hL;try simp only[List.length_map,maxLen] at hL)
  |((first|apply bA|apply bB|apply bC|apply bD|apply bE|apply bF)<;>intro h<;>(try simp only[List.length_map] at h)<;>(try omega)<;>(try contradiction))
  |refine aR ?_|(guard_target=Index _ _ _;first|(refine Index.mk _ (aF (d:=⟨false,[],0⟩) (i:=i) (by omega)) ?_)|(refine Index.mk _ (bw (i:=k) (by omega)) ?_)|fail)|(guard_target=aV _ _;refine aV.mk (by first|((have h2:=ha.2;have h1:=hb i;simp only[List.length_map,maxLen];first|(have h3:=hn i (by omega);rw[←h2] at h1;constructor<;>omega)|(have h8:=(‹_∧R=_›:i≤_∧R=_).2;rw[←h8] at h1;have h4:=congrArg List.length h2;simp only[List.length_append,List.length_map,List.length_take] at h4;simp only[List.length_cons,List.length_nil];constructor<;>omega)))|fail) ?_)
  |refine nO ?_)
 all_goals(try trivial)
 all_goals(have h8:=(‹_∧R=_›:i≤_∧R=_).2;have h9:=ha.2;rw[List.take_of_length_le (show a.ab.length≤i by omega)] at h8;rw[List.take_of_length_le (show a.aw.length≤k by omega)] at h9;rw[h9,h8];rfl)
end Go.Proofs.YtgbggaddpbghfaaGreat
namespace Go.Proofs.YtgbggaddpbghfaaGreat
open Go Go.KA Go.Proofs
set_option maxHeartbeats 16000000
set_option maxRecDepth 100000
noncomputable def KX(P:Prop):Bool:= @decide P (Classical.propDecidable _)
theorem Cl{P:Prop}(h:P):KX P=true:= @decide_eq_true P (Classical.propDecidable _) h
theorem Mb{P:Prop}(h:¬P):KX P=false:= @decide_eq_false P (Classical.propDecidable _) h
theorem Mt{P:Prop}(h:KX P=true):P:= @of_decide_eq_true P (Classical.propDecidable _) h
def Alike(x y:aM):Prop:=x.id=y.id→x.bU=false→y.bU=false→x.entry=y.entry
theorem Alike.symm{x y:aM}(h:Alike x y):Alike y x:=fun h1 h2 h3=>(h h1.symm h3 h2).symm
theorem Alike.refl(x:aM):Alike x x:=fun _ _ _=>rfl
def dW(l:List aM):Prop:=∀x∈l,∀y∈l,Alike x y
theorem dW.nil:dW []:=by simp[dW]
theorem dW.next{l:List aM}{i:Nat}(h:i<l.length)(h1:dW (l.take i))(h2:∀y∈l.take i,Alike l[i] y):dW (l.take (i+1)):=by
 rw[List.take_add_one,List.getElem?_eq_getElem h]
 intro x hx y hy
 simp only[Option.toList_some,List.mem_append,List.mem_singleton] at hx hy
 rcases hx with hx|rfl<;>rcases hy with hy|rfl
 ·exact h1 x hx y hy
 ·exact(h2 x hx).symm
 ·exact h2 y hy
 ·exact .refl _
theorem BZ(l:List aM):aD Tryz.prog 89 [.c (.ro 7 (l.map bg))] (B (KX (dW l))):=by
 have hno:∀i k (hi:i<l.length) (hk:k<l.length),l[i].id=l[k].id→l[i].bU=false→l[k].bU=false→¬l[i]=l[k]→¬dW l:=by
  intro i k hi hk h1 h2 h3 h4 hA
  have:=hA _ (List.getElem_mem hi) _ (List.getElem_mem hk) h1 h2 h3
  refine h4 ?_
  generalize l[i]=x at*
  generalize l[k]=y at*
  cases x;cases y
  simp_all
 refine cF Tryz.func89 (h:= ?_)
 repeat'((conv=>whnf);first
  |(apply bh.mk;first|(exact dV (Mb (hno i k (by omega) (by omega) (by assumption) (by assumption) (by assumption) h));done)|(exact fF (Cl (by have:=(‹i≤l.length∧dW _›).2;rwa[List.take_of_length_le (by omega)] at this));done)|skip)|(guard_target=~ aK 2 _ _ _ _ _ _;refine lp (Nat) [0] (fun i=>[(3,I i)]) (fun i=>i≤l.length∧dW (l.take i)) (fun i=>l.length-i) 0 (by exact⟨Nat.zero_le _,dW.nil⟩) (fun i ha=> ?_))|(guard_target=~ aK 5 _ _ _ _ _ _;refine lp (Nat) [0,3] (fun k=>[(4,I k)]) (fun k=>k≤i∧∀j (hj:j<l.length) (hi:i<l.length),j<k→Alike l[i] l[j]) (fun k=>i-k) 0 (by exact⟨Nat.zero_le _,fun j _ _ hj=>by omega⟩) (fun k ha=> ?_))
  |refine nx (k+1:Nat) (by(refine⟨by show k+1≤_;omega,fun j hj hi hjk=> ?_⟩;rcases Nat.lt_succ_iff_lt_or_eq.1 hjk with hjk|rfl;exact ha.2 j hj hi hjk;intro a1 a2 a3;simp_all))
  |refine nx (i+1:Nat) (by(have hi:i<l.length:=(by omega);refine⟨hi,dW.next hi (‹i≤l.length∧dW _›).2 fun y hy=> ?_⟩;obtain⟨j,hj,e⟩:=List.mem_iff_getElem.1 hy;rw[List.length_take] at hj;rw[List.getElem_take] at e;rw[←e];exact ha.2 j (by omega) hi (by omega)))
  |(apply Fact.mk;intro hL;try simp only[List.length_map,maxLen] at hL)
  |((first|apply bA|apply bB|apply bC|apply bD|apply bE|apply bF)<;>intro h<;>(try simp only[List.length_map] at h)<;>(try omega)<;>(try contradiction))|(guard_target=aa _ 43 _ _ _ _;refine cP rfl (q6 _ _) ?_)
  |refine aR ?_|(guard_target=Index _ _ _;first|(refine Index.mk _ (bw (i:=i) (by omega)) ?_)|(refine Index.mk _ (bw (i:=k) (by omega)) ?_)|fail)
  |refine nB ?_
  |refine nO ?_)
abbrev db:aO:=⟨false,[],0⟩
def fZ(t a:Int)(n:Int)(p:cB):Bool:=dJ 0 (n-1) p.ju&&cJ t a p.note
noncomputable def dI(a:af):Bool:=
 bO a.sig.au a.sig.ai&&(dJ 1 5 a.ab.length&&(decide ((a.aw.length:Int)≤12)&&(a.ab.all (ck a.sig.au a.sig.ai)&&(a.aw.all (fZ a.sig.au a.sig.ai a.ab.length)&&KX (dW (iz a))))))
abbrev mE(q:Int × dD):Value × SV:=(.int .i64 q.1, .a 5 (kz q.2))
theorem Qi(l:List (Int × dD))(id:Int):(∃(j:Nat) (e:dD),l[j]? =some (id,e))∨∀q∈l,q.1≠id:=by
 by_cases h:∃q∈l,q.1=id
 ·obtain⟨q,hq,rfl⟩:=h
  obtain⟨j,hj,e⟩:=List.mem_iff_getElem.1 hq
  exact .inl ⟨j,q.2,by rw[List.getElem?_eq_getElem hj,e]⟩
 ·exact .inr fun q hq e=>h ⟨q,hq,e⟩
theorem NL{l:List (Int × dD)}{id:Int}(h:∀q∈l,q.1≠id):∀p∈l.map mE,p.1≠ .int .i64 id:=by
 intro p hp e
 obtain⟨q,hq,rfl⟩:=List.mem_map.1 hp
 simp at e
 exact h q hq e
theorem Py{l:List (Int × dD)}{id:Int}{j:Nat}{e:dD}(h:l[j]? =some (id,e)):(l.map mE)[j]? =some (.int .i64 id, .a 5 (kz e)):=by
 rw[List.getElem?_map,h]
 rfl
theorem _root_.Go.KA.mP.same{es:List (Value × SV)}{k:Value}{v:SV}{K:List (Value × SV)→Prop}(j:Nat)(h:es[j]? =some (k,v))(g:K es):mP es k v K:=by
 refine mP.wS j v h ?_
 obtain⟨hj,e⟩:=List.getElem?_eq_some_iff.1 h
 have:es.set j (k,v)=es:=by
  rw[←e]
  exact List.set_getElem_self hj
 rw[this]
 exact g
theorem _root_.Go.KA.mP.more{α:Type}{f:α→Value × SV}{l:List α}{k:Value}{v:SV}{K:List (Value × SV)→Prop}(q:α)(hq:f q=(k,v))(h:∀p∈l.map f,p.1≠k)(g:K ((l++[q]).map f)):mP (l.map f) k v K:=by
 refine mP.new h ?_
 rw[←hq]
 simpa using g
structure Kept(l:List aM)(i:Nat)(K:List (Int × dD)):Prop where
 lt:i≤l.length
 mem:∀q∈K,∃x∈l.take i,x.bU=false∧x.id=q.1∧x.entry=q.2
 all:∀x∈l.take i,x.bU=false→(x.id,x.entry)∈K
 B1:dW (l.take i)
theorem Kept.zero(l:List aM):Kept l 0 []:=⟨Nat.zero_le _,by simp,by simp,by simpa using dW.nil⟩
theorem xM{α:Type}{l:List α}{i:Nat}(h:i<l.length){x:α}(hx:x∈l.take (i+1)):x∈l.take i∨x=l[i]:=by
 rw[List.take_add_one,List.getElem?_eq_getElem h] at hx
 rcases List.mem_append.1 hx with hx|hx
 ·exact .inl hx
 ·exact .inr (List.mem_singleton.1 hx)
theorem qo{α:Type}{l:List α}{i:Nat}(h:i<l.length){x:α}(hx:x∈l.take i∨x=l[i]):x∈l.take (i+1):=by
 rw[List.take_add_one,List.getElem?_eq_getElem h]
 exact List.mem_append.2 (hx.imp id fun e=>List.mem_singleton.2 e)
theorem Kept.skip{l:List aM}{i:Nat}{K:List (Int × dD)}(hK:Kept l i K)(h:i<l.length)(hr:l[i].bU=true):Kept l (i+1) K:=by
 refine⟨h,fun q hq=> ?_,fun x hx hx0=> ?_,dW.next h hK.B1 fun y hy=> ?_⟩
 ·obtain⟨x,h1,h2⟩:=hK.mem q hq
  exact⟨x,qo h (.inl h1),h2⟩
 ·rcases xM h hx with hx|rfl
  ·exact hK.all x hx hx0
  ·rw[hr] at hx0;cases hx0
 ·intro _ h2;rw[hr] at h2;cases h2
theorem Kept.wS{l:List aM}{i j:Nat}{K:List (Int × dD)}(hK:Kept l i K)(h:i<l.length)(_hr:l[i].bU=false)(hj:K[j]? =some (l[i].id,l[i].entry)):Kept l (i+1) K:=by
 refine⟨h,fun q hq=> ?_,fun x hx hx0=> ?_,dW.next h hK.B1 fun y hy h1 h2 h3=> ?_⟩
 ·obtain⟨x,h1,h2⟩:=hK.mem q hq
  exact⟨x,qo h (.inl h1),h2⟩
 ·rcases xM h hx with hx|rfl
  ·exact hK.all x hx hx0
  ·exact List.mem_of_getElem? hj
 ·obtain⟨x,g1,g2,g3,g4⟩:=hK.mem _ (List.mem_of_getElem? hj)
  dsimp only at g3 g4
  rw[←g4]
  exact hK.B1 x g1 y hy (g3.trans h1) g2 h3
theorem Kept.new{l:List aM}{i:Nat}{K:List (Int × dD)}(hK:Kept l i K)(h:i<l.length)(hr:l[i].bU=false)(hm:∀q∈K,q.1≠l[i].id):Kept l (i+1) (K++[(l[i].id,l[i].entry)]):=by
 refine⟨h,fun q hq=> ?_,fun x hx hx0=> ?_,dW.next h hK.B1 fun y hy h1 h2 h3=> ?_⟩
 ·rcases List.mem_append.1 hq with hq|hq
  ·obtain⟨x,h1,h2⟩:=hK.mem q hq
   exact⟨x,qo h (.inl h1),h2⟩
  ·have hq:=List.mem_singleton.1 hq
   subst hq
   exact⟨l[i],qo h (.inr rfl),hr,rfl,rfl⟩
 ·rcases xM h hx with hx|rfl
  ·exact List.mem_append.2 (.inl (hK.all x hx hx0))
  ·simp
 ·exact absurd h1.symm (hm _ (hK.all y hy h3))
theorem Kept.bad{l:List aM}{i j:Nat}{K:List (Int × dD)}{e:dD}(hK:Kept l i K)(h:i<l.length)(hr:l[i].bU=false)(hj:K[j]? =some (l[i].id,e))(hne:¬e=l[i].entry):¬dW l:=by
 intro hA
 obtain⟨x,g1,g2,g3,g4⟩:=hK.mem _ (List.mem_of_getElem? hj)
 dsimp only at g3 g4
 exact hne (by rw[←g4];exact hA x (List.mem_of_mem_take g1) _ (List.getElem_mem h) g3 g2 hr)
theorem Kept.done{l:List aM}{i:Nat}{K:List (Int × dD)}(hK:Kept l i K)(h:¬i<l.length):dW l:=by
 have:=hK.B1
 rwa[List.take_of_length_le (by omega)] at this
theorem Kept.PL{l:List aM}{i:Nat}{K:List (Int × dD)}(hK:Kept l i K)(h:i<l.length)(hr:(l.getD i n0).bU=true):Kept l (i+1) K:=hK.skip h (by rwa[getD_eq h] at hr)
theorem Kept.Qs{l:List aM}{i j:Nat}{K:List (Int × dD)}(hK:Kept l i K)(h:i<l.length)(hr:(l.getD i n0).bU=false)(hj:K[j]? =some ((l.getD i n0).id,(l.getD i n0).entry)):Kept l (i+1) K:=by
 rw[getD_eq h] at hr hj
 exact hK.wS h hr hj
theorem Kept.Qw{l:List aM}{i:Nat}{K:List (Int × dD)}(hK:Kept l i K)(h:i<l.length)(hr:(l.getD i n0).bU=false)(hm:∀q∈K,q.1≠(l.getD i n0).id):Kept l (i+1) (K++[((l.getD i n0).id,(l.getD i n0).entry)]):=by
 rw[getD_eq h] at hr hm⊢
 exact hK.new h hr hm
theorem Kept.P7{l:List aM}{i j:Nat}{K:List (Int × dD)}{e:dD}(hK:Kept l i K)(h:i<l.length)(hr:(l.getD i n0).bU=false)(hj:K[j]? =some ((l.getD i n0).id,e))(hne:¬e=(l.getD i n0).entry):¬dW l:=by
 rw[getD_eq h] at hr hj hne
 exact hK.bad h hr hj hne
abbrev GA(a:af):Prop:=bO a.sig.au a.sig.ai=true∧dJ 1 5 a.ab.length=true∧(a.aw.length:Int)≤12∧a.ab.all (ck a.sig.au a.sig.ai)=true∧a.aw.all (fZ a.sig.au a.sig.ai a.ab.length)=true∧dW (iz a)
theorem mW(a:af):dI a=true↔GA a:=by
 unfold dI
 simp only[Bool.and_eq_true,decide_eq_true_eq]
 constructor
 ·rintro⟨h1,h2,h3,h4,h5,h6⟩;exact⟨h1,h2,h3,h4,h5,Mt h6⟩
 ·rintro⟨h1,h2,h3,h4,h5,h6⟩;exact⟨h1,h2,h3,h4,h5,Cl h6⟩
theorem GG{a:af}(h:¬GA a):dI a=false:=by
 cases hb:dI a with
 |false=>rfl
 |true=>exact absurd ((mW a).1 hb) h
abbrev jl:cB:=⟨0,n0⟩
theorem Bv{t a n:Int}{l:List cB}{k:Nat}(hk:k<l.length)(h:dJ 0 (n-1) (l.getD k jl).ju=false∨cJ t a (l.getD k jl).note=false):fZ t a n l[k]=false:=by
 rw[getD_eq hk] at h
 unfold fZ
 rcases h with h|h<;>rw[h]
 ·rfl
 ·rw[Bool.and_false]
theorem G6{t a n:Int}{l:List cB}{k:Nat}(hk:k<l.length)(h1:dJ 0 (n-1) (l.getD k jl).ju=true)(h2:cJ t a (l.getD k jl).note=true):fZ t a n l[k]=true:=by
 rw[getD_eq hk] at h1 h2
 unfold fZ
 rw[h1,h2]
 rfl
theorem gm(a:af)(hl:b8 a≤1048576):aD Tryz.prog 13 [.a 4 (az a)] (B (dI a)):=by
 have hsb:∀i (h:i<a.ab.length),c7 a.ab[i]≤1048576:=fun i h=>by
  have:=cS c7 (List.getElem_mem h)
  simp only[b8] at hl
  omega
 have hpb:∀i (h:i<a.aw.length),bu (a.aw.getD i jl).note≤1048576:=fun i h=>by
  rw[getD_eq h]
  have:=cS fO (List.getElem_mem h)
  simp only[b8,fO] at hl this
  omega
 have hal:=DL a hl
 generalize hal':iz a=L at hal
 refine cF Tryz.func13 (h:= ?_)
 repeat'((conv=>whnf);first
  |(apply bh.mk;first|((refine dV (GG ?_);rintro⟨g1,g2,g3,g4,g5,g6⟩;first|omega|(rw[g1] at h;cases h;done)|(rw[g2] at h;cases h;done)|(rw[eo (i:=i) (by omega) h] at g4;cases g4;done)|(rw[eo (i:=k) (by omega) (Bv (by omega) (.inl h))] at g5;cases g5;done)|(rw[eo (i:=k) (by omega) (Bv (by omega) (.inr h))] at g5;cases g5;done)|(rw[hal'] at g6;exact Kept.P7 ha (by omega) (by assumption) hj h g6));done)|((refine fF ((mW a).2 ⟨by assumption,by assumption,by omega,eU (by omega) (by assumption),eU (by omega) (by assumption),by rw[hal'];exact Kept.done ha (by omega)⟩));done)|skip)|(guard_target=~ aK 5 _ _ _ _ _ _;refine lp (Nat) [1,3,32,33] (fun i=>[(34,I i)]) (fun i=>i≤a.ab.length∧(a.ab.take i).all (ck a.sig.au a.sig.ai)=true) (fun i=>a.ab.length-i) 0 (by exact⟨Nat.zero_le _,rfl⟩) (fun i ha=> ?_))|(guard_target=~ aK 11 _ _ _ _ _ _;refine lp (Nat) [1,3,45,46] (fun k=>[(47,I k)]) (fun k=>k≤a.aw.length∧(a.aw.take k).all (fZ a.sig.au a.sig.ai a.ab.length)=true) (fun k=>a.aw.length-k) 0 (by exact⟨Nat.zero_le _,rfl⟩) (fun k ha=> ?_))|(guard_target=~ aK 18 _ _ _ _ _ _;refine sM (Nat × List (Int × dD)) [8,68,69] (fun⟨m,K⟩=>[(70,I m)]) (fun⟨m,K⟩=>[(1, .ny (some .i64) (K.map mE))]) (fun⟨m,K⟩=>Kept L m K) (fun⟨m,K⟩=>L.length-m) (0,[]) (by exact Kept.zero _) (fun A ha=> ?_);obtain⟨m,K⟩:=A;have ha:Kept L m K:=ha)
  |refine nx (i+1:Nat) (by exact eZ (by omega) ha h)
  |refine nx (k+1:Nat) (by exact eZ (by omega) ha (G6 (by omega) (by assumption) h))
  |refine nx ((m+1,K):Nat × List (Int × dD)) (by exact Kept.PL ha (by omega) (by assumption))
  |refine nx ((m+1,K):Nat × List (Int × dD)) (by exact Kept.Qs ha (by omega) (by assumption) hj)
  |refine nx ((m+1,K++[((L.getD m n0).id,(L.getD m n0).entry)]):Nat × List (Int × dD)) (by exact Kept.Qw ha (by omega) (by assumption) hmiss)
  |(apply Fact.mk;intro hL;try simp only[List.length_map,maxLen] at hL)
  |((first|apply bA|apply bB|apply bC|apply bD|apply bE|apply bF)<;>intro h<;>(try simp only[List.length_map] at h)<;>(try omega)<;>(try contradiction))|(guard_target=aa _ 44 _ _ _ _;refine cP rfl (pa _ _) ?_)|(guard_target=aa _ 45 _ _ _ _;refine cP rfl (fa _ _ _) ?_)|(guard_target=aa _ 46 _ _ _ _;refine cP rfl (Ej _ _ _ (hsb i (by omega))) ?_)|(guard_target=aa _ 47 _ _ _ _;refine cP rfl (y5 _ _ _ (hpb k (by omega))) ?_)|(guard_target=aa _ 48 _ _ _ _;refine cG [] rfl (hal) ?_)|(guard_target=aa _ 49 _ _ _ _;refine cP rfl (z7 e (L.getD m n0).entry) ?_)|(guard_target=Am _ _ _;rcases Qi K (L.getD m n0).id with⟨j,e,hj⟩|hmiss<;>(first|refine Am.Pd j _ (Py hj) ?_|refine Am.IU (NL hmiss) ?_))|(guard_target=mP _ _ _ _;(first|(have h5:e=(L.getD m n0).entry:=(by assumption);rw[h5] at hj;refine mP.same j (Py hj) ?_)|refine mP.more ((L.getD m n0).id,(L.getD m n0).entry) rfl (NL hmiss) ?_))
  |refine aR ?_|(guard_target=Index _ _ _;first|(refine Index.mk _ (bw (i:=i) (by omega)) ?_)|(refine Index.mk _ (aF (d:=jl) (i:=k) (by omega)) ?_)|(refine Index.mk _ (aF (d:=n0) (i:=m) (by omega)) ?_)|fail)
  |refine nO ?_)
end Go.Proofs.YtgbggaddpbghfaaGreat
namespace Go.Proofs.YtgbggaddpbghfaaGreat
open Go Go.KA Go.Proofs
set_option maxHeartbeats 16000000
set_option maxRecDepth 100000
theorem sI(a:af)(hl:b8 a≤1048576):aD Tryz.prog 39 [.c (.rp 4 (az a))] (B (dI a)):=by
 have hsb:∀i (h:i<a.ab.length),c7 (a.ab.getD i db)≤1048576:=fun i h=>by
  rw[getD_eq h]
  have:=cS c7 (List.getElem_mem h)
  simp only[b8] at hl
  omega
 have hpb:∀i (h:i<a.aw.length),bu (a.aw.getD i jl).note≤1048576:=fun i h=>by
  rw[getD_eq h]
  have:=cS fO (List.getElem_mem h)
  simp only[b8,fO] at hl this
  omega
 have hn:∀i (h:i<a.ab.length),(a.ab.getD i db).notes.length≤1048576:=fun i h=>by
  have h1:=hsb i h
  have h2:=dB bu (a.ab.getD i db).notes
  simp only[c7] at h1
  omega
 have hb:∀i,((a.ab.take i).flatMap aO.notes).length≤1048576:=fun i=>by
  have h1:=xz (f:=aO.notes) (g:=c7) (fun s=>dB bu s.notes) (a.ab.take i)
  have h2:=qn (f:=c7) a.ab i
  simp only[b8,eK] at hl
  omega
 have hf:a.aw.length≤1048576:=by simp only[b8,eK] at hl;omega
 refine cF Tryz.func39 (h:= ?_)
 repeat'((conv=>whnf);first
  |(apply bh.mk;first|((refine dV (GG ?_);rintro⟨g1,g2,g3,g4,g5,g6⟩;first|omega|(rw[g1] at h;cases h;done)|(rw[g2] at h;cases h;done)|(have hi:i<a.ab.length:=(by omega);rw[getD_eq hi] at h;rw[eo hi h] at g4;cases g4;done)|(rw[eo (i:=k) (by omega) (Bv (by omega) (.inl h))] at g5;cases g5;done)|(rw[eo (i:=k) (by omega) (Bv (by omega) (.inr h))] at g5;cases g5;done));done)|skip)|(guard_target=~ aK 6 _ _ _ _ _ _;refine sM (Nat × List aM) [0,3] (fun⟨i,R⟩=>[(4, .lw 0),(5,I i)]) (fun⟨i,R⟩=>[(0, .row none 51 7 (R.map bg))]) (fun⟨i,R⟩=>i≤a.ab.length∧(a.ab.take i).all (ck a.sig.au a.sig.ai)=true∧R=(a.ab.take i).flatMap aO.notes) (fun⟨i,R⟩=>a.ab.length-i) (0,[]) (by exact⟨Nat.zero_le _,rfl,rfl⟩) (fun A ha=> ?_);obtain⟨i,R⟩:=A;have ha:i≤a.ab.length∧(a.ab.take i).all (ck a.sig.au a.sig.ai)=true∧R=(a.ab.take i).flatMap aO.notes:=ha)|(guard_target=~ aK 12 _ _ _ _ _ _;refine sM (Nat × List aM) [0,3] (fun⟨k,S⟩=>[(4, .lw 0),(6,I k)]) (fun⟨k,S⟩=>[(0, .row none 51 7 (S.map bg))]) (fun⟨k,S⟩=>k≤a.aw.length∧(a.aw.take k).all (fZ a.sig.au a.sig.ai a.ab.length)=true∧S=R++(a.aw.take k).map cB.note) (fun⟨k,S⟩=>a.aw.length-k) (0,R) (by exact⟨Nat.zero_le _,rfl,by simp⟩) (fun A ha=> ?_);obtain⟨k,S⟩:=A;have ha:k≤a.aw.length∧(a.aw.take k).all (fZ a.sig.au a.sig.ai a.ab.length)=true∧S=R++(a.aw.take k).map cB.note:=ha)
  |refine nx ((i+1,R++(a.ab.getD i db).notes):Nat × List aM) (by(have hi:i<a.ab.length:=(by omega);rw[getD_eq hi] at h⊢;refine⟨hi,kj hi ha.2.1 h, ?_⟩;show R++_=_;rw[tX hi,ha.2.2]))
  |refine nx ((k+1,S++[(a.aw.getD k jl).note]):Nat × List aM) (by(have hk:k<a.aw.length:=(by omega);refine⟨hk,kj hk ha.2.1 (G6 hk h (by assumption)), ?_⟩;show S++_=_;rw[iG hk,ha.2.2,List.append_assoc,getD_eq hk]))
  |(apply Fact.mk;intro hL;try simp only[List.length_map,maxLen] at hL)
  |((first|apply bA|apply bB|apply bC|apply bD|apply bE|apply bF)<;>intro h<;>(try simp only[List.length_map] at h)<;>(try omega)<;>(try contradiction))|(guard_target=aa _ 85 _ _ _ _;refine cP rfl (kV _ _) ?_)|(guard_target=aa _ 86 _ _ _ _;refine cP rfl (dH _ _ _) ?_)|(guard_target=aa _ 87 _ _ _ _;refine cP rfl (Al _ _ _ (hsb i (by omega))) ?_)|(guard_target=aa _ 88 _ _ _ _;refine cP rfl (xJ _ _ _ (hpb k (by omega))) ?_)|(guard_target=aa _ 89 _ _ _ _;refine cP rfl (BZ S) ?_)
  |refine aR ?_|(guard_target=Index _ _ _;first|(refine Index.mk _ (aF (d:=db) (i:=i) (by omega)) ?_)|(refine Index.mk _ (aF (d:=jl) (i:=k) (by omega)) ?_)|fail)
  |refine nB ?_|(guard_target=aV _ _;refine aV.mk (by first|((have h2:=ha.2.2;have h1:=hb i;simp only[List.length_map,maxLen];first|(have h3:=hn i (by omega);rw[←h2] at h1;constructor<;>omega)|(have h8:=(‹_∧_∧R=_›:i≤_∧_∧R=_).2.2;rw[←h8] at h1;have h4:=congrArg List.length h2;simp only[List.length_append,List.length_map,List.length_take] at h4;simp only[List.length_cons,List.length_nil];constructor<;>omega)))|fail) ?_)
  |refine nO ?_)
 have h7:=(‹_∧_∧R=_›:i≤_∧(a.ab.take i).all _=true∧R=_)
 have h8:=h7.2.2
 have h6:=h7.2.1
 have h9:=ha.2.2
 have h5:=ha.2.1
 rw[List.take_of_length_le (show a.ab.length≤i by omega)] at h8 h6
 rw[List.take_of_length_le (show a.aw.length≤k by omega)] at h9 h5
 have e:S=iz a:=by rw[h9,h8];rfl
 have h4:bO a.sig.au a.sig.ai=true:=by assumption
 have h3:dJ 1 5 a.ab.length=true:=by assumption
 have h2:decide ((a.aw.length:Int)≤12)=true:=decide_eq_true (by omega)
 unfold dI
 rw[h4,h3,h2,h6,h5,e]
 rfl
end Go.Proofs.YtgbggaddpbghfaaGreat
namespace Go.Proofs.YtgbggaddpbghfaaGreat
open Go Go.KA Go.Proofs
set_option maxHeartbeats 16000000
set_option maxRecDepth 100000
end Go.Proofs.YtgbggaddpbghfaaGreat
namespace Go.Proofs.YtgbggaddpbghfaaGreat
open Go Go.KA Go.Proofs
set_option maxHeartbeats 16000000
set_option maxRecDepth 100000
def cH(t a:Int)(e:aS):Bool:=
 dJ 1 9 e.kind&&(dJ 0 999 e.a&&(dJ 0 999 e.b&&(dJ 0 999 e.c&&((decide (e.kind=2)||(decide (e.kind=3)||decide (e.b=0)))&&((decide (e.kind=3)||decide (e.c=0))&&
    (if e.kind=1 then dz t a e.bj e.proof&&((e.mb.length:Int)==5) else decide ((e.bj.length:Int)=0)&&(w3 e.proof&&((e.mb.length:Int)==0))))))))
def zm(k:Int):Int:=if k=2 then 2 else if k=3 then 3 else 1
theorem Fb(k:Int):aD Tryz.prog 90 [I k] (I (zm k)):=by
 refine cF Tryz.func90 (h:= ?_)
 repeat'((conv=>whnf);first
  |(apply bh.mk;first|((simp_all[zm,cO,cM];done);done)|skip)
  |((first|apply bA|apply bB|apply bC|apply bD|apply bE|apply bF)<;>intro h<;>(try simp only[List.length_map] at h)<;>(try omega)<;>(try contradiction)))
theorem Jl(k:Int):(k=2∧zm k=2)∨(k=3∧zm k=3)∨(¬k=2∧¬k=3∧zm k=1):=by
 unfold zm
 by_cases h2:k=2
 ·exact .inl ⟨h2,by rw[if_pos h2]⟩
 ·by_cases h3:k=3
  ·exact .inr (.inl ⟨h3,by rw[if_neg h2,if_pos h3]⟩)
  ·exact .inr (.inr ⟨h2,h3,by rw[if_neg h2,if_neg h3]⟩)
theorem nN(t a:Int)(e:aS)(hl:b7 e.proof≤1048576):aD Tryz.prog 50 [.a 2 [J t,J a], .a 9 (aT e)] (B (cH t a e)):=by
 refine cF Tryz.func50 (h:= ?_)
 repeat'((conv=>whnf);first
  |(apply bh.mk;first|(simp_all[cH,cO,cM];done)|skip)
  |(apply Fact.mk;intro hL;try simp only[List.length_map,maxLen] at hL)
  |((first|apply bA|apply bB|apply bC|apply bD|apply bE|apply bF)<;>intro h<;>(try simp only[List.length_map] at h)<;>(try omega)<;>(try contradiction))|(guard_target=aa _ 45 _ _ _ _;refine cP rfl (fa _ _ _) ?_)|(guard_target=aa _ 97 _ _ _ _;refine cP rfl (xf t a e.bj e.proof hl) ?_)|(guard_target=aa _ 100 _ _ _ _;refine cP rfl (td e.proof) ?_))
theorem pT(x:af)(e:aS)(hl:b7 e.proof≤1048576):aD Tryz.prog 40 [.c (.rp 4 (az x)), .c (.rp 9 (aT e))] (B (cH x.sig.au x.sig.ai e)):=by
 have hr:aD Tryz.prog 91 [.a 2 [J x.sig.au,J x.sig.ai], .c (.ro 1 (e.bj.map eI)), .c (.rp 4 ((aT e).drop 5))] (B (dz x.sig.au x.sig.ai e.bj e.proof)):=(u9 _ _ e.bj e.proof hl).cut (.same (.same (.cut (k:=3) (by omega) .nil)))
 have he:aD Tryz.prog 92 [.c (.rp 4 ((aT e).drop 5))] (B (w3 e.proof)):=(vh e.proof).cut (.cut (k:=3) (by omega) .nil)
 have hu:=Jl e.kind
 refine cF Tryz.func40 (h:= ?_)
 repeat'((conv=>whnf);first
  |(apply bh.mk;first|(simp_all[cH,cO,cM];done)|(simp_all[cH,cO,cM];omega;done)|((have hk:e.kind=3:=(by omega);clear hu;simp only[List.length_map];simp_all[cH,cO,cM];done);done)|skip)
  |(apply Fact.mk;intro hL;try simp only[List.length_map,maxLen] at hL)
  |((first|apply bA|apply bB|apply bC|apply bD|apply bE|apply bF)<;>intro h<;>(try simp only[List.length_map] at h)<;>(try omega)<;>(try contradiction))|(guard_target=aa _ 90 _ _ _ _;refine cP rfl (Fb e.kind) ?_)|(guard_target=aa _ 86 _ _ _ _;refine cP rfl (dH _ _ _) ?_)|(guard_target=aa _ 91 _ _ _ _;refine cP rfl (hr) ?_)|(guard_target=aa _ 92 _ _ _ _;refine cP rfl (he) ?_)
  |refine nB ?_)
noncomputable def rI(x:af)(e:aS):Bool:=dI x&&cH x.sig.au x.sig.ai e
theorem yg(x:af)(e:aS)(hx:b8 x≤1048576)(he:cN e≤1048576):aD Tryz.prog 14 [.a 4 (az x), .a 9 (aT e)] (B (rI x e)):=by
 have hp:b7 e.proof≤1048576:=by simp only[cN] at he;omega
 refine cF Tryz.func14 (h:= ?_)
 repeat'((conv=>whnf);first
  |(apply bh.mk;first|((unfold rI;rw[h];rfl);done)|skip)
  |((first|apply bA|apply bB|apply bC|apply bD|apply bE|apply bF)<;>intro h<;>(try simp only[List.length_map] at h)<;>(try omega)<;>(try contradiction))|(guard_target=aa _ 13 _ _ _ _;refine cP rfl (gm x hx) ?_)|(guard_target=aa _ 50 _ _ _ _;refine cP rfl (nN _ _ e hp) ?_))
end Go.Proofs.YtgbggaddpbghfaaGreat
namespace Go.Proofs.YtgbggaddpbghfaaGreat
open Go Go.KA Go.Proofs
set_option maxHeartbeats 16000000
set_option maxRecDepth 100000
def bY(a:af)(s:Int):Bool:=dJ 0 ((a.ab.length:Int)-1) s
theorem FE(a:af)(s:Int):aD Tryz.prog 81 [.a 4 (az a),I s] (B (bY a s)):=by
 refine cF Tryz.func81 (h:= ?_)
 repeat'((conv=>whnf);first
  |(apply bh.mk;first|((simp only[List.length_map];rfl);done)|skip)
  |(apply Fact.mk;intro hL;try simp only[List.length_map,maxLen] at hL)|(guard_target=aa _ 45 _ _ _ _;refine cP rfl (fa _ _ _) ?_)
  |refine aR ?_)
theorem K0(a:af)(s:Int):aD Tryz.prog 104 [.c (.rp 4 (az a)),I s] (B (bY a s)):=by
 refine cF Tryz.func104 (h:= ?_)
 repeat'((conv=>whnf);first
  |(apply bh.mk;first|((simp only[List.length_map];rfl);done)|skip)
  |(apply Fact.mk;intro hL;try simp only[List.length_map,maxLen] at hL)|(guard_target=aa _ 86 _ _ _ _;refine cP rfl (dH _ _ _) ?_)
  |refine aR ?_)
end Go.Proofs.YtgbggaddpbghfaaGreat
namespace Go.Proofs.YtgbggaddpbghfaaGreat
open Go Go.KA Go.Proofs
set_option maxHeartbeats 16000000
set_option maxRecDepth 100000
def pM(n:Nat)(p:Nat→Bool):List Int:=((List.range n).filter p).map fun(i:Nat)=>(i:Int)
theorem JH{n:Nat}{p:Nat→Bool}(h:p n=true):pM (n+1) p=pM n p++[(n:Int)]:=by
 simp[pM,List.range_succ,h]
theorem MA{n:Nat}{p:Nat→Bool}(h:p n=false):pM (n+1) p=pM n p:=by
 simp[pM,List.range_succ,h]
theorem xl(n:Nat)(p:Nat→Bool):(pM n p).length≤n:=by
 have:=List.length_filter_le p (List.range n)
 simpa[pM] using this
abbrev sav(s:aO):List aM:=(s.notes.drop (0:Int).toNat).take (s.saved.toNat-(0:Int).toNat)
theorem N7{a:af}(h:GA a){i:Nat}(hi:i<a.ab.length):0≤(a.ab.getD i db).saved∧(a.ab.getD i db).saved≤((a.ab.getD i db).notes.length:Int):=by
 have h4:=List.all_eq_true.1 h.2.2.2.1 _ (List.getElem_mem hi)
 rw[getD_eq hi]
 unfold ck at h4
 simp only[Bool.and_eq_true] at h4
 exact bX h4.2.1
section
variable(a:af)(r:Bool)(id:Int)(hl:b8 a≤1048576)
include hl
end
end Go.Proofs.YtgbggaddpbghfaaGreat
namespace Go.Proofs.YtgbggaddpbghfaaGreat
open Go Go.KA
theorem cy{α:Type}{l:List α}{i:Nat}{x:α}(h:i<l.length):(l.set i x)[i]? =some x:=by simp[h]
end Go.Proofs.YtgbggaddpbghfaaGreat
namespace Go.Proofs.YtgbggaddpbghfaaGreat
open Go Go.KA Go.Proofs
set_option maxHeartbeats 16000000
set_option maxRecDepth 100000
abbrev bN(x:ae):List CV:=[J x.kind,J x.num, .own 66 3 (x.kids.map ay)]
theorem tm{l:List ae}{i:Nat}{rows:List (List CV)}(hi:i<l.length)(h:rows=(l.take i).map ay):rows++[bN l[i]]=(l.take (i+1)).map ay:=by
 rw[iG hi,h,dt]
theorem AQ(x:ae)(hl:x.kids.length≤1048576)(hx:∀k∈x.kids,ah Tryz.prog 65 [.a 3 (ag k)] [] (.a 3 (bN k))):ah Tryz.prog 65 [.a 3 (aI x)] [] (.a 3 (bN x)):=by
 refine cX Tryz.func65 (h:= ?_)
 repeat'((conv=>whnf);first
  |refine aq.mk ?_ ?_|(guard_target=~ aK 3 _ _ _ _ _ _;refine sM (Nat × List (List CV)) [2,3,12,13] (fun⟨i,rows⟩=>[(14,I (i:Nat))]) (fun⟨i,rows⟩=>[(5, .cells [.c (J x.kind), .c (J x.num), .lw 3]),(3, .aG none 66 3 rows)]) (fun⟨i,rows⟩=>i≤x.kids.length∧rows=(x.kids.take i).map ay) (fun⟨i,rows⟩=>x.kids.length-i) (0,[]) (by exact⟨Nat.zero_le _,rfl⟩) (fun A ha=> ?_);obtain⟨i,rows⟩:=A;have ha:i≤x.kids.length∧rows=(x.kids.take i).map ay:=ha;have hrl:rows.length=i:=(by rw[ha.2,List.length_map,List.length_take];omega))
  |refine nx ((i+1,rows++[bN x.kids[i]]):Nat × List (List CV)) (by exact⟨by show i+1≤_;omega,tm (by omega) ha.2⟩)
  |(apply Fact.mk;intro hL;try simp only[List.length_map,maxLen] at hL)
  |((first|apply bA|apply bB|apply bC|apply bD|apply bE|apply bF)<;>intro h<;>(try simp only[List.length_map] at h)<;>(try omega)<;>(try contradiction))|(guard_target=aa _ 65 _ _ _ _;refine cG [] rfl (hx _ (List.getElem_mem (by omega))) ?_)
  |refine aR ?_|(guard_target=Index _ _ _;first|(refine Index.mk _ (bw (i:=i) (by omega)) ?_)|fail)
  |refine nB ?_|(guard_target=aV _ _;refine aV.mk (by first|((simp only[List.length_cons,List.length_nil,maxLen];constructor<;>omega))|fail) ?_)
  |refine nO ?_)
 all_goals first|rfl|trivial|(have h9:=ha.2;rw[List.take_of_length_le (by omega)] at h9;rw[h9];rfl)
theorem FR(x:ae)(hl:x.kids.length≤1048576)(hx:∀k∈x.kids,ah Tryz.prog 137 [.c (.rp 3 (ag k))] [] (.a 3 (bN k))):ah Tryz.prog 137 [.c (.rp 3 (aI x))] [] (.a 3 (bN x)):=by
 refine cX Tryz.func137 (h:= ?_)
 repeat'((conv=>whnf);first
  |refine aq.mk ?_ ?_|(guard_target=~ aK 3 _ _ _ _ _ _;refine sM (Nat × List (List CV)) [0,2,3] (fun⟨i,rows⟩=>[(4,I (i:Nat))]) (fun⟨i,rows⟩=>[(4, .cells [.c (J x.kind), .c (J x.num), .lw 2]),(2, .aG none 66 3 rows)]) (fun⟨i,rows⟩=>i≤x.kids.length∧rows=(x.kids.take i).map ay) (fun⟨i,rows⟩=>x.kids.length-i) (0,[]) (by exact⟨Nat.zero_le _,rfl⟩) (fun A ha=> ?_);obtain⟨i,rows⟩:=A;have ha:i≤x.kids.length∧rows=(x.kids.take i).map ay:=ha;have hrl:rows.length=i:=(by rw[ha.2,List.length_map,List.length_take];omega))
  |refine nx ((i+1,rows++[bN x.kids[i]]):Nat × List (List CV)) (by exact⟨by show i+1≤_;omega,tm (by omega) ha.2⟩)
  |(apply Fact.mk;intro hL;try simp only[List.length_map,maxLen] at hL)
  |((first|apply bA|apply bB|apply bC|apply bD|apply bE|apply bF)<;>intro h<;>(try simp only[List.length_map] at h)<;>(try omega)<;>(try contradiction))|(guard_target=aa _ 137 _ _ _ _;refine cG [] rfl (hx _ (List.getElem_mem (by omega))) ?_)
  |refine aR ?_|(guard_target=Index _ _ _;first|(refine Index.mk _ (bw (i:=i) (by omega)) ?_)|fail)
  |refine nB ?_|(guard_target=aV _ _;refine aV.mk (by first|((simp only[List.length_cons,List.length_nil,maxLen];constructor<;>omega))|fail) ?_)
  |refine nO ?_)
 all_goals first|rfl|trivial|(have h9:=ha.2;rw[List.take_of_length_le (by omega)] at h9;rw[h9];rfl)
theorem oB(x:ae)(hb:aj x≤1048576):ah Tryz.prog 65 [.a 3 (ag x)] [] (.a 3 (bN x)):=by
 rw[a9]
 have h1:eK aj x.kids≤aj x:=by
  cases x
  simp only[aj,mD,ae.kids]
  exact Nat.le_refl _
 exact AQ x (by have:=dB aj x.kids;omega) fun k _hk=>oB k (by have:=cS aj _hk;omega)
 termination_by SizeOf.sizeOf x
 decreasing_by
  have:=List.sizeOf_lt_of_mem _hk
  cases x
  simp only[ae.mk.sizeOf_spec]
  show SizeOf.sizeOf k<_
  simp only[ae.kids] at this
  omega
theorem eu(x:ae)(hb:aj x≤1048576):ah Tryz.prog 137 [.c (.rp 3 (ag x))] [] (.a 3 (bN x)):=by
 rw[a9]
 have h1:eK aj x.kids≤aj x:=by
  cases x
  simp only[aj,mD,ae.kids]
  exact Nat.le_refl _
 exact FR x (by have:=dB aj x.kids;omega) fun k _hk=>eu k (by have:=cS aj _hk;omega)
 termination_by SizeOf.sizeOf x
 decreasing_by
  have:=List.sizeOf_lt_of_mem _hk
  cases x
  simp only[ae.mk.sizeOf_spec]
  show SizeOf.sizeOf k<_
  simp only[ae.kids] at this
  omega
theorem qM(x:ae)(hb:aj x≤1048576):ah Tryz.prog 65 [.a 3 (aI x)] [] (.a 3 (bN x)):=by
 have:=oB x hb
 rwa[a9] at this
theorem pU(x:ae)(hb:aj x≤1048576)(r:List CV)(n:Nat)(hn:3≤n):ah Tryz.prog 137 [.c (.rp n (aI x++r))] [] (.a 3 (bN x)):=by
 have:=eu x hb
 rw[a9] at this
 exact this.cut (.cut (k:=3) hn .nil)
inductive og:List CV→List CV→Prop
 |nil:og [] []
 |same {c cs cs'} (h:og cs cs'):og (c::cs) (c::cs')
 |up {ty sz rows cs cs'} (h:og cs cs'):og (.ows ty sz rows::cs) (.own ty sz rows::cs')
theorem og.den{w:World}{ok:Nat→Prop}{cs cs':List CV}(h:og cs cs'):∀{vs:List Value} {f:List Nat},Den w ok cs vs f→Den w ok cs' vs f:=by
 induction h with
 |nil=>intro vs f h;exact h
 |same h ih=>
  intro vs f hd
  cases hd with
  |any h1 ht=>exact .any h1 (ih ht)
  |val h1 ht=>exact .val h1 (ih ht)
  |cb ht=>exact .cb (ih ht)
  |ro a b c d e f ht=>exact .ro a b c d e f (ih ht)
  |rp a b c d ht=>exact .rp a b c d (ih ht)
  |own a b c ht=>exact .own a b c (ih ht)
  |ows a b c ht=>exact .ows a b c (ih ht)
  |eW a b c ht=>exact .eW a b c (ih ht)
  |op a b ht=>exact .op a b (ih ht)
  |iu a b c ht=>exact .iu a b c (ih ht)
 |up h ih=>
  intro vs f hd
  cases hd with
  |ows a b c ht=>
   have:=Den.own a b c (ih ht)
   simpa using this
theorem og.len{cs cs':List CV}(h:og cs cs'):cs.length=cs'.length:=by
 induction h<;>simp_all
end Go.Proofs.YtgbggaddpbghfaaGreat
namespace Go.Proofs.YtgbggaddpbghfaaGreat
open Go Go.KA Go.Proofs
set_option maxHeartbeats 16000000
set_option maxRecDepth 100000
theorem B0(l:List Int)(hl:l.length≤1048576):ah Tryz.prog 112 [.c (.ro 1 (l.map eI))] [] (.c (.ows 2 1 (l.map eI))):=by
 refine cX Tryz.func112 (h:= ?_)
 repeat'((conv=>whnf);first
  |refine aq.mk ?_ ?_
  |(apply Fact.mk;intro hL;try simp only[List.length_map,maxLen] at hL)
  |((first|apply bA|apply bB|apply bC|apply bD|apply bE|apply bF)<;>intro h<;>(try simp only[List.length_map] at h)<;>(try omega)<;>(try contradiction))|(guard_target=OM _ _;refine OM.mk fun b hb=> ?_)|(guard_target=aV _ _;refine aV.mk (by first|((simp only[List.length_map,List.length_nil,maxLen];constructor<;>omega))|fail) ?_))
 all_goals first|rfl|trivial|(rw[hb h])
theorem iS(l:List Int)(hl:l.length≤1048576):ah Tryz.prog 133 [.c (.ro 1 (l.map eI))] [] (.c (.ows 2 1 (l.map eI))):=by
 refine cX Tryz.func133 (h:= ?_)
 repeat'((conv=>whnf);first
  |refine aq.mk ?_ ?_
  |(apply Fact.mk;intro hL;try simp only[List.length_map,maxLen] at hL)|(guard_target=aV _ _;refine aV.mk (by first|((simp only[List.length_map,List.length_nil,maxLen];constructor<;>omega))|fail) ?_))
 all_goals first|rfl|trivial
theorem sL(l:List ae)(hl:eK aj l≤1048576):ah Tryz.prog 199 [.c (.ro 3 (l.map ag))] [] (.c (.own 66 3 (l.map ay))):=by
 have hn:=dB aj l
 have hc:∀i (hi:i<l.length),ah Tryz.prog 65 [.a 3 (ag l[i])] [] (.a 3 (bN l[i])):=fun i hi=>oB _ (by have:=cS aj (List.getElem_mem hi);omega)
 refine cX Tryz.func199 (h:= ?_)
 repeat'((conv=>whnf);first
  |refine aq.mk ?_ ?_|(guard_target=~ aK 3 _ _ _ _ _ _;refine sM (Nat × List (List CV)) [9,10] (fun⟨i,rows⟩=>[(3, .lw 1),(11,I (i:Nat))]) (fun⟨i,rows⟩=>[(1, .aG none 66 3 rows)]) (fun⟨i,rows⟩=>i≤l.length∧rows=(l.take i).map ay) (fun⟨i,rows⟩=>l.length-i) (0,[]) (by exact⟨Nat.zero_le _,rfl⟩) (fun A ha=> ?_);obtain⟨i,rows⟩:=A;have ha:i≤l.length∧rows=(l.take i).map ay:=ha;have hrl:rows.length=i:=(by rw[ha.2,List.length_map,List.length_take];omega))
  |refine nx ((i+1,rows++[bN l[i]]):Nat × List (List CV)) (by exact⟨by show i+1≤_;omega,tm (by omega) ha.2⟩)
  |(apply Fact.mk;intro hL;try simp only[List.length_map,maxLen] at hL)
  |((first|apply bA|apply bB|apply bC|apply bD|apply bE|apply bF)<;>intro h<;>(try simp only[List.length_map] at h)<;>(try omega)<;>(try contradiction))|(guard_target=aa _ 65 _ _ _ _;refine cG [] rfl (hc i (by omega)) ?_)
  |refine aR ?_|(guard_target=Index _ _ _;first|(refine Index.mk _ (bw (i:=i) (by omega)) ?_)|fail)|(guard_target=aV _ _;refine aV.mk (by first|((simp only[List.length_cons,List.length_nil,List.length_map,maxLen];constructor<;>omega))|((simp only[List.length_map];omega))|fail) ?_)
  |refine nO ?_)
 all_goals first|rfl|trivial|(have h9:=ha.2;rw[List.take_of_length_le (by omega)] at h9;rw[h9])
theorem qG(l:List ae)(hl:eK aj l≤1048576):ah Tryz.prog 186 [.c (.ro 3 (l.map ag))] [] (.c (.own 66 3 (l.map ay))):=by
 have hn:=dB aj l
 have hc:∀i (hi:i<l.length),ah Tryz.prog 137 [.c (.rp 3 (ag l[i]))] [] (.a 3 (bN l[i])):=fun i hi=>eu _ (by have:=cS aj (List.getElem_mem hi);omega)
 refine cX Tryz.func186 (h:= ?_)
 repeat'((conv=>whnf);first
  |refine aq.mk ?_ ?_|(guard_target=~ aK 3 _ _ _ _ _ _;refine sM (Nat × List (List CV)) [0] (fun⟨i,rows⟩=>[(3, .lw 1),(4,I (i:Nat))]) (fun⟨i,rows⟩=>[(1, .aG none 66 3 rows)]) (fun⟨i,rows⟩=>i≤l.length∧rows=(l.take i).map ay) (fun⟨i,rows⟩=>l.length-i) (0,[]) (by exact⟨Nat.zero_le _,rfl⟩) (fun A ha=> ?_);obtain⟨i,rows⟩:=A;have ha:i≤l.length∧rows=(l.take i).map ay:=ha;have hrl:rows.length=i:=(by rw[ha.2,List.length_map,List.length_take];omega))
  |refine nx ((i+1,rows++[bN l[i]]):Nat × List (List CV)) (by exact⟨by show i+1≤_;omega,tm (by omega) ha.2⟩)
  |(apply Fact.mk;intro hL;try simp only[List.length_map,maxLen] at hL)
  |((first|apply bA|apply bB|apply bC|apply bD|apply bE|apply bF)<;>intro h<;>(try simp only[List.length_map] at h)<;>(try omega)<;>(try contradiction))|(guard_target=aa _ 137 _ _ _ _;refine cG [] rfl (hc i (by omega)) ?_)
  |refine aR ?_|(guard_target=Index _ _ _;first|(refine Index.mk _ (bw (i:=i) (by omega)) ?_)|fail)|(guard_target=aV _ _;refine aV.mk (by first|((simp only[List.length_cons,List.length_nil,List.length_map,maxLen];constructor<;>omega))|fail) ?_)
  |refine nO ?_)
 all_goals first|rfl|trivial|(have h9:=ha.2;rw[List.take_of_length_le (by omega)] at h9;rw[h9])
theorem DE(s:aB)(hb:bJ s≤1048576):ah Tryz.prog 173 [.a 5 (bP s)] [] (.a 5 (aW s)):=by
 have h0:s.path.length≤1048576∧eK aj s.au≤1048576∧eK aj s.c9≤1048576:=by simp only[bJ] at hb;omega
 refine cX Tryz.func173 (h:= ?_)
 repeat'((conv=>whnf);first
  |refine aq.mk ?_ ?_|(guard_target=aa _ 112 _ _ _ _;refine cG [] rfl (B0 s.path h0.1) ?_)|(guard_target=aa _ 199 _ _ _ _;refine cG [] rfl (sL s.au h0.2.1) ?_)|(guard_target=aa _ 199 _ _ _ _;refine cG [] rfl (sL s.c9 h0.2.2) ?_)
  |refine nB ?_)
 all_goals first|rfl|trivial
theorem yd(s:aB)(hb:bJ s≤1048576):ah Tryz.prog 166 [.c (.rp 5 (bP s))] [] (.a 5 (aW s)):=by
 have h0:s.path.length≤1048576∧eK aj s.au≤1048576∧eK aj s.c9≤1048576:=by simp only[bJ] at hb;omega
 refine cX Tryz.func166 (h:= ?_)
 repeat'((conv=>whnf);first
  |refine aq.mk ?_ ?_|(guard_target=aa _ 133 _ _ _ _;refine cG [] rfl (iS s.path h0.1) ?_)|(guard_target=aa _ 186 _ _ _ _;refine cG [] rfl (qG s.au h0.2.1) ?_)|(guard_target=aa _ 186 _ _ _ _;refine cG [] rfl (qG s.c9 h0.2.2) ?_)
  |refine nB ?_)
 all_goals first|rfl|trivial
end Go.Proofs.YtgbggaddpbghfaaGreat
