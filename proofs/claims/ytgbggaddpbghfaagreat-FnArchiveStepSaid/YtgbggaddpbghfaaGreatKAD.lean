/- Contracts of the functions that compare entries and notes, and that gather all notes. No conditions. -/
import Derived.Test.YtgbggaddpbghfaaGreatKAC
namespace Go.Proofs.YtgbggaddpbghfaaGreat
open Go Go.KA Go.Proofs
set_option maxHeartbeats 16000000
set_option maxRecDepth 100000
theorem OA(x y:dB):eqv x y=((x.id==y.id)&&(eqv x.bu y.bu&&eqv x.proof y.proof)):=by
 cases x;cases y
 refine Bool.eq_iff_iff.2 ?_
 simp
theorem AU(x y:dB):aE Tryz.prog 49 [.a 5 (ki x), .a 5 (ki y)] (B (eqv x y)):=by
 rw[OA]
 refine cF Tryz.func49 (h:= ?_)
 repeat'((conv=>whnf);first
  |(apply bo.mk;first|((simp_all[fh,aN,aM];done);done)|skip)
  |((first|apply bA|apply bB|apply bC|apply bD|apply bE|apply bF)<;>intro h<;>(try simp only[List.length_map] at h)<;>(try omega)<;>(try contradiction))|(guard_target=aa _ 98 _ _ _ _;refine cP rfl (DP _ _) ?_)|(guard_target=aa _ 99 _ _ _ _;refine cP rfl (z5 x.proof y.proof) ?_)
  |refine nO ?_)
theorem mq(x y:ae)(r s:List CV)(n:Nat)(hn:3≤n):aE Tryz.prog 51 [.c (.rp n (aI x++r)), .c (.rp n (aI y++s))] (B (eqv x y)):=by
 have:=nL x y
 rw[a9,a9] at this
 have h1:aE Tryz.prog 51 [.c (.rp 3 (aI x)), .c (.rp n (aI y++s))] (B (eqv x y)):=this.cut (.same (.cut (cs:=aI y++s) (k:=3) hn .nil))
 exact h1.cut (.cut (cs:=aI x++r) (k:=3) hn (.same .nil))
theorem m6(x y:cE):aE Tryz.prog 16 [.a 3 (cL x), .a 3 (cL y)] (B (eqv x y)):=by
 rw[PV]
 refine cF Tryz.func16 (h:= ?_)
 repeat'((conv=>whnf);first
  |(apply bo.mk;first|((refine dU ?_;rw[jW (by omega),Bool.and_false]);done)|((refine fE ?_;rw[jS ha.2.1 (by omega) ha.2.2];simp_all;done);done)|((refine dU ?_;simp_all;done);done)|((have hi:i<x.aj.length:=(by omega);have hj:i<y.aj.length:=(by omega);refine dU ?_;rw[mH hi hj,Bool.and_false];rw[Po];simp_all[getD_eq hi,getD_eq hj,fh]);done)|skip)|(guard_target=~ aP 4 _ _ _ _ _ _;refine lp (Nat) [2,3] (fun i=>[(5,I i)]) (fun i=>i≤x.aj.length∧x.aj.length=y.aj.length∧x.aj.take i=y.aj.take i) (fun i=>x.aj.length-i) 0 (by exact⟨Nat.zero_le _,by omega,rfl⟩) (fun i ha=> ?_))
  |refine nx (i+1:Nat) (by(have hi:i<x.aj.length:=(by omega);have hj:i<y.aj.length:=(by omega);refine⟨hi,ha.2.1,mI hi hj ha.2.2 ?_⟩;rw[Po];simp_all[getD_eq hi,getD_eq hj]))
  |(apply Fact.mk;intro hL;try simp only[List.length_map,maxLen] at hL)
  |((first|apply bA|apply bB|apply bC|apply bD|apply bE|apply bF)<;>intro h<;>(try simp only[List.length_map] at h)<;>(try omega)<;>(try contradiction))|(guard_target=aa _ 52 _ _ _ _;refine cP rfl (vf _ _) ?_)|(guard_target=aa _ 51 _ _ _ _;(first|refine aa.pure _ _ rfl (mq (x.aj.getD i c0).left (y.aj.getD i c0).left _ _ 9 (by omega)) rfl _ rfl ?_|refine aa.pure _ _ rfl (mq (x.aj.getD i c0).right (y.aj.getD i c0).right _ _ 6 (by omega)) rfl _ rfl ?_))
  |refine aR ?_|(guard_target=Index _ _ _;first|refine Index.mk _ (aF (d:=c0) (i:=i) (by omega)) ?_)
  |refine iX (k:= ?_)
  |refine nB ?_
  |apply ay.no
  |apply cj.go
  |refine nO ?_)
theorem Pp(x y:aS):eqv x y=((x.bZ==y.bZ)&&((x.id==y.id)&&eqv x.entry y.entry)):=by
 cases x;cases y
 refine Bool.eq_iff_iff.2 ?_
 simp
theorem qv(x y:aS):aE Tryz.prog 43 [.c (.rp 7 (bj x)), .c (.rp 7 (bj y))] (B (eqv x y)):=by
 rw[Pp,OA]
 refine cF Tryz.func43 (h:= ?_)
 repeat'((conv=>whnf);first
  |(apply bo.mk;first|((simp_all[fh,aN,aM];done);done)|skip)
  |((first|apply bA|apply bB|apply bC|apply bD|apply bE|apply bF)<;>intro h<;>(try simp only[List.length_map] at h)<;>(try omega)<;>(try contradiction))|(guard_target=aa _ 94 _ _ _ _;refine cP rfl (xy _ _) ?_)|(guard_target=aa _ 16 _ _ _ _;refine cP rfl (m6 x.entry.proof y.entry.proof) ?_)
  |refine nB ?_
  |apply cj.go
  |refine nO ?_)
def iq(a:ag):List aS:=a.ab.flatMap aT.notes++a.aw.map cJ.note
theorem ur{α β:Type}{f:α→List β}{l:List α}{i:Nat}(h:i<l.length):(l.take (i+1)).flatMap f=(l.take i).flatMap f++f l[i]:=by
 rw[List.take_add_one,List.getElem?_eq_getElem h,List.flatMap_append]
 simp
theorem iz{α β:Type}{f:α→β}{l:List α}{i:Nat}(h:i<l.length):(l.take (i+1)).map f=(l.take i).map f++[f l[i]]:=by
 rw[List.take_add_one,List.getElem?_eq_getElem h,List.map_append]
 rfl
theorem w7{α:Type}{f:α→List aS}{g:α→Nat}(hg:∀x,(f x).length≤g x):∀(l:List α),(l.flatMap f).length≤c8 g l
 |[]=>Nat.le_refl _
 |x::xs=>by
  have h1:=w7 hg xs
  have h2:=hg x
  simp only[List.flatMap_cons,List.length_append,c8]
  omega
theorem BB(a:ag)(hl:cq a≤1048576):ai Tryz.prog 48 [.a 4 (aJ a)] [] (.c (.ows 51 7 ((iq a).map bj))):=by
 have hb:∀i,((a.ab.take i).flatMap aT.notes).length≤1048576:=fun i=>by
  have h1:=w7 (f:=aT.notes) (g:=cZ) (fun s=>eg bG s.notes) (a.ab.take i)
  have h2:=pD (f:=cZ) a.ab i
  simp only[cq,fm] at hl
  omega
 have hf:a.aw.length≤1048576:=by simp only[cq,fm] at hl;omega
 have hn:∀i,i<a.ab.length→(a.ab.getD i ⟨false,[],0⟩).notes.length≤1048576:=fun i h=>by
  rw[getD_eq h]
  have h1:=cY cZ (List.getElem_mem h)
  have h2:=eg bG (a.ab[i]).notes
  simp only[cq,cZ] at hl h1
  omega
 refine cX Tryz.func48 (h:= ?_)
 repeat'((conv=>whnf);first
  |refine ah.mk ?_ ?_|(guard_target=~ aP 3 _ _ _ _ _ _;refine tJ (Nat × List aS) [1,10,11] (fun⟨i,R⟩=>[(3, .lw 2),(12,I i)]) (fun⟨i,R⟩=>[(2, .row none 51 7 (R.map bj))]) (fun⟨i,R⟩=>i≤a.ab.length∧R=(a.ab.take i).flatMap aT.notes) (fun⟨i,R⟩=>a.ab.length-i) (0,[]) (by exact⟨Nat.zero_le _,rfl⟩) (fun A ha=> ?_);obtain⟨i,R⟩:=A;have ha:i≤a.ab.length∧R=(a.ab.take i).flatMap aT.notes:=ha)|(guard_target=~ aP 8 _ _ _ _ _ _;refine tJ (Nat × List aS) [22,23] (fun⟨k,S⟩=>[(3, .lw 2),(24,I k)]) (fun⟨k,S⟩=>[(2, .row none 51 7 (S.map bj))]) (fun⟨k,S⟩=>k≤a.aw.length∧S=R++(a.aw.take k).map cJ.note) (fun⟨k,S⟩=>a.aw.length-k) (0,R) (by exact⟨Nat.zero_le _,by simp⟩) (fun A ha=> ?_);obtain⟨k,S⟩:=A;have ha:k≤a.aw.length∧S=R++(a.aw.take k).map cJ.note:=ha)
  |refine nx ((i+1,R++(a.ab.getD i ⟨false,[],0⟩).notes):Nat × List aS) (by(have hi:i<a.ab.length:=(by omega);refine⟨hi, ?_⟩;show R++_=_;rw[ur hi,ha.2,getD_eq hi]))
  |refine nx ((k+1,S++[a.aw[k].note]):Nat × List aS) (by(have hk:k<a.aw.length:=(by omega);refine⟨hk, ?_⟩;show S++_=_;rw[iz hk,ha.2,List.append_assoc]))
  |(apply Fact.mk;intro hL;try simp only[List.length_map,maxLen] at hL)
  |((first|apply bA|apply bB|apply bC|apply bD|apply bE|apply bF)<;>intro h<;>(try simp only[List.length_map] at h)<;>(try omega)<;>(try contradiction))
  |refine aR ?_|(guard_target=Index _ _ _;first|refine Index.mk _ (aF (d:=⟨false,[],0⟩) (i:=i) (by omega)) ?_|refine Index.mk _ (bz (i:=k) (by omega)) ?_)
  |refine iX (k:= ?_)
  |apply ay.no|(guard_target=aQ _ _;refine aQ.mk (by first|((have h2:=ha.2;have h1:=hb i;simp only[List.length_map,maxLen];first|(have h3:=hn i (by omega);rw[←h2] at h1;constructor<;>omega)|(have h8:=(‹_∧R=_›:i≤_∧R=_).2;rw[←h8] at h1;have h4:=congrArg List.length h2;simp only[List.length_append,List.length_map,List.length_take] at h4;simp only[List.length_cons,List.length_nil];constructor<;>omega)))|fail) ?_)
  |refine nO ?_)
 all_goals(try trivial)
 all_goals(have h8:=(‹_∧R=_›:i≤_∧R=_).2;have h9:=ha.2;rw[List.take_of_length_le (show a.ab.length≤i by omega)] at h8;rw[List.take_of_length_le (show a.aw.length≤k by omega)] at h9;rw[h9,h8];rfl)
end Go.Proofs.YtgbggaddpbghfaaGreat
namespace Go.Proofs.YtgbggaddpbghfaaGreat
open Go Go.KA Go.Proofs
set_option maxHeartbeats 16000000
set_option maxRecDepth 100000
noncomputable def J4(P:Prop):Bool:= @decide P (Classical.propDecidable _)
theorem By{P:Prop}(h:P):J4 P=true:= @decide_eq_true P (Classical.propDecidable _) h
theorem Ll{P:Prop}(h:¬P):J4 P=false:= @decide_eq_false P (Classical.propDecidable _) h
theorem Mi{P:Prop}(h:J4 P=true):P:= @of_decide_eq_true P (Classical.propDecidable _) h
def Alike(x y:aS):Prop:=x.id=y.id→x.bZ=false→y.bZ=false→x.entry=y.entry
theorem Alike.symm{x y:aS}(h:Alike x y):Alike y x:=fun h1 h2 h3=>(h h1.symm h3 h2).symm
theorem Alike.refl(x:aS):Alike x x:=fun _ _ _=>rfl
def dT(l:List aS):Prop:=∀x∈l,∀y∈l,Alike x y
theorem dT.nil:dT []:=by simp[dT]
theorem dT.next{l:List aS}{i:Nat}(h:i<l.length)(h1:dT (l.take i))(h2:∀y∈l.take i,Alike l[i] y):dT (l.take (i+1)):=by
 rw[List.take_add_one,List.getElem?_eq_getElem h]
 intro x hx y hy
 simp only[Option.toList_some,List.mem_append,List.mem_singleton] at hx hy
 rcases hx with hx|rfl<;>rcases hy with hy|rfl
 ·exact h1 x hx y hy
 ·exact(h2 x hx).symm
 ·exact h2 y hy
 ·exact .refl _
theorem BC(l:List aS):aE Tryz.prog 89 [.c (.ro 7 (l.map bj))] (B (J4 (dT l))):=by
 have hno:∀i k (hi:i<l.length) (hk:k<l.length),l[i].id=l[k].id→l[i].bZ=false→l[k].bZ=false→¬l[i]=l[k]→¬dT l:=by
  intro i k hi hk h1 h2 h3 h4 hA
  have:=hA _ (List.getElem_mem hi) _ (List.getElem_mem hk) h1 h2 h3
  refine h4 ?_
  generalize l[i]=x at*
  generalize l[k]=y at*
  cases x;cases y
  simp_all
 refine cF Tryz.func89 (h:= ?_)
 repeat'((conv=>whnf);first
  |(apply bo.mk;first|(exact dU (Ll (hno i k (by omega) (by omega) (by assumption) (by assumption) (by assumption) h));done)|(exact fE (By (by have:=(‹i≤l.length∧dT _›).2;rwa[List.take_of_length_le (by omega)] at this));done)|skip)|(guard_target=~ aP 2 _ _ _ _ _ _;refine lp (Nat) [0] (fun i=>[(3,I i)]) (fun i=>i≤l.length∧dT (l.take i)) (fun i=>l.length-i) 0 (by exact⟨Nat.zero_le _,dT.nil⟩) (fun i ha=> ?_))|(guard_target=~ aP 5 _ _ _ _ _ _;refine lp (Nat) [0,3] (fun k=>[(4,I k)]) (fun k=>k≤i∧∀j (hj:j<l.length) (hi:i<l.length),j<k→Alike l[i] l[j]) (fun k=>i-k) 0 (by exact⟨Nat.zero_le _,fun j _ _ hj=>by omega⟩) (fun k ha=> ?_))
  |refine nx (k+1:Nat) (by(refine⟨by show k+1≤_;omega,fun j hj hi hjk=> ?_⟩;rcases Nat.lt_succ_iff_lt_or_eq.1 hjk with hjk|rfl;exact ha.2 j hj hi hjk;intro a1 a2 a3;simp_all))
  |refine nx (i+1:Nat) (by(have hi:i<l.length:=(by omega);refine⟨hi,dT.next hi (‹i≤l.length∧dT _›).2 fun y hy=> ?_⟩;obtain⟨j,hj,e⟩:=List.mem_iff_getElem.1 hy;rw[List.length_take] at hj;rw[List.getElem_take] at e;rw[←e];exact ha.2 j (by omega) hi (by omega)))
  |(apply Fact.mk;intro hL;try simp only[List.length_map,maxLen] at hL)
  |((first|apply bA|apply bB|apply bC|apply bD|apply bE|apply bF)<;>intro h<;>(try simp only[List.length_map] at h)<;>(try omega)<;>(try contradiction))|(guard_target=aa _ 43 _ _ _ _;refine cP rfl (qv _ _) ?_)
  |refine aR ?_|(guard_target=Index _ _ _;first|refine Index.mk _ (bz (i:=i) (by omega)) ?_|refine Index.mk _ (bz (i:=k) (by omega)) ?_)
  |refine iX (k:= ?_)
  |refine nB ?_
  |apply ay.no
  |apply cj.go
  |refine nO ?_)
abbrev cO:aT:=⟨false,[],0⟩
def fW(t a:Int)(n:Int)(p:cJ):Bool:=dH 0 (n-1) p.j1&&bI t a p.note
noncomputable def iA(a:ag):Bool:=
 bT a.sig.au a.sig.aq&&(dH 1 5 a.ab.length&&(decide ((a.aw.length:Int)≤12)&&(a.ab.all (bN a.sig.au a.sig.aq)&&(a.aw.all (fW a.sig.au a.sig.aq a.ab.length)&&J4 (dT (iq a))))))
abbrev mE(q:Int × dB):Value × SV:=(.int .i64 q.1, .a 5 (ki q.2))
theorem PH(l:List (Int × dB))(id:Int):(∃(j:Nat) (e:dB),l[j]? =some (id,e))∨∀q∈l,q.1≠id:=by
 by_cases h:∃q∈l,q.1=id
 ·obtain⟨q,hq,rfl⟩:=h
  obtain⟨j,hj,e⟩:=List.mem_iff_getElem.1 hq
  exact .inl ⟨j,q.2,by rw[List.getElem?_eq_getElem hj,e]⟩
 ·exact .inr fun q hq e=>h ⟨q,hq,e⟩
theorem MZ{l:List (Int × dB)}{id:Int}(h:∀q∈l,q.1≠id):∀p∈l.map mE,p.1≠ .int .i64 id:=by
 intro p hp e
 obtain⟨q,hq,rfl⟩:=List.mem_map.1 hp
 simp at e
 exact h q hq e
theorem OE{l:List (Int × dB)}{id:Int}{j:Nat}{e:dB}(h:l[j]? =some (id,e)):(l.map mE)[j]? =some (.int .i64 id, .a 5 (ki e)):=by
 rw[List.getElem?_map,h]
 rfl
theorem _root_.Go.KA.mG.same{es:List (Value × SV)}{k:Value}{v:SV}{K:List (Value × SV)→Prop}(j:Nat)(h:es[j]? =some (k,v))(g:K es):mG es k v K:=by
 refine mG.wQ j v h ?_
 obtain⟨hj,e⟩:=List.getElem?_eq_some_iff.1 h
 have:es.set j (k,v)=es:=by
  rw[←e]
  exact List.set_getElem_self hj
 rw[this]
 exact g
theorem _root_.Go.KA.mG.more{α:Type}{f:α→Value × SV}{l:List α}{k:Value}{v:SV}{K:List (Value × SV)→Prop}(q:α)(hq:f q=(k,v))(h:∀p∈l.map f,p.1≠k)(g:K ((l++[q]).map f)):mG (l.map f) k v K:=by
 refine mG.new h ?_
 rw[←hq]
 simpa using g
structure Kept(l:List aS)(i:Nat)(K:List (Int × dB)):Prop where
 lt:i≤l.length
 mem:∀q∈K,∃x∈l.take i,x.bZ=false∧x.id=q.1∧x.entry=q.2
 all:∀x∈l.take i,x.bZ=false→(x.id,x.entry)∈K
 Da:dT (l.take i)
theorem Kept.zero(l:List aS):Kept l 0 []:=⟨Nat.zero_le _,by simp,by simp,by simpa using dT.nil⟩
theorem xh{α:Type}{l:List α}{i:Nat}(h:i<l.length){x:α}(hx:x∈l.take (i+1)):x∈l.take i∨x=l[i]:=by
 rw[List.take_add_one,List.getElem?_eq_getElem h] at hx
 rcases List.mem_append.1 hx with hx|hx
 ·exact .inl hx
 ·exact .inr (List.mem_singleton.1 hx)
theorem pR{α:Type}{l:List α}{i:Nat}(h:i<l.length){x:α}(hx:x∈l.take i∨x=l[i]):x∈l.take (i+1):=by
 rw[List.take_add_one,List.getElem?_eq_getElem h]
 exact List.mem_append.2 (hx.imp id fun e=>List.mem_singleton.2 e)
theorem Kept.skip{l:List aS}{i:Nat}{K:List (Int × dB)}(hK:Kept l i K)(h:i<l.length)(hr:l[i].bZ=true):Kept l (i+1) K:=by
 refine⟨h,fun q hq=> ?_,fun x hx hx0=> ?_,dT.next h hK.Da fun y hy=> ?_⟩
 ·obtain⟨x,h1,h2⟩:=hK.mem q hq
  exact⟨x,pR h (.inl h1),h2⟩
 ·rcases xh h hx with hx|rfl
  ·exact hK.all x hx hx0
  ·rw[hr] at hx0;cases hx0
 ·intro _ h2;rw[hr] at h2;cases h2
theorem Kept.wQ{l:List aS}{i j:Nat}{K:List (Int × dB)}(hK:Kept l i K)(h:i<l.length)(_hr:l[i].bZ=false)(hj:K[j]? =some (l[i].id,l[i].entry)):Kept l (i+1) K:=by
 refine⟨h,fun q hq=> ?_,fun x hx hx0=> ?_,dT.next h hK.Da fun y hy h1 h2 h3=> ?_⟩
 ·obtain⟨x,h1,h2⟩:=hK.mem q hq
  exact⟨x,pR h (.inl h1),h2⟩
 ·rcases xh h hx with hx|rfl
  ·exact hK.all x hx hx0
  ·exact List.mem_of_getElem? hj
 ·obtain⟨x,g1,g2,g3,g4⟩:=hK.mem _ (List.mem_of_getElem? hj)
  dsimp only at g3 g4
  rw[←g4]
  exact hK.Da x g1 y hy (g3.trans h1) g2 h3
theorem Kept.new{l:List aS}{i:Nat}{K:List (Int × dB)}(hK:Kept l i K)(h:i<l.length)(hr:l[i].bZ=false)(hm:∀q∈K,q.1≠l[i].id):Kept l (i+1) (K++[(l[i].id,l[i].entry)]):=by
 refine⟨h,fun q hq=> ?_,fun x hx hx0=> ?_,dT.next h hK.Da fun y hy h1 h2 h3=> ?_⟩
 ·rcases List.mem_append.1 hq with hq|hq
  ·obtain⟨x,h1,h2⟩:=hK.mem q hq
   exact⟨x,pR h (.inl h1),h2⟩
  ·have hq:=List.mem_singleton.1 hq
   subst hq
   exact⟨l[i],pR h (.inr rfl),hr,rfl,rfl⟩
 ·rcases xh h hx with hx|rfl
  ·exact List.mem_append.2 (.inl (hK.all x hx hx0))
  ·simp
 ·exact absurd h1.symm (hm _ (hK.all y hy h3))
theorem Kept.bad{l:List aS}{i j:Nat}{K:List (Int × dB)}{e:dB}(hK:Kept l i K)(h:i<l.length)(hr:l[i].bZ=false)(hj:K[j]? =some (l[i].id,e))(hne:¬e=l[i].entry):¬dT l:=by
 intro hA
 obtain⟨x,g1,g2,g3,g4⟩:=hK.mem _ (List.mem_of_getElem? hj)
 dsimp only at g3 g4
 exact hne (by rw[←g4];exact hA x (List.mem_of_mem_take g1) _ (List.getElem_mem h) g3 g2 hr)
theorem Kept.done{l:List aS}{i:Nat}{K:List (Int × dB)}(hK:Kept l i K)(h:¬i<l.length):dT l:=by
 have:=hK.Da
 rwa[List.take_of_length_le (by omega)] at this
theorem Kept.OG{l:List aS}{i:Nat}{K:List (Int × dB)}(hK:Kept l i K)(h:i<l.length)(hr:(l.getD i n0).bZ=true):Kept l (i+1) K:=hK.skip h (by rwa[getD_eq h] at hr)
theorem Kept.Pz{l:List aS}{i j:Nat}{K:List (Int × dB)}(hK:Kept l i K)(h:i<l.length)(hr:(l.getD i n0).bZ=false)(hj:K[j]? =some ((l.getD i n0).id,(l.getD i n0).entry)):Kept l (i+1) K:=by
 rw[getD_eq h] at hr hj
 exact hK.wQ h hr hj
theorem Kept.PN{l:List aS}{i:Nat}{K:List (Int × dB)}(hK:Kept l i K)(h:i<l.length)(hr:(l.getD i n0).bZ=false)(hm:∀q∈K,q.1≠(l.getD i n0).id):Kept l (i+1) (K++[((l.getD i n0).id,(l.getD i n0).entry)]):=by
 rw[getD_eq h] at hr hm⊢
 exact hK.new h hr hm
theorem Kept.Pu{l:List aS}{i j:Nat}{K:List (Int × dB)}{e:dB}(hK:Kept l i K)(h:i<l.length)(hr:(l.getD i n0).bZ=false)(hj:K[j]? =some ((l.getD i n0).id,e))(hne:¬e=(l.getD i n0).entry):¬dT l:=by
 rw[getD_eq h] at hr hj hne
 exact hK.bad h hr hj hne
abbrev GA(a:ag):Prop:=bT a.sig.au a.sig.aq=true∧dH 1 5 a.ab.length=true∧(a.aw.length:Int)≤12∧a.ab.all (bN a.sig.au a.sig.aq)=true∧a.aw.all (fW a.sig.au a.sig.aq a.ab.length)=true∧dT (iq a)
theorem sH(a:ag):iA a=true↔GA a:=by
 unfold iA
 simp only[Bool.and_eq_true,decide_eq_true_eq]
 constructor
 ·rintro⟨h1,h2,h3,h4,h5,h6⟩;exact⟨h1,h2,h3,h4,h5,Mi h6⟩
 ·rintro⟨h1,h2,h3,h4,h5,h6⟩;exact⟨h1,h2,h3,h4,h5,By h6⟩
theorem Ga{a:ag}(h:¬GA a):iA a=false:=by
 cases hb:iA a with
 |false=>rfl
 |true=>exact absurd ((sH a).1 hb) h
abbrev jd:cJ:=⟨0,n0⟩
theorem A2{t a n:Int}{l:List cJ}{k:Nat}(hk:k<l.length)(h:dH 0 (n-1) (l.getD k jd).j1=false∨bI t a (l.getD k jd).note=false):fW t a n l[k]=false:=by
 rw[getD_eq hk] at h
 unfold fW
 rcases h with h|h<;>rw[h]
 ·rfl
 ·rw[Bool.and_false]
theorem Gw{t a n:Int}{l:List cJ}{k:Nat}(hk:k<l.length)(h1:dH 0 (n-1) (l.getD k jd).j1=true)(h2:bI t a (l.getD k jd).note=true):fW t a n l[k]=true:=by
 rw[getD_eq hk] at h1 h2
 unfold fW
 rw[h1,h2]
 rfl
theorem ob(a:ag)(hl:cq a≤1048576):aE Tryz.prog 13 [.a 4 (aJ a)] (B (iA a)):=by
 have hsb:∀i (h:i<a.ab.length),cZ a.ab[i]≤1048576:=fun i h=>by
  have:=cY cZ (List.getElem_mem h)
  simp only[cq] at hl
  omega
 have hpb:∀i (h:i<a.aw.length),bG (a.aw.getD i jd).note≤1048576:=fun i h=>by
  rw[getD_eq h]
  have:=cY fG (List.getElem_mem h)
  simp only[cq,fG] at hl this
  omega
 have hal:=BB a hl
 generalize hal':iq a=L at hal
 refine cF Tryz.func13 (h:= ?_)
 repeat'((conv=>whnf);first
  |(apply bo.mk;first|((refine dU (Ga ?_);rintro⟨g1,g2,g3,g4,g5,g6⟩;first|omega|(rw[g1] at h;cases h;done)|(rw[g2] at h;cases h;done)|(rw[dM (i:=i) (by omega) h] at g4;cases g4;done)|(rw[dM (i:=k) (by omega) (A2 (by omega) (.inl h))] at g5;cases g5;done)|(rw[dM (i:=k) (by omega) (A2 (by omega) (.inr h))] at g5;cases g5;done)|(rw[hal'] at g6;exact Kept.Pu ha (by omega) (by assumption) hj h g6));done)|((refine fE ((sH a).2 ⟨by assumption,by assumption,by omega,dG (by omega) (by assumption),dG (by omega) (by assumption),by rw[hal'];exact Kept.done ha (by omega)⟩));done)|skip)|(guard_target=~ aP 5 _ _ _ _ _ _;refine lp (Nat) [1,3,32,33] (fun i=>[(34,I i)]) (fun i=>i≤a.ab.length∧(a.ab.take i).all (bN a.sig.au a.sig.aq)=true) (fun i=>a.ab.length-i) 0 (by exact⟨Nat.zero_le _,rfl⟩) (fun i ha=> ?_))|(guard_target=~ aP 11 _ _ _ _ _ _;refine lp (Nat) [1,3,45,46] (fun k=>[(47,I k)]) (fun k=>k≤a.aw.length∧(a.aw.take k).all (fW a.sig.au a.sig.aq a.ab.length)=true) (fun k=>a.aw.length-k) 0 (by exact⟨Nat.zero_le _,rfl⟩) (fun k ha=> ?_))|(guard_target=~ aP 18 _ _ _ _ _ _;refine tJ (Nat × List (Int × dB)) [8,68,69] (fun⟨m,K⟩=>[(70,I m)]) (fun⟨m,K⟩=>[(1, .m9 (some .i64) (K.map mE))]) (fun⟨m,K⟩=>Kept L m K) (fun⟨m,K⟩=>L.length-m) (0,[]) (by exact Kept.zero _) (fun A ha=> ?_);obtain⟨m,K⟩:=A;have ha:Kept L m K:=ha)
  |refine nx (i+1:Nat) (by exact fy (by omega) ha h)
  |refine nx (k+1:Nat) (by exact fy (by omega) ha (Gw (by omega) (by assumption) h))
  |refine nx ((m+1,K):Nat × List (Int × dB)) (by exact Kept.OG ha (by omega) (by assumption))
  |refine nx ((m+1,K):Nat × List (Int × dB)) (by exact Kept.Pz ha (by omega) (by assumption) hj)
  |refine nx ((m+1,K++[((L.getD m n0).id,(L.getD m n0).entry)]):Nat × List (Int × dB)) (by exact Kept.PN ha (by omega) (by assumption) hmiss)
  |(apply Fact.mk;intro hL;try simp only[List.length_map,maxLen] at hL)
  |((first|apply bA|apply bB|apply bC|apply bD|apply bE|apply bF)<;>intro h<;>(try simp only[List.length_map] at h)<;>(try omega)<;>(try contradiction))|(guard_target=aa _ 44 _ _ _ _;refine cP rfl (ow _ _) ?_)|(guard_target=aa _ 45 _ _ _ _;refine cP rfl (eU _ _ _) ?_)|(guard_target=aa _ 46 _ _ _ _;refine cP rfl (CG _ _ _ (hsb i (by omega))) ?_)|(guard_target=aa _ 47 _ _ _ _;refine cP rfl (yj _ _ _ (hpb k (by omega))) ?_)|(guard_target=aa _ 48 _ _ _ _;refine cG [] rfl (hal) ?_)|(guard_target=aa _ 49 _ _ _ _;refine cP rfl (AU e (L.getD m n0).entry) ?_)|(guard_target=zL _ _ _;rcases PH K (L.getD m n0).id with⟨j,e,hj⟩|hmiss<;>(first|refine zL.Oy j _ (OE hj) ?_|refine zL.Ho (MZ hmiss) ?_))|(guard_target=mG _ _ _ _;(first|(have h5:e=(L.getD m n0).entry:=(by assumption);rw[h5] at hj;refine mG.same j (OE hj) ?_)|refine mG.more ((L.getD m n0).id,(L.getD m n0).entry) rfl (MZ hmiss) ?_))
  |refine aR ?_|(guard_target=Index _ _ _;first|refine Index.mk _ (bz (i:=i) (by omega)) ?_|refine Index.mk _ (aF (d:=jd) (i:=k) (by omega)) ?_|refine Index.mk _ (aF (d:=n0) (i:=m) (by omega)) ?_)
  |refine iX (k:= ?_)
  |refine nB ?_
  |apply ay.no
  |apply cj.go
  |refine nO ?_)
end Go.Proofs.YtgbggaddpbghfaaGreat
namespace Go.Proofs.YtgbggaddpbghfaaGreat
open Go Go.KA Go.Proofs
set_option maxHeartbeats 16000000
set_option maxRecDepth 100000
theorem K8(a:ag)(hl:cq a≤1048576):aE Tryz.prog 39 [.c (.rp 4 (aJ a))] (B (iA a)):=by
 have hsb:∀i (h:i<a.ab.length),cZ (a.ab.getD i cO)≤1048576:=fun i h=>by
  rw[getD_eq h]
  have:=cY cZ (List.getElem_mem h)
  simp only[cq] at hl
  omega
 have hpb:∀i (h:i<a.aw.length),bG (a.aw.getD i jd).note≤1048576:=fun i h=>by
  rw[getD_eq h]
  have:=cY fG (List.getElem_mem h)
  simp only[cq,fG] at hl this
  omega
 have hn:∀i (h:i<a.ab.length),(a.ab.getD i cO).notes.length≤1048576:=fun i h=>by
  have h1:=hsb i h
  have h2:=eg bG (a.ab.getD i cO).notes
  simp only[cZ] at h1
  omega
 have hb:∀i,((a.ab.take i).flatMap aT.notes).length≤1048576:=fun i=>by
  have h1:=w7 (f:=aT.notes) (g:=cZ) (fun s=>eg bG s.notes) (a.ab.take i)
  have h2:=pD (f:=cZ) a.ab i
  simp only[cq,fm] at hl
  omega
 have hf:a.aw.length≤1048576:=by simp only[cq,fm] at hl;omega
 refine cF Tryz.func39 (h:= ?_)
 repeat'((conv=>whnf);first
  |(apply bo.mk;first|((refine dU (Ga ?_);rintro⟨g1,g2,g3,g4,g5,g6⟩;first|omega|(rw[g1] at h;cases h;done)|(rw[g2] at h;cases h;done)|(have hi:i<a.ab.length:=(by omega);rw[getD_eq hi] at h;rw[dM hi h] at g4;cases g4;done)|(rw[dM (i:=k) (by omega) (A2 (by omega) (.inl h))] at g5;cases g5;done)|(rw[dM (i:=k) (by omega) (A2 (by omega) (.inr h))] at g5;cases g5;done));done)|skip)|(guard_target=~ aP 6 _ _ _ _ _ _;refine tJ (Nat × List aS) [0,3] (fun⟨i,R⟩=>[(4, .lw 0),(5,I i)]) (fun⟨i,R⟩=>[(0, .row none 51 7 (R.map bj))]) (fun⟨i,R⟩=>i≤a.ab.length∧(a.ab.take i).all (bN a.sig.au a.sig.aq)=true∧R=(a.ab.take i).flatMap aT.notes) (fun⟨i,R⟩=>a.ab.length-i) (0,[]) (by exact⟨Nat.zero_le _,rfl,rfl⟩) (fun A ha=> ?_);obtain⟨i,R⟩:=A;have ha:i≤a.ab.length∧(a.ab.take i).all (bN a.sig.au a.sig.aq)=true∧R=(a.ab.take i).flatMap aT.notes:=ha)|(guard_target=~ aP 12 _ _ _ _ _ _;refine tJ (Nat × List aS) [0,3] (fun⟨k,S⟩=>[(4, .lw 0),(6,I k)]) (fun⟨k,S⟩=>[(0, .row none 51 7 (S.map bj))]) (fun⟨k,S⟩=>k≤a.aw.length∧(a.aw.take k).all (fW a.sig.au a.sig.aq a.ab.length)=true∧S=R++(a.aw.take k).map cJ.note) (fun⟨k,S⟩=>a.aw.length-k) (0,R) (by exact⟨Nat.zero_le _,rfl,by simp⟩) (fun A ha=> ?_);obtain⟨k,S⟩:=A;have ha:k≤a.aw.length∧(a.aw.take k).all (fW a.sig.au a.sig.aq a.ab.length)=true∧S=R++(a.aw.take k).map cJ.note:=ha)
  |refine nx ((i+1,R++(a.ab.getD i cO).notes):Nat × List aS) (by(have hi:i<a.ab.length:=(by omega);rw[getD_eq hi] at h⊢;refine⟨hi,ke hi ha.2.1 h, ?_⟩;show R++_=_;rw[ur hi,ha.2.2]))
  |refine nx ((k+1,S++[(a.aw.getD k jd).note]):Nat × List aS) (by(have hk:k<a.aw.length:=(by omega);refine⟨hk,ke hk ha.2.1 (Gw hk h (by assumption)), ?_⟩;show S++_=_;rw[iz hk,ha.2.2,List.append_assoc,getD_eq hk]))
  |(apply Fact.mk;intro hL;try simp only[List.length_map,maxLen] at hL)
  |((first|apply bA|apply bB|apply bC|apply bD|apply bE|apply bF)<;>intro h<;>(try simp only[List.length_map] at h)<;>(try omega)<;>(try contradiction))|(guard_target=aa _ 85 _ _ _ _;refine cP rfl (kJ _ _) ?_)|(guard_target=aa _ 86 _ _ _ _;refine cP rfl (dE _ _ _) ?_)|(guard_target=aa _ 87 _ _ _ _;refine cP rfl (Aj _ _ _ (hsb i (by omega))) ?_)|(guard_target=aa _ 88 _ _ _ _;refine cP rfl (xD _ _ _ (hpb k (by omega))) ?_)|(guard_target=aa _ 89 _ _ _ _;refine cP rfl (BC S) ?_)
  |refine aR ?_|(guard_target=Index _ _ _;first|refine Index.mk _ (aF (d:=cO) (i:=i) (by omega)) ?_|refine Index.mk _ (aF (d:=jd) (i:=k) (by omega)) ?_)
  |refine iX (k:= ?_)
  |refine nB ?_
  |apply ay.no
  |apply cj.go|(guard_target=aQ _ _;refine aQ.mk (by first|((have h2:=ha.2.2;have h1:=hb i;simp only[List.length_map,maxLen];first|(have h3:=hn i (by omega);rw[←h2] at h1;constructor<;>omega)|(have h8:=(‹_∧_∧R=_›:i≤_∧_∧R=_).2.2;rw[←h8] at h1;have h4:=congrArg List.length h2;simp only[List.length_append,List.length_map,List.length_take] at h4;simp only[List.length_cons,List.length_nil];constructor<;>omega)))|fail) ?_)
  |refine nO ?_)
 have h7:=(‹_∧_∧R=_›:i≤_∧(a.ab.take i).all _=true∧R=_)
 have h8:=h7.2.2
 have h6:=h7.2.1
 have h9:=ha.2.2
 have h5:=ha.2.1
 rw[List.take_of_length_le (show a.ab.length≤i by omega)] at h8 h6
 rw[List.take_of_length_le (show a.aw.length≤k by omega)] at h9 h5
 have e:S=iq a:=by rw[h9,h8];rfl
 have h4:bT a.sig.au a.sig.aq=true:=by assumption
 have h3:dH 1 5 a.ab.length=true:=by assumption
 have h2:decide ((a.aw.length:Int)≤12)=true:=decide_eq_true (by omega)
 unfold iA
 rw[h4,h3,h2,h6,h5,e]
 rfl
end Go.Proofs.YtgbggaddpbghfaaGreat
namespace Go.Proofs.YtgbggaddpbghfaaGreat
open Go Go.KA Go.Proofs
set_option maxHeartbeats 16000000
set_option maxRecDepth 100000
end Go.Proofs.YtgbggaddpbghfaaGreat
namespace Go.Proofs.YtgbggaddpbghfaaGreat
open Go Go.KA Go.Proofs
set_option maxHeartbeats 16000000
set_option maxRecDepth 100000
def bS(t a:Int)(e:bm):Bool:=
 dH 1 9 e.kind&&(dH 0 999 e.a&&(dH 0 999 e.b&&(dH 0 999 e.c&&((decide (e.kind=2)||(decide (e.kind=3)||decide (e.b=0)))&&((decide (e.kind=3)||decide (e.c=0))&&
    (if e.kind=1 then cU t a e.bu e.proof&&((e.kW.length:Int)==5) else decide ((e.bu.length:Int)=0)&&(lT e.proof&&((e.kW.length:Int)==0))))))))
def y9(k:Int):Int:=if k=2 then 2 else if k=3 then 3 else 1
theorem D2(k:Int):aE Tryz.prog 90 [I k] (I (y9 k)):=by
 refine cF Tryz.func90 (h:= ?_)
 repeat'((conv=>whnf);first
  |(apply bo.mk;first|((simp_all[y9,aN,aM];done);done)|skip)
  |((first|apply bA|apply bB|apply bC|apply bD|apply bE|apply bF)<;>intro h<;>(try simp only[List.length_map] at h)<;>(try omega)<;>(try contradiction))
  |refine nO ?_)
theorem JQ(k:Int):(k=2∧y9 k=2)∨(k=3∧y9 k=3)∨(¬k=2∧¬k=3∧y9 k=1):=by
 unfold y9
 by_cases h2:k=2
 ·exact .inl ⟨h2,by rw[if_pos h2]⟩
 ·by_cases h3:k=3
  ·exact .inr (.inl ⟨h3,by rw[if_neg h2,if_pos h3]⟩)
  ·exact .inr (.inr ⟨h2,h3,by rw[if_neg h2,if_neg h3]⟩)
theorem Ek(t a:Int)(e:bm)(hl:cC e.proof≤1048576):aE Tryz.prog 50 [.a 2 [J t,J a], .a 9 (bM e)] (B (bS t a e)):=by
 refine cF Tryz.func50 (h:= ?_)
 repeat'((conv=>whnf);first
  |(apply bo.mk;first|(rfl;done)|(simp_all[bS,aN,aM];done)|(simp_all[bS,aN,aM];omega;done)|(simp_all[bS,aN,aM];intros;omega;done)|(simp_all[-List.all_eq_true, -List.all_eq_false,bS,aN,aM];done)|(simp_all[-List.all_eq_true, -List.all_eq_false,bS,aN,aM];omega;done)|((simp only[List.length_map];simp_all[bS,aN,aM];done);done)|((simp only[List.length_map];simp_all[bS,aN,aM];omega);done)|skip)
  |(apply Fact.mk;intro hL;try simp only[List.length_map,maxLen] at hL)
  |((first|apply bA|apply bB|apply bC|apply bD|apply bE|apply bF)<;>intro h<;>(try simp only[List.length_map] at h)<;>(try omega)<;>(try contradiction))|(guard_target=aa _ 45 _ _ _ _;refine cP rfl (eU _ _ _) ?_)|(guard_target=aa _ 97 _ _ _ _;refine cP rfl (vS t a e.bu e.proof hl) ?_)|(guard_target=aa _ 100 _ _ _ _;refine cP rfl (rF e.proof) ?_)
  |refine nO ?_)
theorem Di(x:ag)(e:bm)(hl:cC e.proof≤1048576):aE Tryz.prog 40 [.c (.rp 4 (aJ x)), .c (.rp 9 (bM e))] (B (bS x.sig.au x.sig.aq e)):=by
 have hr:aE Tryz.prog 91 [.a 2 [J x.sig.au,J x.sig.aq], .c (.ro 1 (e.bu.map eI)), .c (.rp 4 ((bM e).drop 5))] (B (cU x.sig.au x.sig.aq e.bu e.proof)):=(uG _ _ e.bu e.proof hl).cut (.same (.same (.cut (k:=3) (by omega) .nil)))
 have he:aE Tryz.prog 92 [.c (.rp 4 ((bM e).drop 5))] (B (lT e.proof)):=(uN e.proof).cut (.cut (k:=3) (by omega) .nil)
 have hu:=JQ e.kind
 refine cF Tryz.func40 (h:= ?_)
 repeat'((conv=>whnf);first
  |(apply bo.mk;first|(rfl;done)|(simp_all[bS,aN,aM];done)|(simp_all[bS,aN,aM];omega;done)|(simp_all[bS,aN,aM];intros;omega;done)|(simp_all[-List.all_eq_true, -List.all_eq_false,bS,aN,aM];done)|(simp_all[-List.all_eq_true, -List.all_eq_false,bS,aN,aM];omega;done)|((simp only[List.length_map];rcases hu with⟨u1,u2⟩|⟨u1,u2⟩|⟨u1,u3,u2⟩<;>rw[u2] at* <;>simp_all[bS,aN,aM];done);done)|((simp only[List.length_map];rcases hu with⟨u1,u2⟩|⟨u1,u2⟩|⟨u1,u3,u2⟩<;>rw[u2] at* <;>simp_all[bS,aN,aM]<;>omega);done)|((have hk:e.kind=3:=(by omega);clear hu;simp only[List.length_map];simp_all[bS,aN,aM];done);done)|skip)
  |(apply Fact.mk;intro hL;try simp only[List.length_map,maxLen] at hL)
  |((first|apply bA|apply bB|apply bC|apply bD|apply bE|apply bF)<;>intro h<;>(try simp only[List.length_map] at h)<;>(try omega)<;>(try contradiction))|(guard_target=aa _ 90 _ _ _ _;refine cP rfl (D2 e.kind) ?_)|(guard_target=aa _ 86 _ _ _ _;refine cP rfl (dE _ _ _) ?_)|(guard_target=aa _ 91 _ _ _ _;refine cP rfl (hr) ?_)|(guard_target=aa _ 92 _ _ _ _;refine cP rfl (he) ?_)
  |refine nB ?_
  |apply cj.go
  |refine nO ?_)
noncomputable def lg(x:ag)(e:bm):Bool:=iA x&&bS x.sig.au x.sig.aq e
theorem p7(x:ag)(e:bm)(hx:cq x≤1048576)(he:gm e≤1048576):aE Tryz.prog 14 [.a 4 (aJ x), .a 9 (bM e)] (B (lg x e)):=by
 have hp:cC e.proof≤1048576:=by simp only[gm] at he;omega
 refine cF Tryz.func14 (h:= ?_)
 repeat'((conv=>whnf);first
  |(apply bo.mk;first|((unfold lg;rw[h];rfl);done)|skip)
  |((first|apply bA|apply bB|apply bC|apply bD|apply bE|apply bF)<;>intro h<;>(try simp only[List.length_map] at h)<;>(try omega)<;>(try contradiction))|(guard_target=aa _ 13 _ _ _ _;refine cP rfl (ob x hx) ?_)|(guard_target=aa _ 50 _ _ _ _;refine cP rfl (Ek _ _ e hp) ?_)
  |refine nO ?_)
end Go.Proofs.YtgbggaddpbghfaaGreat
namespace Go.Proofs.YtgbggaddpbghfaaGreat
open Go Go.KA Go.Proofs
set_option maxHeartbeats 16000000
set_option maxRecDepth 100000
def b8(a:ag)(s:Int):Bool:=dH 0 ((a.ab.length:Int)-1) s
theorem DU(a:ag)(s:Int):aE Tryz.prog 81 [.a 4 (aJ a),I s] (B (b8 a s)):=by
 refine cF Tryz.func81 (h:= ?_)
 repeat'((conv=>whnf);first
  |(apply bo.mk;first|((simp only[List.length_map];rfl);done)|skip)
  |(apply Fact.mk;intro hL;try simp only[List.length_map,maxLen] at hL)|(guard_target=aa _ 45 _ _ _ _;refine cP rfl (eU _ _ _) ?_)
  |refine aR ?_
  |refine nO ?_)
theorem Ke(a:ag)(s:Int):aE Tryz.prog 104 [.c (.rp 4 (aJ a)),I s] (B (b8 a s)):=by
 refine cF Tryz.func104 (h:= ?_)
 repeat'((conv=>whnf);first
  |(apply bo.mk;first|((simp only[List.length_map];rfl);done)|skip)
  |(apply Fact.mk;intro hL;try simp only[List.length_map,maxLen] at hL)|(guard_target=aa _ 86 _ _ _ _;refine cP rfl (dE _ _ _) ?_)
  |refine aR ?_
  |refine nO ?_)
end Go.Proofs.YtgbggaddpbghfaaGreat
namespace Go.Proofs.YtgbggaddpbghfaaGreat
open Go Go.KA Go.Proofs
set_option maxHeartbeats 16000000
set_option maxRecDepth 100000
def oO(n:Nat)(p:Nat→Bool):List Int:=((List.range n).filter p).map fun(i:Nat)=>(i:Int)
theorem Jm{n:Nat}{p:Nat→Bool}(h:p n=true):oO (n+1) p=oO n p++[(n:Int)]:=by
 simp[oO,List.range_succ,h]
theorem Mz{n:Nat}{p:Nat→Bool}(h:p n=false):oO (n+1) p=oO n p:=by
 simp[oO,List.range_succ,h]
theorem wM(n:Nat)(p:Nat→Bool):(oO n p).length≤n:=by
 have:=List.length_filter_le p (List.range n)
 simpa[oO] using this
abbrev sav(s:aT):List aS:=(s.notes.drop (0:Int).toNat).take (s.saved.toNat-(0:Int).toNat)
theorem Oi{a:ag}(h:GA a){i:Nat}(hi:i<a.ab.length):0≤(a.ab.getD i cO).saved∧(a.ab.getD i cO).saved≤((a.ab.getD i cO).notes.length:Int):=by
 have h4:=List.all_eq_true.1 h.2.2.2.1 _ (List.getElem_mem hi)
 rw[getD_eq hi]
 unfold bN at h4
 simp only[Bool.and_eq_true] at h4
 exact bW h4.2.1
section
variable(a:ag)(r:Bool)(id:Int)(hl:cq a≤1048576)
include hl
end
end Go.Proofs.YtgbggaddpbghfaaGreat
namespace Go.Proofs.YtgbggaddpbghfaaGreat
open Go Go.KA
theorem cB{α:Type}{l:List α}{i:Nat}{x:α}(h:i<l.length):(l.set i x)[i]? =some x:=by simp[h]
end Go.Proofs.YtgbggaddpbghfaaGreat
namespace Go.Proofs.YtgbggaddpbghfaaGreat
open Go Go.KA Go.Proofs
set_option maxHeartbeats 16000000
set_option maxRecDepth 100000
abbrev bQ(x:ae):List CV:=[J x.kind,J x.num, .own 66 3 (x.kids.map az)]
theorem rX{l:List ae}{i:Nat}{rows:List (List CV)}(hi:i<l.length)(h:rows=(l.take i).map az):rows++[bQ l[i]]=(l.take (i+1)).map az:=by
 rw[iz hi,h,dw]
theorem A8(x:ae)(hl:x.kids.length≤1048576)(hx:∀k∈x.kids,ai Tryz.prog 65 [.a 3 (af k)] [] (.a 3 (bQ k))):ai Tryz.prog 65 [.a 3 (aI x)] [] (.a 3 (bQ x)):=by
 refine cX Tryz.func65 (h:= ?_)
 repeat'((conv=>whnf);first
  |refine ah.mk ?_ ?_|(guard_target=~ aP 3 _ _ _ _ _ _;refine tJ (Nat × List (List CV)) [2,3,12,13] (fun⟨i,rows⟩=>[(14,I (i:Nat))]) (fun⟨i,rows⟩=>[(5, .cells [.c (J x.kind), .c (J x.num), .lw 3]),(3, .aG none 66 3 rows)]) (fun⟨i,rows⟩=>i≤x.kids.length∧rows=(x.kids.take i).map az) (fun⟨i,rows⟩=>x.kids.length-i) (0,[]) (by exact⟨Nat.zero_le _,rfl⟩) (fun A ha=> ?_);obtain⟨i,rows⟩:=A;have ha:i≤x.kids.length∧rows=(x.kids.take i).map az:=ha;have hrl:rows.length=i:=(by rw[ha.2,List.length_map,List.length_take];omega))
  |refine nx ((i+1,rows++[bQ x.kids[i]]):Nat × List (List CV)) (by exact⟨by show i+1≤_;omega,rX (by omega) ha.2⟩)
  |(apply Fact.mk;intro hL;try simp only[List.length_map,maxLen] at hL)
  |((first|apply bA|apply bB|apply bC|apply bD|apply bE|apply bF)<;>intro h<;>(try simp only[List.length_map] at h)<;>(try omega)<;>(try contradiction))|(guard_target=aa _ 65 _ _ _ _;refine cG [] rfl (hx _ (List.getElem_mem (by omega))) ?_)
  |refine aR ?_|(guard_target=Index _ _ _;first|refine Index.mk _ (bz (i:=i) (by omega)) ?_)
  |refine iX (k:= ?_)
  |refine nB ?_
  |apply ay.no
  |apply cj.go|(guard_target=aQ _ _;refine aQ.mk (by first|((simp only[List.length_cons,List.length_nil,maxLen];constructor<;>omega))|fail) ?_)
  |refine nO ?_)
 all_goals first|rfl|trivial|(have h9:=ha.2;rw[List.take_of_length_le (by omega)] at h9;rw[h9];rfl)
theorem Ep(x:ae)(hl:x.kids.length≤1048576)(hx:∀k∈x.kids,ai Tryz.prog 137 [.c (.rp 3 (af k))] [] (.a 3 (bQ k))):ai Tryz.prog 137 [.c (.rp 3 (aI x))] [] (.a 3 (bQ x)):=by
 refine cX Tryz.func137 (h:= ?_)
 repeat'((conv=>whnf);first
  |refine ah.mk ?_ ?_|(guard_target=~ aP 3 _ _ _ _ _ _;refine tJ (Nat × List (List CV)) [0,2,3] (fun⟨i,rows⟩=>[(4,I (i:Nat))]) (fun⟨i,rows⟩=>[(4, .cells [.c (J x.kind), .c (J x.num), .lw 2]),(2, .aG none 66 3 rows)]) (fun⟨i,rows⟩=>i≤x.kids.length∧rows=(x.kids.take i).map az) (fun⟨i,rows⟩=>x.kids.length-i) (0,[]) (by exact⟨Nat.zero_le _,rfl⟩) (fun A ha=> ?_);obtain⟨i,rows⟩:=A;have ha:i≤x.kids.length∧rows=(x.kids.take i).map az:=ha;have hrl:rows.length=i:=(by rw[ha.2,List.length_map,List.length_take];omega))
  |refine nx ((i+1,rows++[bQ x.kids[i]]):Nat × List (List CV)) (by exact⟨by show i+1≤_;omega,rX (by omega) ha.2⟩)
  |(apply Fact.mk;intro hL;try simp only[List.length_map,maxLen] at hL)
  |((first|apply bA|apply bB|apply bC|apply bD|apply bE|apply bF)<;>intro h<;>(try simp only[List.length_map] at h)<;>(try omega)<;>(try contradiction))|(guard_target=aa _ 137 _ _ _ _;refine cG [] rfl (hx _ (List.getElem_mem (by omega))) ?_)
  |refine aR ?_|(guard_target=Index _ _ _;first|refine Index.mk _ (bz (i:=i) (by omega)) ?_)
  |refine iX (k:= ?_)
  |refine nB ?_
  |apply ay.no
  |apply cj.go|(guard_target=aQ _ _;refine aQ.mk (by first|((simp only[List.length_cons,List.length_nil,maxLen];constructor<;>omega))|fail) ?_)
  |refine nO ?_)
 all_goals first|rfl|trivial|(have h9:=ha.2;rw[List.take_of_length_le (by omega)] at h9;rw[h9];rfl)
theorem oS(x:ae)(hb:ao x≤1048576):ai Tryz.prog 65 [.a 3 (af x)] [] (.a 3 (bQ x)):=by
 rw[a9]
 have h1:fm ao x.kids≤ao x:=by
  cases x
  simp only[ao,l7,ae.kids]
  exact Nat.le_refl _
 exact A8 x (by have:=eg ao x.kids;omega) fun k _hk=>oS k (by have:=cY ao _hk;omega)
 termination_by SizeOf.sizeOf x
 decreasing_by
  have:=List.sizeOf_lt_of_mem _hk
  cases x
  simp only[ae.mk.sizeOf_spec]
  show SizeOf.sizeOf k<_
  simp only[ae.kids] at this
  omega
theorem er(x:ae)(hb:ao x≤1048576):ai Tryz.prog 137 [.c (.rp 3 (af x))] [] (.a 3 (bQ x)):=by
 rw[a9]
 have h1:fm ao x.kids≤ao x:=by
  cases x
  simp only[ao,l7,ae.kids]
  exact Nat.le_refl _
 exact Ep x (by have:=eg ao x.kids;omega) fun k _hk=>er k (by have:=cY ao _hk;omega)
 termination_by SizeOf.sizeOf x
 decreasing_by
  have:=List.sizeOf_lt_of_mem _hk
  cases x
  simp only[ae.mk.sizeOf_spec]
  show SizeOf.sizeOf k<_
  simp only[ae.kids] at this
  omega
theorem qf(x:ae)(hb:ao x≤1048576):ai Tryz.prog 65 [.a 3 (aI x)] [] (.a 3 (bQ x)):=by
 have:=oS x hb
 rwa[a9] at this
theorem oB(x:ae)(hb:ao x≤1048576)(r:List CV)(n:Nat)(hn:3≤n):ai Tryz.prog 137 [.c (.rp n (aI x++r))] [] (.a 3 (bQ x)):=by
 have:=er x hb
 rw[a9] at this
 exact this.cut (.cut (k:=3) hn .nil)
inductive oh:List CV→List CV→Prop
 |nil:oh [] []
 |same {c cs cs'} (h:oh cs cs'):oh (c::cs) (c::cs')
 |up {ty sz rows cs cs'} (h:oh cs cs'):oh (.ows ty sz rows::cs) (.own ty sz rows::cs')
theorem oh.den{w:World}{ok:Nat→Prop}{cs cs':List CV}(h:oh cs cs'):∀{vs:List Value} {f:List Nat},Den w ok cs vs f→Den w ok cs' vs f:=by
 induction h with
 |nil=>intro vs f h;exact h
 |same h ih=>
  intro vs f hd
  cases hd with
  |any h1 ht=>exact .any h1 (ih ht)
  |val h1 ht=>exact .val h1 (ih ht)
  |cb ht=>exact .cb (ih ht)
  |ro a b c d e f ht=>exact .ro a b c d e f (ih ht)
  |rp a b c d ht=>exact .rp a b c d (ih ht)
  |own a b c ht=>exact .own a b c (ih ht)
  |ows a b c ht=>exact .ows a b c (ih ht)
  |eN a b c ht=>exact .eN a b c (ih ht)
  |op a b ht=>exact .op a b (ih ht)
  |ig a b c ht=>exact .ig a b c (ih ht)
 |up h ih=>
  intro vs f hd
  cases hd with
  |ows a b c ht=>
   have:=Den.own a b c (ih ht)
   simpa using this
theorem oh.len{cs cs':List CV}(h:oh cs cs'):cs.length=cs'.length:=by
 induction h<;>simp_all
end Go.Proofs.YtgbggaddpbghfaaGreat
namespace Go.Proofs.YtgbggaddpbghfaaGreat
open Go Go.KA Go.Proofs
set_option maxHeartbeats 16000000
set_option maxRecDepth 100000
theorem Cq(l:List Int)(hl:l.length≤1048576):ai Tryz.prog 112 [.c (.ro 1 (l.map eI))] [] (.c (.ows 2 1 (l.map eI))):=by
 refine cX Tryz.func112 (h:= ?_)
 repeat'((conv=>whnf);first
  |refine ah.mk ?_ ?_
  |(apply Fact.mk;intro hL;try simp only[List.length_map,maxLen] at hL)
  |((first|apply bA|apply bB|apply bC|apply bD|apply bE|apply bF)<;>intro h<;>(try simp only[List.length_map] at h)<;>(try omega)<;>(try contradiction))|(guard_target=Nv _ _;refine Nv.mk fun b hb=> ?_)|(guard_target=aQ _ _;refine aQ.mk (by first|((simp only[List.length_map,List.length_nil,maxLen];constructor<;>omega))|fail) ?_)
  |refine nO ?_)
 all_goals first|rfl|trivial|(rw[hb h])
theorem iT(l:List Int)(hl:l.length≤1048576):ai Tryz.prog 133 [.c (.ro 1 (l.map eI))] [] (.c (.ows 2 1 (l.map eI))):=by
 refine cX Tryz.func133 (h:= ?_)
 repeat'((conv=>whnf);first
  |refine ah.mk ?_ ?_
  |(apply Fact.mk;intro hL;try simp only[List.length_map,maxLen] at hL)|(guard_target=aQ _ _;refine aQ.mk (by first|((simp only[List.length_map,List.length_nil,maxLen];constructor<;>omega))|fail) ?_)
  |refine nO ?_)
 all_goals first|rfl|trivial
theorem r8(l:List ae)(hl:fm ao l≤1048576):ai Tryz.prog 199 [.c (.ro 3 (l.map af))] [] (.c (.own 66 3 (l.map az))):=by
 have hn:=eg ao l
 have hc:∀i (hi:i<l.length),ai Tryz.prog 65 [.a 3 (af l[i])] [] (.a 3 (bQ l[i])):=fun i hi=>oS _ (by have:=cY ao (List.getElem_mem hi);omega)
 refine cX Tryz.func199 (h:= ?_)
 repeat'((conv=>whnf);first
  |refine ah.mk ?_ ?_|(guard_target=~ aP 3 _ _ _ _ _ _;refine tJ (Nat × List (List CV)) [9,10] (fun⟨i,rows⟩=>[(3, .lw 1),(11,I (i:Nat))]) (fun⟨i,rows⟩=>[(1, .aG none 66 3 rows)]) (fun⟨i,rows⟩=>i≤l.length∧rows=(l.take i).map az) (fun⟨i,rows⟩=>l.length-i) (0,[]) (by exact⟨Nat.zero_le _,rfl⟩) (fun A ha=> ?_);obtain⟨i,rows⟩:=A;have ha:i≤l.length∧rows=(l.take i).map az:=ha;have hrl:rows.length=i:=(by rw[ha.2,List.length_map,List.length_take];omega))
  |refine nx ((i+1,rows++[bQ l[i]]):Nat × List (List CV)) (by exact⟨by show i+1≤_;omega,rX (by omega) ha.2⟩)
  |(apply Fact.mk;intro hL;try simp only[List.length_map,maxLen] at hL)
  |((first|apply bA|apply bB|apply bC|apply bD|apply bE|apply bF)<;>intro h<;>(try simp only[List.length_map] at h)<;>(try omega)<;>(try contradiction))|(guard_target=aa _ 65 _ _ _ _;refine cG [] rfl (hc i (by omega)) ?_)
  |refine aR ?_|(guard_target=Index _ _ _;first|refine Index.mk _ (bz (i:=i) (by omega)) ?_)
  |refine iX (k:= ?_)
  |apply ay.no|(guard_target=aQ _ _;refine aQ.mk (by first|((simp only[List.length_cons,List.length_nil,List.length_map,maxLen];constructor<;>omega))|((simp only[List.length_map];omega))|fail) ?_)
  |refine nO ?_)
 all_goals first|rfl|trivial|(have h9:=ha.2;rw[List.take_of_length_le (by omega)] at h9;rw[h9])
theorem pV(l:List ae)(hl:fm ao l≤1048576):ai Tryz.prog 186 [.c (.ro 3 (l.map af))] [] (.c (.own 66 3 (l.map az))):=by
 have hn:=eg ao l
 have hc:∀i (hi:i<l.length),ai Tryz.prog 137 [.c (.rp 3 (af l[i]))] [] (.a 3 (bQ l[i])):=fun i hi=>er _ (by have:=cY ao (List.getElem_mem hi);omega)
 refine cX Tryz.func186 (h:= ?_)
 repeat'((conv=>whnf);first
  |refine ah.mk ?_ ?_|(guard_target=~ aP 3 _ _ _ _ _ _;refine tJ (Nat × List (List CV)) [0] (fun⟨i,rows⟩=>[(3, .lw 1),(4,I (i:Nat))]) (fun⟨i,rows⟩=>[(1, .aG none 66 3 rows)]) (fun⟨i,rows⟩=>i≤l.length∧rows=(l.take i).map az) (fun⟨i,rows⟩=>l.length-i) (0,[]) (by exact⟨Nat.zero_le _,rfl⟩) (fun A ha=> ?_);obtain⟨i,rows⟩:=A;have ha:i≤l.length∧rows=(l.take i).map az:=ha;have hrl:rows.length=i:=(by rw[ha.2,List.length_map,List.length_take];omega))
  |refine nx ((i+1,rows++[bQ l[i]]):Nat × List (List CV)) (by exact⟨by show i+1≤_;omega,rX (by omega) ha.2⟩)
  |(apply Fact.mk;intro hL;try simp only[List.length_map,maxLen] at hL)
  |((first|apply bA|apply bB|apply bC|apply bD|apply bE|apply bF)<;>intro h<;>(try simp only[List.length_map] at h)<;>(try omega)<;>(try contradiction))|(guard_target=aa _ 137 _ _ _ _;refine cG [] rfl (hc i (by omega)) ?_)
  |refine aR ?_|(guard_target=Index _ _ _;first|refine Index.mk _ (bz (i:=i) (by omega)) ?_)
  |refine iX (k:= ?_)
  |apply ay.no|(guard_target=aQ _ _;refine aQ.mk (by first|((simp only[List.length_cons,List.length_nil,List.length_map,maxLen];constructor<;>omega))|fail) ?_)
  |refine nO ?_)
 all_goals first|rfl|trivial|(have h9:=ha.2;rw[List.take_of_length_le (by omega)] at h9;rw[h9])
theorem CE(s:aB)(hb:bO s≤1048576):ai Tryz.prog 173 [.a 5 (bU s)] [] (.a 5 (aY s)):=by
 have h0:s.path.length≤1048576∧fm ao s.au≤1048576∧fm ao s.c9≤1048576:=by simp only[bO] at hb;omega
 refine cX Tryz.func173 (h:= ?_)
 repeat'((conv=>whnf);first
  |refine ah.mk ?_ ?_|(guard_target=aa _ 112 _ _ _ _;refine cG [] rfl (Cq s.path h0.1) ?_)|(guard_target=aa _ 199 _ _ _ _;refine cG [] rfl (r8 s.au h0.2.1) ?_)|(guard_target=aa _ 199 _ _ _ _;refine cG [] rfl (r8 s.c9 h0.2.2) ?_)
  |refine iX (k:= ?_)
  |refine nB ?_
  |apply cj.go
  |refine nO ?_)
 all_goals first|rfl|trivial
theorem xY(s:aB)(hb:bO s≤1048576):ai Tryz.prog 166 [.c (.rp 5 (bU s))] [] (.a 5 (aY s)):=by
 have h0:s.path.length≤1048576∧fm ao s.au≤1048576∧fm ao s.c9≤1048576:=by simp only[bO] at hb;omega
 refine cX Tryz.func166 (h:= ?_)
 repeat'((conv=>whnf);first
  |refine ah.mk ?_ ?_|(guard_target=aa _ 133 _ _ _ _;refine cG [] rfl (iT s.path h0.1) ?_)|(guard_target=aa _ 186 _ _ _ _;refine cG [] rfl (pV s.au h0.2.1) ?_)|(guard_target=aa _ 186 _ _ _ _;refine cG [] rfl (pV s.c9 h0.2.2) ?_)
  |refine iX (k:= ?_)
  |refine nB ?_
  |apply cj.go
  |refine nO ?_)
 all_goals first|rfl|trivial
end Go.Proofs.YtgbggaddpbghfaaGreat
