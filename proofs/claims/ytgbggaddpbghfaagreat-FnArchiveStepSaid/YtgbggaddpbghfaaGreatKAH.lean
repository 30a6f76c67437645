/- Contract of the reference's event. Conditions: the archive's shape, the event's. -/
import Derived.Test.YtgbggaddpbghfaaGreatKAG
namespace Go.Proofs.YtgbggaddpbghfaaGreat
open Go Go.KA Go.Proofs
set_option maxHeartbeats 16000000
set_option maxRecDepth 100000
theorem JY{a:ag}{i:Int}(h:¬(cR a i).1=0):(cR a i).2=a:=by
 unfold cR at h⊢
 repeat' split at h
 all_goals first|(exfalso;exact h rfl)|skip
 all_goals(repeat' split)
 all_goals first|rfl|(exfalso;contradiction)
theorem IJ{a:ag}{i:Int}:(cR a i).2.aw=a.aw:=by
 unfold cR
 repeat' split
 all_goals rfl
section
variable(a:ag)(e:bm)(hw:WA a)(he:EA e)(hk9:1≤e.kind∧e.kind≤9)
include hw he
theorem L4(hk:e.kind=4):ai Tryz.prog 93 [.c (.op (cy a)), .c (.rp 9 (bM e))] [some [.op (cy (l4 a e).2)],none] (I (l4 a e).1):=by
 have h12:=hw.f12
 have hf:(cR a e.a).2.aw.length≤1048576:=by rw[IJ];omega
 rw[show l4 a e=fF a e.a by unfold l4;rw[if_pos hk]]
 by_cases ht:(cR a e.a).1=0
 ·rw[P0 ht]
  refine cX Tryz.func93 (h:= ?_)
  repeat'((conv=>whnf);first
   |refine ah.mk ?_ ?_
   |((first|apply bA|apply bB|apply bC|apply bD|apply bE|apply bF)<;>intro h<;>(try simp only[List.length_map] at h)<;>(try omega)<;>(try contradiction))|(guard_target=aa _ 121 _ _ _ _;refine cG [true,false] rfl (qD a e.a hw he.ra) ?_)|(guard_target=aa _ 122 _ _ _ _;refine cG [true,false] rfl (wJ (cR a e.a).2 e.a hf he.ra) ?_)
   |refine nO ?_)
  all_goals first|rfl|exact⟨rfl,trivial⟩|(exfalso;omega)|(exfalso;contradiction)
 ·rw[JD ht]
  have hl:=qD a e.a hw he.ra
  rw[JY ht] at hl
  refine cX Tryz.func93 (h:= ?_)
  repeat'((conv=>whnf);first
   |refine ah.mk ?_ ?_
   |((first|apply bA|apply bB|apply bC|apply bD|apply bE|apply bF)<;>intro h<;>(try simp only[List.length_map] at h)<;>(try omega)<;>(try contradiction))|(guard_target=aa _ 121 _ _ _ _;refine cG [true,false] rfl (hl) ?_)
   |refine nO ?_)
  all_goals first|rfl|exact⟨rfl,trivial⟩|(exfalso;omega)|(exfalso;contradiction)
theorem Lh(hk:e.kind=5):ai Tryz.prog 93 [.c (.op (cy a)), .c (.rp 9 (bM e))] [some [.op (cy (l4 a e).2)],none] (I (l4 a e).1):=by
 rw[show l4 a e=cR a e.a by unfold l4;rw[if_neg (by omega),if_pos hk]]
 refine cX Tryz.func93 (h:= ?_)
 repeat'((conv=>whnf);first
  |refine ah.mk ?_ ?_
  |((first|apply bA|apply bB|apply bC|apply bD|apply bE|apply bF)<;>intro h<;>(try simp only[List.length_map] at h)<;>(try omega)<;>(try contradiction))|(guard_target=aa _ 121 _ _ _ _;refine cG [true,false] rfl (qD a e.a hw he.ra) ?_)
  |refine nO ?_)
 all_goals first|rfl|exact⟨rfl,trivial⟩|(exfalso;omega)|(exfalso;contradiction)
theorem Lt(hk:e.kind=6):ai Tryz.prog 93 [.c (.op (cy a)), .c (.rp 9 (bM e))] [some [.op (cy (l4 a e).2)],none] (I (l4 a e).1):=by
 have h12:=hw.f12
 rw[Cu hk]
 refine cX Tryz.func93 (h:= ?_)
 repeat'((conv=>whnf);first
  |refine ah.mk ?_ ?_
  |((first|apply bA|apply bB|apply bC|apply bD|apply bE|apply bF)<;>intro h<;>(try simp only[List.length_map] at h)<;>(try omega)<;>(try contradiction))|(guard_target=aa _ 122 _ _ _ _;refine cG [true,false] rfl (wJ a e.a (by omega) he.ra) ?_)
  |refine nO ?_)
 all_goals first|rfl|exact⟨rfl,trivial⟩|(exfalso;omega)|(exfalso;contradiction)
theorem Kh(hk:¬e.kind=4∧¬e.kind=5∧¬e.kind=6)(hp:b8 a e.a=false):ai Tryz.prog 93 [.c (.op (cy a)), .c (.rp 9 (bM e))] [some [.op (cy (l4 a e).2)],none] (I (l4 a e).1):=by
 rw[K3 hk hp]
 obtain⟨h4,h5,h6⟩:=hk
 refine cX Tryz.func93 (h:= ?_)
 repeat'((conv=>whnf);first
  |refine ah.mk ?_ ?_
  |((first|apply bA|apply bB|apply bC|apply bD|apply bE|apply bF)<;>intro h<;>(try simp only[List.length_map] at h)<;>(try omega)<;>(try contradiction))|(guard_target=aa _ 118 _ _ _ _;refine cG [true,false] rfl (Hi a e hw he hp) ?_)|(guard_target=aa _ 119 _ _ _ _;refine cG [true,false] rfl (AB a e hw he hp) ?_)|(guard_target=aa _ 120 _ _ _ _;refine cG [true,false] rfl (Es a e hw he hp) ?_)|(guard_target=aa _ 123 _ _ _ _;refine cG [true,false] rfl (zJ a e hw he hp) ?_)
  |refine nO ?_)
 all_goals first|rfl|exact⟨rfl,trivial⟩|(exfalso;omega)|(exfalso;contradiction)
include hk9 in
theorem LK(hk:¬e.kind=4∧¬e.kind=5∧¬e.kind=6)(hp:b8 a e.a=true):ai Tryz.prog 93 [.c (.op (cy a)), .c (.rp 9 (bM e))] [some [.op (cy (l4 a e).2)],none] (I (l4 a e).1):=by
 rw[Ni hk hp]
 obtain⟨h4,h5,h6⟩:=hk
 by_cases h1:e.kind=1
 ·rw[if_pos h1]
  refine cX Tryz.func93 (h:= ?_)
  repeat'((conv=>whnf);first
   |refine ah.mk ?_ ?_
   |((first|apply bA|apply bB|apply bC|apply bD|apply bE|apply bF)<;>intro h<;>(try simp only[List.length_map] at h)<;>(try omega)<;>(try contradiction))|(guard_target=aa _ 118 _ _ _ _;refine cG [true,false] rfl (HX a e hw he hp) ?_)
   |refine nO ?_)
  all_goals first|rfl|exact⟨rfl,trivial⟩|(exfalso;omega)|(exfalso;contradiction)
 rw[if_neg h1]
 by_cases h2:e.kind=2
 ·rw[if_pos h2]
  refine cX Tryz.func93 (h:= ?_)
  repeat'((conv=>whnf);first
   |refine ah.mk ?_ ?_
   |((first|apply bA|apply bB|apply bC|apply bD|apply bE|apply bF)<;>intro h<;>(try simp only[List.length_map] at h)<;>(try omega)<;>(try contradiction))|(guard_target=aa _ 119 _ _ _ _;refine cG [true,false] rfl (zP a e hw he hp) ?_)
   |refine nO ?_)
  all_goals first|rfl|exact⟨rfl,trivial⟩|(exfalso;omega)|(exfalso;contradiction)
 rw[if_neg h2]
 by_cases h3:e.kind=3
 ·rw[if_pos h3]
  refine cX Tryz.func93 (h:= ?_)
  repeat'((conv=>whnf);first
   |refine ah.mk ?_ ?_
   |((first|apply bA|apply bB|apply bC|apply bD|apply bE|apply bF)<;>intro h<;>(try simp only[List.length_map] at h)<;>(try omega)<;>(try contradiction))|(guard_target=aa _ 120 _ _ _ _;refine cG [true,false] rfl (EL a e hw he hp) ?_)
   |refine nO ?_)
  all_goals first|rfl|exact⟨rfl,trivial⟩|(exfalso;omega)|(exfalso;contradiction)
 rw[if_neg h3]
 refine cX Tryz.func93 (h:= ?_)
 repeat'((conv=>whnf);first
  |refine ah.mk ?_ ?_
  |((first|apply bA|apply bB|apply bC|apply bD|apply bE|apply bF)<;>intro h<;>(try simp only[List.length_map] at h)<;>(try omega)<;>(try contradiction))|(guard_target=aa _ 123 _ _ _ _;refine cG [true,false] rfl (AD a e hw he hp (by omega)) ?_)
  |refine nO ?_)
 all_goals first|rfl|exact⟨rfl,trivial⟩|(exfalso;omega)|(exfalso;contradiction)
include hk9 in
theorem Dk:ai Tryz.prog 93 [.c (.op (cy a)), .c (.rp 9 (bM e))] [some [.op (cy (l4 a e).2)],none] (I (l4 a e).1):=by
 by_cases h4:e.kind=4
 ·exact L4 a e hw he h4
 by_cases h5:e.kind=5
 ·exact Lh a e hw he h5
 by_cases h6:e.kind=6
 ·exact Lt a e hw he h6
 cases hp:b8 a e.a with
 |false=>exact Kh a e hw he ⟨h4,h5,h6⟩ hp
 |true=>exact LK a e hw he hk9 ⟨h4,h5,h6⟩ hp
end
end Go.Proofs.YtgbggaddpbghfaaGreat
namespace Go.Proofs.YtgbggaddpbghfaaGreat
open Go Go.KA Go.Proofs
set_option maxRecDepth 100000
structure SA(s:aT):Prop where
 Fz:s.notes.length≤20
 sav:0≤s.saved∧s.saved≤(s.notes.length:Int)
 bn:∀n∈s.notes,bG n≤1048576
theorem WA.srv{a:ag}(hw:WA a){i:Nat}(hi:i<a.ab.length):SA (a.ab.getD i cO):=⟨(hw.sv i hi).1,(hw.sv i hi).2,hw.bn i hi⟩
theorem xH{l:List aT}{i k:Nat}{s:aT}(hk:k<l.length):(l.set i s).getD k cO=if i=k then s else l.getD k cO:=by
 rw[getD_eq (by rw[List.length_set];exact hk),List.getElem_set,getD_eq hk]
theorem WA.set{a:ag}(hw:WA a)(i:Int){s:aT}(hs:SA s):WA (iD a i s):=by
 have hl:(a.ab.set i.toNat s).length=a.ab.length:=List.length_set
 refine⟨?_,hw.f12,fun k hk=> ?_,fun k hk=> ?_,fun k hk=> ?_⟩
 ·show 1≤(a.ab.set i.toNat s).length∧(a.ab.set i.toNat s).length≤5
  rw[hl];exact hw.n5
 ·have hk':k<a.ab.length:=hl▸hk
  show((a.ab.set i.toNat s).getD k cO).notes.length≤20∧0≤((a.ab.set i.toNat s).getD k cO).saved∧((a.ab.set i.toNat s).getD k cO).saved≤(((a.ab.set i.toNat s).getD k cO).notes.length:Int)
  rw[xH hk']
  split
  ·exact⟨hs.Fz,hs.sav⟩
  ·exact hw.sv k hk'
 ·have hk':k<a.ab.length:=hl▸hk
  show∀n∈((a.ab.set i.toNat s).getD k cO).notes,bG n≤1048576
  rw[xH hk']
  split
  ·exact hs.bn
  ·exact hw.bn k hk'
 ·have:=hw.pk k hk
  show 0≤(a.aw.getD k jd).j1∧(a.aw.getD k jd).j1<((a.ab.set i.toNat s).length:Int)∧bG (a.aw.getD k jd).note≤1048576
  rw[hl];exact this
theorem SA.add{s:aT}(h:SA s)(hn:¬s.notes.length=20){n:aS}(hb:bG n≤1048576):SA (kj s n):=by
 have h1:=h.Fz
 have h2:=h.sav
 refine⟨?_, ?_,fun x hx=> ?_⟩
 ·show(s.notes++[n]).length≤20
  rw[List.length_append];simp only[List.length_singleton];omega
 ·show 0≤s.saved∧s.saved≤((s.notes++[n]).length:Int)
  rw[List.length_append];simp only[List.length_singleton];omega
 ·rcases List.mem_append.1 hx with hx|hx
  ·exact h.bn x hx
  ·rw[List.mem_singleton.1 hx];exact hb
theorem WA.O0{a:ag}(hw:WA a){l:List cJ}(hl:l.length≤12)(h:∀p∈l,0≤p.j1∧p.j1<(a.ab.length:Int)∧bG p.note≤1048576):WA ⟨a.sig,a.ab,l⟩:=by
 refine⟨hw.n5,hl,hw.sv,hw.bn,fun i hi=> ?_⟩
 show 0≤(l.getD i jd).j1∧(l.getD i jd).j1<(a.ab.length:Int)∧bG (l.getD i jd).note≤1048576
 rw[getD_eq hi]
 exact h _ (List.getElem_mem hi)
theorem WA.mem{a:ag}(hw:WA a){p:cJ}(hp:p∈a.aw):0≤p.j1∧p.j1<(a.ab.length:Int)∧bG p.note≤1048576:=by
 obtain⟨i,hi,rfl⟩:=List.mem_iff_getElem.1 hp
 have:=hw.pk i hi
 rwa[getD_eq hi] at this
theorem WA.drop{a:ag}(hw:WA a)(i:Int):WA (eP a i).2:=by
 have h12:=hw.f12
 unfold eP
 split
 ·exact hw
 ·refine hw.O0 ?_ fun p hp=> ?_
  ·rw[List.length_append,List.length_take,List.length_drop];omega
  ·rcases List.mem_append.1 hp with hp|hp
   ·exact hw.mem (List.mem_of_mem_take hp)
   ·exact hw.mem (List.mem_of_mem_drop hp)
theorem WA.take{a:ag}(hw:WA a){i:Int}(hi:0≤i):WA (cR a i).2:=by
 unfold cR
 repeat' split
 ·exact hw
 ·exact hw
 ·exact hw
 ·have hp:=hw.pk i.toNat (by omega)
  exact hw.set _ ((hw.srv (i:=(gI a i).j1.toNat) (by show(a.aw.getD i.toNat jd).j1.toNat<_;omega)).add (by assumption) hp.2.2)
theorem Mx{a:ag}{e:bm}(he:EA e):bG (wm a e)≤1048576:=by
 have:=he.bl
 show e.bu.length+cC e.proof≤1048576
 omega
theorem Mq(e:bm):bG (ya e)≤1048576:=by
 have:bG (ya e)=0:=rfl
 omega
theorem WA.step{a:ag}(hw:WA a){e:bm}(he:EA e):WA (l4 a e).2:=by
 have hz:=he.ra.1
 have hc:=he.rc.1
 unfold l4
 split
 ·unfold fF
  split
  ·exact(hw.take hz).drop _
  ·exact hw
 split
 ·exact hw.take hz
 split
 ·exact hw.drop _
 split
 ·exact hw
 have hp:b8 a e.a=true:=by cases hb:b8 a e.a with
  |true=>rfl
  |false=>contradiction
 have hpl:e.a.toNat<a.ab.length:=by have:=bW hp;have:=hw.n5;omega
 have hs:SA (sA a e.a):=hw.srv hpl
 split
 ·unfold eD
  repeat' split
  ·exact hw
  ·exact hw
  ·exact hw
  ·refine hw.set _ (hs.add ?_ (Mx he))
   rename_i h
   intro h20
   exact h (by rw[decide_eq_true h20];rfl)
 split
 ·unfold cK
  repeat' split
  ·exact hw
  ·exact hw
  ·exact hw
  ·exact hw.set _ (hs.add (by assumption) (Mq e))
 split
 ·unfold dy
  repeat' split
  ·exact hw
  ·exact hw
  ·exact hw
  ·have hf:=hw.f12
   rename_i h1 h2 h3
   simp only[Bool.or_eq_true,Bool.not_eq_true',decide_eq_true_eq,not_or,Bool.not_eq_false] at h1
   have hb:=bW h1.1
   refine hw.O0 (by rw[List.length_append];simp only[List.length_singleton];omega) fun p hp=> ?_
   rcases List.mem_append.1 hp with hp|hp
   ·exact hw.mem hp
   ·rw[List.mem_singleton.1 hp]
    have hn:e.c.toNat<(sA a e.a).notes.length:=by omega
    refine⟨hb.1,by show e.b<_;omega, ?_⟩
    show bG ((sA a e.a).notes.getD e.c.toNat n0)≤1048576
    rw[getD_eq hn]
    exact hs.bn _ (List.getElem_mem hn)
 have h1:=hs.Fz
 have h2:=hs.sav
 unfold iu
 repeat' split
 ·exact hw
 ·exact hw.set _ ⟨h1,⟨by show(0:Int)≤((sA a e.a).notes.length:Nat);omega,Int.le_refl _⟩,hs.bn⟩
 ·refine hw.set _ ⟨?_, ?_,fun n hn=>hs.bn n (List.mem_of_mem_take hn)⟩
  ·show((sA a e.a).notes.take _).length≤20
   rw[List.length_take];omega
  ·show 0≤(sA a e.a).saved∧(sA a e.a).saved≤(((sA a e.a).notes.take (sA a e.a).saved.toNat).length:Int)
   rw[List.length_take];omega
 ·exact hw.set _ ⟨h1,h2,hs.bn⟩
theorem WA.ca{a:ag}(hw:WA a):CA a:=by
 have h5:=hw.n5
 have h12:=hw.f12
 refine⟨by omega,by omega,fun i hi=> ?_,fun i hi k hk=> ?_,fun i hi=>(hw.pk i hi).2.2⟩
 ·have:=(hw.sv i hi).1;omega
 ·rw[getD_eq hk]
  exact hw.bn i hi _ (List.getElem_mem hk)
theorem WA.of{a:ag}(hg:GA a)(hb:cq a≤1048576):WA a:=by
 have hc:=CA.of hb
 have h5:=bW hg.2.1
 have h12:=hg.2.2.1
 refine⟨by omega,by omega,fun i hi=>⟨?_,Oi hg hi⟩,fun i hi n hn=> ?_,fun i hi=> ?_⟩
 ·have h4:=List.all_eq_true.1 hg.2.2.2.1 _ (List.getElem_mem hi)
  rw[getD_eq hi]
  unfold bN at h4
  simp only[Bool.and_eq_true,decide_eq_true_eq] at h4
  omega
 ·obtain⟨k,hk,rfl⟩:=List.mem_iff_getElem.1 hn
  have:=hc.bn i hi k hk
  rwa[getD_eq hk] at this
 ·have h:=List.all_eq_true.1 hg.2.2.2.2.1 _ (List.getElem_mem hi)
  unfold fW at h
  simp only[Bool.and_eq_true] at h
  have h1:=bW h.1
  have h2:=hc.bp i hi
  rw[getD_eq hi] at h2⊢
  exact⟨h1.1,by omega,h2⟩
theorem EA.of{t c:Int}{e:bm}(hg:bS t c e=true)(hb:gm e≤1048576):EA e∧(1≤e.kind∧e.kind≤9):=by
 unfold bS at hg
 simp only[Bool.and_eq_true] at hg
 exact⟨⟨bW hg.2.1,bW hg.2.2.1,bW hg.2.2.2.1,hb⟩,bW hg.1⟩
end Go.Proofs.YtgbggaddpbghfaaGreat
namespace Go.Proofs.YtgbggaddpbghfaaGreat
open Go Go.KA Go.Proofs
set_option maxRecDepth 100000
structure GS(t c:Int)(s:aT):Prop where
 Fz:s.notes.length≤20
 lo:0≤s.saved
 hi:s.saved≤(s.notes.length:Int)
 up:s.up=true∨s.saved=(s.notes.length:Int)
 nt:∀i,i<s.notes.length→fx t c s.notes i=true
theorem eQ{x y z:Int}(h1:x≤z)(h2:z≤y):dH x y z=true:=by
 simp only[dH,Bool.and_eq_true,decide_eq_true_eq]
 omega
theorem Ph{t c:Int}{s:aT}(h:bN t c s=true):GS t c s:=by
 unfold bN at h
 simp only[Bool.and_eq_true,Bool.or_eq_true,decide_eq_true_eq,beq_iff_eq] at h
 obtain⟨h1,h2,h3,h4⟩:=h
 have h2:=bW h2
 exact⟨by omega,h2.1,h2.2,h3,fun i hi=>Cc h4 hi⟩
theorem LJ{n:Nat}{p:Nat→Bool}(h:∀i,i<n→p i=true):l3 n p=true:=by
 unfold l3
 rw[List.all_eq_true]
 intro i hi
 exact h i (by simpa using hi)
theorem OZ{t c:Int}{s:aT}(h:GS t c s):bN t c s=true:=by
 have h1:=h.Fz
 have h2:=h.lo
 have h3:=h.hi
 unfold bN
 simp only[Bool.and_eq_true,Bool.or_eq_true,decide_eq_true_eq,beq_iff_eq]
 exact⟨by omega,eQ h2 h3,h.up,LJ h.nt⟩
theorem GA.srv{a:ag}(hg:GA a){i:Nat}(hi:i<a.ab.length):GS a.sig.au a.sig.aq (a.ab.getD i cO):=by
 rw[getD_eq hi]
 exact Ph (List.all_eq_true.1 hg.2.2.2.1 _ (List.getElem_mem hi))
theorem jK{t c:Int}{l:List aS}{i:Nat}:fx t c l i=true↔bI t c (l.getD i n0)=true∧bK (l.take i) (l.getD i n0).bZ (l.getD i n0).id<0∧gz (l.take i) (l.getD i n0).entry.bu=true:=by
 unfold fx
 simp only[Bool.and_eq_true,decide_eq_true_eq]
theorem GS.add{t c:Int}{s:aT}(h:GS t c s)(hu:s.up=true)(hl:¬s.notes.length=20){n:aS}(h1:bI t c n=true)(h2:bK s.notes n.bZ n.id<0)(h3:gz s.notes n.entry.bu=true):GS t c (kj s n):=by
 have a1:=h.Fz
 have a2:=h.lo
 have a3:=h.hi
 have hlen:(s.notes++[n]).length=s.notes.length+1:=by simp
 refine⟨?_,a2, ?_, .inl hu,fun i hi=> ?_⟩
 ·show(s.notes++[n]).length≤20
  omega
 ·show s.saved≤((s.notes++[n]).length:Int)
  omega
 ·show fx t c (s.notes++[n]) i=true
  have hi:i<(s.notes++[n]).length:=hi
  by_cases e:i<s.notes.length
  ·have h4:=jK.1 (h.nt i e)
   rw[jK]
   have e1:(s.notes++[n]).getD i n0=s.notes.getD i n0:=by rw[List.getD_eq_getElem?_getD,List.getElem?_append_left e,←List.getD_eq_getElem?_getD]
   have e2:(s.notes++[n]).take i=s.notes.take i:=List.take_append_of_le_length (by omega)
   rw[e1,e2]
   exact h4
  ·have e:i=s.notes.length:=by omega
   subst e
   rw[jK]
   have e1:(s.notes++[n]).getD s.notes.length n0=n:=by rw[List.getD_eq_getElem?_getD,List.getElem?_append_right (Nat.le_refl _)];simp
   have e2:(s.notes++[n]).take s.notes.length=s.notes:=by rw[List.take_append_of_le_length (Nat.le_refl _)];exact List.take_of_length_le (Nat.le_refl _)
   rw[e1,e2]
   exact⟨h1,h2,h3⟩
theorem GS.OB{t c:Int}{s:aT}(h:GS t c s):GS t c ⟨false,s.notes.take s.saved.toNat,s.saved⟩:=by
 have a1:=h.Fz
 have a2:=h.lo
 have a3:=h.hi
 have hl:(s.notes.take s.saved.toNat).length=s.saved.toNat:=by rw[List.length_take];omega
 refine⟨?_,a2, ?_, .inr ?_,fun i hi=> ?_⟩
 ·show(s.notes.take s.saved.toNat).length≤20
  omega
 ·show s.saved≤((s.notes.take s.saved.toNat).length:Int)
  omega
 ·show s.saved=((s.notes.take s.saved.toNat).length:Int)
  omega
 ·have hi:i<(s.notes.take s.saved.toNat).length:=hi
  show fx t c (s.notes.take s.saved.toNat) i=true
  have h4:=jK.1 (h.nt i (by omega))
  rw[jK]
  have e1:(s.notes.take s.saved.toNat).getD i n0=s.notes.getD i n0:=by rw[List.getD_eq_getElem?_getD,List.getElem?_take,if_pos (by omega),←List.getD_eq_getElem?_getD]
  have e2:(s.notes.take s.saved.toNat).take i=s.notes.take i:=by rw[List.take_take,Nat.min_eq_left (by omega)]
  rw[e1,e2]
  exact h4
theorem Ia{x y:aS}(h:Alike x y):Alike y x:=fun h1 h2 h3=>(h h1.symm h3 h2).symm
theorem DL{l l':List aS}{n:aS}(h:dT l)(hn:∀y∈l,Alike n y)(hl:∀x∈l',x∈l∨x=n):dT l':=by
 intro x hx y hy
 rcases hl x hx with hx|rfl
 ·rcases hl y hy with hy|rfl
  ·exact h x hx y hy
  ·exact Ia (hn x hx)
 ·rcases hl y hy with hy|rfl
  ·exact hn y hy
  ·exact fun _ _ _=>rfl
theorem tT{l l':List aS}(h:dT l)(hl:∀x∈l',x∈l):dT l':=fun x hx y hy=>h x (hl x hx) y (hl y hy)
theorem CK{a:ag}{s:aT}(hs:s∈a.ab){x:aS}(hx:x∈s.notes):x∈iq a:=
 List.mem_append_left _ (List.mem_flatMap.2 ⟨s,hs,hx⟩)
theorem wo{a:ag}{p:cJ}(hp:p∈a.aw):p.note∈iq a:=List.mem_append_right _ (List.mem_map.2 ⟨p,hp,rfl⟩)
theorem mz{a:ag}{i:Nat}(hi:i<a.ab.length){x:aS}(hx:x∈(a.ab.getD i cO).notes):x∈iq a:=by
 rw[getD_eq hi] at hx
 exact CK (List.getElem_mem hi) hx
theorem xE{a:ag}{i:Int}{s:aT}{x:aS}(hx:x∈iq (iD a i s)):x∈iq a∨x∈s.notes:=by
 rcases List.mem_append.1 hx with hx|hx
 ·obtain⟨q,hq,hx⟩:=List.mem_flatMap.1 hx
  rcases List.mem_or_eq_of_mem_set hq with h|h
  ·exact .inl (CK h hx)
  ·exact .inr (h▸hx)
 ·exact .inl (List.mem_append_right _ hx)
theorem GA.set{a:ag}(hg:GA a)(i:Int){s:aT}(hs:GS a.sig.au a.sig.aq s)(hn:dT (iq (iD a i s))):GA (iD a i s):=by
 have hl:(a.ab.set i.toNat s).length=a.ab.length:=List.length_set
 refine⟨hg.1, ?_,hg.2.2.1, ?_, ?_,hn⟩
 ·show dH 1 5 ((a.ab.set i.toNat s).length:Nat)=true
  rw[hl];exact hg.2.1
 ·show(a.ab.set i.toNat s).all (bN a.sig.au a.sig.aq)=true
  rw[List.all_eq_true]
  intro q hq
  rcases List.mem_or_eq_of_mem_set hq with h|h
  ·exact List.all_eq_true.1 hg.2.2.2.1 q h
  ·rw[h];exact OZ hs
 ·show a.aw.all (fW a.sig.au a.sig.aq ((a.ab.set i.toNat s).length:Nat))=true
  rw[hl];exact hg.2.2.2.2.1
theorem GA.wQ{a:ag}(hg:GA a)(i:Nat)(hi:i<a.ab.length){s:aT}(hs:GS a.sig.au a.sig.aq s)(hn:∀x∈s.notes,x∈iq a):GA (iD a (i:Nat) s):=
 hg.set _ hs (tT hg.2.2.2.2.2 fun x hx=>(xE hx).elim id (hn x))
theorem G9{l:List aS}{r:Bool}{id:Int}(h:bK l r id<0):∀x∈l,x.id=id→x.bZ=r→False:=by
 intro x hx h1 h2
 have:0≤bK l r id:=nN.2 ⟨x,hx,by simp[fe,h1,h2]⟩
 omega
theorem LQ{l:List aS}{r:Bool}{id:Int}(h:∀x∈l,x.id=id→x.bZ=r→False):bK l r id<0:=by
 have h9:¬0≤bK l r id:=fun h0=>by
  obtain⟨x,hx,hp⟩:=nN.1 h0
  simp only[fe,Bool.and_eq_true,beq_iff_eq] at hp
  exact h x hx hp.2 hp.1
 omega
theorem GA.drop{a:ag}(hg:GA a)(i:Int):GA (eP a i).2:=by
 unfold eP
 split
 ·exact hg
 ·have hsub:∀p∈a.aw.take i.toNat++a.aw.drop (i.toNat+1),p∈a.aw:=fun p hp=>by
   rcases List.mem_append.1 hp with hp|hp
   ·exact List.mem_of_mem_take hp
   ·exact List.mem_of_mem_drop hp
  have h12:=hg.2.2.1
  refine⟨hg.1,hg.2.1, ?_,hg.2.2.2.1, ?_,tT hg.2.2.2.2.2 fun x hx=> ?_⟩
  ·show((a.aw.take i.toNat++a.aw.drop (i.toNat+1)).length:Int)≤12
   rw[List.length_append,List.length_take,List.length_drop];omega
  ·show(a.aw.take i.toNat++a.aw.drop (i.toNat+1)).all _=true
   rw[List.all_eq_true]
   exact fun p hp=>List.all_eq_true.1 hg.2.2.2.2.1 p (hsub p hp)
  ·rcases List.mem_append.1 hx with hx|hx
   ·exact List.mem_append_left _ hx
   ·obtain⟨p,hp,rfl⟩:=List.mem_map.1 hx
    exact wo (hsub p hp)
theorem Nt{a:ag}(hg:GA a){i:Int}(h0:0≤i)(hi:¬(a.aw.length:Int)≤i):gI a i∈a.aw∧bI a.sig.au a.sig.aq (gI a i).note=true∧0≤(gI a i).j1∧(gI a i).j1.toNat<a.ab.length:=by
 have hl:i.toNat<a.aw.length:=by omega
 have hm:gI a i∈a.aw:=by
  show a.aw.getD i.toNat jd∈_
  rw[getD_eq hl]
  exact List.getElem_mem hl
 have h:=List.all_eq_true.1 hg.2.2.2.2.1 _ hm
 unfold fW at h
 simp only[Bool.and_eq_true] at h
 have h1:=bW h.1
 exact⟨hm,h.2,h1.1,by omega⟩
theorem GA.take{a:ag}(hg:GA a){i:Int}(h0:0≤i):GA (cR a i).2:=by
 unfold cR
 split
 ·exact hg
 split
 ·exact hg
 split
 ·exact hg
 ·rename_i h1 h2 h3
  obtain⟨hm,hgn,ht,hlt⟩:=Nt hg h0 h1
  have hw:ln a (gI a i)=true:=by cases h:ln a (gI a i) with|true=>rfl|false=>exact absurd h h2
  unfold ln at hw
  simp only[Bool.and_eq_true,decide_eq_true_eq] at hw
  obtain⟨hu,hs,hk⟩:=hw
  have hS:GS a.sig.au a.sig.aq (sA a (gI a i).j1):=hg.srv hlt
  have:=hg.wQ (gI a i).j1.toNat hlt (hS.add hu h3 hgn hs hk) (fun x hx=>by
   rcases List.mem_append.1 hx with hx|hx
   ·exact mz hlt hx
   ·rw[List.mem_singleton.1 hx];exact wo hm)
  rwa[Int.toNat_of_nonneg ht] at this
theorem GA.step{a:ag}(hg:GA a){e:bm}(he:bS a.sig.au a.sig.aq e=true):GA (l4 a e).2:=by
 unfold bS at he
 simp only[Bool.and_eq_true] at he
 obtain⟨ek,ea,eb,ec,_,_,ev⟩:=he
 have ea:=bW ea
 have eb:=bW eb
 unfold l4
 split
 ·unfold fF
  split
  ·exact(hg.take ea.1).drop _
  ·exact hg
 split
 ·exact hg.take ea.1
 split
 ·exact hg.drop _
 split
 ·exact hg
 have hp:b8 a e.a=true:=by cases hb:b8 a e.a with
  |true=>rfl
  |false=>contradiction
 have hpl:e.a.toNat<a.ab.length:=by have:=bW hp;omega
 have hS:GS a.sig.au a.sig.aq (sA a e.a):=hg.srv hpl
 have hback:((e.a.toNat:Nat):Int)=e.a:=Int.toNat_of_nonneg ea.1
 split
 ·rename_i hk1
  rw[if_pos hk1] at ev
  simp only[Bool.and_eq_true] at ev
  unfold eD
  split
  ·exact hg
  split
  ·exact hg
  split
  ·exact hg
  ·rename_i h1 h2 h3
   simp only[Bool.or_eq_true,Bool.not_eq_true',decide_eq_true_eq,not_or,Bool.not_eq_false] at h1 h3
   have hnew:0≤jC a e.a:=by
        unfold jC
        have:(0:Int)≤(a.ab.length:Int)*(((sA a e.a).notes.countP (qK a.ab.length e.a):Nat):Int):=Int.mul_nonneg (Int.natCast_nonneg _) (Int.natCast_nonneg _)
        omega
   have hfree:∀x∈iq a,x.id=jC a e.a→x.bZ=false→False:=G9 (by
        have:=h3.2.2
        unfold nT at this
        simp only[decide_eq_true_eq] at this
        omega)
   refine hg.set _ (hS.add h1.1 h3.1 ?_ (LQ fun x hx=>hfree x (mz hpl hx)) h1.2) (DL (n:=wm a e) hg.2.2.2.2.2 (fun y hy h1 _ h3=>absurd h3 fun h3=>hfree y hy h1.symm h3) fun x hx=> ?_)
   ·unfold bI
    simp only[Bool.and_eq_true]
    refine⟨eQ hnew (by show jC a e.a≤99;omega), ?_⟩
    rw[if_neg (by show¬false=true;decide)]
    simp only[Bool.and_eq_true,beq_iff_eq]
    exact⟨rfl,ev.1⟩
   ·rcases xE hx with hx|hx
    ·exact .inl hx
    ·rcases List.mem_append.1 hx with hx|hx
     ·exact .inl (mz hpl hx)
     ·exact .inr (List.mem_singleton.1 hx)
 split
 ·unfold cK
  split
  ·exact hg
  split
  ·exact hg
  split
  ·exact hg
  ·rename_i h1 h2 h3
   simp only[Bool.or_eq_true,Bool.not_eq_true',decide_eq_true_eq,not_or,Bool.not_eq_false] at h2
   refine hg.set _ (hS.add h2.1 h3 ?_ (by show bK (sA a e.a).notes true e.b<0;omega) rfl) (DL (n:=ya e) hg.2.2.2.2.2 (fun y hy _ h2 _=>by cases h2) fun x hx=> ?_)
   ·unfold bI
    simp only[Bool.and_eq_true]
    exact⟨eQ eb.1 (by show e.b≤99;omega),rfl⟩
   ·rcases xE hx with hx|hx
    ·exact .inl hx
    ·rcases List.mem_append.1 hx with hx|hx
     ·exact .inl (mz hpl hx)
     ·exact .inr (List.mem_singleton.1 hx)
 split
 ·unfold dy
  split
  ·exact hg
  split
  ·exact hg
  split
  ·exact hg
  ·rename_i h1 h2 h3
   simp only[Bool.or_eq_true,Bool.not_eq_true',decide_eq_true_eq,not_or,Bool.not_eq_false] at h1
   have hb:=bW h1.1
   have hcn:e.c.toNat<(sA a e.a).notes.length:=by have:=(bW ec).1;omega
   have hin:(sA a e.a).notes.getD e.c.toNat n0∈(sA a e.a).notes:=by rw[getD_eq hcn];exact List.getElem_mem hcn
   have h12:=hg.2.2.1
   refine⟨hg.1,hg.2.1, ?_,hg.2.2.2.1, ?_,tT hg.2.2.2.2.2 fun x hx=> ?_⟩
   ·show((a.aw++[_]).length:Int)≤12
    rw[List.length_append];simp only[List.length_singleton];omega
   ·show(a.aw++[_]).all _=true
    rw[List.all_append,hg.2.2.2.2.1]
    simp only[Bool.true_and,List.all_cons,List.all_nil,Bool.and_true]
    unfold fW
    simp only[Bool.and_eq_true]
    exact⟨eQ hb.1 hb.2,(jK.1 (hS.nt _ hcn)).1⟩
   ·rcases List.mem_append.1 hx with hx|hx
    ·exact List.mem_append_left _ hx
    ·obtain⟨p,hp,rfl⟩:=List.mem_map.1 hx
     rcases List.mem_append.1 hp with hp|hp
     ·exact wo hp
     ·rw[List.mem_singleton.1 hp]
      exact mz hpl hin
 unfold iu
 split
 ·exact hg
 split
 ·have:=hg.wQ _ hpl (s:=⟨(sA a e.a).up,(sA a e.a).notes,((sA a e.a).notes.length:Nat)⟩) ⟨hS.Fz,Int.natCast_nonneg _,Int.le_refl _, .inr rfl,hS.nt⟩ fun x hx=>mz hpl hx
  rwa[hback] at this
 split
 ·have:=hg.wQ _ hpl hS.OB fun x hx=>mz hpl (List.mem_of_mem_take hx)
  rwa[hback] at this
 ·have:=hg.wQ _ hpl (s:=⟨true,(sA a e.a).notes,(sA a e.a).saved⟩) ⟨hS.Fz,hS.lo,hS.hi, .inl rfl,hS.nt⟩ fun x hx=>mz hpl hx
  rwa[hback] at this
structure Still(s s':aT):Prop where
 sv:s.saved≤s'.saved
 nt:s'.notes.take s.saved.toNat=s.notes.take s.saved.toNat
theorem Still.refl(s:aT):Still s s:=⟨Int.le_refl _,rfl⟩
end Go.Proofs.YtgbggaddpbghfaaGreat
namespace Go.Proofs.YtgbggaddpbghfaaGreat
open Go Go.KA Go.Proofs
set_option maxHeartbeats 16000000
set_option maxRecDepth 100000
theorem HB(s:aT):iV (eV s):=⟨trivial,g9 qq s.notes,trivial,trivial⟩
theorem Il(p:cJ):iV (ed p):=⟨trivial,qq p.note⟩
theorem Ex(a:ag):iV (fc a):=⟨trivial,trivial,g9 HB a.ab,g9 Il a.aw,trivial⟩
theorem tN(a:ag):j8 (.a 4 (fc a)):=fun x hx=>ng.1 (Ex a) x hx
theorem yW(l:List aT):il (l.map eV) (l.map bd):=il.map (fun s=>by
 refine .same ?_
 have h:fS [.own 51 7 (s.notes.map dP),J s.saved] [.ows 51 7 (db (s.notes.map dP)),J s.saved]:= .ows (.same .nil)
 rw[ch wY] at h
 exact h) l
theorem yd(o:Option Value)(l:List cJ):gE (.aG o 89 8 (l.map ed)) (.row o 89 8 (l.map bh)):=by
 have h:gE (.aG o 89 8 (l.map ed)) (.row o 89 8 (db (l.map ed))):= .row
 rwa[ch rR] at h
abbrev zA:ag:=⟨⟨0,0⟩,[],[]⟩
def ku(a:ag)(e:bm):Int × ag:=if(l4 a e).1=0 then l4 a e else((l4 a e).1,zA)
theorem ai.Ja{P:Program}{f:Nat}{args:List SV}{outs:List (Option (List CV))}{cs cs':List CV}{n:Nat}{c:Int}(h:ai P f args outs (.tup [.a n cs,I c]))(hc:oh cs cs'):ai P f args outs (.tup [.a n cs',I c]):=by
 refine⟨h.1,fun w ok vs fs h1 h2 h3 h4=>(h.2 w ok vs fs h1 h2 h3 h4).mono ?_⟩
 rintro e w' ⟨v,fr,fo,h5,h6,h7,h8,h9,h10⟩
 refine⟨v,fr,fo,h5,h6,h7,h8, ?_,h10⟩
 cases h9 with
 |v h=>
  cases h with
  |v h=>
   cases h fun _=>none with
   |c h=>cases h
 |tup h=>
  cases h with
  |cons ha ht=>
   refine .tup (.cons ?_ ht)
   cases ha with
   |v h=>
    refine .v fun ρ=> ?_
    cases h ρ with
    |c h=>cases h
    |a a1 a2=>first|exact .a (hc.len▸a1) (hc.den a2)|exact .a hc.len.symm (hc.den a2)|exact .a hc.len.symm (hc.den a1)
   |a hl h=>exact .a (hc.len▸hl) (hc.den h)
theorem IK{P:Program}{f:Nat}{args:List SV}{outs:List (Option (List CV))}{c:Int}(h:ai P f args outs (.tup [.a 4 [J 0,J 0, .ows 47 3 [], .ows 89 8 []],I c])):ai P f args outs (.tup [.a 4 (fc zA),I c]):=
 ai.Ja h (.same (.same (.up (.up .nil))))
theorem Ai{P:Program}{f:Nat}{args:List SV}{outs:List (Option (List CV))}{c:Int}(h:ai P f args outs (.tup [.a 4 [J 0,J 0, .ows 47 3 [], .ows 89 8 []],I c])):ai P f args outs (.tup [.a 4 (cy zA),I c]):=
 ai.Ja h (.same (.same (.up (.same .nil))))
theorem wF(a:ag)(e:bm)(hw:WA a)(he:EA e)(hk9:1≤e.kind∧e.kind≤9):ai Tryz.prog 41 [.c (.op (aJ a)), .c (.rp 9 (bM e))] [some [.op (aJ a)],none] (.tup [.a 4 (cy (ku a e).2),I (ku a e).1]):=by
 have hc:=hw.ca
 unfold ku
 by_cases h0:(l4 a e).1=0
 ·rw[if_pos h0]
  refine cX Tryz.func41 (fun reg_=>match reg_ with|2=>true|_=>false) (h:= ?_)
  repeat'((conv=>whnf);first
   |refine ah.mk ?_ ?_
   |((first|apply bA|apply bB|apply bC|apply bD|apply bE|apply bF)<;>intro h<;>(try simp only[List.length_map] at h)<;>(try omega)<;>(try contradiction))|(guard_target=aa _ 93 _ _ _ _;refine cG [true,false] rfl (Dk a e hw he hk9) ?_)|(guard_target=aa _ 68 _ _ _ _;refine aa.own _ _ rfl (tu a hc) (tN a) _ rfl ?_)|(guard_target=Gh _ _ _ _ _;refine Gh.soft 4 (b':= .aG none 47 3 (a.ab.map bd)) (.aG (yW _)) (Gh.soft 5 (yd _ _) (Gh.go ?_)))
   |refine iX (k:= ?_)
   |refine nB ?_
   |apply cj.go
   |refine nO ?_)
  all_goals first|rfl|exact⟨rfl,trivial⟩|(exfalso;omega)|(rw[h0];rfl)|(exfalso;contradiction)
 ·rw[if_neg h0]
  refine Ai ?_
  refine cX Tryz.func41 (fun reg_=>match reg_ with|2=>true|_=>false) (h:= ?_)
  repeat'((conv=>whnf);first
   |refine ah.mk ?_ ?_
   |((first|apply bA|apply bB|apply bC|apply bD|apply bE|apply bF)<;>intro h<;>(try simp only[List.length_map] at h)<;>(try omega)<;>(try contradiction))|(guard_target=aa _ 93 _ _ _ _;refine cG [true,false] rfl (Dk a e hw he hk9) ?_)|(guard_target=aa _ 68 _ _ _ _;refine aa.own _ _ rfl (tu a hc) (tN a) _ rfl ?_)|(guard_target=Gh _ _ _ _ _;refine Gh.soft 4 (b':= .aG none 47 3 (a.ab.map bd)) (.aG (yW _)) (Gh.soft 5 (yd _ _) (Gh.go ?_)))
   |refine iX (k:= ?_)
   |refine nB ?_
   |apply cj.go
   |refine nO ?_)
  all_goals first|rfl|exact⟨rfl,trivial⟩|(exfalso;omega)|(exfalso;contradiction)
end Go.Proofs.YtgbggaddpbghfaaGreat
namespace Go.Proofs.YtgbggaddpbghfaaGreat
open Go Go.KA Go.Proofs
set_option maxHeartbeats 16000000
set_option maxRecDepth 100000
noncomputable def p8(a:ag)(e:bm):Int × ag:=if lg a e=true then ku a e else(1,zA)
theorem MQ{a:ag}{e:bm}(h:lg a e=true)(hx:cq a≤1048576)(he:gm e≤1048576):WA a∧EA e∧(1≤e.kind∧e.kind≤9):=by
 unfold lg at h
 rw[Bool.and_eq_true] at h
 exact⟨.of ((sH a).1 h.1) hx,EA.of h.2 he⟩
section
variable(a:ag)(e:bm)(hx:cq a≤1048576)(he:gm e≤1048576)
include hx he
theorem vZ:ai Tryz.prog 10 [.a 4 (aJ a), .a 9 (bM e)] [] (.tup [.a 4 (fc (p8 a e).2),I (p8 a e).1]):=by
 have hv:=p7 a e hx he
 unfold p8
 cases hg:lg a e with
 |false=>
  rw[hg] at hv
  rw[if_neg (by decide)]
  refine IK ?_
  refine cX Tryz.func10 (h:= ?_)
  repeat'((conv=>whnf);first
   |refine ah.mk ?_ ?_
   |((first|apply bA|apply bB|apply bC|apply bD|apply bE|apply bF)<;>intro h<;>(try simp only[List.length_map] at h)<;>(try omega)<;>(try contradiction))|(guard_target=aa _ 14 _ _ _ _;refine cP rfl (hv) ?_)
   |refine iX (k:= ?_)
   |refine nB ?_
   |apply cj.go
   |refine nO ?_)
  all_goals first|rfl|trivial|exact⟨rfl,trivial⟩|(exfalso;omega)|(exfalso;contradiction)
 |true=>
  rw[hg] at hv
  rw[if_pos rfl]
  obtain⟨hw,hE,hk9⟩:=MQ hg hx he
  have hc:=hw.ca
  have hcp:=oY (l4 a e).2 (hw.step hE).ca
  rw[←rA] at hcp
  unfold ku
  by_cases h0:(l4 a e).1=0
  ·rw[if_pos h0]
   refine cX Tryz.func10 (h:= ?_)
   repeat'((conv=>whnf);first
        |refine ah.mk ?_ ?_
        |((first|apply bA|apply bB|apply bC|apply bD|apply bE|apply bF)<;>intro h<;>(try simp only[List.length_map] at h)<;>(try omega)<;>(try contradiction))|(guard_target=aa _ 14 _ _ _ _;refine cP rfl (hv) ?_)|(guard_target=aa _ 37 _ _ _ _;refine cG [] rfl (nj a hc) ?_)|(guard_target=aa _ 38 _ _ _ _;refine cG [true,false] rfl (yZ a e hw hE hk9) ?_)|(guard_target=aa _ 37 _ _ _ _;refine aa.own _ _ rfl hcp (tN _) _ rfl ?_)
        |refine iX (k:= ?_)
        |refine nB ?_
        |apply cj.go
        |refine nO ?_)
   all_goals first|rfl|trivial|exact⟨rfl,trivial⟩|(exfalso;omega)|(rw[h0];rfl)|(exfalso;contradiction)
  ·rw[if_neg h0]
   refine IK ?_
   refine cX Tryz.func10 (h:= ?_)
   repeat'((conv=>whnf);first
        |refine ah.mk ?_ ?_
        |((first|apply bA|apply bB|apply bC|apply bD|apply bE|apply bF)<;>intro h<;>(try simp only[List.length_map] at h)<;>(try omega)<;>(try contradiction))|(guard_target=aa _ 14 _ _ _ _;refine cP rfl (hv) ?_)|(guard_target=aa _ 37 _ _ _ _;refine cG [] rfl (nj a hc) ?_)|(guard_target=aa _ 38 _ _ _ _;refine cG [true,false] rfl (yZ a e hw hE hk9) ?_)
        |refine iX (k:= ?_)
        |refine nB ?_
        |apply cj.go
        |refine nO ?_)
   all_goals first|rfl|trivial|exact⟨rfl,trivial⟩|(exfalso;omega)|(exfalso;contradiction)
theorem qN:ai Tryz.prog 11 [.a 4 (aJ a), .a 9 (bM e)] [] (.tup [.a 4 (cy (p8 a e).2),I (p8 a e).1]):=by
 have hp:cC e.proof≤1048576:=by simp only[gm] at he;omega
 have ho:=K8 a hx
 have hv:=Di a e hp
 unfold p8 lg
 cases hg:iA a with
 |false=>
  rw[hg] at ho
  rw[Bool.false_and,if_neg (by decide)]
  refine Ai ?_
  refine cX Tryz.func11 (fun reg_=>match reg_ with|3=>true|_=>false) (h:= ?_)
  repeat'((conv=>whnf);first
   |refine ah.mk ?_ ?_
   |((first|apply bA|apply bB|apply bC|apply bD|apply bE|apply bF)<;>intro h<;>(try simp only[List.length_map] at h)<;>(try omega)<;>(try contradiction))|(guard_target=aa _ 39 _ _ _ _;refine cP rfl (ho) ?_)|(guard_target=aa _ 40 _ _ _ _;refine cP rfl (hv) ?_)
   |refine iX (k:= ?_)
   |apply cj.go
   |refine nO ?_)
  all_goals first|rfl|trivial|exact⟨rfl,trivial⟩|(exfalso;omega)|(exfalso;contradiction)
 |true=>
  rw[hg] at ho
  rw[Bool.true_and]
  cases hg2:bS a.sig.au a.sig.aq e with
  |false=>
   rw[hg2] at hv
   rw[if_neg (by decide)]
   refine Ai ?_
   refine cX Tryz.func11 (fun reg_=>match reg_ with|3=>true|_=>false) (h:= ?_)
   repeat'((conv=>whnf);first
        |refine ah.mk ?_ ?_
        |((first|apply bA|apply bB|apply bC|apply bD|apply bE|apply bF)<;>intro h<;>(try simp only[List.length_map] at h)<;>(try omega)<;>(try contradiction))|(guard_target=aa _ 39 _ _ _ _;refine cP rfl (ho) ?_)|(guard_target=aa _ 40 _ _ _ _;refine cP rfl (hv) ?_)
        |refine iX (k:= ?_)
        |apply cj.go
        |refine nO ?_)
   all_goals first|rfl|trivial|exact⟨rfl,trivial⟩|(exfalso;omega)|(exfalso;contradiction)
  |true=>
   rw[hg2] at hv
   rw[if_pos rfl]
   obtain⟨hw,hE,hk9⟩:=MQ (by unfold lg;rw[hg,hg2];rfl) hx he
   refine cX Tryz.func11 (fun reg_=>match reg_ with|3=>true|_=>false) (h:= ?_)
   repeat'((conv=>whnf);first
        |refine ah.mk ?_ ?_
        |((first|apply bA|apply bB|apply bC|apply bD|apply bE|apply bF)<;>intro h<;>(try simp only[List.length_map] at h)<;>(try omega)<;>(try contradiction))|(guard_target=aa _ 39 _ _ _ _;refine cP rfl (ho) ?_)|(guard_target=aa _ 40 _ _ _ _;refine cP rfl (hv) ?_)|(guard_target=aa _ 41 _ _ _ _;refine cG [true,false] rfl (wF a e hw hE hk9) ?_)|(guard_target=Gh _ _ _ _ _;refine Gh.Ax 1 _ rfl (Gh.go ?_))
        |refine iX (k:= ?_)
        |apply cj.go
        |refine nO ?_)
   all_goals first|rfl|trivial|exact⟨rfl,trivial⟩|(exfalso;omega)|(exfalso;contradiction)
end
end Go.Proofs.YtgbggaddpbghfaaGreat
namespace Go.Proofs.YtgbggaddpbghfaaGreat
open Go Go.KA Go.Proofs
set_option maxHeartbeats 16000000
set_option maxRecDepth 100000
end Go.Proofs.YtgbggaddpbghfaaGreat
namespace Go.Proofs.YtgbggaddpbghfaaGreat
open Go Go.KA Go.Proofs
set_option maxHeartbeats 16000000
set_option maxRecDepth 100000
theorem ai.N5{P:Program}{f:Nat}{args:List SV}{outs:List (Option (List CV))}{cs cs':List CV}{n:Nat}{ss:List SV}(h:ai P f args outs (.tup (.a n cs::ss)))(hc:oh cs cs'):ai P f args outs (.tup (.a n cs'::ss)):=by
 refine⟨h.1,fun w ok vs fs h1 h2 h3 h4=>(h.2 w ok vs fs h1 h2 h3 h4).mono ?_⟩
 rintro e w' ⟨v,fr,fo,h5,h6,h7,h8,h9,h10⟩
 refine⟨v,fr,fo,h5,h6,h7,h8, ?_,h10⟩
 cases h9 with
 |v h=>
  cases h with
  |v h=>
   cases h fun _=>none with
   |c h=>cases h
 |tup h=>
  cases h with
  |cons ha ht=>
   refine .tup (.cons ?_ ht)
   cases ha with
   |v h=>
    refine .v fun ρ=> ?_
    cases h ρ with
    |c h=>cases h
    |a a1 a2=>first|exact .a (hc.len▸a1) (hc.den a2)|exact .a hc.len.symm (hc.den a2)|exact .a hc.len.symm (hc.den a1)
   |a hl h=>exact .a (hc.len▸hl) (hc.den h)
section
variable(a:ag)(l:List bm)(hx:cq a≤1048576)(hl:fm gm l≤1048576)
include hx hl
end
end Go.Proofs.YtgbggaddpbghfaaGreat
namespace Go.Proofs.YtgbggaddpbghfaaGreat
open Go Go.KA Go.Proofs
set_option maxHeartbeats 16000000
set_option maxRecDepth 100000
section
variable(a:ag)(l:List bm)(hx:cq a≤1048576)(hl:fm gm l≤1048576)
include hx hl
end
end Go.Proofs.YtgbggaddpbghfaaGreat
namespace Go.Proofs.YtgbggaddpbghfaaGreat
open Go Go.KA Go.Proofs
set_option maxHeartbeats 16000000
set_option maxRecDepth 100000
end Go.Proofs.YtgbggaddpbghfaaGreat
namespace Go.Proofs.YtgbggaddpbghfaaGreat
open Go Go.KA Go.Proofs
set_option maxHeartbeats 16000000
set_option maxRecDepth 100000
section
variable(a:ag)(l:List bm)(hx:cq a≤1048576)(hl:fm gm l≤1048576)
include hx hl
end
end Go.Proofs.YtgbggaddpbghfaaGreat
namespace Go.Proofs.YtgbggaddpbghfaaGreat
open Go Go.KA
structure Src where
 code:List UInt8
 pos:Int
 AQ:Int
def da(s:Src):List CV:=[.ro 1 (s.code.map fun b=>[.val (.int .u8 (b.toNat:Int))]), .val (.int .i64 s.pos), .val (.int .u64 s.AQ)]
def Src.byte(s:Src):Int:=if s.pos<s.code.length then((s.code.getD s.pos.toNat 0).toNat:Int) else 0
def Src.BE(s:Src):Int:=IntKind.u64.wrap (IntKind.u64.wrap (IntKind.u64.wrap (s.AQ*6364136223846793005)+IntKind.u64.wrap s.byte)+1442695040888963407)
def mT(s:Src):Src:=⟨s.code,s.pos+1,s.BE⟩
def Fk(x:Int):Int:=IntKind.u64.wrap ((BitVec.ofInt IntKind.u64.bits (x.fdiv (2^40)) &&& BitVec.ofInt IntKind.u64.bits 255).toNat)
def qW(s:Src):Int:=if s.pos+1≤s.code.length then s.byte else Fk s.BE
theorem z0(x:Int):0≤Fk x∧Fk x≤255:=by
 unfold Fk
 have h:(BitVec.ofInt IntKind.u64.bits (x.fdiv (2^40)) &&& BitVec.ofInt IntKind.u64.bits 255).toNat≤255:=by
  rw[BitVec.toNat_and]
  exact Nat.le_trans Nat.and_le_right (by decide)
 generalize(BitVec.ofInt IntKind.u64.bits (x.fdiv (2^40)) &&& BitVec.ofInt IntKind.u64.bits 255).toNat=n at h
 simp only[IntKind.wrap,IntKind.bits,IntKind.signed,Bool.false_and]
 have:(n:Int) % 2^64=n:=by omega
 simp only[this]
 simp
 omega
theorem Lr(s:Src):0≤s.byte∧s.byte≤255:=by
 unfold Src.byte
 split
 ·have:=(s.code.getD s.pos.toNat 0).toNat_lt
  omega
 ·omega
theorem mY(s:Src):0≤qW s∧qW s≤255:=by
 unfold qW
 split
 ·exact Lr s
 ·exact z0 _
def Rd(s:Src)(n:Int):Prop:=0≤s.pos∧s.pos≤n
theorem Rd.next{s:Src}{n:Int}(h:Rd s n):Rd (mT s) (n+1):=by
 unfold Rd mT at*
 simp only
 omega
theorem Rd.mono{s:Src}{n m:Int}(h:Rd s n)(hm:n≤m):Rd s m:=by
 unfold Rd at*
 omega
def bP(s:Src)(n:Int):Int:=if n≤1 then 0 else if n>200 then(qW s*256+qW (mT s)).tmod n else(qW s).tmod n
def ar(s:Src)(n:Int):Src:=if n≤1 then s else if n>200 then mT (mT s) else mT s
theorem cH(s:Src){n:Int}(h:0<n):0≤bP s n∧bP s n<n:=by
 have h1:=mY s
 have h2:=mY (mT s)
 unfold bP
 split
 ·omega
 ·split
  ·exact⟨Int.tmod_nonneg _ (by omega),Int.tmod_lt_of_pos _ h⟩
  ·exact⟨Int.tmod_nonneg _ (by omega),Int.tmod_lt_of_pos _ h⟩
theorem Lc(s:Src)(n:Int):0≤bP s n:=by
 have h1:=mY s
 have h2:=mY (mT s)
 unfold bP
 split
 ·omega
 ·split
  ·exact Int.tmod_nonneg _ (by omega)
  ·exact Int.tmod_nonneg _ (by omega)
theorem Rd.pick{s:Src}{n:Int}(h:Rd s n)(k:Int):Rd (ar s k) (n+2):=by
 unfold ar
 split
 ·exact h.mono (by omega)
 ·split
  ·exact h.next.next.mono (by omega)
  ·exact h.next.mono (by omega)
def iZ(s:Src)(n:Int):Bool:=bP s n==0
def HL(s:Src):Src:=ar (ar (ar s 2) 2) 12
def GO(s:Src):ja × Src:=
 let t:=1+bP s 2
 let a:=1+bP (ar s 2) 2
 let k:=bP (ar (ar s 2) 2) 12
 if k=0 then(⟨bP (HL s) 4,a⟩,ar (HL s) 4)
 else if k=1 then(⟨t,bP (HL s) 5⟩,ar (HL s) 5)
 else(⟨t,a⟩,HL s)
theorem Rd.sig{s:Src}{n:Int}(h:Rd s n):Rd (GO s).2 (n+8):=by
 have h0:Rd (HL s) (n+6):=(((h.pick 2).pick 2).pick 12).mono (by omega)
 unfold GO
 simp only
 split
 ·exact(h0.pick 4).mono (by omega)
 ·split
  ·exact(h0.pick 5).mono (by omega)
  ·exact h0.mono (by omega)
structure FH where
 s:Src
 left:Int
def eW(r:FH)(g:ja):List CV:=[.op (da r.s), .val (.int .i64 g.au), .val (.int .i64 g.aq), .val (.int .i64 r.left)]
def gi(s:Src):ae × Src:=(.mk (1+bP s 2) 0 [],ar s 2)
def fK(g:ja)(s:Src):ae × Src:=
 if g.au>0 then
    if iZ s 4 then gi (ar s 4) else(.mk 3 (bP (ar s 4) g.au) [],ar (ar s 4) g.au)
 else gi s
def bV(g:ja)(c:Bool)(s:Src):ae × Src:=
 if c=false∧g.aq>0 then
    if iZ s 3 then fK g (ar s 3) else(.mk 4 (bP (ar s 3) g.aq) [],ar (ar s 3) g.aq)
 else fK g s
def sM(k:Int)(a b:ae):ae:= .mk k 0 [a,b]
def kU(c:Bool)(s:Src)(n:Int):Bool:=if c then true else iZ s n
def jk(c:Bool)(s:Src)(n:Int):Src:=if c then s else ar s n
def K1(g:ja)(c:Bool)(r:FH)(s:Src):ae × FH:=((bV g c s).1,⟨(bV g c s).2,r.left-1⟩)
def bx(g:ja):Nat→Bool→FH→ae × FH
 |0,c,r=>K1 g c r r.s
 |d+1,c,r=>
  if r.left-1<1 then K1 g c r r.s
  else if iZ r.s 6 then K1 g c r (ar r.s 6)
  else
   let k:=bP (ar r.s 6) 10
   let r1:FH:=⟨ar (ar r.s 6) 10,r.left-1⟩
   if k=0∨(c=true∧k<4) then(.mk 5 0 [(bx g d true r1).1],(bx g d true r1).2)
   else if k<4 then(.mk 8 0 [(bx g d false r1).1],(bx g d false r1).2)
   else
    let a:=bx g d (kU c r1.s 5) ⟨jk c r1.s 5,r1.left⟩
    let b:=bx g d (kU c a.2.s 6) ⟨jk c a.2.s 6,a.2.left⟩
    (sM (if k<6 then 6 else 7) a.1 b.1,b.2)
theorem Rd.half{s:Src}{n:Int}(h:Rd s n)(c:Bool)(k:Int):Rd (jk c s k) (n+2):=by
 unfold jk
 split
 ·exact h.mono (by omega)
 ·exact h.pick k
theorem Rd.Le{s:Src}{n:Int}(h:Rd s n):Rd (gi s).2 (n+2):=h.pick 2
theorem Rd.Jp{s:Src}{n:Int}(h:Rd s n)(g:ja):Rd (fK g s).2 (n+4):=by
 unfold fK
 split
 ·split
  ·exact((h.pick 4).Le).mono (by omega)
  ·exact((h.pick 4).pick g.au).mono (by omega)
 ·exact h.Le.mono (by omega)
theorem Rd.Fy{s:Src}{n:Int}(h:Rd s n)(g:ja)(c:Bool):Rd (bV g c s).2 (n+6):=by
 unfold bV
 split
 ·split
  ·exact((h.pick 3).Jp g).mono (by omega)
  ·exact((h.pick 3).pick g.aq).mono (by omega)
 ·exact(h.Jp g).mono (by omega)
def kR(d:Nat):Int:=20*3^d
theorem nC(d:Nat):kR (d+1)=3*kR d:=by unfold kR;rw[Int.pow_succ];omega
theorem lz:∀d:Nat,20≤kR d
 |0=>by decide
 |d+1=>by have:=lz d;rw[nC];omega
theorem Rd.expr(g:ja):∀(d:Nat) (c:Bool) (r:FH) {n:Int},Rd r.s n→Rd (bx g d c r).2.s (n+kR d)
 |0,c,r,n,h=>by
  have:=lz 0
  exact(h.Fy g c).mono (by omega)
 |d+1,c,r,n,h=>by
  have h1:=lz d
  have h2:=nC d
  have hp:=(h.pick 6).pick 10
  unfold bx
  split
  ·exact(h.Fy g c).mono (by omega)
  ·split
   ·exact((h.pick 6).Fy g c).mono (by omega)
   ·simp only
    split
    ·exact(Rd.expr g d true ⟨_,_⟩ hp).mono (by omega)
    ·split
     ·exact(Rd.expr g d false ⟨_,_⟩ hp).mono (by omega)
     ·have ha:=Rd.expr g d (kU c (ar (ar r.s 6) 10) 5) ⟨jk c (ar (ar r.s 6) 10) 5,r.left-1⟩ (hp.half c 5)
      exact(Rd.expr g d _ ⟨_,_⟩ (ha.half c 6)).mono (by omega)
def Nc(g:ja)(s:Src):ae:= .mk 3 (bP s g.au) []
def M8(g:ja)(s:Src):ae × Src:=
 if g.au>0 then
    if iZ s 3 then((bx g 3 true ⟨ar s 3,5⟩).1,(bx g 3 true ⟨ar s 3,5⟩).2.s)
    else if iZ (ar (ar s 3) g.au) 3 then(.mk 5 0 [Nc g (ar s 3)],ar (ar (ar s 3) g.au) 3)
    else(Nc g (ar s 3),ar (ar (ar s 3) g.au) 3)
 else((bx g 3 true ⟨s,5⟩).1,(bx g 3 true ⟨s,5⟩).2.s)
theorem Rd.cond{s:Src}{n:Int}(h:Rd s n)(g:ja):Rd (M8 g s).2 (n+600):=by
 have e:kR 3=540:=rfl
 unfold M8
 split
 ·split
  ·exact(Rd.expr g 3 true ⟨_,_⟩ (h.pick 3)).mono (by omega)
  ·split
   ·exact(((h.pick 3).pick g.au).pick 3).mono (by omega)
   ·exact(((h.pick 3).pick g.au).pick 3).mono (by omega)
 ·exact(Rd.expr g 3 true ⟨_,_⟩ h).mono (by omega)
theorem two_pow_succ(d:Nat):2^(d+1)=2*2^d:=by rw[Nat.pow_succ];omega
theorem ti(g:ja)(c:Bool)(s:Src):ao (bV g c s).1=0:=by
 have h0:∀s,ao (gi s).1=0:=fun s=>rfl
 have h1:∀s,ao (fK g s).1=0:=by
  intro s
  unfold fK
  split
  ·split
   ·exact h0 _
   ·rfl
  ·exact h0 _
 unfold bV
 split
 ·split
  ·exact h1 _
  ·rfl
 ·exact h1 _
theorem na(g:ja):∀(d:Nat) (c:Bool) (r:FH),ao (bx g d c r).1+2≤2^(d+1)
 |0,c,r=>by
  have:=ti g c r.s
  show ao (bV g c r.s).1+2≤2
  omega
 |d+1,c,r=>by
  have hp:=two_pow_succ (d+1)
  have h0:2≤2^(d+1):=by have:=two_pow_succ d;have:0<2^d:=Nat.pow_pos (by omega);omega
  unfold bx
  split
  ·have:=ti g c r.s
   show ao (bV g c r.s).1+2≤_
   omega
  ·split
   ·have:=ti g c (ar r.s 6)
    show ao (bV g c (ar r.s 6)).1+2≤_
    omega
   ·simp only
    split
    ·have:=na g d true ⟨ar (ar r.s 6) 10,r.left-1⟩
     simp only[ao,aK]
     omega
    ·split
     ·have:=na g d false ⟨ar (ar r.s 6) 10,r.left-1⟩
      simp only[ao,aK]
      omega
     ·simp only[sM,ao,aK]
      have h1:=na g d (kU c (ar (ar r.s 6) 10) 5) ⟨jk c (ar (ar r.s 6) 10) 5,r.left-1⟩
      have h2:=na g d (kU c (bx g d (kU c (ar (ar r.s 6) 10) 5) ⟨jk c (ar (ar r.s 6) 10) 5,r.left-1⟩).2.s 6) ⟨jk c (bx g d (kU c (ar (ar r.s 6) 10) 5) ⟨jk c (ar (ar r.s 6) 10) 5,r.left-1⟩).2.s 6,(bx g d (kU c (ar (ar r.s 6) 10) 5) ⟨jk c (ar (ar r.s 6) 10) 5,r.left-1⟩).2.left⟩
      omega
end Go.Proofs.YtgbggaddpbghfaaGreat
