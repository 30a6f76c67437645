/- Plain laws: an event keeps an archive's shape; the shape of what is valid. No conditions. -/
import Derived.Test.YtgbggaddpbghfaaGreatKAG
namespace Go.Proofs.YtgbggaddpbghfaaGreat
open Go Go.KA Go.Proofs
set_option maxRecDepth 100000
structure SA(s:aO):Prop where
 F5:s.notes.length≤20
 sav:0≤s.saved∧s.saved≤(s.notes.length:Int)
 bn:∀n∈s.notes,bu n≤1048576
theorem WA.srv{a:af}(hw:WA a){i:Nat}(hi:i<a.ab.length):SA (a.ab.getD i db):=⟨(hw.sv i hi).1,(hw.sv i hi).2,hw.bn i hi⟩
theorem vV{l:List aO}{i k:Nat}{s:aO}(hk:k<l.length):(l.set i s).getD k db=if i=k then s else l.getD k db:=by
 rw[getD_eq (by rw[List.length_set];exact hk),List.getElem_set,getD_eq hk]
theorem WA.set{a:af}(hw:WA a)(i:Int){s:aO}(hs:SA s):WA (iy a i s):=by
 have hl:(a.ab.set i.toNat s).length=a.ab.length:=List.length_set
 refine⟨?_,hw.f12,fun k hk=> ?_,fun k hk=> ?_,fun k hk=> ?_⟩
 ·show 1≤(a.ab.set i.toNat s).length∧(a.ab.set i.toNat s).length≤5
  rw[hl];exact hw.n5
 ·have hk':k<a.ab.length:=hl▸hk
  show((a.ab.set i.toNat s).getD k db).notes.length≤20∧0≤((a.ab.set i.toNat s).getD k db).saved∧((a.ab.set i.toNat s).getD k db).saved≤(((a.ab.set i.toNat s).getD k db).notes.length:Int)
  rw[vV hk']
  split
  ·exact⟨hs.F5,hs.sav⟩
  ·exact hw.sv k hk'
 ·have hk':k<a.ab.length:=hl▸hk
  show∀n∈((a.ab.set i.toNat s).getD k db).notes,bu n≤1048576
  rw[vV hk']
  split
  ·exact hs.bn
  ·exact hw.bn k hk'
 ·have:=hw.pk k hk
  show 0≤(a.aw.getD k jl).ju∧(a.aw.getD k jl).ju<((a.ab.set i.toNat s).length:Int)∧bu (a.aw.getD k jl).note≤1048576
  rw[hl];exact this
theorem SA.add{s:aO}(h:SA s)(hn:¬s.notes.length=20){n:aM}(hb:bu n≤1048576):SA (jB s n):=by
 have h1:=h.F5
 have h2:=h.sav
 refine⟨?_, ?_,fun x hx=> ?_⟩
 ·show(s.notes++[n]).length≤20
  rw[List.length_append];simp only[List.length_singleton];omega
 ·show 0≤s.saved∧s.saved≤((s.notes++[n]).length:Int)
  rw[List.length_append];simp only[List.length_singleton];omega
 ·rcases List.mem_append.1 hx with hx|hx
  ·exact h.bn x hx
  ·rw[List.mem_singleton.1 hx];exact hb
theorem WA.PU{a:af}(hw:WA a){l:List cB}(hl:l.length≤12)(h:∀p∈l,0≤p.ju∧p.ju<(a.ab.length:Int)∧bu p.note≤1048576):WA ⟨a.sig,a.ab,l⟩:=by
 refine⟨hw.n5,hl,hw.sv,hw.bn,fun i hi=> ?_⟩
 show 0≤(l.getD i jl).ju∧(l.getD i jl).ju<(a.ab.length:Int)∧bu (l.getD i jl).note≤1048576
 rw[getD_eq hi]
 exact h _ (List.getElem_mem hi)
theorem WA.mem{a:af}(hw:WA a){p:cB}(hp:p∈a.aw):0≤p.ju∧p.ju<(a.ab.length:Int)∧bu p.note≤1048576:=by
 obtain⟨i,hi,rfl⟩:=List.mem_iff_getElem.1 hp
 have:=hw.pk i hi
 rwa[getD_eq hi] at this
theorem WA.drop{a:af}(hw:WA a)(i:Int):WA (dP a i).2:=by
 have h12:=hw.f12
 unfold dP
 split
 ·exact hw
 ·refine hw.PU ?_ fun p hp=> ?_
  ·rw[List.length_append,List.length_take,List.length_drop];omega
  ·rcases List.mem_append.1 hp with hp|hp
   ·exact hw.mem (List.mem_of_mem_take hp)
   ·exact hw.mem (List.mem_of_mem_drop hp)
theorem WA.take{a:af}(hw:WA a){i:Int}(hi:0≤i):WA (bM a i).2:=by
 unfold bM
 repeat' split
 ·exact hw
 ·exact hw
 ·exact hw
 ·have hp:=hw.pk i.toNat (by omega)
  exact hw.set _ ((hw.srv (i:=(eQ a i).ju.toNat) (by show(a.aw.getD i.toNat jl).ju.toNat<_;omega)).add (by assumption) hp.2.2)
theorem Mg{a:af}{e:aS}(he:EA e):bu (wY a e)≤1048576:=by
 have:=he.bl
 show e.bj.length+b7 e.proof≤1048576
 omega
theorem L7(e:aS):bu (yr e)≤1048576:=by
 have:bu (yr e)=0:=rfl
 omega
theorem WA.step{a:af}(hw:WA a){e:aS}(he:EA e):WA (iB a e).2:=by
 have hz:=he.ra.1
 have hc:=he.rc.1
 unfold iB
 split
 ·unfold dR
  split
  ·exact(hw.take hz).drop _
  ·exact hw
 split
 ·exact hw.take hz
 split
 ·exact hw.drop _
 split
 ·exact hw
 have hp:bY a e.a=true:=by cases hb:bY a e.a with
  |true=>rfl
  |false=>contradiction
 have hpl:e.a.toNat<a.ab.length:=by have:=bX hp;have:=hw.n5;omega
 have hs:SA (sA a e.a):=hw.srv hpl
 split
 ·unfold eJ
  repeat' split
  ·exact hw
  ·exact hw
  ·exact hw
  ·refine hw.set _ (hs.add ?_ (Mg he))
   rename_i h
   intro h20
   exact h (by rw[decide_eq_true h20];rfl)
 split
 ·unfold cD
  repeat' split
  ·exact hw
  ·exact hw
  ·exact hw
  ·exact hw.set _ (hs.add (by assumption) (L7 e))
 split
 ·unfold dv
  repeat' split
  ·exact hw
  ·exact hw
  ·exact hw
  ·have hf:=hw.f12
   rename_i h1 h2 h3
   simp only[Bool.or_eq_true,Bool.not_eq_true',decide_eq_true_eq,not_or,Bool.not_eq_false] at h1
   have hb:=bX h1.1
   refine hw.PU (by rw[List.length_append];simp only[List.length_singleton];omega) fun p hp=> ?_
   rcases List.mem_append.1 hp with hp|hp
   ·exact hw.mem hp
   ·rw[List.mem_singleton.1 hp]
    have hn:e.c.toNat<(sA a e.a).notes.length:=by omega
    refine⟨hb.1,by show e.b<_;omega, ?_⟩
    show bu ((sA a e.a).notes.getD e.c.toNat n0)≤1048576
    rw[getD_eq hn]
    exact hs.bn _ (List.getElem_mem hn)
 have h1:=hs.F5
 have h2:=hs.sav
 unfold iw
 repeat' split
 ·exact hw
 ·exact hw.set _ ⟨h1,⟨by show(0:Int)≤((sA a e.a).notes.length:Nat);omega,Int.le_refl _⟩,hs.bn⟩
 ·refine hw.set _ ⟨?_, ?_,fun n hn=>hs.bn n (List.mem_of_mem_take hn)⟩
  ·show((sA a e.a).notes.take _).length≤20
   rw[List.length_take];omega
  ·show 0≤(sA a e.a).saved∧(sA a e.a).saved≤(((sA a e.a).notes.take (sA a e.a).saved.toNat).length:Int)
   rw[List.length_take];omega
 ·exact hw.set _ ⟨h1,h2,hs.bn⟩
theorem WA.ca{a:af}(hw:WA a):CA a:=by
 have h5:=hw.n5
 have h12:=hw.f12
 refine⟨by omega,by omega,fun i hi=> ?_,fun i hi k hk=> ?_,fun i hi=>(hw.pk i hi).2.2⟩
 ·have:=(hw.sv i hi).1;omega
 ·rw[getD_eq hk]
  exact hw.bn i hi _ (List.getElem_mem hk)
theorem WA.of{a:af}(hg:GA a)(hb:b8 a≤1048576):WA a:=by
 have hc:=CA.of hb
 have h5:=bX hg.2.1
 have h12:=hg.2.2.1
 refine⟨by omega,by omega,fun i hi=>⟨?_,N7 hg hi⟩,fun i hi n hn=> ?_,fun i hi=> ?_⟩
 ·have h4:=List.all_eq_true.1 hg.2.2.2.1 _ (List.getElem_mem hi)
  rw[getD_eq hi]
  unfold ck at h4
  simp only[Bool.and_eq_true,decide_eq_true_eq] at h4
  omega
 ·obtain⟨k,hk,rfl⟩:=List.mem_iff_getElem.1 hn
  have:=hc.bn i hi k hk
  rwa[getD_eq hk] at this
 ·have h:=List.all_eq_true.1 hg.2.2.2.2.1 _ (List.getElem_mem hi)
  unfold fZ at h
  simp only[Bool.and_eq_true] at h
  have h1:=bX h.1
  have h2:=hc.bp i hi
  rw[getD_eq hi] at h2⊢
  exact⟨h1.1,by omega,h2⟩
theorem EA.of{t c:Int}{e:aS}(hg:cH t c e=true)(hb:cN e≤1048576):EA e∧(1≤e.kind∧e.kind≤9):=by
 unfold cH at hg
 simp only[Bool.and_eq_true] at hg
 exact⟨⟨bX hg.2.1,bX hg.2.2.1,bX hg.2.2.2.1,hb⟩,bX hg.1⟩
end Go.Proofs.YtgbggaddpbghfaaGreat
namespace Go.Proofs.YtgbggaddpbghfaaGreat
open Go Go.KA Go.Proofs
set_option maxRecDepth 100000
structure GS(t c:Int)(s:aO):Prop where
 F5:s.notes.length≤20
 lo:0≤s.saved
 hi:s.saved≤(s.notes.length:Int)
 up:s.up=true∨s.saved=(s.notes.length:Int)
 nt:∀i,i<s.notes.length→fK t c s.notes i=true
theorem eL{x y z:Int}(h1:x≤z)(h2:z≤y):dJ x y z=true:=by
 simp only[dJ,Bool.and_eq_true,decide_eq_true_eq]
 omega
theorem PO{t c:Int}{s:aO}(h:ck t c s=true):GS t c s:=by
 unfold ck at h
 simp only[Bool.and_eq_true,Bool.or_eq_true,decide_eq_true_eq,beq_iff_eq] at h
 obtain⟨h1,h2,h3,h4⟩:=h
 have h2:=bX h2
 exact⟨by omega,h2.1,h2.2,h3,fun i hi=>Db h4 hi⟩
theorem LY{n:Nat}{p:Nat→Bool}(h:∀i,i<n→p i=true):l6 n p=true:=by
 unfold l6
 rw[List.all_eq_true]
 intro i hi
 exact h i (by simpa using hi)
theorem PB{t c:Int}{s:aO}(h:GS t c s):ck t c s=true:=by
 have h1:=h.F5
 have h2:=h.lo
 have h3:=h.hi
 unfold ck
 simp only[Bool.and_eq_true,Bool.or_eq_true,decide_eq_true_eq,beq_iff_eq]
 exact⟨by omega,eL h2 h3,h.up,LY h.nt⟩
theorem GA.srv{a:af}(hg:GA a){i:Nat}(hi:i<a.ab.length):GS a.sig.au a.sig.ai (a.ab.getD i db):=by
 rw[getD_eq hi]
 exact PO (List.all_eq_true.1 hg.2.2.2.1 _ (List.getElem_mem hi))
theorem jN{t c:Int}{l:List aM}{i:Nat}:fK t c l i=true↔cJ t c (l.getD i n0)=true∧bz (l.take i) (l.getD i n0).bU (l.getD i n0).id<0∧gG (l.take i) (l.getD i n0).entry.bj=true:=by
 unfold fK
 simp only[Bool.and_eq_true,decide_eq_true_eq]
theorem GS.add{t c:Int}{s:aO}(h:GS t c s)(hu:s.up=true)(hl:¬s.notes.length=20){n:aM}(h1:cJ t c n=true)(h2:bz s.notes n.bU n.id<0)(h3:gG s.notes n.entry.bj=true):GS t c (jB s n):=by
 have a1:=h.F5
 have a2:=h.lo
 have a3:=h.hi
 have hlen:(s.notes++[n]).length=s.notes.length+1:=by simp
 refine⟨?_,a2, ?_, .inl hu,fun i hi=> ?_⟩
 ·show(s.notes++[n]).length≤20
  omega
 ·show s.saved≤((s.notes++[n]).length:Int)
  omega
 ·show fK t c (s.notes++[n]) i=true
  have hi:i<(s.notes++[n]).length:=hi
  by_cases e:i<s.notes.length
  ·have h4:=jN.1 (h.nt i e)
   rw[jN]
   have e1:(s.notes++[n]).getD i n0=s.notes.getD i n0:=by rw[List.getD_eq_getElem?_getD,List.getElem?_append_left e,←List.getD_eq_getElem?_getD]
   have e2:(s.notes++[n]).take i=s.notes.take i:=List.take_append_of_le_length (by omega)
   rw[e1,e2]
   exact h4
  ·have e:i=s.notes.length:=by omega
   subst e
   rw[jN]
   have e1:(s.notes++[n]).getD s.notes.length n0=n:=by rw[List.getD_eq_getElem?_getD,List.getElem?_append_right (Nat.le_refl _)];simp
   have e2:(s.notes++[n]).take s.notes.length=s.notes:=by rw[List.take_append_of_le_length (Nat.le_refl _)];exact List.take_of_length_le (Nat.le_refl _)
   rw[e1,e2]
   exact⟨h1,h2,h3⟩
theorem GS.Pw{t c:Int}{s:aO}(h:GS t c s):GS t c ⟨false,s.notes.take s.saved.toNat,s.saved⟩:=by
 have a1:=h.F5
 have a2:=h.lo
 have a3:=h.hi
 have hl:(s.notes.take s.saved.toNat).length=s.saved.toNat:=by rw[List.length_take];omega
 refine⟨?_,a2, ?_, .inr ?_,fun i hi=> ?_⟩
 ·show(s.notes.take s.saved.toNat).length≤20
  omega
 ·show s.saved≤((s.notes.take s.saved.toNat).length:Int)
  omega
 ·show s.saved=((s.notes.take s.saved.toNat).length:Int)
  omega
 ·have hi:i<(s.notes.take s.saved.toNat).length:=hi
  show fK t c (s.notes.take s.saved.toNat) i=true
  have h4:=jN.1 (h.nt i (by omega))
  rw[jN]
  have e1:(s.notes.take s.saved.toNat).getD i n0=s.notes.getD i n0:=by rw[List.getD_eq_getElem?_getD,List.getElem?_take,if_pos (by omega),←List.getD_eq_getElem?_getD]
  have e2:(s.notes.take s.saved.toNat).take i=s.notes.take i:=by rw[List.take_take,Nat.min_eq_left (by omega)]
  rw[e1,e2]
  exact h4
theorem Hr{x y:aM}(h:Alike x y):Alike y x:=fun h1 h2 h3=>(h h1.symm h3 h2).symm
theorem Eg{l l':List aM}{n:aM}(h:dW l)(hn:∀y∈l,Alike n y)(hl:∀x∈l',x∈l∨x=n):dW l':=by
 intro x hx y hy
 rcases hl x hx with hx|rfl
 ·rcases hl y hy with hy|rfl
  ·exact h x hx y hy
  ·exact Hr (hn x hx)
 ·rcases hl y hy with hy|rfl
  ·exact hn y hy
  ·exact fun _ _ _=>rfl
theorem tJ{l l':List aM}(h:dW l)(hl:∀x∈l',x∈l):dW l':=fun x hx y hy=>h x (hl x hx) y (hl y hy)
theorem Ch{a:af}{s:aO}(hs:s∈a.ab){x:aM}(hx:x∈s.notes):x∈iz a:=
 List.mem_append_left _ (List.mem_flatMap.2 ⟨s,hs,hx⟩)
theorem wa{a:af}{p:cB}(hp:p∈a.aw):p.note∈iz a:=List.mem_append_right _ (List.mem_map.2 ⟨p,hp,rfl⟩)
theorem mh{a:af}{i:Nat}(hi:i<a.ab.length){x:aM}(hx:x∈(a.ab.getD i db).notes):x∈iz a:=by
 rw[getD_eq hi] at hx
 exact Ch (List.getElem_mem hi) hx
theorem wm{a:af}{i:Int}{s:aO}{x:aM}(hx:x∈iz (iy a i s)):x∈iz a∨x∈s.notes:=by
 rcases List.mem_append.1 hx with hx|hx
 ·obtain⟨q,hq,hx⟩:=List.mem_flatMap.1 hx
  rcases List.mem_or_eq_of_mem_set hq with h|h
  ·exact .inl (Ch h hx)
  ·exact .inr (h▸hx)
 ·exact .inl (List.mem_append_right _ hx)
theorem GA.set{a:af}(hg:GA a)(i:Int){s:aO}(hs:GS a.sig.au a.sig.ai s)(hn:dW (iz (iy a i s))):GA (iy a i s):=by
 have hl:(a.ab.set i.toNat s).length=a.ab.length:=List.length_set
 refine⟨hg.1, ?_,hg.2.2.1, ?_, ?_,hn⟩
 ·show dJ 1 5 ((a.ab.set i.toNat s).length:Nat)=true
  rw[hl];exact hg.2.1
 ·show(a.ab.set i.toNat s).all (ck a.sig.au a.sig.ai)=true
  rw[List.all_eq_true]
  intro q hq
  rcases List.mem_or_eq_of_mem_set hq with h|h
  ·exact List.all_eq_true.1 hg.2.2.2.1 q h
  ·rw[h];exact PB hs
 ·show a.aw.all (fZ a.sig.au a.sig.ai ((a.ab.set i.toNat s).length:Nat))=true
  rw[hl];exact hg.2.2.2.2.1
theorem GA.wS{a:af}(hg:GA a)(i:Nat)(hi:i<a.ab.length){s:aO}(hs:GS a.sig.au a.sig.ai s)(hn:∀x∈s.notes,x∈iz a):GA (iy a (i:Nat) s):=
 hg.set _ hs (tJ hg.2.2.2.2.2 fun x hx=>(wm hx).elim id (hn x))
theorem HB{l:List aM}{r:Bool}{id:Int}(h:bz l r id<0):∀x∈l,x.id=id→x.bU=r→False:=by
 intro x hx h1 h2
 have:0≤bz l r id:=ob.2 ⟨x,hx,by simp[gY,h1,h2]⟩
 omega
theorem MQ{l:List aM}{r:Bool}{id:Int}(h:∀x∈l,x.id=id→x.bU=r→False):bz l r id<0:=by
 have h9:¬0≤bz l r id:=fun h0=>by
  obtain⟨x,hx,hp⟩:=ob.1 h0
  simp only[gY,Bool.and_eq_true,beq_iff_eq] at hp
  exact h x hx hp.2 hp.1
 omega
theorem GA.drop{a:af}(hg:GA a)(i:Int):GA (dP a i).2:=by
 unfold dP
 split
 ·exact hg
 ·have hsub:∀p∈a.aw.take i.toNat++a.aw.drop (i.toNat+1),p∈a.aw:=fun p hp=>by
   rcases List.mem_append.1 hp with hp|hp
   ·exact List.mem_of_mem_take hp
   ·exact List.mem_of_mem_drop hp
  have h12:=hg.2.2.1
  refine⟨hg.1,hg.2.1, ?_,hg.2.2.2.1, ?_,tJ hg.2.2.2.2.2 fun x hx=> ?_⟩
  ·show((a.aw.take i.toNat++a.aw.drop (i.toNat+1)).length:Int)≤12
   rw[List.length_append,List.length_take,List.length_drop];omega
  ·show(a.aw.take i.toNat++a.aw.drop (i.toNat+1)).all _=true
   rw[List.all_eq_true]
   exact fun p hp=>List.all_eq_true.1 hg.2.2.2.2.1 p (hsub p hp)
  ·rcases List.mem_append.1 hx with hx|hx
   ·exact List.mem_append_left _ hx
   ·obtain⟨p,hp,rfl⟩:=List.mem_map.1 hx
    exact wa (hsub p hp)
theorem OW{a:af}(hg:GA a){i:Int}(h0:0≤i)(hi:¬(a.aw.length:Int)≤i):eQ a i∈a.aw∧cJ a.sig.au a.sig.ai (eQ a i).note=true∧0≤(eQ a i).ju∧(eQ a i).ju.toNat<a.ab.length:=by
 have hl:i.toNat<a.aw.length:=by omega
 have hm:eQ a i∈a.aw:=by
  show a.aw.getD i.toNat jl∈_
  rw[getD_eq hl]
  exact List.getElem_mem hl
 have h:=List.all_eq_true.1 hg.2.2.2.2.1 _ hm
 unfold fZ at h
 simp only[Bool.and_eq_true] at h
 have h1:=bX h.1
 exact⟨hm,h.2,h1.1,by omega⟩
theorem GA.take{a:af}(hg:GA a){i:Int}(h0:0≤i):GA (bM a i).2:=by
 unfold bM
 split
 ·exact hg
 split
 ·exact hg
 split
 ·exact hg
 ·rename_i h1 h2 h3
  obtain⟨hm,hgn,ht,hlt⟩:=OW hg h0 h1
  have hw:jK a (eQ a i)=true:=by cases h:jK a (eQ a i) with|true=>rfl|false=>exact absurd h h2
  unfold jK at hw
  simp only[Bool.and_eq_true,decide_eq_true_eq] at hw
  obtain⟨hu,hs,hk⟩:=hw
  have hS:GS a.sig.au a.sig.ai (sA a (eQ a i).ju):=hg.srv hlt
  have:=hg.wS (eQ a i).ju.toNat hlt (hS.add hu h3 hgn hs hk) (fun x hx=>by
   rcases List.mem_append.1 hx with hx|hx
   ·exact mh hlt hx
   ·rw[List.mem_singleton.1 hx];exact wa hm)
  rwa[Int.toNat_of_nonneg ht] at this
theorem GA.step{a:af}(hg:GA a){e:aS}(he:cH a.sig.au a.sig.ai e=true):GA (iB a e).2:=by
 unfold cH at he
 simp only[Bool.and_eq_true] at he
 obtain⟨ek,ea,eb,ec,_,_,ev⟩:=he
 have ea:=bX ea
 have eb:=bX eb
 unfold iB
 split
 ·unfold dR
  split
  ·exact(hg.take ea.1).drop _
  ·exact hg
 split
 ·exact hg.take ea.1
 split
 ·exact hg.drop _
 split
 ·exact hg
 have hp:bY a e.a=true:=by cases hb:bY a e.a with
  |true=>rfl
  |false=>contradiction
 have hpl:e.a.toNat<a.ab.length:=by have:=bX hp;omega
 have hS:GS a.sig.au a.sig.ai (sA a e.a):=hg.srv hpl
 have hback:((e.a.toNat:Nat):Int)=e.a:=Int.toNat_of_nonneg ea.1
 split
 ·rename_i hk1
  rw[if_pos hk1] at ev
  simp only[Bool.and_eq_true] at ev
  unfold eJ
  split
  ·exact hg
  split
  ·exact hg
  split
  ·exact hg
  ·rename_i h1 h2 h3
   simp only[Bool.or_eq_true,Bool.not_eq_true',decide_eq_true_eq,not_or,Bool.not_eq_false] at h1 h3
   have hnew:0≤jL a e.a:=by
        unfold jL
        have:(0:Int)≤(a.ab.length:Int)*(((sA a e.a).notes.countP (qT a.ab.length e.a):Nat):Int):=Int.mul_nonneg (Int.natCast_nonneg _) (Int.natCast_nonneg _)
        omega
   have hfree:∀x∈iz a,x.id=jL a e.a→x.bU=false→False:=HB (by
        have:=h3.2.2
        unfold oe at this
        simp only[decide_eq_true_eq] at this
        omega)
   refine hg.set _ (hS.add h1.1 h3.1 ?_ (MQ fun x hx=>hfree x (mh hpl hx)) h1.2) (Eg (n:=wY a e) hg.2.2.2.2.2 (fun y hy h1 _ h3=>absurd h3 fun h3=>hfree y hy h1.symm h3) fun x hx=> ?_)
   ·unfold cJ
    simp only[Bool.and_eq_true]
    refine⟨eL hnew (by show jL a e.a≤99;omega), ?_⟩
    rw[if_neg (by show¬false=true;decide)]
    simp only[Bool.and_eq_true,beq_iff_eq]
    exact⟨rfl,ev.1⟩
   ·rcases wm hx with hx|hx
    ·exact .inl hx
    ·rcases List.mem_append.1 hx with hx|hx
     ·exact .inl (mh hpl hx)
     ·exact .inr (List.mem_singleton.1 hx)
 split
 ·unfold cD
  split
  ·exact hg
  split
  ·exact hg
  split
  ·exact hg
  ·rename_i h1 h2 h3
   simp only[Bool.or_eq_true,Bool.not_eq_true',decide_eq_true_eq,not_or,Bool.not_eq_false] at h2
   refine hg.set _ (hS.add h2.1 h3 ?_ (by show bz (sA a e.a).notes true e.b<0;omega) rfl) (Eg (n:=yr e) hg.2.2.2.2.2 (fun y hy _ h2 _=>by cases h2) fun x hx=> ?_)
   ·unfold cJ
    simp only[Bool.and_eq_true]
    exact⟨eL eb.1 (by show e.b≤99;omega),rfl⟩
   ·rcases wm hx with hx|hx
    ·exact .inl hx
    ·rcases List.mem_append.1 hx with hx|hx
     ·exact .inl (mh hpl hx)
     ·exact .inr (List.mem_singleton.1 hx)
 split
 ·unfold dv
  split
  ·exact hg
  split
  ·exact hg
  split
  ·exact hg
  ·rename_i h1 h2 h3
   simp only[Bool.or_eq_true,Bool.not_eq_true',decide_eq_true_eq,not_or,Bool.not_eq_false] at h1
   have hb:=bX h1.1
   have hcn:e.c.toNat<(sA a e.a).notes.length:=by have:=(bX ec).1;omega
   have hin:(sA a e.a).notes.getD e.c.toNat n0∈(sA a e.a).notes:=by rw[getD_eq hcn];exact List.getElem_mem hcn
   have h12:=hg.2.2.1
   refine⟨hg.1,hg.2.1, ?_,hg.2.2.2.1, ?_,tJ hg.2.2.2.2.2 fun x hx=> ?_⟩
   ·show((a.aw++[_]).length:Int)≤12
    rw[List.length_append];simp only[List.length_singleton];omega
   ·show(a.aw++[_]).all _=true
    rw[List.all_append,hg.2.2.2.2.1]
    simp only[Bool.true_and,List.all_cons,List.all_nil,Bool.and_true]
    unfold fZ
    simp only[Bool.and_eq_true]
    exact⟨eL hb.1 hb.2,(jN.1 (hS.nt _ hcn)).1⟩
   ·rcases List.mem_append.1 hx with hx|hx
    ·exact List.mem_append_left _ hx
    ·obtain⟨p,hp,rfl⟩:=List.mem_map.1 hx
     rcases List.mem_append.1 hp with hp|hp
     ·exact wa hp
     ·rw[List.mem_singleton.1 hp]
      exact mh hpl hin
 unfold iw
 split
 ·exact hg
 split
 ·have:=hg.wS _ hpl (s:=⟨(sA a e.a).up,(sA a e.a).notes,((sA a e.a).notes.length:Nat)⟩) ⟨hS.F5,Int.natCast_nonneg _,Int.le_refl _, .inr rfl,hS.nt⟩ fun x hx=>mh hpl hx
  rwa[hback] at this
 split
 ·have:=hg.wS _ hpl hS.Pw fun x hx=>mh hpl (List.mem_of_mem_take hx)
  rwa[hback] at this
 ·have:=hg.wS _ hpl (s:=⟨true,(sA a e.a).notes,(sA a e.a).saved⟩) ⟨hS.F5,hS.lo,hS.hi, .inl rfl,hS.nt⟩ fun x hx=>mh hpl hx
  rwa[hback] at this
structure Still(s s':aO):Prop where
 sv:s.saved≤s'.saved
 nt:s'.notes.take s.saved.toNat=s.notes.take s.saved.toNat
theorem Still.refl(s:aO):Still s s:=⟨Int.le_refl _,rfl⟩
end Go.Proofs.YtgbggaddpbghfaaGreat
namespace Go.Proofs.YtgbggaddpbghfaaGreat
open Go Go.KA Go.Proofs
set_option maxHeartbeats 16000000
set_option maxRecDepth 100000
theorem IV(s:aO):ja (ee s):=⟨trivial,ig rB s.notes,trivial,trivial⟩
theorem Ih(p:cB):ja (dG p):=⟨trivial,rB p.note⟩
theorem FG(a:af):ja (du a):=⟨trivial,trivial,ig IV a.ab,ig Ih a.aw,trivial⟩
theorem kW(a:af):jJ (.a 4 (du a)):=fun x hx=>nq.1 (FG a) x hx
theorem zc(l:List aO):iq (l.map ee) (l.map bI):=iq.map (fun s=>by
 refine .same ?_
 have h:fS [.own 51 7 (s.notes.map dS),J s.saved] [.ows 51 7 (cW (s.notes.map dS)),J s.saved]:= .ows (.same .nil)
 rw[bQ wk] at h
 exact h) l
theorem zu(o:Option Value)(l:List cB):gH (.aG o 89 8 (l.map dG)) (.row o 89 8 (l.map aQ)):=by
 have h:gH (.aG o 89 8 (l.map dG)) (.row o 89 8 (cW (l.map dG))):= .row
 rwa[bQ oL] at h
abbrev zA:af:=⟨⟨0,0⟩,[],[]⟩
def fy(a:af)(e:aS):Int × af:=if(iB a e).1=0 then iB a e else((iB a e).1,zA)
theorem ah.Ji{P:Program}{f:Nat}{args:List SV}{outs:List (Option (List CV))}{cs cs':List CV}{n:Nat}{c:Int}(h:ah P f args outs (.tup [.a n cs,I c]))(hc:og cs cs'):ah P f args outs (.tup [.a n cs',I c]):=by
 refine⟨h.1,fun w ok vs fs h1 h2 h3 h4=>(h.2 w ok vs fs h1 h2 h3 h4).mono ?_⟩
 rintro e w' ⟨v,fr,fo,h5,h6,h7,h8,h9,h10⟩
 refine⟨v,fr,fo,h5,h6,h7,h8, ?_,h10⟩
 cases h9 with
 |v h=>
  cases h with
  |v h=>
   cases h fun _=>none with
   |c h=>cases h
 |tup h=>
  cases h with
  |cons ha ht=>
   refine .tup (.cons ?_ ht)
   cases ha with
   |v h=>
    refine .v fun ρ=> ?_
    cases h ρ with
    |c h=>cases h
    |a a1 a2=>first|exact .a (hc.len▸a1) (hc.den a2)|exact .a hc.len.symm (hc.den a2)|exact .a hc.len.symm (hc.den a1)
   |a hl h=>exact .a (hc.len▸hl) (hc.den h)
theorem Kl{P:Program}{f:Nat}{args:List SV}{outs:List (Option (List CV))}{c:Int}(h:ah P f args outs (.tup [.a 4 [J 0,J 0, .ows 47 3 [], .ows 89 8 []],I c])):ah P f args outs (.tup [.a 4 (du zA),I c]):=
 ah.Ji h (.same (.same (.up (.up .nil))))
theorem MD{P:Program}{f:Nat}{args:List SV}{outs:List (Option (List CV))}{c:Int}(h:ah P f args outs (.tup [.a 4 [J 0,J 0, .ows 47 3 [], .ows 89 8 []],I c])):ah P f args outs (.tup [.a 4 (cj zA),I c]):=
 ah.Ji h (.same (.same (.up (.same .nil))))
theorem xt(a:af)(e:aS)(hw:WA a)(he:EA e)(hk9:1≤e.kind∧e.kind≤9):ah Tryz.prog 41 [.c (.op (az a)), .c (.rp 9 (aT e))] [some [.op (az a)],none] (.tup [.a 4 (cj (fy a e).2),I (fy a e).1]):=by
 have hc:=hw.ca
 unfold fy
 by_cases h0:(iB a e).1=0
 ·rw[if_pos h0]
  refine cX Tryz.func41 (fun reg_=>match reg_ with|2=>true|_=>false) (h:= ?_)
  repeat'((conv=>whnf);first
   |refine aq.mk ?_ ?_
   |((first|apply bA|apply bB|apply bC|apply bD|apply bE|apply bF)<;>intro h<;>(try simp only[List.length_map] at h)<;>(try omega)<;>(try contradiction))|(guard_target=aa _ 93 _ _ _ _;refine cG [true,false] rfl (DG a e hw he hk9) ?_)|(guard_target=aa _ 68 _ _ _ _;refine aa.own _ _ rfl (pZ a hc) (kW a) _ rfl ?_)|(guard_target=Gh _ _ _ _ _;refine Gh.soft 4 (b':= .aG none 47 3 (a.ab.map bI)) (.aG (zc _)) (Gh.soft 5 (zu _ _) (Gh.go ?_)))
   |apply iV.go)
  all_goals first|rfl|exact⟨rfl,trivial⟩|(exfalso;omega)|(rw[h0];rfl)|(exfalso;contradiction)
 ·rw[if_neg h0]
  refine MD ?_
  refine cX Tryz.func41 (fun reg_=>match reg_ with|2=>true|_=>false) (h:= ?_)
  repeat'((conv=>whnf);first
   |refine aq.mk ?_ ?_
   |((first|apply bA|apply bB|apply bC|apply bD|apply bE|apply bF)<;>intro h<;>(try simp only[List.length_map] at h)<;>(try omega)<;>(try contradiction))|(guard_target=aa _ 93 _ _ _ _;refine cG [true,false] rfl (DG a e hw he hk9) ?_)|(guard_target=aa _ 68 _ _ _ _;refine aa.own _ _ rfl (pZ a hc) (kW a) _ rfl ?_)|(guard_target=Gh _ _ _ _ _;refine Gh.soft 4 (b':= .aG none 47 3 (a.ab.map bI)) (.aG (zc _)) (Gh.soft 5 (zu _ _) (Gh.go ?_)))
   |apply iV.go)
  all_goals first|rfl|exact⟨rfl,trivial⟩|(exfalso;omega)|(exfalso;contradiction)
end Go.Proofs.YtgbggaddpbghfaaGreat
namespace Go.Proofs.YtgbggaddpbghfaaGreat
open Go Go.KA Go.Proofs
set_option maxHeartbeats 16000000
set_option maxRecDepth 100000
noncomputable def DV(a:af)(e:aS):Int × af:=if rI a e=true then fy a e else(1,zA)
theorem P1{a:af}{e:aS}(h:rI a e=true)(hx:b8 a≤1048576)(he:cN e≤1048576):WA a∧EA e∧(1≤e.kind∧e.kind≤9):=by
 unfold rI at h
 rw[Bool.and_eq_true] at h
 exact⟨.of ((mW a).1 h.1) hx,EA.of h.2 he⟩
section
variable(a:af)(e:aS)(hx:b8 a≤1048576)(he:cN e≤1048576)
include hx he
theorem v9:ah Tryz.prog 10 [.a 4 (az a), .a 9 (aT e)] [] (.tup [.a 4 (du (DV a e).2),I (DV a e).1]):=by
 have hv:=yg a e hx he
 unfold DV
 cases hg:rI a e with
 |false=>
  rw[hg] at hv
  rw[if_neg (by decide)]
  refine Kl ?_
  refine cX Tryz.func10 (h:= ?_)
  repeat'((conv=>whnf);first
   |refine aq.mk ?_ ?_
   |((first|apply bA|apply bB|apply bC|apply bD|apply bE|apply bF)<;>intro h<;>(try simp only[List.length_map] at h)<;>(try omega)<;>(try contradiction))|(guard_target=aa _ 14 _ _ _ _;refine cP rfl (hv) ?_))
  all_goals first|rfl|trivial|exact⟨rfl,trivial⟩|(exfalso;omega)|(exfalso;contradiction)
 |true=>
  rw[hg] at hv
  rw[if_pos rfl]
  obtain⟨hw,hE,hk9⟩:=P1 hg hx he
  have hc:=hw.ca
  have hcp:=lF (iB a e).2 (hw.step hE).ca
  rw[←pc] at hcp
  unfold fy
  by_cases h0:(iB a e).1=0
  ·rw[if_pos h0]
   refine cX Tryz.func10 (h:= ?_)
   repeat'((conv=>whnf);first
        |refine aq.mk ?_ ?_
        |((first|apply bA|apply bB|apply bC|apply bD|apply bE|apply bF)<;>intro h<;>(try simp only[List.length_map] at h)<;>(try omega)<;>(try contradiction))|(guard_target=aa _ 14 _ _ _ _;refine cP rfl (hv) ?_)|(guard_target=aa _ 37 _ _ _ _;refine cG [] rfl (jU a hc) ?_)|(guard_target=aa _ 38 _ _ _ _;refine cG [true,false] rfl (tY a e hw hE hk9) ?_)|(guard_target=aa _ 37 _ _ _ _;refine aa.own _ _ rfl hcp (kW _) _ rfl ?_))
   all_goals first|rfl|trivial|exact⟨rfl,trivial⟩|(exfalso;omega)|(rw[h0];rfl)|(exfalso;contradiction)
  ·rw[if_neg h0]
   refine Kl ?_
   refine cX Tryz.func10 (h:= ?_)
   repeat'((conv=>whnf);first
        |refine aq.mk ?_ ?_
        |((first|apply bA|apply bB|apply bC|apply bD|apply bE|apply bF)<;>intro h<;>(try simp only[List.length_map] at h)<;>(try omega)<;>(try contradiction))|(guard_target=aa _ 14 _ _ _ _;refine cP rfl (hv) ?_)|(guard_target=aa _ 37 _ _ _ _;refine cG [] rfl (jU a hc) ?_)|(guard_target=aa _ 38 _ _ _ _;refine cG [true,false] rfl (tY a e hw hE hk9) ?_))
   all_goals first|rfl|trivial|exact⟨rfl,trivial⟩|(exfalso;omega)|(exfalso;contradiction)
end
end Go.Proofs.YtgbggaddpbghfaaGreat
namespace Go.Proofs.YtgbggaddpbghfaaGreat
open Go Go.KA Go.Proofs
set_option maxHeartbeats 16000000
set_option maxRecDepth 100000
abbrev qE:aS:=⟨0,0,0,0,[],⟨⟨0,0⟩,[]⟩,[]⟩
theorem iM{c:Prop}[Decidable c]{p q:Int × af}{a:af}(hp:p.2=a)(hq:¬q.1=0→q.2=a)(h:¬(if c then p else q).1=0):(if c then p else q).2=a:=by
 by_cases hc:c
 ·rw[if_pos hc];exact hp
 ·rw[if_neg hc] at h⊢;exact hq h
theorem kA{c:Prop}[Decidable c]{p q:Int × af}{a:af}(hp:¬p.1=0→p.2=a)(hq:¬q.1=0→q.2=a)(h:¬(if c then p else q).1=0):(if c then p else q).2=a:=by
 by_cases hc:c
 ·rw[if_pos hc] at h⊢;exact hp h
 ·rw[if_neg hc] at h⊢;exact hq h
theorem OQ{a b:af}(h:¬((0:Int),b).1=0):((0:Int),b).2=a:=absurd rfl h
theorem KU{a:af}{i:Int}(h:¬(dP a i).1=0):(dP a i).2=a:=by
 unfold dP at h⊢
 exact iM rfl OQ h
theorem Cm{a:af}{i:Int}(h:¬(dR a i).1=0):(dR a i).2=a:=by
 by_cases ht:(bM a i).1=0
 ·rw[Ph ht] at h⊢
  by_cases h9:(a.aw.length:Int)≤i
  ·rw[Er h9] at ht
   exact absurd (show(2:Int)=0 from ht) (by decide)
  ·refine absurd ?_ h
   rw[zE (by rw[w9];omega)]
 ·rw[zR ht]
theorem G4{a:af}{e:aS}(h:¬(iB a e).1=0):(iB a e).2=a:=by
 unfold iB at h⊢
 refine kA Cm (kA CB (kA KU (iM rfl (kA (fun h=> ?_) (kA (fun h=> ?_) (kA (fun h=> ?_) fun h=> ?_)))))) h
 ·unfold eJ at h⊢
  exact iM rfl (iM rfl (iM rfl OQ)) h
 ·unfold cD at h⊢
  exact iM rfl (iM rfl (iM rfl OQ)) h
 ·unfold dv at h⊢
  exact iM rfl (iM rfl (iM rfl OQ)) h
 ·unfold iw at h⊢
  exact iM rfl (kA OQ (kA OQ OQ)) h
def qw(p:af × Int)(e:aS):af × Int:=if(iB p.1 e).1=0 then((iB p.1 e).2,p.2+1) else p
abbrev kJ(a:af)(l:List aS):af × Int:=l.foldl qw (a,0)
theorem tk{p q:af × Int}{l:List aS}{i:Nat}(hi:i<l.length)(h:q=(l.take i).foldl qw p):qw q (l.getD i qE)=(l.take (i+1)).foldl qw p:=by
 rw[List.take_succ_eq_append_getElem hi,List.foldl_append,←h,getD_eq hi]
 rfl
theorem sS{p:af × Int}{e:aS}(h:(iB p.1 e).1=0):qw p e=((iB p.1 e).2,p.2+1):=if_pos h
theorem Ly{p:af × Int}{e:aS}(h:¬(iB p.1 e).1=0):qw p e=((iB p.1 e).2,p.2):=by
 unfold qw
 rw[if_neg h,G4 h]
end Go.Proofs.YtgbggaddpbghfaaGreat
namespace Go.Proofs.YtgbggaddpbghfaaGreat
open Go Go.KA Go.Proofs
set_option maxHeartbeats 16000000
set_option maxRecDepth 100000
theorem ah.Kd{P:Program}{f:Nat}{args:List SV}{outs:List (Option (List CV))}{cs cs':List CV}{n:Nat}{ss:List SV}(h:ah P f args outs (.tup (.a n cs::ss)))(hc:og cs cs'):ah P f args outs (.tup (.a n cs'::ss)):=by
 refine⟨h.1,fun w ok vs fs h1 h2 h3 h4=>(h.2 w ok vs fs h1 h2 h3 h4).mono ?_⟩
 rintro e w' ⟨v,fr,fo,h5,h6,h7,h8,h9,h10⟩
 refine⟨v,fr,fo,h5,h6,h7,h8, ?_,h10⟩
 cases h9 with
 |v h=>
  cases h with
  |v h=>
   cases h fun _=>none with
   |c h=>cases h
 |tup h=>
  cases h with
  |cons ha ht=>
   refine .tup (.cons ?_ ht)
   cases ha with
   |v h=>
    refine .v fun ρ=> ?_
    cases h ρ with
    |c h=>cases h
    |a a1 a2=>first|exact .a (hc.len▸a1) (hc.den a2)|exact .a hc.len.symm (hc.den a2)|exact .a hc.len.symm (hc.den a1)
   |a hl h=>exact .a (hc.len▸hl) (hc.den h)
theorem Af{P:Program}{f:Nat}{args:List SV}{outs:List (Option (List CV))}{ss:List SV}(h:ah P f args outs (.tup (.a 4 [J 0,J 0, .ows 47 3 [], .ows 89 8 []]::ss))):ah P f args outs (.tup (.a 4 (du zA)::ss)):=
 ah.Kd h (.same (.same (.up (.up .nil))))
abbrev km(a:af)(l:List aS):Bool:=l.all (cH a.sig.au a.sig.ai)
noncomputable def Ik(a:af)(l:List aS):af × Int × Int:=if(dI a&&km a l)=false then(zA,0,1) else if(300:Int)<l.length then(zA,0,2) else((kJ a l).1,(kJ a l).2,0)
abbrev JN(p:af × Int × Int):SV:= .tup [.a 4 (du p.1),I p.2.1,I p.2.2]
theorem pO{l:List aS}(hl:eK cN l≤1048576){i:Nat}(hi:i<l.length):cN (l.getD i qE)≤1048576:=by
 rw[getD_eq hi]
 exact Nat.le_trans (cS cN (List.getElem_mem hi)) hl
theorem qc{a:af}{l:List aS}(h:km a l=true){i:Nat}(hi:i<l.length):cH a.sig.au a.sig.ai (l.getD i qE)=true:=by
 rw[getD_eq hi]
 exact List.all_eq_true.1 h _ (List.getElem_mem hi)
section
variable(a:af)(l:List aS)(hx:b8 a≤1048576)(hl:eK cN l≤1048576)
include hx hl
theorem vw(hg:dI a=false):ah Tryz.prog 18 [.a 4 (az a), .c (.ro 9 (l.map aT))] [] (JN (zA,0,1)):=by
 have _:=hl
 have hv:=gm a hx
 rw[hg] at hv
 refine Af ?_
 refine cX Tryz.func18 (h:= ?_)
 repeat'((conv=>whnf);first
  |refine aq.mk ?_ ?_
  |((first|apply bA|apply bB|apply bC|apply bD|apply bE|apply bF)<;>intro h<;>(try simp only[List.length_map] at h)<;>(try omega)<;>(try contradiction))|(guard_target=aa _ 13 _ _ _ _;refine cP rfl (hv) ?_))
 all_goals first|rfl|trivial|exact⟨rfl,trivial⟩|(exfalso;omega)
theorem vG(hg:dI a=true)(hb:km a l=false):ah Tryz.prog 18 [.a 4 (az a), .c (.ro 9 (l.map aT))] [] (JN (zA,0,1)):=by
 have hv:=gm a hx
 rw[hg] at hv
 have hln:=dB cN l
 have hbe:=fun i (hi:i<l.length)=>(show b7 (l.getD i qE).proof≤1048576 by have:=pO hl hi;simp only[cN] at this;omega)
 refine Af ?_
 refine cX Tryz.func18 (fun reg_=>match reg_ with|9=>true|_=>false) (h:= ?_)
 repeat'((conv=>whnf);first
  |refine aq.mk ?_ ?_|(guard_target=~ aK 4 _ _ _ _ _ _;refine lp (Nat) [1,2,4,17,18] (fun i=>[(19,I i)]) (fun i=>i≤l.length∧(l.take i).all (cH a.sig.au a.sig.ai)=true) (fun i=>l.length-i) 0 (by exact⟨Nat.zero_le _,rfl⟩) (fun i ha=> ?_))
  |refine nx (i+1:Nat) (by(refine eZ (by omega) ha ?_;have h8:=h;rw[getD_eq (by omega)] at h8;exact h8))
  |(apply Fact.mk;intro hL;try simp only[List.length_map,maxLen] at hL)
  |((first|apply bA|apply bB|apply bC|apply bD|apply bE|apply bF)<;>intro h<;>(try simp only[List.length_map] at h)<;>(try omega)<;>(try contradiction))|(guard_target=aa _ 13 _ _ _ _;refine cP rfl (hv) ?_)|(guard_target=aa _ 50 _ _ _ _;refine cP rfl (nN _ _ (l.getD i qE) (hbe i (by omega))) ?_)|(guard_target=Gh _ _ _ _ _;exfalso;have h9:=ha.2;rw[List.take_of_length_le (by omega)] at h9;rw[show l.all _=false from hb] at h9;exact absurd h9 (by decide))
  |refine aR ?_|(guard_target=Index _ _ _;first|(refine Index.mk _ (aF (d:=qE) (i:=i) (by omega)) ?_)|fail)
  |refine nO ?_)
 all_goals first|rfl|trivial|exact⟨rfl,trivial⟩|(exfalso;omega)
theorem vq(hg:dI a=true)(hb:km a l=true)(h3:(300:Int)<l.length):ah Tryz.prog 18 [.a 4 (az a), .c (.ro 9 (l.map aT))] [] (JN (zA,0,2)):=by
 have hv:=gm a hx
 rw[hg] at hv
 have hln:=dB cN l
 have hev:∀i,i<l.length→aD Tryz.prog 50 [.a 2 [J a.sig.au,J a.sig.ai], .a 9 (aT (l.getD i qE))] (B true):=fun i hi=>by
  have h:=nN a.sig.au a.sig.ai (l.getD i qE) (by have:=pO hl hi;simp only[cN] at this;omega)
  rwa[qc hb hi] at h
 refine Af ?_
 refine cX Tryz.func18 (h:= ?_)
 repeat'((conv=>whnf);first
  |refine aq.mk ?_ ?_|(guard_target=~ aK 4 _ _ _ _ _ _;refine lp (Nat) [1,2,4,17,18] (fun i=>[(19,I i)]) (fun i=>i≤l.length) (fun i=>l.length-i) 0 (by exact Nat.zero_le _) (fun i ha=> ?_))
  |refine nx (i+1:Nat) (by(show i+1≤_;omega))
  |(apply Fact.mk;intro hL;try simp only[List.length_map,maxLen] at hL)
  |((first|apply bA|apply bB|apply bC|apply bD|apply bE|apply bF)<;>intro h<;>(try simp only[List.length_map] at h)<;>(try omega)<;>(try contradiction))|(guard_target=aa _ 13 _ _ _ _;refine cP rfl (hv) ?_)|(guard_target=aa _ 50 _ _ _ _;refine cP rfl (hev i (by omega)) ?_)
  |refine aR ?_|(guard_target=Index _ _ _;first|(refine Index.mk _ (aF (d:=qE) (i:=i) (by omega)) ?_)|fail)
  |refine nO ?_)
 all_goals first|rfl|trivial|exact⟨rfl,trivial⟩|(exfalso;omega)
end
end Go.Proofs.YtgbggaddpbghfaaGreat
namespace Go.Proofs.YtgbggaddpbghfaaGreat
open Go Go.KA Go.Proofs
set_option maxHeartbeats 16000000
set_option maxRecDepth 100000
section
variable(a:af)(l:List aS)(hx:b8 a≤1048576)(hl:eK cN l≤1048576)
include hx hl
theorem vu(hg:dI a=true)(hb:km a l=true)(h3:¬(300:Int)<l.length):ah Tryz.prog 18 [.a 4 (az a), .c (.ro 9 (l.map aT))] [] (JN ((kJ a l).1,(kJ a l).2,0)):=by
 have hv:=gm a hx
 rw[hg] at hv
 have hev:∀i,i<l.length→aD Tryz.prog 50 [.a 2 [J a.sig.au,J a.sig.ai], .a 9 (aT (l.getD i qE))] (B true):=fun i hi=>by
  have h:=nN a.sig.au a.sig.ai (l.getD i qE) (by have:=pO hl hi;simp only[cN] at this;omega)
  rwa[qc hb hi] at h
 have hE:=fun i (hi:i<l.length)=>EA.of (qc hb hi) (pO hl hi)
 have hwa:WA a:= .of ((mW a).1 hg) hx
 have hcp:∀x:af,WA x→ah Tryz.prog 37 [.a 4 (y6 x)] [] (.a 4 (du x)):=fun x hx=>by
  rw[pc]
  exact lF x hx.ca
 refine cX Tryz.func18 (h:= ?_)
 repeat'((conv=>whnf);first
  |refine aq.mk ?_ ?_|(guard_target=~ aK 4 _ _ _ _ _ _;refine lp (Nat) [1,2,4,17,18] (fun i=>[(19,I i)]) (fun i=>i≤l.length) (fun i=>l.length-i) 0 (by exact Nat.zero_le _) (fun i ha=> ?_))|(guard_target=~ aK 14 _ _ _ _ _ _;refine sM (Nat × (af × Int)) [4,9,36,37] (fun⟨i,p⟩=>[(10,I p.2),(38,I (i:Nat))]) (fun⟨i,p⟩=>[(8, .cells [.c (J p.1.sig.au), .c (J p.1.sig.ai), .lw 4, .lw 5]),(4, .aG none 47 3 (p.1.ab.map bI)),(5, .row none 89 8 (p.1.aw.map aQ))]) (fun⟨i,p⟩=>i≤l.length∧p=(l.take i).foldl qw (a,0)∧WA p.1∧0≤p.2∧p.2≤i) (fun⟨i,p⟩=>l.length-i) (0,(a,0)) (by exact⟨Nat.zero_le _,rfl,hwa,Int.le_refl _,Int.le_refl _⟩) (fun A ha=> ?_);obtain⟨i,p⟩:=A;have ha:i≤l.length∧p=(l.take i).foldl qw (a,0)∧WA p.1∧0≤p.2∧p.2≤i:=ha;have hA:=ha)
  |refine nx (i+1:Nat) (by(show i+1≤_;omega))
  |refine nx ((i+1,((iB p.1 (l.getD i qE)).2,p.2+1)):Nat × (af × Int)) (by(have hi:i<l.length:=(by omega);refine⟨hi,(sS h).symm.trans (tk hi ha.2.1),ha.2.2.1.step (hE i hi).1, ?_, ?_⟩<;>show _≤_<;>(try simp only[])<;>omega))
  |refine nx ((i+1,((iB p.1 (l.getD i qE)).2,p.2)):Nat × (af × Int)) (by(have hi:i<l.length:=(by omega);refine⟨hi,(Ly h).symm.trans (tk hi ha.2.1),ha.2.2.1.step (hE i hi).1, ?_, ?_⟩<;>show _≤_<;>(try simp only[])<;>omega))
  |(apply Fact.mk;intro hL;try simp only[List.length_map,maxLen] at hL)
  |((first|apply bA|apply bB|apply bC|apply bD|apply bE|apply bF)<;>intro h<;>(try simp only[List.length_map] at h)<;>(try omega)<;>(try contradiction))|(guard_target=aa _ 13 _ _ _ _;refine cP rfl (hv) ?_)|(guard_target=aa _ 50 _ _ _ _;refine cP rfl (hev i (by omega)) ?_)|(guard_target=aa _ 37 _ _ _ _;refine cG [] rfl (jU a hwa.ca) ?_)|(guard_target=aa _ 38 _ _ _ _;refine cG [true,false] rfl (tY p.1 (l.getD i qE) ha.2.2.1 (hE i (by omega)).1 (hE i (by omega)).2) ?_)|(guard_target=aa _ 37 _ _ _ _;refine aa.own _ _ rfl (hcp p.1 ha.2.2.1) (kW _) _ rfl ?_)
  |refine aR ?_|(guard_target=Index _ _ _;first|(refine Index.mk _ (aF (d:=qE) (i:=i) (by omega)) ?_)|fail)
  |refine nO ?_)
 all_goals first|rfl|trivial|exact⟨rfl,trivial⟩|(rw[show p=kJ a l by have h9:=ha.2.1;rwa[List.take_of_length_le (by omega)] at h9];rfl)
end
end Go.Proofs.YtgbggaddpbghfaaGreat
namespace Go.Proofs.YtgbggaddpbghfaaGreat
open Go Go.KA Go.Proofs
set_option maxHeartbeats 16000000
set_option maxRecDepth 100000
theorem K6(o:Option Value)(x:List aO):H9 (.aG o 47 3 (x.map ee))=some (.ro 3 (x.map cE)):=by
 show some (CV.ro 3 (cW (x.map ee)))=_
 rw[bQ xL]
theorem Jd(o:Option Value)(x:List aO):H9 (.aG o 47 3 (x.map bI))=some (.ro 3 (x.map cE)):=by
 show some (CV.ro 3 (cW (x.map bI)))=_
 rw[wv]
theorem KD(o:Option Value)(x:List cB):H9 (.aG o 89 8 (x.map dG))=some (.ro 8 (x.map aQ)):=by
 show some (CV.ro 8 (cW (x.map dG)))=_
 rw[bQ oL]
theorem Kv{a:af}{e:aS}(h:(fy a e).1=0):(iB a e).1=0∧(fy a e).2=(iB a e).2:=by
 unfold fy at h⊢
 by_cases h0:(iB a e).1=0
 ·rw[if_pos h0];exact⟨h0,rfl⟩
 ·rw[if_neg h0] at h;exact absurd h h0
theorem Gd{a:af}{e:aS}(h:¬(fy a e).1=0):¬(iB a e).1=0:=by
 unfold fy at h
 intro h0
 rw[if_pos h0] at h
 exact h h0
theorem Ie(a:af)(l:List aS)(hwa:WA a)(hn:l.length≤300)(hE:∀i,i<l.length→EA (l.getD i qE)∧(1≤(l.getD i qE).kind∧(l.getD i qE).kind≤9)):ah Tryz.prog 54 [.c (.op (az a)), .c (.ro 9 (l.map aT))] [some [.op (az a)],none] (.tup [.a 4 (az (kJ a l).1),I (kJ a l).2]):=by
 refine cX Tryz.func54 (fun reg_=>match reg_ with|2=>true|9=>true|_=>false) (h:= ?_)
 repeat'((conv=>whnf);first
  |refine aq.mk ?_ ?_|(guard_target=~ aK 4 _ _ _ _ _ _;refine sM (Nat × (af × Int)× Bool) [1,4,6] (fun⟨i,p,b⟩=>[(7,I p.2),(8,I (i:Nat))]) (fun⟨i,p,b⟩=>[(8,cond b (.cc 4 [J p.1.sig.au,J p.1.sig.ai, .ro 3 (p.1.ab.map cE), .ro 8 (p.1.aw.map aQ)]) (.cells [.c (J p.1.sig.au), .c (J p.1.sig.ai), .c (.ro 3 (p.1.ab.map cE)), .c (.ro 8 (p.1.aw.map aQ))]))]) (fun⟨i,p,b⟩=>i≤l.length∧p=(l.take i).foldl qw (a,0)∧WA p.1∧0≤p.2∧p.2≤i) (fun⟨i,p,b⟩=>l.length-i) (0,(a,0),false) (by exact⟨Nat.zero_le _,rfl,hwa,Int.le_refl _,Int.le_refl _⟩) (fun A ha=> ?_);obtain⟨i,p,b⟩:=A;have ha:i≤l.length∧p=(l.take i).foldl qw (a,0)∧WA p.1∧0≤p.2∧p.2≤i:=ha;cases b)
  |refine nx ((i+1,p,true):Nat × (af × Int)× Bool) (by(have hi:i<l.length:=(by omega);have h9:=tk hi ha.2.1;rw[Ly (Gd h),G4 (Gd h)] at h9;exact⟨hi,h9,ha.2.2.1,ha.2.2.2.1,by(show p.2≤((i+1:Nat):Int);omega)⟩))
  |refine nx ((i+1,((fy p.1 (l.getD i qE)).2,p.2+1),false):Nat × (af × Int)× Bool) (by(have hi:i<l.length:=(by omega);have hy:=Kv h;rw[hy.2];exact⟨hi,(sS hy.1).symm.trans (tk hi ha.2.1),ha.2.2.1.step (hE i hi).1,by(show 0≤p.2+1;omega),by(show p.2+1≤((i+1:Nat):Int);omega)⟩))
  |(apply Fact.mk;intro hL;try simp only[List.length_map,maxLen] at hL)
  |((first|apply bA|apply bB|apply bC|apply bD|apply bE|apply bF)<;>intro h<;>(try simp only[List.length_map] at h)<;>(try omega)<;>(try contradiction))|(guard_target=aa _ 41 _ _ _ _;refine cG [true,false] rfl (xt p.1 (l.getD i qE) ha.2.2.1 (hE i (by omega)).1 (hE i (by omega)).2) ?_)|(guard_target=aa _ 68 _ _ _ _;refine aa.own _ _ rfl (pZ a hwa.ca) (kW a) _ rfl ?_)|(guard_target=Gh _ _ _ _ _;refine Gh.zG 4 (.ro 3 (a.ab.map cE)) (K6 _ _) (Gh.zG 5 (.ro 8 (a.aw.map aQ)) (KD _ _) (Gh.go ?_)))|(guard_target=Gh _ _ _ _ _;refine Gh.zG 9 (.ro 3 ((fy p.1 (l.getD i qE)).2.ab.map cE)) (Jd _ _) (Gh.zG 10 (.ro 8 ((fy p.1 (l.getD i qE)).2.aw.map aQ)) rfl (Gh.go ?_)))
  |refine aR ?_|(guard_target=Index _ _ _;first|(refine Index.mk _ (aF (d:=qE) (i:=i) (by omega)) ?_)|fail)
  |apply iV.go
  |refine nO ?_)
 all_goals first|rfl|trivial|exact⟨rfl,trivial⟩|(rw[show p=kJ a l by have h9:=ha.2.1;rwa[List.take_of_length_le (by omega)] at h9];rfl)
end Go.Proofs.YtgbggaddpbghfaaGreat
