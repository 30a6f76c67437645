/- Contracts of what takes in and what removes a packet: the program's and the reference's functions. Conditions: the archive's shape. -/
import Derived.Test.YtgbggaddpbghfaaGreatKAF
namespace Go.Proofs.YtgbggaddpbghfaaGreat
open Go Go.KA Go.Proofs
set_option maxHeartbeats 16000000
set_option maxRecDepth 100000
theorem Hu{l:List cJ}{z h:Int}(hz:0≤z)(hl:z+1<(l.length:Int)):
 []++((l.map bh).drop (0:Int).toNat).take (z.toNat-(0:Int).toNat)++((l.map bh).drop (z+1).toNat).take ((((l.map bh).length:Nat):Int).toNat-(z+1).toNat)=(l.take z.toNat++l.drop (z.toNat+1)).map bh:=by
 rw[show(z+1).toNat=z.toNat+1 by omega,List.take_of_length_le (l:=(l.map bh).drop (z.toNat+1)) (by simp),List.map_append,List.map_take,List.map_drop]
 simp
theorem EI{l:List cJ}{z h:Int}(hz:0≤z)(hl:z+1=(l.length:Int)):
 []++((l.map bh).drop (0:Int).toNat).take (z.toNat-(0:Int).toNat)++[]=(l.take z.toNat++l.drop (z.toNat+1)).map bh:=by
 rw[List.drop_of_length_le (l:=l) (i:=z.toNat+1) (by omega),List.append_nil,List.append_nil,List.map_take]
 simp
theorem Ku{a:ag}{i:Int}(h:i≥(a.aw.length:Int)):eP a i=(2,a):=if_pos h
theorem Gv{a:ag}{i:Int}(h:¬i≥(a.aw.length:Int)):eP a i=(0,⟨a.sig,a.ab,a.aw.take i.toNat++a.aw.drop (i.toNat+1)⟩):=if_neg h
theorem wJ(a:ag)(z:Int)(h12:a.aw.length≤1048576)(hz:0≤z∧z≤999):ai Tryz.prog 122 [.c (.op (cy a)),I z] [some [.op (cy (eP a z).2)],none] (I (eP a z).1):=by
 by_cases hlast:z+1=(a.aw.length:Int)
 ·refine cX Tryz.func122 (h:= ?_)
  repeat'((conv=>whnf);first
   |(guard_target=~ ah (I 2=_) _;rw[Ku (by omega)];exact ah.mk rfl ⟨rfl,trivial⟩)|(guard_target=~ ah (I 0=_) _;rw[Gv (by omega)];exact ah.mk rfl ⟨congrArg (FB a) (EI (h:=0) hz.1 hlast),trivial⟩)
   |refine ah.mk ?_ ?_
   |(apply Fact.mk;intro hL;try simp only[List.length_map,maxLen] at hL)
   |((first|apply bA|apply bB|apply bC|apply bD|apply bE|apply bF)<;>intro h<;>(try simp only[List.length_map] at h)<;>(try omega)<;>(try contradiction))|(guard_target=gv _ _ _ _ _ _;refine gv.some (by simp only[List.length_map];omega) ?_)|(guard_target=gv _ _ _ _ _ _;refine gv.none (by simp only[List.length_map];omega) ?_)
   |refine aR ?_
   |refine iX (k:= ?_)
   |refine nB ?_
   |apply cj.go|(guard_target=aQ _ _;refine aQ.mk (by first|((simp only[List.length_append,List.length_take,List.length_drop,List.length_nil,List.length_map,maxLen];constructor<;>omega))|fail) ?_)
   |refine nO ?_)
  all_goals(try(conv=>whnf))
 ·refine cX Tryz.func122 (h:= ?_)
  repeat'((conv=>whnf);first
   |(guard_target=~ ah (I 2=_) _;rw[Ku (by omega)];exact ah.mk rfl ⟨rfl,trivial⟩)|(guard_target=~ ah (I 0=_) _;rw[Gv (by omega)];exact ah.mk rfl ⟨congrArg (FB a) (Hu (h:=0) hz.1 (by omega)),trivial⟩)
   |refine ah.mk ?_ ?_
   |(apply Fact.mk;intro hL;try simp only[List.length_map,maxLen] at hL)
   |((first|apply bA|apply bB|apply bC|apply bD|apply bE|apply bF)<;>intro h<;>(try simp only[List.length_map] at h)<;>(try omega)<;>(try contradiction))|(guard_target=gv _ _ _ _ _ _;refine gv.some (by simp only[List.length_map];omega) ?_)
   |refine aR ?_
   |refine iX (k:= ?_)
   |refine nB ?_
   |apply cj.go|(guard_target=aQ _ _;refine aQ.mk (by first|((simp only[List.length_append,List.length_take,List.length_drop,List.length_nil,List.length_map,maxLen];constructor<;>omega))|fail) ?_)
   |refine nO ?_)
  all_goals(try(conv=>whnf))
section
variable{a:ag}{i:Int}
abbrev sP(a:ag)(i:Int):aT:=a.ab.getD (a.aw.getD i.toNat jd).j1.toNat cO
abbrev pP(a:ag)(i:Int):cJ:=a.aw.getD i.toNat jd
theorem Ml(h:i≥(a.aw.length:Int)):cR a i=(2,a):=if_pos h
theorem MS(h:¬i≥(a.aw.length:Int))(hw:ln a (gI a i)=false):cR a i=(0,a):=by
 unfold cR
 rw[if_neg h,if_pos hw]
theorem Pf(h:(sP a i).up=false):ln a (gI a i)=false:=by
 unfold ln
 rw[show(sA a (gI a i).j1).up=false from h]
 rfl
theorem O5(h:¬bK (sP a i).notes (pP a i).note.bZ (pP a i).note.id<0):ln a (gI a i)=false:=by
 unfold ln
 rw[decide_eq_false (show¬bK (sA a (gI a i).j1).notes (gI a i).note.bZ (gI a i).note.id<0 from h)]
 simp
theorem O7(h:gz (sP a i).notes (pP a i).note.entry.bu=false):ln a (gI a i)=false:=by
 unfold ln
 rw[show gz (sA a (gI a i).j1).notes (gI a i).note.entry.bu=false from h]
 simp
theorem O6(h1:(sP a i).up=true)(h2:bK (sP a i).notes (pP a i).note.bZ (pP a i).note.id<0)(h3:gz (sP a i).notes (pP a i).note.entry.bu=true):¬ln a (gI a i)=false:=by
 unfold ln
 rw[show(sA a (gI a i).j1).up=true from h1,decide_eq_true (show bK (sA a (gI a i).j1).notes (gI a i).note.bZ (gI a i).note.id<0 from h2),show gz (sA a (gI a i).j1).notes (gI a i).note.entry.bu=true from h3]
 decide
theorem OQ(h:¬i≥(a.aw.length:Int))(h1:(sP a i).up=true)(h2:bK (sP a i).notes (pP a i).note.bZ (pP a i).note.id<0)(h3:gz (sP a i).notes (pP a i).note.entry.bu=true)(h4:(sP a i).notes.length=20):cR a i=(3,a):=by
 unfold cR
 rw[if_neg h,if_neg (O6 h1 h2 h3),if_pos h4]
theorem OP(h:¬i≥(a.aw.length:Int))(h1:(sP a i).up=true)(h2:bK (sP a i).notes (pP a i).note.bZ (pP a i).note.id<0)(h3:gz (sP a i).notes (pP a i).note.entry.bu=true)(h4:¬(sP a i).notes.length=20):cR a i=(0,iD a (pP a i).j1 (kj (sP a i) (pP a i).note)):=by
 unfold cR
 rw[if_neg h,if_neg (O6 h1 h2 h3),if_neg h4]
end
theorem qD(a:ag)(z:Int)(hw:WA a)(hz:0≤z∧z≤999):ai Tryz.prog 121 [.c (.op (cy a)),I z] [some [.op (cy (cR a z).2)],none] (I (cR a z).1):=by
 have h12:=hw.f12
 by_cases hlen:z≥(a.aw.length:Int)
 ·refine cX Tryz.func121 (h:= ?_)
  repeat'((conv=>whnf);first
   |(guard_target=~ ah (I 2=_) _;rw[Ml (by omega)];exact ah.mk rfl ⟨rfl,trivial⟩)
   |refine ah.mk ?_ ?_
   |(apply Fact.mk;intro hL;try simp only[List.length_map,maxLen] at hL)
   |((first|apply bA|apply bB|apply bC|apply bD|apply bE|apply bF)<;>intro h<;>(try simp only[List.length_map] at h)<;>(try omega)<;>(try contradiction))
   |refine iX (k:= ?_)
   |refine nB ?_
   |apply ay.no
   |apply cj.go
   |refine nO ?_)
  all_goals(try(conv=>whnf))
 ·have hpk:=hw.pk z.toNat (by omega)
  have hpl:(a.aw.getD z.toNat jd).j1.toNat<a.ab.length:=by omega
  have h20:=(hw.sv _ hpl).1
  refine ID Tryz.func121 (fun reg_=>match reg_ with|5=>true|_=>false) (h:= ?_)
  repeat'((conv=>whnf);first
   |refine ah.mk ?_ ?_
   |(apply Fact.mk;intro hL;try simp only[List.length_map,maxLen] at hL)
   |((first|apply bA|apply bB|apply bC|apply bD|apply bE|apply bF)<;>intro h<;>(try simp only[List.length_map] at h)<;>(try omega)<;>(try contradiction))|(guard_target=Gh _ _ _ _ _;refine Gh.go ?_)|(guard_target=Index _ _ _;first|refine Index.mk _ (aF (d:=jd) (i:=z.toNat) (by omega)) ?_)
   |refine iX (k:= ?_)
   |refine nB ?_
   |apply ay.no|(guard_target=aQ _ _;refine aQ.mk (by first|((simp only[List.length_map];omega))|fail) ?_)
   |refine nO ?_)
  all_goals(conv=>whnf)
  all_goals try refine cj.opens 0 (a.aw.getD z.toNat jd).j1.toNat 1 rfl (aF (d:=cO) hpl) rfl fun v=>cj.go ?_
  repeat'((conv=>whnf);first
   |(guard_target=~ ah (I 3=_) _;have hd:=OQ (a:=a) (i:=z) (by omega) (by assumption) (by first|assumption|exact Int.not_le.1 (by assumption)) (by assumption) (show(a.ab.getD (a.aw.getD z.toNat jd).j1.toNat cO).notes.length=20 by omega);rw[hd];exact ah.mk rfl ⟨rfl,trivial⟩)|(guard_target=~ ah (I 0=_) _;have hd:=MS (a:=a) (i:=z) (by omega) (by first|exact Pf (by assumption)|exact O5 (by omega)|exact O7 (by assumption));rw[hd];exact ah.mk rfl ⟨rfl,trivial⟩)|(guard_target=~ ah (I 0=_) _;have hd:=OP (a:=a) (i:=z) (by omega) (by assumption) (by first|assumption|exact Int.not_le.1 (by assumption)) (by assumption) (show¬(a.ab.getD (a.aw.getD z.toNat jd).j1.toNat cO).notes.length=20 by omega);rw[hd];exact ah.mk rfl ⟨congrArg (FA a) (nJ (s:=kj (sP a z) (pP a z).note) (congrArg (fun R=>[CV.val (.bool (sP a z).up),CV.ows 51 7 R,J (sP a z).saved]) (uu (wY _)))),trivial⟩)
   |refine ah.mk ?_ ?_
   |(apply Fact.mk;intro hL;try simp only[List.length_map,maxLen] at hL)
   |((first|apply bA|apply bB|apply bC|apply bD|apply bE|apply bF)<;>intro h<;>(try simp only[List.length_map] at h)<;>(try omega)<;>(try contradiction))|(guard_target=aa _ 60 _ _ _ _;refine cP rfl (gR (sP a z).notes (pP a z).note.bZ (pP a z).note.id) ?_)|(guard_target=aa _ 115 _ _ _ _;refine cP rfl (uk (sP a z).notes (pP a z).note.entry.bu) ?_)|(guard_target=aa _ 108 _ _ _ _;refine aa.own _ _ (Gl rfl (aF (d:=jd) (i:=z.toNat) (by omega))) (jT (pP a z).note hpk.2.2) (zC _) _ rfl ?_)|(guard_target=Gh _ _ _ _ _;refine Gh.iL 0 (a.aw.getD z.toNat jd).j1.toNat 1 3 rfl (cB (by rw[List.length_map];exact hpl)) rfl rfl rfl (Gh.soft 0 (b':= .aG none 47 3 (a.ab.map bd)) (.aG (jP hpl rfl)) (Gh.go ?_)))|(guard_target=Gh _ _ _ _ _;refine Gh.soft 0 (gE.aG (pI (i:=(a.aw.getD z.toNat jd).j1.toNat) (.same (.ows (.same .nil))))) (Gh.go ?_))|(guard_target=Index _ _ _;first|refine Index.mk _ (cB (by rw[List.length_map];exact hpl)) ?_|refine Index.mk _ (aF (d:=jd) (i:=z.toNat) (by omega)) ?_)
   |refine iX (k:= ?_)
   |refine nB ?_|(guard_target=ay _ _ _;first|refine ay.row 3 rfl ?_|refine ay.aG 3 rfl ?_)
   |apply ay.no
   |apply cj.go|(guard_target=aQ _ _;refine aQ.mk (by first|((simp only[List.length_set,List.length_map];omega))|((simp only[List.length_cons,List.length_nil,List.length_map,maxLen];constructor<;>omega))|fail) ?_)
   |refine nO ?_)
  all_goals(try(conv=>whnf))
theorem xn(l:List cJ)(z:Int)(hz:0≤z)(hi:z<(l.length:Int)):ai Tryz.prog 80 [.c (.ows 89 8 (l.map bh)),I z,I (z+1)] [] (.c (.ows 89 8 ((l.take z.toNat++l.drop (z.toNat+1)).map bh))):=by
 have h:=Hr l z.toNat (by omega)
 rwa[show((z.toNat:Nat):Int)=z by omega] at h
theorem P0{a:ag}{i:Int}(h:(cR a i).1=0):fF a i=eP (cR a i).2 i:=if_pos h
theorem JD{a:ag}{i:Int}(h:¬(cR a i).1=0):fF a i=((cR a i).1,a):=if_neg h
def sU(a:ag)(e:bm):Int × ag:=if e.kind=4 then fF a e.a else cR a e.a
theorem PA{a:ag}{e:bm}(h:e.a≥(a.aw.length:Int)):sU a e=(2,a):=by
 unfold sU
 split
 ·rw[JD (by rw[Ml h];show¬(2:Int)=0;decide),Ml h]
 ·exact Ml h
theorem Pr{a:ag}{e:bm}(h:cR a e.a=(3,a)):sU a e=(3,a):=by
 unfold sU
 split
 ·rw[JD (by rw[h];show¬(3:Int)=0;decide),h]
 ·exact h
theorem OD{a b:ag}{e:bm}(hk:e.kind=4)(h:cR a e.a=(0,b))(hl:e.a<(b.aw.length:Int)):sU a e=(0,⟨b.sig,b.ab,b.aw.take e.a.toNat++b.aw.drop (e.a.toNat+1)⟩):=by
 unfold sU
 rw[if_pos hk,P0 (by rw[h]),h,Gv (by simp only;omega)]
theorem OC{a b:ag}{e:bm}(hk:¬e.kind=4)(h:cR a e.a=(0,b)):sU a e=(0,b):=by
 unfold sU
 rw[if_neg hk,h]
abbrev FC(a:ag)(R S:List (List CV)):Option (List CV):=some [CV.op [J a.sig.au,J a.sig.aq,CV.own 47 3 R,CV.ows 89 8 S]]
theorem EW(a:ag)(e:bm)(hw:WA a)(he:EA e):ai Tryz.prog 79 [.c (.op (cy a)), .a 9 (bM e)] [some [.op (cy (sU a e).2)],none] (I (sU a e).1):=by
 have h12:=hw.f12
 have hz:=he.ra
 by_cases hlen:e.a≥(a.aw.length:Int)
 ·refine cX Tryz.func79 (h:= ?_)
  repeat'((conv=>whnf);first
   |(guard_target=~ ah (I 2=_) _;rw[PA (by omega)];exact ah.mk rfl ⟨rfl,trivial⟩)
   |refine ah.mk ?_ ?_
   |(apply Fact.mk;intro hL;try simp only[List.length_map,maxLen] at hL)
   |((first|apply bA|apply bB|apply bC|apply bD|apply bE|apply bF)<;>intro h<;>(try simp only[List.length_map] at h)<;>(try omega)<;>(try contradiction))
   |refine aR ?_
   |refine iX (k:= ?_)
   |refine nB ?_
   |apply ay.no
   |apply cj.go
   |refine nO ?_)
  all_goals(try(conv=>whnf))
 ·have hpk:=hw.pk e.a.toNat (by omega)
  have hpl:(a.aw.getD e.a.toNat jd).j1.toNat<a.ab.length:=by omega
  have h20:=(hw.sv _ hpl).1
  refine ID Tryz.func79 (fun reg_=>match reg_ with|5=>true|_=>false) (h:= ?_)
  repeat'((conv=>whnf);first
   |refine ah.mk ?_ ?_
   |(apply Fact.mk;intro hL;try simp only[List.length_map,maxLen] at hL)
   |((first|apply bA|apply bB|apply bC|apply bD|apply bE|apply bF)<;>intro h<;>(try simp only[List.length_map] at h)<;>(try omega)<;>(try contradiction))|(guard_target=Gh _ _ _ _ _;refine Gh.go ?_)
   |refine aR ?_|(guard_target=Index _ _ _;first|refine Index.mk _ (aF (d:=jd) (i:=e.a.toNat) (by omega)) ?_)
   |refine iX (k:= ?_)
   |refine nB ?_
   |apply ay.no|(guard_target=aQ _ _;refine aQ.mk (by first|((simp only[List.length_map];omega))|fail) ?_)
   |refine nO ?_)
  all_goals(conv=>whnf)
  all_goals try refine cj.opens 0 (a.aw.getD e.a.toNat jd).j1.toNat 1 rfl (aF (d:=cO) hpl) rfl fun v=>cj.go ?_
  repeat'((conv=>whnf);first
   |(guard_target=~ ah (I 3=_) _;have hd:=Pr (e:=e) (OQ (a:=a) (i:=e.a) (by omega) (by assumption) (by first|assumption|exact Int.not_le.1 (by assumption)) (by assumption) (show(a.ab.getD (a.aw.getD e.a.toNat jd).j1.toNat cO).notes.length=20 by omega));rw[hd];exact ah.mk rfl ⟨rfl,trivial⟩)|(guard_target=~ ah (I 0=_) _;have ht:=MS (a:=a) (i:=e.a) (by omega) (by first|exact Pf (by assumption)|exact O5 (by assumption)|exact O7 (by assumption));(first|(rw[OD (by assumption) ht (by omega)];exact ah.mk rfl ⟨rfl,trivial⟩)|(rw[OC (by assumption) ht];exact ah.mk rfl ⟨rfl,trivial⟩)))|(guard_target=~ ah (I 0=_) _;have ht:=OP (a:=a) (i:=e.a) (by omega) (by assumption) (by first|assumption|exact Int.not_le.1 (by assumption)) (by assumption) (show¬(a.ab.getD (a.aw.getD e.a.toNat jd).j1.toNat cO).notes.length=20 by omega);(first|(rw[OD (by assumption) ht (show e.a<(a.aw.length:Int) by omega)];exact ah.mk rfl ⟨congrArg (fun R=>FC a R ((a.aw.take e.a.toNat++a.aw.drop (e.a.toNat+1)).map bh)) (nJ (s:=kj (sP a e.a) (pP a e.a).note) (by simp only[bd,List.map_append];rfl)),trivial⟩)|(rw[OC (by assumption) ht];exact ah.mk rfl ⟨congrArg (FA a) (nJ (s:=kj (sP a e.a) (pP a e.a).note) (by simp only[bd,List.map_append];rfl)),trivial⟩)))
   |refine ah.mk ?_ ?_
   |(apply Fact.mk;intro hL;try simp only[List.length_map,maxLen] at hL)
   |((first|apply bA|apply bB|apply bC|apply bD|apply bE|apply bF)<;>intro h<;>(try simp only[List.length_map] at h)<;>(try omega)<;>(try contradiction))|(guard_target=aa _ 59 _ _ _ _;refine cP rfl (sD (sP a e.a).notes (pP a e.a).note.bZ (pP a e.a).note.id) ?_)|(guard_target=aa _ 95 _ _ _ _;refine cP rfl (oN (sP a e.a).notes (pP a e.a).note.entry.bu) ?_)|(guard_target=aa _ 78 _ _ _ _;refine cG [] rfl (mJ (pP a e.a).note hpk.2.2) ?_)|(guard_target=aa _ 80 _ _ _ _;refine cG [true,false,false] rfl (xn a.aw e.a hz.1 (by omega)) ?_)|(guard_target=Gh _ _ _ _ _;refine Gh.iL 0 (a.aw.getD e.a.toNat jd).j1.toNat 1 7 rfl (cB (by rw[List.length_map];exact hpl)) rfl rfl rfl (Gh.soft 0 (b':= .aG none 47 3 (a.ab.map bd)) (.aG (jP hpl rfl)) (Gh.go ?_)))|(guard_target=Gh _ _ _ _ _;refine Gh.go ?_)
   |refine aR ?_|(guard_target=Index _ _ _;first|refine Index.mk _ (cB (by rw[List.length_map];exact hpl)) ?_|refine Index.mk _ (aF (d:=jd) (i:=e.a.toNat) (by omega)) ?_)
   |refine iX (k:= ?_)
   |refine nB ?_|(guard_target=ay _ _ _;first|refine ay.row 4 rfl ?_|refine ay.aG 4 rfl ?_|refine ay.row 5 rfl ?_|refine ay.aG 5 rfl ?_|refine ay.row 6 rfl ?_|refine ay.aG 6 rfl ?_|refine ay.row 7 rfl ?_|refine ay.aG 7 rfl ?_|refine ay.row 8 rfl ?_|refine ay.aG 8 rfl ?_)
   |apply ay.no
   |apply cj.go|(guard_target=aQ _ _;refine aQ.mk (by first|((simp only[List.length_set,List.length_map];omega))|((simp only[List.length_cons,List.length_nil,List.length_map,maxLen];constructor<;>omega))|fail) ?_)
   |refine nO ?_)
  all_goals(try(conv=>whnf))
end Go.Proofs.YtgbggaddpbghfaaGreat
namespace Go.Proofs.YtgbggaddpbghfaaGreat
open Go Go.KA Go.Proofs
set_option maxHeartbeats 16000000
set_option maxRecDepth 100000
section
variable(a:ag)(e:bm)(hw:WA a)(he:EA e)
include hw he
theorem G0(hk:e.kind=4∨e.kind=5):ai Tryz.prog 38 [.c (.op (cy a)), .a 9 (bM e)] [some [.op (cy (sU a e).2)],none] (I (sU a e).1):=by
 refine cX Tryz.func38 (h:= ?_)
 repeat'((conv=>whnf);first
  |refine ah.mk ?_ ?_
  |(apply Fact.mk;intro hL;try simp only[List.length_map,maxLen] at hL)
  |((first|apply bA|apply bB|apply bC|apply bD|apply bE|apply bF)<;>intro h<;>(try simp only[List.length_map] at h)<;>(try omega)<;>(try contradiction))|(guard_target=aa _ 79 _ _ _ _;refine cG [true,false] rfl (EW a e hw he) ?_)
  |refine aR ?_
  |refine iX (k:= ?_)
  |refine nB ?_
  |apply ay.no
  |apply cj.go
  |refine nO ?_)
 all_goals first|rfl|exact⟨rfl,trivial⟩|(exfalso;omega)
theorem Dg(hk:e.kind=6):ai Tryz.prog 38 [.c (.op (cy a)), .a 9 (bM e)] [some [.op (cy (eP a e.a).2)],none] (I (eP a e.a).1):=by
 have h12:=hw.f12
 have hz:=he.ra
 by_cases hlen:e.a≥(a.aw.length:Int)
 ·refine cX Tryz.func38 (h:= ?_)
  repeat'((conv=>whnf);first
   |(guard_target=~ ah (I 2=_) _;rw[Ku (by omega)];exact ah.mk rfl ⟨rfl,trivial⟩)
   |refine ah.mk ?_ ?_
   |(apply Fact.mk;intro hL;try simp only[List.length_map,maxLen] at hL)
   |((first|apply bA|apply bB|apply bC|apply bD|apply bE|apply bF)<;>intro h<;>(try simp only[List.length_map] at h)<;>(try omega)<;>(try contradiction))
   |refine aR ?_
   |refine iX (k:= ?_)
   |refine nB ?_
   |apply ay.no
   |apply cj.go
   |refine nO ?_)
  all_goals first|rfl|exact⟨rfl,trivial⟩|(exfalso;omega)
 ·refine cX Tryz.func38 (h:= ?_)
  repeat'((conv=>whnf);first
   |(guard_target=~ ah (I 0=_) _;rw[Gv (by omega)];exact ah.mk rfl ⟨rfl,trivial⟩)
   |refine ah.mk ?_ ?_
   |(apply Fact.mk;intro hL;try simp only[List.length_map,maxLen] at hL)
   |((first|apply bA|apply bB|apply bC|apply bD|apply bE|apply bF)<;>intro h<;>(try simp only[List.length_map] at h)<;>(try omega)<;>(try contradiction))|(guard_target=aa _ 80 _ _ _ _;refine cG [true,false,false] rfl (xn a.aw e.a hz.1 (by omega)) ?_)
   |refine aR ?_
   |refine iX (k:= ?_)
   |refine nB ?_
   |apply ay.no
   |apply cj.go
   |refine nO ?_)
  all_goals first|rfl|exact⟨rfl,trivial⟩|(exfalso;omega)
theorem HE(hk:¬e.kind=4∧¬e.kind=5∧¬e.kind=6)(hp:b8 a e.a=false):ai Tryz.prog 38 [.c (.op (cy a)), .a 9 (bM e)] [some [.op (cy a)],none] (I 2):=by
 have _:=hw
 have _:=he
 have hpl:=ji a e.a
 rw[hp] at hpl
 refine cX Tryz.func38 (h:= ?_)
 repeat'((conv=>whnf);first
  |refine ah.mk ?_ ?_
  |(apply Fact.mk;intro hL;try simp only[List.length_map,maxLen] at hL)
  |((first|apply bA|apply bB|apply bC|apply bD|apply bE|apply bF)<;>intro h<;>(try simp only[List.length_map] at h)<;>(try omega)<;>(try contradiction))|(guard_target=aa _ 81 _ _ _ _;refine cP rfl (hpl) ?_)
  |refine aR ?_
  |refine iX (k:= ?_)
  |refine nB ?_
  |apply ay.no
  |apply cj.go
  |refine nO ?_)
 all_goals first|rfl|exact⟨rfl,trivial⟩|(exfalso;omega)
section
variable(hp:b8 a e.a=true)
include hp
theorem EP(hk:e.kind=1):ai Tryz.prog 38 [.c (.op (cy a)), .a 9 (bM e)] [some [.op (cy (eD a e).2)],none] (I (eD a e).1):=by
 have hlt:=bW hp
 have h5:=hw.n5
 have hpl:=ji a e.a
 rw[hp] at hpl
 refine cX Tryz.func38 (h:= ?_)
 repeat'((conv=>whnf);first
  |refine ah.mk ?_ ?_
  |(apply Fact.mk;intro hL;try simp only[List.length_map,maxLen] at hL)
  |((first|apply bA|apply bB|apply bC|apply bD|apply bE|apply bF)<;>intro h<;>(try simp only[List.length_map] at h)<;>(try omega)<;>(try contradiction))|(guard_target=aa _ 81 _ _ _ _;refine cP rfl (hpl) ?_)|(guard_target=aa _ 82 _ _ _ _;refine cG [true,false] rfl (N7 a e hw he (by omega)) ?_)
  |refine aR ?_
  |refine iX (k:= ?_)
  |refine nB ?_
  |apply ay.no
  |apply cj.go|(guard_target=aQ _ _;refine aQ.mk (by first|((simp only[List.length_map];omega))|fail) ?_)
  |refine nO ?_)
 all_goals first|rfl|exact⟨rfl,trivial⟩|(exfalso;omega)
theorem xR(hk:e.kind=2):ai Tryz.prog 38 [.c (.op (cy a)), .a 9 (bM e)] [some [.op (cy (cK a e).2)],none] (I (cK a e).1):=by
 have hlt:=bW hp
 have h5:=hw.n5
 have hpl:=ji a e.a
 rw[hp] at hpl
 refine cX Tryz.func38 (h:= ?_)
 repeat'((conv=>whnf);first
  |refine ah.mk ?_ ?_
  |(apply Fact.mk;intro hL;try simp only[List.length_map,maxLen] at hL)
  |((first|apply bA|apply bB|apply bC|apply bD|apply bE|apply bF)<;>intro h<;>(try simp only[List.length_map] at h)<;>(try omega)<;>(try contradiction))|(guard_target=aa _ 81 _ _ _ _;refine cP rfl (hpl) ?_)|(guard_target=aa _ 83 _ _ _ _;refine cG [true,false] rfl (Ht a e hw he (by omega)) ?_)
  |refine aR ?_
  |refine iX (k:= ?_)
  |refine nB ?_
  |apply ay.no
  |apply cj.go|(guard_target=aQ _ _;refine aQ.mk (by first|((simp only[List.length_map];omega))|fail) ?_)
  |refine nO ?_)
 all_goals first|rfl|exact⟨rfl,trivial⟩|(exfalso;omega)
theorem CW(hk:e.kind=3):ai Tryz.prog 38 [.c (.op (cy a)), .a 9 (bM e)] [some [.op (cy (dy a e).2)],none] (I (dy a e).1):=by
 have hlt:=bW hp
 have h5:=hw.n5
 have hpl:=ji a e.a
 rw[hp] at hpl
 refine cX Tryz.func38 (h:= ?_)
 repeat'((conv=>whnf);first
  |refine ah.mk ?_ ?_
  |(apply Fact.mk;intro hL;try simp only[List.length_map,maxLen] at hL)
  |((first|apply bA|apply bB|apply bC|apply bD|apply bE|apply bF)<;>intro h<;>(try simp only[List.length_map] at h)<;>(try omega)<;>(try contradiction))|(guard_target=aa _ 81 _ _ _ _;refine cP rfl (hpl) ?_)|(guard_target=aa _ 84 _ _ _ _;refine cG [true,false] rfl (LH a e hw he (by omega)) ?_)
  |refine aR ?_
  |refine iX (k:= ?_)
  |refine nB ?_
  |apply ay.no
  |apply cj.go|(guard_target=aQ _ _;refine aQ.mk (by first|((simp only[List.length_map];omega))|fail) ?_)
  |refine nO ?_)
 all_goals first|rfl|exact⟨rfl,trivial⟩|(exfalso;omega)
end
end
end Go.Proofs.YtgbggaddpbghfaaGreat
namespace Go.Proofs.YtgbggaddpbghfaaGreat
open Go Go.KA Go.Proofs
set_option maxHeartbeats 16000000
set_option maxRecDepth 100000
theorem AY{n:Nat}{l:List aS}:(l.map bj).take (n-Int.toNat 0)=(l.take n).map bj:=List.map_take.symm
section
variable{a:ag}{e:bm}
theorem BQ(h:(sA a e.a).up=(e.kind==9)):iu a e=(4,a):=if_pos h
theorem DM(h:¬(sA a e.a).up=(e.kind==9))(h7:e.kind=7):iu a e=(0,iD a e.a ⟨(sA a e.a).up,(sA a e.a).notes,((sA a e.a).notes.length:Nat)⟩):=(if_neg h).trans (if_pos h7)
theorem Bu(h:¬(sA a e.a).up=(e.kind==9))(h8:e.kind=8):iu a e=(0,iD a e.a ⟨false,(sA a e.a).notes.take (sA a e.a).saved.toNat,(sA a e.a).saved⟩):=(if_neg h).trans ((if_neg (by omega)).trans (if_pos h8))
theorem Dz(h:¬(sA a e.a).up=(e.kind==9))(h7:¬e.kind=7)(h8:¬e.kind=8):iu a e=(0,iD a e.a ⟨true,(sA a e.a).notes,(sA a e.a).saved⟩):=(if_neg h).trans ((if_neg h7).trans (if_neg h8))
end
section
variable(a:ag)(e:bm)(hw:WA a)(he:EA e)
include hw he
section
variable(hp:b8 a e.a=true)
include hp
theorem Hs(hk:7≤e.kind∧e.kind≤9):ai Tryz.prog 38 [.c (.op (cy a)), .a 9 (bM e)] [some [.op (cy (iu a e).2)],none] (I (iu a e).1):=by
 have _:=he
 have hlt:=bW hp
 have h5:=hw.n5
 have hplt:e.a.toNat<a.ab.length:=by omega
 have hsv:=hw.sv _ hplt
 have hpl:=ji a e.a
 rw[hp] at hpl
 by_cases hs:(a.ab.getD e.a.toNat cO).saved=((a.ab.getD e.a.toNat cO).notes.length:Int)
 ·refine ID Tryz.func38 (fun reg_=>match reg_ with|27=>true|_=>false) (h:= ?_)
  repeat'((conv=>whnf);first
   |(guard_target=~ ah (I 4=_) _;rw[BQ (by assumption)];exact ah.mk rfl ⟨rfl,trivial⟩)|(guard_target=~ ah (I 0=_) _;rw[DM (by assumption) (by assumption)];exact ah.mk rfl ⟨congrArg (FA a) (Eq.trans (b:=(a.ab.map bd).set e.a.toNat (bd ⟨(sA a e.a).up,(sA a e.a).notes,((sA a e.a).notes.length:Nat)⟩)) (by(repeat rw[List.set_set]);(try simp only[List.length_map]);rfl) (dm rfl)),trivial⟩)|(guard_target=~ ah (I 0=_) _;rw[Dz (by assumption) (by assumption) (by assumption)];exact ah.mk rfl ⟨congrArg (FA a) (Eq.trans (b:=(a.ab.map bd).set e.a.toNat (bd ⟨true,(sA a e.a).notes,(sA a e.a).saved⟩)) (by(repeat rw[List.set_set]);rfl) (dm rfl)),trivial⟩)|(guard_target=~ ah (I 0=_) _;rw[Bu (by assumption) (by assumption)];exact ah.mk rfl ⟨congrArg (FA a) (Eq.trans (b:=(a.ab.map bd).set e.a.toNat (bd ⟨false,(sA a e.a).notes.take (sA a e.a).saved.toNat,(sA a e.a).saved⟩)) (by(repeat rw[List.set_set]);rw[List.take_of_length_le (l:=(sA a e.a).notes) (i:=(sA a e.a).saved.toNat) (by show(a.ab.getD e.a.toNat cO).notes.length≤(a.ab.getD e.a.toNat cO).saved.toNat;omega)];rfl) (dm rfl)),trivial⟩)
   |refine ah.mk ?_ ?_
   |(apply Fact.mk;intro hL;try simp only[List.length_map,maxLen] at hL)
   |((first|apply bA|apply bB|apply bC|apply bD|apply bE|apply bF)<;>intro h<;>(try simp only[List.length_map] at h)<;>(try omega)<;>(try contradiction))|(guard_target=aa _ 81 _ _ _ _;refine cP rfl (hpl) ?_)|(guard_target= ∀_:Value,_;intro v)|(guard_target=Gh _ _ _ _ _;refine Gh.iL 0 e.a.toNat 1 4 rfl (cB (by simp only[List.length_set,List.length_map];exact hplt)) rfl rfl rfl (Gh.go ?_))|(guard_target=Gh _ _ _ _ _;refine Gh.go ?_)
   |refine aR ?_|(guard_target=Index _ _ _;first|refine Index.mk _ (aF (d:=cO) hplt) ?_|refine Index.mk _ (cB (by rw[List.length_map];exact hplt)) ?_)
   |refine iX (k:= ?_)
   |refine nB ?_
   |apply ay.no|(guard_target=aQ _ _;refine aQ.mk (by first|((simp only[List.length_set,List.length_map];omega))|fail) ?_)
   |refine nO ?_)
  all_goals(conv=>whnf)
  all_goals try refine cj.opens 0 e.a.toNat 1 rfl (aF (d:=cO) hplt) rfl fun v=>cj.go ?_
  repeat'((conv=>whnf);first
   |(guard_target=~ ah (I 4=_) _;rw[BQ (by assumption)];exact ah.mk rfl ⟨rfl,trivial⟩)|(guard_target=~ ah (I 0=_) _;rw[DM (by assumption) (by assumption)];exact ah.mk rfl ⟨congrArg (FA a) (Eq.trans (b:=(a.ab.map bd).set e.a.toNat (bd ⟨(sA a e.a).up,(sA a e.a).notes,((sA a e.a).notes.length:Nat)⟩)) (by(repeat rw[List.set_set]);(try simp only[List.length_map]);rfl) (dm rfl)),trivial⟩)|(guard_target=~ ah (I 0=_) _;rw[Dz (by assumption) (by assumption) (by assumption)];exact ah.mk rfl ⟨congrArg (FA a) (Eq.trans (b:=(a.ab.map bd).set e.a.toNat (bd ⟨true,(sA a e.a).notes,(sA a e.a).saved⟩)) (by(repeat rw[List.set_set]);rfl) (dm rfl)),trivial⟩)|(guard_target=~ ah (I 0=_) _;rw[Bu (by assumption) (by assumption)];exact ah.mk rfl ⟨congrArg (FA a) (Eq.trans (b:=(a.ab.map bd).set e.a.toNat (bd ⟨false,(sA a e.a).notes.take (sA a e.a).saved.toNat,(sA a e.a).saved⟩)) (by(repeat rw[List.set_set]);rw[List.take_of_length_le (l:=(sA a e.a).notes) (i:=(sA a e.a).saved.toNat) (by show(a.ab.getD e.a.toNat cO).notes.length≤(a.ab.getD e.a.toNat cO).saved.toNat;omega)];rfl) (dm rfl)),trivial⟩)
   |refine ah.mk ?_ ?_
   |(apply Fact.mk;intro hL;try simp only[List.length_map,maxLen] at hL)
   |((first|apply bA|apply bB|apply bC|apply bD|apply bE|apply bF)<;>intro h<;>(try simp only[List.length_map] at h)<;>(try omega)<;>(try contradiction))|(guard_target=gv _ _ _ _ _ _;refine gv.all (by rw[List.length_map];exact⟨rfl,hs⟩) ?_)|(guard_target=Gh _ _ _ _ _;refine Gh.go ?_)
   |refine aR ?_|(guard_target=Index _ _ _;first|refine Index.mk _ (cB (by simp only[List.length_set,List.length_map];exact hplt)) ?_)
   |refine iX (k:= ?_)
   |refine nB ?_|(guard_target=ay _ _ _;first|refine ay.row 4 rfl ?_|refine ay.aG 4 rfl ?_)
   |apply ay.no
   |apply cj.go|(guard_target=aQ _ _;refine aQ.mk (by first|((simp only[List.length_set,List.length_map];omega))|fail) ?_)
   |refine nO ?_)
  all_goals(try(conv=>whnf))
 ·refine ID Tryz.func38 (fun reg_=>match reg_ with|27=>true|_=>false) (h:= ?_)
  repeat'((conv=>whnf);first
   |(guard_target=~ ah (I 4=_) _;rw[BQ (by assumption)];exact ah.mk rfl ⟨rfl,trivial⟩)|(guard_target=~ ah (I 0=_) _;rw[DM (by assumption) (by assumption)];exact ah.mk rfl ⟨congrArg (FA a) (Eq.trans (b:=(a.ab.map bd).set e.a.toNat (bd ⟨(sA a e.a).up,(sA a e.a).notes,((sA a e.a).notes.length:Nat)⟩)) (by(repeat rw[List.set_set]);(try simp only[List.length_map]);rfl) (dm rfl)),trivial⟩)|(guard_target=~ ah (I 0=_) _;rw[Dz (by assumption) (by assumption) (by assumption)];exact ah.mk rfl ⟨congrArg (FA a) (Eq.trans (b:=(a.ab.map bd).set e.a.toNat (bd ⟨true,(sA a e.a).notes,(sA a e.a).saved⟩)) (by(repeat rw[List.set_set]);rfl) (dm rfl)),trivial⟩)|(guard_target=~ ah (I 0=_) _;rw[Bu (by assumption) (by assumption)];exact ah.mk rfl ⟨congrArg (FA a) (Eq.trans (b:=(a.ab.map bd).set e.a.toNat (bd ⟨false,(sA a e.a).notes.take (sA a e.a).saved.toNat,(sA a e.a).saved⟩)) (by(repeat rw[List.set_set]);exact congrArg (fun R=>(a.ab.map bd).set e.a.toNat [CV.val (.bool false),CV.ows 51 7 R,J (sA a e.a).saved]) AY) (dm rfl)),trivial⟩)
   |refine ah.mk ?_ ?_
   |(apply Fact.mk;intro hL;try simp only[List.length_map,maxLen] at hL)
   |((first|apply bA|apply bB|apply bC|apply bD|apply bE|apply bF)<;>intro h<;>(try simp only[List.length_map] at h)<;>(try omega)<;>(try contradiction))|(guard_target=aa _ 81 _ _ _ _;refine cP rfl (hpl) ?_)|(guard_target= ∀_:Value,_;intro v)|(guard_target=Gh _ _ _ _ _;refine Gh.iL 0 e.a.toNat 1 4 rfl (cB (by simp only[List.length_set,List.length_map];exact hplt)) rfl rfl rfl (Gh.go ?_))|(guard_target=Gh _ _ _ _ _;refine Gh.go ?_)
   |refine aR ?_|(guard_target=Index _ _ _;first|refine Index.mk _ (aF (d:=cO) hplt) ?_|refine Index.mk _ (cB (by rw[List.length_map];exact hplt)) ?_)
   |refine iX (k:= ?_)
   |refine nB ?_
   |apply ay.no|(guard_target=aQ _ _;refine aQ.mk (by first|((simp only[List.length_set,List.length_map];omega))|fail) ?_)
   |refine nO ?_)
  all_goals(conv=>whnf)
  all_goals try refine cj.opens 0 e.a.toNat 1 rfl (aF (d:=cO) hplt) rfl fun v=>cj.go ?_
  repeat'((conv=>whnf);first
   |(guard_target=~ ah (I 4=_) _;rw[BQ (by assumption)];exact ah.mk rfl ⟨rfl,trivial⟩)|(guard_target=~ ah (I 0=_) _;rw[DM (by assumption) (by assumption)];exact ah.mk rfl ⟨congrArg (FA a) (Eq.trans (b:=(a.ab.map bd).set e.a.toNat (bd ⟨(sA a e.a).up,(sA a e.a).notes,((sA a e.a).notes.length:Nat)⟩)) (by(repeat rw[List.set_set]);(try simp only[List.length_map]);rfl) (dm rfl)),trivial⟩)|(guard_target=~ ah (I 0=_) _;rw[Dz (by assumption) (by assumption) (by assumption)];exact ah.mk rfl ⟨congrArg (FA a) (Eq.trans (b:=(a.ab.map bd).set e.a.toNat (bd ⟨true,(sA a e.a).notes,(sA a e.a).saved⟩)) (by(repeat rw[List.set_set]);rfl) (dm rfl)),trivial⟩)|(guard_target=~ ah (I 0=_) _;rw[Bu (by assumption) (by assumption)];exact ah.mk rfl ⟨congrArg (FA a) (Eq.trans (b:=(a.ab.map bd).set e.a.toNat (bd ⟨false,(sA a e.a).notes.take (sA a e.a).saved.toNat,(sA a e.a).saved⟩)) (by(repeat rw[List.set_set]);exact congrArg (fun R=>(a.ab.map bd).set e.a.toNat [CV.val (.bool false),CV.ows 51 7 R,J (sA a e.a).saved]) AY) (dm rfl)),trivial⟩)
   |refine ah.mk ?_ ?_
   |(apply Fact.mk;intro hL;try simp only[List.length_map,maxLen] at hL)
   |((first|apply bA|apply bB|apply bC|apply bD|apply bE|apply bF)<;>intro h<;>(try simp only[List.length_map] at h)<;>(try omega)<;>(try contradiction))|(guard_target=gv _ _ _ _ _ _;refine gv.some (by rw[List.length_map];omega) ?_)|(guard_target=Gh _ _ _ _ _;refine Gh.go ?_)
   |refine aR ?_|(guard_target=Index _ _ _;first|refine Index.mk _ (cB (by simp only[List.length_set,List.length_map];exact hplt)) ?_)
   |refine iX (k:= ?_)
   |refine nB ?_|(guard_target=ay _ _ _;first|refine ay.row 4 rfl ?_|refine ay.aG 4 rfl ?_)
   |apply ay.no
   |apply cj.go|(guard_target=aQ _ _;refine aQ.mk (by first|((simp only[List.length_set,List.length_map];omega))|fail) ?_)
   |refine nO ?_)
  all_goals(try(conv=>whnf))
end
end
end Go.Proofs.YtgbggaddpbghfaaGreat
namespace Go.Proofs.YtgbggaddpbghfaaGreat
open Go Go.KA Go.Proofs
set_option maxHeartbeats 16000000
set_option maxRecDepth 100000
theorem NU{a:ag}{e:bm}(hk:e.kind=4∨e.kind=5):l4 a e=sU a e:=by
 unfold l4 sU
 split
 ·rfl
 ·rw[if_pos (by omega)]
theorem Cu{a:ag}{e:bm}(hk:e.kind=6):l4 a e=eP a e.a:=by
 unfold l4
 rw[if_neg (by omega),if_neg (by omega),if_pos hk]
theorem K3{a:ag}{e:bm}(hk:¬e.kind=4∧¬e.kind=5∧¬e.kind=6)(hp:b8 a e.a=false):l4 a e=(2,a):=by
 unfold l4
 rw[if_neg hk.1,if_neg hk.2.1,if_neg hk.2.2,if_pos hp]
theorem Ni{a:ag}{e:bm}(hk:¬e.kind=4∧¬e.kind=5∧¬e.kind=6)(hp:b8 a e.a=true):l4 a e=(if e.kind=1 then eD a e else if e.kind=2 then cK a e else if e.kind=3 then dy a e else iu a e):=by
 unfold l4
 rw[if_neg hk.1,if_neg hk.2.1,if_neg hk.2.2,if_neg (by rw[hp];decide)]
section
variable(a:ag)(e:bm)(hw:WA a)(he:EA e)(hk9:1≤e.kind∧e.kind≤9)
include hw he
include hk9 in
theorem yZ:ai Tryz.prog 38 [.c (.op (cy a)), .a 9 (bM e)] [some [.op (cy (l4 a e).2)],none] (I (l4 a e).1):=by
 by_cases h1:e.kind=4∨e.kind=5
 ·rw[NU h1]
  exact G0 a e hw he h1
 by_cases h2:e.kind=6
 ·rw[Cu h2]
  exact Dg a e hw he h2
 have hk:¬e.kind=4∧¬e.kind=5∧¬e.kind=6:=by omega
 cases hp:b8 a e.a with
 |false=>
  rw[K3 hk hp]
  exact HE a e hw he hk hp
 |true=>
  rw[Ni hk hp]
  by_cases h3:e.kind=1
  ·rw[if_pos h3]
   exact EP a e hw he hp h3
  rw[if_neg h3]
  by_cases h4:e.kind=2
  ·rw[if_pos h4]
   exact xR a e hw he hp h4
  rw[if_neg h4]
  by_cases h5:e.kind=3
  ·rw[if_pos h5]
   exact CW a e hw he hp h5
  rw[if_neg h5]
  exact Hs a e hw he hp (by omega)
section
variable(hp:b8 a e.a=false)
include hp
theorem Hi:ai Tryz.prog 118 [.c (.op (cy a)), .c (.rp 9 (bM e))] [some [.op (cy a)],none] (I 2):=by
 have _:=hw
 have _:=he
 have hat:=iM a e.a
 rw[hp] at hat
 refine cX Tryz.func118 (h:= ?_)
 repeat'((conv=>whnf);first
  |refine ah.mk ?_ ?_
  |(apply Fact.mk;intro hL;try simp only[List.length_map,maxLen] at hL)
  |((first|apply bA|apply bB|apply bC|apply bD|apply bE|apply bF)<;>intro h<;>(try simp only[List.length_map] at h)<;>(try omega)<;>(try contradiction))|(guard_target=aa _ 104 _ _ _ _;refine cP rfl (hat) ?_)
  |refine aR ?_
  |refine iX (k:= ?_)
  |refine nB ?_
  |apply ay.no
  |apply cj.go
  |refine nO ?_)
 all_goals first|rfl|exact⟨rfl,trivial⟩
theorem AB:ai Tryz.prog 119 [.c (.op (cy a)), .c (.rp 9 (bM e))] [some [.op (cy a)],none] (I 2):=by
 have _:=hw
 have _:=he
 have hat:=iM a e.a
 rw[hp] at hat
 refine cX Tryz.func119 (h:= ?_)
 repeat'((conv=>whnf);first
  |refine ah.mk ?_ ?_
  |(apply Fact.mk;intro hL;try simp only[List.length_map,maxLen] at hL)
  |((first|apply bA|apply bB|apply bC|apply bD|apply bE|apply bF)<;>intro h<;>(try simp only[List.length_map] at h)<;>(try omega)<;>(try contradiction))|(guard_target=aa _ 104 _ _ _ _;refine cP rfl (hat) ?_)
  |refine iX (k:= ?_)
  |refine nB ?_
  |apply ay.no
  |apply cj.go
  |refine nO ?_)
 all_goals first|rfl|exact⟨rfl,trivial⟩
theorem Es:ai Tryz.prog 120 [.c (.op (cy a)), .c (.rp 9 (bM e))] [some [.op (cy a)],none] (I 2):=by
 have _:=hw
 have _:=he
 have hat:=iM a e.a
 rw[hp] at hat
 refine cX Tryz.func120 (h:= ?_)
 repeat'((conv=>whnf);first
  |refine ah.mk ?_ ?_
  |(apply Fact.mk;intro hL;try simp only[List.length_map,maxLen] at hL)
  |((first|apply bA|apply bB|apply bC|apply bD|apply bE|apply bF)<;>intro h<;>(try simp only[List.length_map] at h)<;>(try omega)<;>(try contradiction))|(guard_target=aa _ 104 _ _ _ _;refine cP rfl (hat) ?_)
  |refine iX (k:= ?_)
  |refine nB ?_
  |apply ay.no
  |apply cj.go
  |refine nO ?_)
 all_goals first|rfl|exact⟨rfl,trivial⟩
theorem zJ:ai Tryz.prog 123 [.c (.op (cy a)), .c (.rp 9 (bM e))] [some [.op (cy a)],none] (I 2):=by
 have _:=hw
 have _:=he
 have hat:=iM a e.a
 rw[hp] at hat
 refine cX Tryz.func123 (h:= ?_)
 repeat'((conv=>whnf);first
  |refine ah.mk ?_ ?_
  |(apply Fact.mk;intro hL;try simp only[List.length_map,maxLen] at hL)
  |((first|apply bA|apply bB|apply bC|apply bD|apply bE|apply bF)<;>intro h<;>(try simp only[List.length_map] at h)<;>(try omega)<;>(try contradiction))|(guard_target=aa _ 104 _ _ _ _;refine cP rfl (hat) ?_)
  |refine iX (k:= ?_)
  |refine nB ?_
  |apply ay.no
  |apply cj.go
  |refine nO ?_)
 all_goals first|rfl|exact⟨rfl,trivial⟩
end
section
variable(hp:b8 a e.a=true)
include hp
theorem AD(hk:7≤e.kind∧e.kind≤9):ai Tryz.prog 123 [.c (.op (cy a)), .c (.rp 9 (bM e))] [some [.op (cy (iu a e).2)],none] (I (iu a e).1):=by
 have _:=he
 have hlt:=bW hp
 have h5:=hw.n5
 have hplt:e.a.toNat<a.ab.length:=by omega
 have hsv:=hw.sv _ hplt
 have hat:=iM a e.a
 rw[hp] at hat
 by_cases hs:(a.ab.getD e.a.toNat cO).saved=((a.ab.getD e.a.toNat cO).notes.length:Int)
 ·refine ID Tryz.func123 (fun reg_=>match reg_ with|10=>true|_=>false) (h:= ?_)
  repeat'((conv=>whnf);first
   |(guard_target=~ ah (I 4=_) _;rw[BQ (by assumption)];exact ah.mk rfl ⟨rfl,trivial⟩)|(guard_target=~ ah (I 0=_) _;rw[DM (by assumption) (by assumption)];exact ah.mk rfl ⟨congrArg (FA a) (Eq.trans (b:=(a.ab.map bd).set e.a.toNat (bd ⟨(sA a e.a).up,(sA a e.a).notes,((sA a e.a).notes.length:Nat)⟩)) (by(repeat rw[List.set_set]);(try simp only[List.length_map]);rfl) (dm rfl)),trivial⟩)|(guard_target=~ ah (I 0=_) _;rw[Dz (by assumption) (by assumption) (by assumption)];exact ah.mk rfl ⟨congrArg (FA a) (Eq.trans (b:=(a.ab.map bd).set e.a.toNat (bd ⟨true,(sA a e.a).notes,(sA a e.a).saved⟩)) (by(repeat rw[List.set_set]);rfl) (dm rfl)),trivial⟩)|(guard_target=~ ah (I 0=_) _;rw[Bu (by assumption) (by assumption)];exact ah.mk rfl ⟨congrArg (FA a) (Eq.trans (b:=(a.ab.map bd).set e.a.toNat (bd ⟨false,(sA a e.a).notes.take (sA a e.a).saved.toNat,(sA a e.a).saved⟩)) (by(repeat rw[List.set_set]);rw[List.take_of_length_le (l:=(sA a e.a).notes) (i:=(sA a e.a).saved.toNat) (by show(a.ab.getD e.a.toNat cO).notes.length≤(a.ab.getD e.a.toNat cO).saved.toNat;omega)];rfl) (dm rfl)),trivial⟩)
   |refine ah.mk ?_ ?_
   |(apply Fact.mk;intro hL;try simp only[List.length_map,maxLen] at hL)
   |((first|apply bA|apply bB|apply bC|apply bD|apply bE|apply bF)<;>intro h<;>(try simp only[List.length_map] at h)<;>(try omega)<;>(try contradiction))|(guard_target=aa _ 104 _ _ _ _;refine cP rfl (hat) ?_)|(guard_target= ∀_:Value,_;intro v)|(guard_target=Gh _ _ _ _ _;refine Gh.iL 0 e.a.toNat 1 3 rfl (cB (by simp only[List.length_set,List.length_map];exact hplt)) rfl rfl rfl (Gh.go ?_))|(guard_target=Gh _ _ _ _ _;refine Gh.go ?_)|(guard_target=Index _ _ _;first|refine Index.mk _ (aF (d:=cO) hplt) ?_|refine Index.mk _ (cB (by rw[List.length_map];exact hplt)) ?_)
   |refine iX (k:= ?_)
   |refine nB ?_
   |apply ay.no|(guard_target=aQ _ _;refine aQ.mk (by first|((simp only[List.length_set,List.length_map];omega))|fail) ?_)
   |refine nO ?_)
  all_goals(conv=>whnf)
  all_goals try refine cj.opens 0 e.a.toNat 1 rfl (aF (d:=cO) hplt) rfl fun v=>cj.go ?_
  repeat'((conv=>whnf);first
   |(guard_target=~ ah (I 4=_) _;rw[BQ (by assumption)];exact ah.mk rfl ⟨rfl,trivial⟩)|(guard_target=~ ah (I 0=_) _;rw[DM (by assumption) (by assumption)];exact ah.mk rfl ⟨congrArg (FA a) (Eq.trans (b:=(a.ab.map bd).set e.a.toNat (bd ⟨(sA a e.a).up,(sA a e.a).notes,((sA a e.a).notes.length:Nat)⟩)) (by(repeat rw[List.set_set]);(try simp only[List.length_map]);rfl) (dm rfl)),trivial⟩)|(guard_target=~ ah (I 0=_) _;rw[Dz (by assumption) (by assumption) (by assumption)];exact ah.mk rfl ⟨congrArg (FA a) (Eq.trans (b:=(a.ab.map bd).set e.a.toNat (bd ⟨true,(sA a e.a).notes,(sA a e.a).saved⟩)) (by(repeat rw[List.set_set]);rfl) (dm rfl)),trivial⟩)|(guard_target=~ ah (I 0=_) _;rw[Bu (by assumption) (by assumption)];exact ah.mk rfl ⟨congrArg (FA a) (Eq.trans (b:=(a.ab.map bd).set e.a.toNat (bd ⟨false,(sA a e.a).notes.take (sA a e.a).saved.toNat,(sA a e.a).saved⟩)) (by(repeat rw[List.set_set]);rw[List.take_of_length_le (l:=(sA a e.a).notes) (i:=(sA a e.a).saved.toNat) (by show(a.ab.getD e.a.toNat cO).notes.length≤(a.ab.getD e.a.toNat cO).saved.toNat;omega)];rfl) (dm rfl)),trivial⟩)
   |refine ah.mk ?_ ?_
   |(apply Fact.mk;intro hL;try simp only[List.length_map,maxLen] at hL)
   |((first|apply bA|apply bB|apply bC|apply bD|apply bE|apply bF)<;>intro h<;>(try simp only[List.length_map] at h)<;>(try omega)<;>(try contradiction))|(guard_target=gv _ _ _ _ _ _;refine gv.all (by rw[List.length_map];exact⟨rfl,hs⟩) ?_)|(guard_target=Gh _ _ _ _ _;refine Gh.go ?_)|(guard_target=Index _ _ _;first|refine Index.mk _ (cB (by simp only[List.length_set,List.length_map];exact hplt)) ?_)
   |refine iX (k:= ?_)
   |refine nB ?_|(guard_target=ay _ _ _;first|refine ay.row 3 rfl ?_|refine ay.aG 3 rfl ?_)
   |apply ay.no
   |apply cj.go|(guard_target=aQ _ _;refine aQ.mk (by first|((simp only[List.length_set,List.length_map];omega))|fail) ?_)
   |refine nO ?_)
  all_goals(try(conv=>whnf))
 ·refine ID Tryz.func123 (fun reg_=>match reg_ with|10=>true|_=>false) (h:= ?_)
  repeat'((conv=>whnf);first
   |(guard_target=~ ah (I 4=_) _;rw[BQ (by assumption)];exact ah.mk rfl ⟨rfl,trivial⟩)|(guard_target=~ ah (I 0=_) _;rw[DM (by assumption) (by assumption)];exact ah.mk rfl ⟨congrArg (FA a) (Eq.trans (b:=(a.ab.map bd).set e.a.toNat (bd ⟨(sA a e.a).up,(sA a e.a).notes,((sA a e.a).notes.length:Nat)⟩)) (by(repeat rw[List.set_set]);(try simp only[List.length_map]);rfl) (dm rfl)),trivial⟩)|(guard_target=~ ah (I 0=_) _;rw[Dz (by assumption) (by assumption) (by assumption)];exact ah.mk rfl ⟨congrArg (FA a) (Eq.trans (b:=(a.ab.map bd).set e.a.toNat (bd ⟨true,(sA a e.a).notes,(sA a e.a).saved⟩)) (by(repeat rw[List.set_set]);rfl) (dm rfl)),trivial⟩)|(guard_target=~ ah (I 0=_) _;rw[Bu (by assumption) (by assumption)];exact ah.mk rfl ⟨congrArg (FA a) (Eq.trans (b:=(a.ab.map bd).set e.a.toNat (bd ⟨false,(sA a e.a).notes.take (sA a e.a).saved.toNat,(sA a e.a).saved⟩)) (by(repeat rw[List.set_set]);exact congrArg (fun R=>(a.ab.map bd).set e.a.toNat [CV.val (.bool false),CV.ows 51 7 R,J (sA a e.a).saved]) AY) (dm rfl)),trivial⟩)
   |refine ah.mk ?_ ?_
   |(apply Fact.mk;intro hL;try simp only[List.length_map,maxLen] at hL)
   |((first|apply bA|apply bB|apply bC|apply bD|apply bE|apply bF)<;>intro h<;>(try simp only[List.length_map] at h)<;>(try omega)<;>(try contradiction))|(guard_target=aa _ 104 _ _ _ _;refine cP rfl (hat) ?_)|(guard_target= ∀_:Value,_;intro v)|(guard_target=Gh _ _ _ _ _;refine Gh.iL 0 e.a.toNat 1 3 rfl (cB (by simp only[List.length_set,List.length_map];exact hplt)) rfl rfl rfl (Gh.go ?_))|(guard_target=Gh _ _ _ _ _;refine Gh.go ?_)|(guard_target=Index _ _ _;first|refine Index.mk _ (aF (d:=cO) hplt) ?_|refine Index.mk _ (cB (by rw[List.length_map];exact hplt)) ?_)
   |refine iX (k:= ?_)
   |refine nB ?_
   |apply ay.no|(guard_target=aQ _ _;refine aQ.mk (by first|((simp only[List.length_set,List.length_map];omega))|fail) ?_)
   |refine nO ?_)
  all_goals(conv=>whnf)
  all_goals try refine cj.opens 0 e.a.toNat 1 rfl (aF (d:=cO) hplt) rfl fun v=>cj.go ?_
  repeat'((conv=>whnf);first
   |(guard_target=~ ah (I 4=_) _;rw[BQ (by assumption)];exact ah.mk rfl ⟨rfl,trivial⟩)|(guard_target=~ ah (I 0=_) _;rw[DM (by assumption) (by assumption)];exact ah.mk rfl ⟨congrArg (FA a) (Eq.trans (b:=(a.ab.map bd).set e.a.toNat (bd ⟨(sA a e.a).up,(sA a e.a).notes,((sA a e.a).notes.length:Nat)⟩)) (by(repeat rw[List.set_set]);(try simp only[List.length_map]);rfl) (dm rfl)),trivial⟩)|(guard_target=~ ah (I 0=_) _;rw[Dz (by assumption) (by assumption) (by assumption)];exact ah.mk rfl ⟨congrArg (FA a) (Eq.trans (b:=(a.ab.map bd).set e.a.toNat (bd ⟨true,(sA a e.a).notes,(sA a e.a).saved⟩)) (by(repeat rw[List.set_set]);rfl) (dm rfl)),trivial⟩)|(guard_target=~ ah (I 0=_) _;rw[Bu (by assumption) (by assumption)];exact ah.mk rfl ⟨congrArg (FA a) (Eq.trans (b:=(a.ab.map bd).set e.a.toNat (bd ⟨false,(sA a e.a).notes.take (sA a e.a).saved.toNat,(sA a e.a).saved⟩)) (by(repeat rw[List.set_set]);exact congrArg (fun R=>(a.ab.map bd).set e.a.toNat [CV.val (.bool false),CV.ows 51 7 R,J (sA a e.a).saved]) AY) (dm rfl)),trivial⟩)
   |refine ah.mk ?_ ?_
   |(apply Fact.mk;intro hL;try simp only[List.length_map,maxLen] at hL)
   |((first|apply bA|apply bB|apply bC|apply bD|apply bE|apply bF)<;>intro h<;>(try simp only[List.length_map] at h)<;>(try omega)<;>(try contradiction))|(guard_target=gv _ _ _ _ _ _;refine gv.some (by rw[List.length_map];omega) ?_)|(guard_target=Gh _ _ _ _ _;refine Gh.go ?_)|(guard_target=Index _ _ _;first|refine Index.mk _ (cB (by simp only[List.length_set,List.length_map];exact hplt)) ?_)
   |refine iX (k:= ?_)
   |refine nB ?_|(guard_target=ay _ _ _;first|refine ay.row 3 rfl ?_|refine ay.aG 3 rfl ?_)
   |apply ay.no
   |apply cj.go|(guard_target=aQ _ _;refine aQ.mk (by first|((simp only[List.length_set,List.length_map];omega))|fail) ?_)
   |refine nO ?_)
  all_goals(try(conv=>whnf))
end
end
end Go.Proofs.YtgbggaddpbghfaaGreat
