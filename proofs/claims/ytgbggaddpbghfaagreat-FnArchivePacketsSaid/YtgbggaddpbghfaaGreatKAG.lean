/- Contracts of what takes in and what removes a packet: the program's and the reference's functions. Conditions: the archive's shape. -/
import Derived.Test.YtgbggaddpbghfaaGreatKAF
namespace Go.Proofs.YtgbggaddpbghfaaGreat
open Go Go.KA Go.Proofs
set_option maxHeartbeats 16000000
set_option maxRecDepth 100000
theorem HE{l:List cB}{z h:Int}(hz:0≤z)(hl:z+1<(l.length:Int)):
 []++((l.map aQ).drop (0:Int).toNat).take (z.toNat-(0:Int).toNat)++((l.map aQ).drop (z+1).toNat).take ((((l.map aQ).length:Nat):Int).toNat-(z+1).toNat)=(l.take z.toNat++l.drop (z.toNat+1)).map aQ:=by
 rw[show(z+1).toNat=z.toNat+1 by omega,List.take_of_length_le (l:=(l.map aQ).drop (z.toNat+1)) (by simp),List.map_append,List.map_take,List.map_drop]
 simp
theorem ER{l:List cB}{z h:Int}(hz:0≤z)(hl:z+1=(l.length:Int)):
 []++((l.map aQ).drop (0:Int).toNat).take (z.toNat-(0:Int).toNat)++[]=(l.take z.toNat++l.drop (z.toNat+1)).map aQ:=by
 rw[List.drop_of_length_le (l:=l) (i:=z.toNat+1) (by omega),List.append_nil,List.append_nil,List.map_take]
 simp
theorem Nq{a:af}{i:Int}(h:i≥(a.aw.length:Int)):dP a i=(2,a):=if_pos h
theorem zE{a:af}{i:Int}(h:¬i≥(a.aw.length:Int)):dP a i=(0,⟨a.sig,a.ab,a.aw.take i.toNat++a.aw.drop (i.toNat+1)⟩):=if_neg h
theorem w8(a:af)(z:Int)(h12:a.aw.length≤1048576)(hz:0≤z∧z≤999):ah Tryz.prog 122 [.c (.op (cj a)),I z] [some [.op (cj (dP a z).2)],none] (I (dP a z).1):=by
 by_cases hlast:z+1=(a.aw.length:Int)
 ·refine cX Tryz.func122 (h:= ?_)
  repeat'((conv=>whnf);first
   |(guard_target=~ aq (I 0=_) _;rw[zE (by omega)];exact aq.mk rfl ⟨congrArg (FB a) (ER (h:=0) hz.1 hlast),trivial⟩)
   |(apply Fact.mk;intro hL;try simp only[List.length_map,maxLen] at hL)
   |((first|apply bA|apply bB|apply bC|apply bD|apply bE|apply bF)<;>intro h<;>(try simp only[List.length_map] at h)<;>(try omega)<;>(try contradiction))|(guard_target=gz _ _ _ _ _ _;refine gz.some (by simp only[List.length_map];omega) ?_)|(guard_target=gz _ _ _ _ _ _;refine gz.none (by simp only[List.length_map];omega) ?_)
   |refine aR ?_
   |refine nB ?_|(guard_target=aV _ _;refine aV.mk (by first|((simp only[List.length_append,List.length_take,List.length_drop,List.length_nil,List.length_map,maxLen];constructor<;>omega))|fail) ?_))
  all_goals(try(conv=>whnf))
 ·refine cX Tryz.func122 (h:= ?_)
  repeat'((conv=>whnf);first
   |(guard_target=~ aq (I 2=_) _;rw[Nq (by omega)];exact aq.mk rfl ⟨rfl,trivial⟩)|(guard_target=~ aq (I 0=_) _;rw[zE (by omega)];exact aq.mk rfl ⟨congrArg (FB a) (HE (h:=0) hz.1 (by omega)),trivial⟩)
   |(apply Fact.mk;intro hL;try simp only[List.length_map,maxLen] at hL)
   |((first|apply bA|apply bB|apply bC|apply bD|apply bE|apply bF)<;>intro h<;>(try simp only[List.length_map] at h)<;>(try omega)<;>(try contradiction))|(guard_target=gz _ _ _ _ _ _;refine gz.some (by simp only[List.length_map];omega) ?_)
   |refine aR ?_
   |refine nB ?_|(guard_target=aV _ _;refine aV.mk (by first|((simp only[List.length_append,List.length_take,List.length_drop,List.length_nil,List.length_map,maxLen];constructor<;>omega))|fail) ?_))
  all_goals(try(conv=>whnf))
section
variable{a:af}{i:Int}
abbrev sP(a:af)(i:Int):aO:=a.ab.getD (a.aw.getD i.toNat jl).ju.toNat db
abbrev pP(a:af)(i:Int):cB:=a.aw.getD i.toNat jl
theorem Er(h:i≥(a.aw.length:Int)):bM a i=(2,a):=if_pos h
theorem B2(h:¬i≥(a.aw.length:Int))(hw:jK a (eQ a i)=false):bM a i=(0,a):=by
 unfold bM
 rw[if_neg h,if_pos hw]
theorem PR(h:(sP a i).up=false):jK a (eQ a i)=false:=by
 unfold jK
 rw[show(sA a (eQ a i).ju).up=false from h]
 rfl
theorem P2(h:¬bz (sP a i).notes (pP a i).note.bU (pP a i).note.id<0):jK a (eQ a i)=false:=by
 unfold jK
 rw[decide_eq_false (show¬bz (sA a (eQ a i).ju).notes (eQ a i).note.bU (eQ a i).note.id<0 from h)]
 simp
theorem Pm(h:gG (sP a i).notes (pP a i).note.entry.bj=false):jK a (eQ a i)=false:=by
 unfold jK
 rw[show gG (sA a (eQ a i).ju).notes (eQ a i).note.entry.bj=false from h]
 simp
theorem Pp(h1:(sP a i).up=true)(h2:bz (sP a i).notes (pP a i).note.bU (pP a i).note.id<0)(h3:gG (sP a i).notes (pP a i).note.entry.bj=true):¬jK a (eQ a i)=false:=by
 unfold jK
 rw[show(sA a (eQ a i).ju).up=true from h1,decide_eq_true (show bz (sA a (eQ a i).ju).notes (eQ a i).note.bU (eQ a i).note.id<0 from h2),show gG (sA a (eQ a i).ju).notes (eQ a i).note.entry.bj=true from h3]
 decide
theorem PJ(h:¬i≥(a.aw.length:Int))(h1:(sP a i).up=true)(h2:bz (sP a i).notes (pP a i).note.bU (pP a i).note.id<0)(h3:gG (sP a i).notes (pP a i).note.entry.bj=true)(h4:(sP a i).notes.length=20):bM a i=(3,a):=by
 unfold bM
 rw[if_neg h,if_neg (Pp h1 h2 h3),if_pos h4]
theorem PA(h:¬i≥(a.aw.length:Int))(h1:(sP a i).up=true)(h2:bz (sP a i).notes (pP a i).note.bU (pP a i).note.id<0)(h3:gG (sP a i).notes (pP a i).note.entry.bj=true)(h4:¬(sP a i).notes.length=20):bM a i=(0,iy a (pP a i).ju (jB (sP a i) (pP a i).note)):=by
 unfold bM
 rw[if_neg h,if_neg (Pp h1 h2 h3),if_neg h4]
end
theorem rH(a:af)(z:Int)(hw:WA a)(hz:0≤z∧z≤999):ah Tryz.prog 121 [.c (.op (cj a)),I z] [some [.op (cj (bM a z).2)],none] (I (bM a z).1):=by
 have h12:=hw.f12
 by_cases hlen:z≥(a.aw.length:Int)
 ·refine cX Tryz.func121 (h:= ?_)
  repeat'((conv=>whnf);first
   |(guard_target=~ aq (I 2=_) _;rw[Er (by omega)];exact aq.mk rfl ⟨rfl,trivial⟩)
   |(apply Fact.mk;intro hL;try simp only[List.length_map,maxLen] at hL)
   |((first|apply bA|apply bB|apply bC|apply bD|apply bE|apply bF)<;>intro h<;>(try simp only[List.length_map] at h)<;>(try omega)<;>(try contradiction)))
  all_goals(try(conv=>whnf))
 ·have hpk:=hw.pk z.toNat (by omega)
  have hpl:(a.aw.getD z.toNat jl).ju.toNat<a.ab.length:=by omega
  have h20:=(hw.sv _ hpl).1
  refine Jb Tryz.func121 (fun reg_=>match reg_ with|5=>true|_=>false) (h:= ?_)
  repeat'((conv=>whnf);first
   |(apply Fact.mk;intro hL;try simp only[List.length_map,maxLen] at hL)
   |((first|apply bA|apply bB|apply bC|apply bD|apply bE|apply bF)<;>intro h<;>(try simp only[List.length_map] at h)<;>(try omega)<;>(try contradiction))|(guard_target=Gh _ _ _ _ _;refine Gh.go ?_)|(guard_target=Index _ _ _;first|(refine Index.mk _ (aF (d:=jl) (i:=z.toNat) (by omega)) ?_)|fail)
   |refine nB ?_|(guard_target=aV _ _;refine aV.mk (by first|((simp only[List.length_map];omega))|fail) ?_))
  all_goals(conv=>whnf)
  all_goals try refine iV.opens 0 (a.aw.getD z.toNat jl).ju.toNat 1 rfl (aF (d:=db) hpl) rfl fun v=>iV.go ?_
  repeat'((conv=>whnf);first
   |(guard_target=~ aq (I 3=_) _;have hd:=PJ (a:=a) (i:=z) (by omega) (by assumption) (by first|assumption|exact Int.not_le.1 (by assumption)) (by assumption) (show(a.ab.getD (a.aw.getD z.toNat jl).ju.toNat db).notes.length=20 by omega);rw[hd];exact aq.mk rfl ⟨rfl,trivial⟩)|(guard_target=~ aq (I 0=_) _;have hd:=B2 (a:=a) (i:=z) (by omega) (by first|exact PR (by assumption)|exact P2 (by omega)|exact Pm (by assumption));rw[hd];exact aq.mk rfl ⟨rfl,trivial⟩)|(guard_target=~ aq (I 0=_) _;have hd:=PA (a:=a) (i:=z) (by omega) (by assumption) (by first|assumption|exact Int.not_le.1 (by assumption)) (by assumption) (show¬(a.ab.getD (a.aw.getD z.toNat jl).ju.toNat db).notes.length=20 by omega);rw[hd];exact aq.mk rfl ⟨congrArg (FA a) (nX (s:=jB (sP a z) (pP a z).note) (congrArg (fun R=>[CV.val (.bool (sP a z).up),CV.ows 51 7 R,J (sP a z).saved]) (uu (wk _)))),trivial⟩)
   |(apply Fact.mk;intro hL;try simp only[List.length_map,maxLen] at hL)
   |((first|apply bA|apply bB|apply bC|apply bD|apply bE|apply bF)<;>intro h<;>(try simp only[List.length_map] at h)<;>(try omega)<;>(try contradiction))|(guard_target=aa _ 60 _ _ _ _;refine cP rfl (gQ (sP a z).notes (pP a z).note.bU (pP a z).note.id) ?_)|(guard_target=aa _ 115 _ _ _ _;refine cP rfl (ug (sP a z).notes (pP a z).note.entry.bj) ?_)|(guard_target=aa _ 108 _ _ _ _;refine aa.own _ _ (GX rfl (aF (d:=jl) (i:=z.toNat) (by omega))) (kf (pP a z).note hpk.2.2) (zO _) _ rfl ?_)|(guard_target=Gh _ _ _ _ _;refine Gh.iO 0 (a.aw.getD z.toNat jl).ju.toNat 1 3 rfl (cy (by rw[List.length_map];exact hpl)) rfl rfl rfl (Gh.soft 0 (b':= .aG none 47 3 (a.ab.map bI)) (.aG (jQ hpl rfl)) (Gh.go ?_)))|(guard_target=Gh _ _ _ _ _;refine Gh.soft 0 (gH.aG (pY (i:=(a.aw.getD z.toNat jl).ju.toNat) (.same (.ows (.same .nil))))) (Gh.go ?_))|(guard_target=Index _ _ _;first|(refine Index.mk _ (cy (by rw[List.length_map];exact hpl)) ?_)|(refine Index.mk _ (aF (d:=jl) (i:=z.toNat) (by omega)) ?_)|fail)
   |refine nB ?_|(guard_target=bH _ _ _;first|refine bH.row 3 rfl ?_|refine bH.aG 3 rfl ?_)|(guard_target=aV _ _;refine aV.mk (by first|((simp only[List.length_set,List.length_map];omega))|((simp only[List.length_cons,List.length_nil,List.length_map,maxLen];constructor<;>omega))|fail) ?_))
  all_goals(try(conv=>whnf))
theorem xu(l:List cB)(z:Int)(hz:0≤z)(hi:z<(l.length:Int)):ah Tryz.prog 80 [.c (.ows 89 8 (l.map aQ)),I z,I (z+1)] [] (.c (.ows 89 8 ((l.take z.toNat++l.drop (z.toNat+1)).map aQ))):=by
 have h:=H5 l z.toNat (by omega)
 rwa[show((z.toNat:Nat):Int)=z by omega] at h
theorem Ph{a:af}{i:Int}(h:(bM a i).1=0):dR a i=dP (bM a i).2 i:=if_pos h
theorem zR{a:af}{i:Int}(h:¬(bM a i).1=0):dR a i=((bM a i).1,a):=if_neg h
def tf(a:af)(e:aS):Int × af:=if e.kind=4 then dR a e.a else bM a e.a
theorem Qt{a:af}{e:aS}(h:e.a≥(a.aw.length:Int)):tf a e=(2,a):=by
 unfold tf
 split
 ·rw[zR (by rw[Er h];show¬(2:Int)=0;decide),Er h]
 ·exact Er h
theorem Qg{a:af}{e:aS}(h:bM a e.a=(3,a)):tf a e=(3,a):=by
 unfold tf
 split
 ·rw[zR (by rw[h];show¬(3:Int)=0;decide),h]
 ·exact h
theorem Pv{a b:af}{e:aS}(hk:e.kind=4)(h:bM a e.a=(0,b))(hl:e.a<(b.aw.length:Int)):tf a e=(0,⟨b.sig,b.ab,b.aw.take e.a.toNat++b.aw.drop (e.a.toNat+1)⟩):=by
 unfold tf
 rw[if_pos hk,Ph (by rw[h]),h,zE (by simp only;omega)]
theorem PQ{a b:af}{e:aS}(hk:¬e.kind=4)(h:bM a e.a=(0,b)):tf a e=(0,b):=by
 unfold tf
 rw[if_neg hk,h]
abbrev FC(a:af)(R S:List (List CV)):Option (List CV):=some [CV.op [J a.sig.au,J a.sig.ai,CV.own 47 3 R,CV.ows 89 8 S]]
theorem Ep(a:af)(e:aS)(hw:WA a)(he:EA e):ah Tryz.prog 79 [.c (.op (cj a)), .a 9 (aT e)] [some [.op (cj (tf a e).2)],none] (I (tf a e).1):=by
 have h12:=hw.f12
 have hz:=he.ra
 by_cases hlen:e.a≥(a.aw.length:Int)
 ·refine cX Tryz.func79 (h:= ?_)
  repeat'((conv=>whnf);first
   |(guard_target=~ aq (I 2=_) _;rw[Qt (by omega)];exact aq.mk rfl ⟨rfl,trivial⟩)
   |((first|apply bA|apply bB|apply bC|apply bD|apply bE|apply bF)<;>intro h<;>(try simp only[List.length_map] at h)<;>(try omega)<;>(try contradiction))
   |refine nB ?_)
  all_goals(try(conv=>whnf))
 ·have hpk:=hw.pk e.a.toNat (by omega)
  have hpl:(a.aw.getD e.a.toNat jl).ju.toNat<a.ab.length:=by omega
  have h20:=(hw.sv _ hpl).1
  refine Jb Tryz.func79 (fun reg_=>match reg_ with|5=>true|_=>false) (h:= ?_)
  repeat'((conv=>whnf);first
   |((first|apply bA|apply bB|apply bC|apply bD|apply bE|apply bF)<;>intro h<;>(try simp only[List.length_map] at h)<;>(try omega)<;>(try contradiction))|(guard_target=Gh _ _ _ _ _;refine Gh.go ?_)|(guard_target=Index _ _ _;first|(refine Index.mk _ (aF (d:=jl) (i:=e.a.toNat) (by omega)) ?_)|fail)
   |refine nB ?_|(guard_target=aV _ _;refine aV.mk (by first|((simp only[List.length_map];omega))|fail) ?_))
  all_goals(conv=>whnf)
  all_goals try refine iV.opens 0 (a.aw.getD e.a.toNat jl).ju.toNat 1 rfl (aF (d:=db) hpl) rfl fun v=>iV.go ?_
  repeat'((conv=>whnf);first
   |(guard_target=~ aq (I 3=_) _;have hd:=Qg (e:=e) (PJ (a:=a) (i:=e.a) (by omega) (by assumption) (by first|assumption|exact Int.not_le.1 (by assumption)) (by assumption) (show(a.ab.getD (a.aw.getD e.a.toNat jl).ju.toNat db).notes.length=20 by omega));rw[hd];exact aq.mk rfl ⟨rfl,trivial⟩)|(guard_target=~ aq (I 0=_) _;have ht:=B2 (a:=a) (i:=e.a) (by omega) (by first|exact PR (by assumption)|exact P2 (by assumption)|exact Pm (by assumption));(first|(rw[Pv (by assumption) ht (by omega)];exact aq.mk rfl ⟨rfl,trivial⟩)|(rw[PQ (by assumption) ht];exact aq.mk rfl ⟨rfl,trivial⟩)))|(guard_target=~ aq (I 0=_) _;have ht:=PA (a:=a) (i:=e.a) (by omega) (by assumption) (by first|assumption|exact Int.not_le.1 (by assumption)) (by assumption) (show¬(a.ab.getD (a.aw.getD e.a.toNat jl).ju.toNat db).notes.length=20 by omega);(first|(rw[Pv (by assumption) ht (show e.a<(a.aw.length:Int) by omega)];exact aq.mk rfl ⟨congrArg (fun R=>FC a R ((a.aw.take e.a.toNat++a.aw.drop (e.a.toNat+1)).map aQ)) (nX (s:=jB (sP a e.a) (pP a e.a).note) (by simp only[bI,List.map_append];rfl)),trivial⟩)|(rw[PQ (by assumption) ht];exact aq.mk rfl ⟨congrArg (FA a) (nX (s:=jB (sP a e.a) (pP a e.a).note) (by simp only[bI,List.map_append];rfl)),trivial⟩)))
   |(apply Fact.mk;intro hL;try simp only[List.length_map,maxLen] at hL)
   |((first|apply bA|apply bB|apply bC|apply bD|apply bE|apply bF)<;>intro h<;>(try simp only[List.length_map] at h)<;>(try omega)<;>(try contradiction))|(guard_target=aa _ 59 _ _ _ _;refine cP rfl (se (sP a e.a).notes (pP a e.a).note.bU (pP a e.a).note.id) ?_)|(guard_target=aa _ 95 _ _ _ _;refine cP rfl (oW (sP a e.a).notes (pP a e.a).note.entry.bj) ?_)|(guard_target=aa _ 78 _ _ _ _;refine cG [] rfl (mL (pP a e.a).note hpk.2.2) ?_)|(guard_target=aa _ 80 _ _ _ _;refine cG [true,false,false] rfl (xu a.aw e.a hz.1 (by omega)) ?_)|(guard_target=Gh _ _ _ _ _;refine Gh.iO 0 (a.aw.getD e.a.toNat jl).ju.toNat 1 7 rfl (cy (by rw[List.length_map];exact hpl)) rfl rfl rfl (Gh.soft 0 (b':= .aG none 47 3 (a.ab.map bI)) (.aG (jQ hpl rfl)) (Gh.go ?_)))|(guard_target=Gh _ _ _ _ _;refine Gh.go ?_)
   |refine aR ?_|(guard_target=Index _ _ _;first|(refine Index.mk _ (cy (by rw[List.length_map];exact hpl)) ?_)|fail)
   |refine nB ?_|(guard_target=bH _ _ _;first|refine bH.row 4 rfl ?_|refine bH.aG 4 rfl ?_|refine bH.row 5 rfl ?_|refine bH.aG 5 rfl ?_|refine bH.row 6 rfl ?_|refine bH.aG 6 rfl ?_|refine bH.row 7 rfl ?_|refine bH.aG 7 rfl ?_|refine bH.row 8 rfl ?_|refine bH.aG 8 rfl ?_)|(guard_target=aV _ _;refine aV.mk (by first|((simp only[List.length_set,List.length_map];omega))|((simp only[List.length_cons,List.length_nil,List.length_map,maxLen];constructor<;>omega))|fail) ?_))
  all_goals(try(conv=>whnf))
end Go.Proofs.YtgbggaddpbghfaaGreat
namespace Go.Proofs.YtgbggaddpbghfaaGreat
open Go Go.KA Go.Proofs
set_option maxHeartbeats 16000000
set_option maxRecDepth 100000
section
variable(a:af)(e:aS)(hw:WA a)(he:EA e)
include hw he
theorem IL(hk:e.kind=4∨e.kind=5):ah Tryz.prog 38 [.c (.op (cj a)), .a 9 (aT e)] [some [.op (cj (tf a e).2)],none] (I (tf a e).1):=by
 refine cX Tryz.func38 (h:= ?_)
 repeat'((conv=>whnf);first
  |refine aq.mk ?_ ?_
  |((first|apply bA|apply bB|apply bC|apply bD|apply bE|apply bF)<;>intro h<;>(try simp only[List.length_map] at h)<;>(try omega)<;>(try contradiction))|(guard_target=aa _ 79 _ _ _ _;refine cG [true,false] rfl (Ep a e hw he) ?_))
 all_goals first|rfl|exact⟨rfl,trivial⟩|(exfalso;omega)
theorem Cs(hk:e.kind=6):ah Tryz.prog 38 [.c (.op (cj a)), .a 9 (aT e)] [some [.op (cj (dP a e.a).2)],none] (I (dP a e.a).1):=by
 have h12:=hw.f12
 have hz:=he.ra
 by_cases hlen:e.a≥(a.aw.length:Int)
 ·refine cX Tryz.func38 (h:= ?_)
  repeat'((conv=>whnf);first
   |(guard_target=~ aq (I 2=_) _;rw[Nq (by omega)];exact aq.mk rfl ⟨rfl,trivial⟩)
   |((first|apply bA|apply bB|apply bC|apply bD|apply bE|apply bF)<;>intro h<;>(try simp only[List.length_map] at h)<;>(try omega)<;>(try contradiction))
   |refine nB ?_)
  all_goals first|rfl|exact⟨rfl,trivial⟩|(exfalso;omega)
 ·refine cX Tryz.func38 (h:= ?_)
  repeat'((conv=>whnf);first
   |(guard_target=~ aq (I 0=_) _;rw[zE (by omega)];exact aq.mk rfl ⟨rfl,trivial⟩)
   |((first|apply bA|apply bB|apply bC|apply bD|apply bE|apply bF)<;>intro h<;>(try simp only[List.length_map] at h)<;>(try omega)<;>(try contradiction))|(guard_target=aa _ 80 _ _ _ _;refine cG [true,false,false] rfl (xu a.aw e.a hz.1 (by omega)) ?_)
   |refine aR ?_
   |refine nB ?_)
  all_goals first|rfl|exact⟨rfl,trivial⟩|(exfalso;omega)
theorem I5(hk:¬e.kind=4∧¬e.kind=5∧¬e.kind=6)(hp:bY a e.a=false):ah Tryz.prog 38 [.c (.op (cj a)), .a 9 (aT e)] [some [.op (cj a)],none] (I 2):=by
 have _:=hw
 have _:=he
 have hpl:=jq a e.a
 rw[hp] at hpl
 refine cX Tryz.func38 (h:= ?_)
 repeat'((conv=>whnf);first
  |refine aq.mk ?_ ?_
  |((first|apply bA|apply bB|apply bC|apply bD|apply bE|apply bF)<;>intro h<;>(try simp only[List.length_map] at h)<;>(try omega)<;>(try contradiction))|(guard_target=aa _ 81 _ _ _ _;refine cP rfl (hpl) ?_)
  |refine nB ?_)
 all_goals first|rfl|exact⟨rfl,trivial⟩|(exfalso;omega)
section
variable(hp:bY a e.a=true)
include hp
theorem Fp(hk:e.kind=1):ah Tryz.prog 38 [.c (.op (cj a)), .a 9 (aT e)] [some [.op (cj (eJ a e).2)],none] (I (eJ a e).1):=by
 have hlt:=bX hp
 have h5:=hw.n5
 have hpl:=jq a e.a
 rw[hp] at hpl
 refine cX Tryz.func38 (h:= ?_)
 repeat'((conv=>whnf);first
  |refine aq.mk ?_ ?_
  |((first|apply bA|apply bB|apply bC|apply bD|apply bE|apply bF)<;>intro h<;>(try simp only[List.length_map] at h)<;>(try omega)<;>(try contradiction))|(guard_target=aa _ 81 _ _ _ _;refine cP rfl (hpl) ?_)|(guard_target=aa _ 82 _ _ _ _;refine cG [true,false] rfl (OR a e hw he (by omega)) ?_)
  |refine nB ?_|(guard_target=aV _ _;refine aV.mk (by first|((simp only[List.length_map];omega))|fail) ?_))
 all_goals first|rfl|exact⟨rfl,trivial⟩|(exfalso;omega)
theorem yu(hk:e.kind=2):ah Tryz.prog 38 [.c (.op (cj a)), .a 9 (aT e)] [some [.op (cj (cD a e).2)],none] (I (cD a e).1):=by
 have hlt:=bX hp
 have h5:=hw.n5
 have hpl:=jq a e.a
 rw[hp] at hpl
 refine cX Tryz.func38 (h:= ?_)
 repeat'((conv=>whnf);first
  |refine aq.mk ?_ ?_
  |((first|apply bA|apply bB|apply bC|apply bD|apply bE|apply bF)<;>intro h<;>(try simp only[List.length_map] at h)<;>(try omega)<;>(try contradiction))|(guard_target=aa _ 81 _ _ _ _;refine cP rfl (hpl) ?_)|(guard_target=aa _ 83 _ _ _ _;refine cG [true,false] rfl (Hq a e hw he (by omega)) ?_)
  |refine nB ?_|(guard_target=aV _ _;refine aV.mk (by first|((simp only[List.length_map];omega))|fail) ?_))
 all_goals first|rfl|exact⟨rfl,trivial⟩|(exfalso;omega)
theorem Dk(hk:e.kind=3):ah Tryz.prog 38 [.c (.op (cj a)), .a 9 (aT e)] [some [.op (cj (dv a e).2)],none] (I (dv a e).1):=by
 have hlt:=bX hp
 have h5:=hw.n5
 have hpl:=jq a e.a
 rw[hp] at hpl
 refine cX Tryz.func38 (h:= ?_)
 repeat'((conv=>whnf);first
  |refine aq.mk ?_ ?_
  |((first|apply bA|apply bB|apply bC|apply bD|apply bE|apply bF)<;>intro h<;>(try simp only[List.length_map] at h)<;>(try omega)<;>(try contradiction))|(guard_target=aa _ 81 _ _ _ _;refine cP rfl (hpl) ?_)|(guard_target=aa _ 84 _ _ _ _;refine cG [true,false] rfl (MG a e hw he (by omega)) ?_)
  |refine nB ?_|(guard_target=aV _ _;refine aV.mk (by first|((simp only[List.length_map];omega))|fail) ?_))
 all_goals first|rfl|exact⟨rfl,trivial⟩|(exfalso;omega)
end
end
end Go.Proofs.YtgbggaddpbghfaaGreat
namespace Go.Proofs.YtgbggaddpbghfaaGreat
open Go Go.KA Go.Proofs
set_option maxHeartbeats 16000000
set_option maxRecDepth 100000
theorem Lc{n:Nat}{l:List aM}:(l.map bg).take (n-Int.toNat 0)=(l.take n).map bg:=List.map_take.symm
section
variable{a:af}{e:aS}
theorem Mx(h:(sA a e.a).up=(e.kind==9)):iw a e=(4,a):=if_pos h
theorem LX(h:¬(sA a e.a).up=(e.kind==9))(h7:e.kind=7):iw a e=(0,iy a e.a ⟨(sA a e.a).up,(sA a e.a).notes,((sA a e.a).notes.length:Nat)⟩):=(if_neg h).trans (if_pos h7)
theorem Mm(h:¬(sA a e.a).up=(e.kind==9))(h8:e.kind=8):iw a e=(0,iy a e.a ⟨false,(sA a e.a).notes.take (sA a e.a).saved.toNat,(sA a e.a).saved⟩):=(if_neg h).trans ((if_neg (by omega)).trans (if_pos h8))
theorem MK(h:¬(sA a e.a).up=(e.kind==9))(h7:¬e.kind=7)(h8:¬e.kind=8):iw a e=(0,iy a e.a ⟨true,(sA a e.a).notes,(sA a e.a).saved⟩):=(if_neg h).trans ((if_neg h7).trans (if_neg h8))
end
section
variable(a:af)(e:aS)(hw:WA a)(he:EA e)
include hw he
section
variable(hp:bY a e.a=true)
include hp
theorem Hp(hk:7≤e.kind∧e.kind≤9):ah Tryz.prog 38 [.c (.op (cj a)), .a 9 (aT e)] [some [.op (cj (iw a e).2)],none] (I (iw a e).1):=by
 have _:=he
 have hlt:=bX hp
 have h5:=hw.n5
 have hplt:e.a.toNat<a.ab.length:=by omega
 have hsv:=hw.sv _ hplt
 have hpl:=jq a e.a
 rw[hp] at hpl
 by_cases hs:(a.ab.getD e.a.toNat db).saved=((a.ab.getD e.a.toNat db).notes.length:Int)
 ·refine Jb Tryz.func38 (fun reg_=>match reg_ with|27=>true|_=>false) (h:= ?_)
  repeat'((conv=>whnf);first
   |(guard_target=~ aq (I 4=_) _;rw[Mx (by assumption)];exact aq.mk rfl ⟨rfl,trivial⟩)|(guard_target=~ aq (I 0=_) _;rw[LX (by assumption) (by assumption)];exact aq.mk rfl ⟨congrArg (FA a) (Eq.trans (b:=(a.ab.map bI).set e.a.toNat (bI ⟨(sA a e.a).up,(sA a e.a).notes,((sA a e.a).notes.length:Nat)⟩)) (by(repeat rw[List.set_set]);(try simp only[List.length_map]);rfl) (gn rfl)),trivial⟩)|(guard_target=~ aq (I 0=_) _;rw[MK (by assumption) (by assumption) (by assumption)];exact aq.mk rfl ⟨congrArg (FA a) (Eq.trans (b:=(a.ab.map bI).set e.a.toNat (bI ⟨true,(sA a e.a).notes,(sA a e.a).saved⟩)) (by(repeat rw[List.set_set]);rfl) (gn rfl)),trivial⟩)
   |(apply Fact.mk;intro hL;try simp only[List.length_map,maxLen] at hL)
   |((first|apply bA|apply bB|apply bC|apply bD|apply bE|apply bF)<;>intro h<;>(try simp only[List.length_map] at h)<;>(try omega)<;>(try contradiction))|(guard_target=aa _ 81 _ _ _ _;refine cP rfl (hpl) ?_)|(guard_target= ∀_:Value,_;intro v)|(guard_target=Gh _ _ _ _ _;refine Gh.iO 0 e.a.toNat 1 4 rfl (cy (by simp only[List.length_set,List.length_map];exact hplt)) rfl rfl rfl (Gh.go ?_))|(guard_target=Gh _ _ _ _ _;refine Gh.go ?_)|(guard_target=Index _ _ _;first|(refine Index.mk _ (aF (d:=db) hplt) ?_)|(refine Index.mk _ (cy (by rw[List.length_map];exact hplt)) ?_)|fail)
   |refine nB ?_|(guard_target=aV _ _;refine aV.mk (by first|((simp only[List.length_set,List.length_map];omega))|fail) ?_))
  all_goals(conv=>whnf)
  all_goals try refine iV.opens 0 e.a.toNat 1 rfl (aF (d:=db) hplt) rfl fun v=>iV.go ?_
  repeat'((conv=>whnf);first
   |(guard_target=~ aq (I 0=_) _;rw[Mm (by assumption) (by assumption)];exact aq.mk rfl ⟨congrArg (FA a) (Eq.trans (b:=(a.ab.map bI).set e.a.toNat (bI ⟨false,(sA a e.a).notes.take (sA a e.a).saved.toNat,(sA a e.a).saved⟩)) (by(repeat rw[List.set_set]);rw[List.take_of_length_le (l:=(sA a e.a).notes) (i:=(sA a e.a).saved.toNat) (by show(a.ab.getD e.a.toNat db).notes.length≤(a.ab.getD e.a.toNat db).saved.toNat;omega)];rfl) (gn rfl)),trivial⟩)|(guard_target=gz _ _ _ _ _ _;refine gz.all (by rw[List.length_map];exact⟨rfl,hs⟩) ?_)|(guard_target=Gh _ _ _ _ _;refine Gh.go ?_)|(guard_target=Index _ _ _;first|(refine Index.mk _ (cy (by simp only[List.length_set,List.length_map];exact hplt)) ?_)|fail)
   |refine nB ?_|(guard_target=bH _ _ _;first|refine bH.row 4 rfl ?_|refine bH.aG 4 rfl ?_))
  all_goals(try(conv=>whnf))
 ·refine Jb Tryz.func38 (fun reg_=>match reg_ with|27=>true|_=>false) (h:= ?_)
  repeat'((conv=>whnf);first
   |(guard_target=~ aq (I 4=_) _;rw[Mx (by assumption)];exact aq.mk rfl ⟨rfl,trivial⟩)|(guard_target=~ aq (I 0=_) _;rw[LX (by assumption) (by assumption)];exact aq.mk rfl ⟨congrArg (FA a) (Eq.trans (b:=(a.ab.map bI).set e.a.toNat (bI ⟨(sA a e.a).up,(sA a e.a).notes,((sA a e.a).notes.length:Nat)⟩)) (by(repeat rw[List.set_set]);(try simp only[List.length_map]);rfl) (gn rfl)),trivial⟩)|(guard_target=~ aq (I 0=_) _;rw[MK (by assumption) (by assumption) (by assumption)];exact aq.mk rfl ⟨congrArg (FA a) (Eq.trans (b:=(a.ab.map bI).set e.a.toNat (bI ⟨true,(sA a e.a).notes,(sA a e.a).saved⟩)) (by(repeat rw[List.set_set]);rfl) (gn rfl)),trivial⟩)
   |(apply Fact.mk;intro hL;try simp only[List.length_map,maxLen] at hL)
   |((first|apply bA|apply bB|apply bC|apply bD|apply bE|apply bF)<;>intro h<;>(try simp only[List.length_map] at h)<;>(try omega)<;>(try contradiction))|(guard_target=aa _ 81 _ _ _ _;refine cP rfl (hpl) ?_)|(guard_target= ∀_:Value,_;intro v)|(guard_target=Gh _ _ _ _ _;refine Gh.iO 0 e.a.toNat 1 4 rfl (cy (by simp only[List.length_set,List.length_map];exact hplt)) rfl rfl rfl (Gh.go ?_))|(guard_target=Gh _ _ _ _ _;refine Gh.go ?_)|(guard_target=Index _ _ _;first|(refine Index.mk _ (aF (d:=db) hplt) ?_)|(refine Index.mk _ (cy (by rw[List.length_map];exact hplt)) ?_)|fail)
   |refine nB ?_|(guard_target=aV _ _;refine aV.mk (by first|((simp only[List.length_set,List.length_map];omega))|fail) ?_))
  all_goals(conv=>whnf)
  all_goals try refine iV.opens 0 e.a.toNat 1 rfl (aF (d:=db) hplt) rfl fun v=>iV.go ?_
  repeat'((conv=>whnf);first
   |(guard_target=~ aq (I 0=_) _;rw[Mm (by assumption) (by assumption)];exact aq.mk rfl ⟨congrArg (FA a) (Eq.trans (b:=(a.ab.map bI).set e.a.toNat (bI ⟨false,(sA a e.a).notes.take (sA a e.a).saved.toNat,(sA a e.a).saved⟩)) (by(repeat rw[List.set_set]);exact congrArg (fun R=>(a.ab.map bI).set e.a.toNat [CV.val (.bool false),CV.ows 51 7 R,J (sA a e.a).saved]) Lc) (gn rfl)),trivial⟩)|(guard_target=gz _ _ _ _ _ _;refine gz.some (by rw[List.length_map];omega) ?_)|(guard_target=Gh _ _ _ _ _;refine Gh.go ?_)|(guard_target=Index _ _ _;first|(refine Index.mk _ (cy (by simp only[List.length_set,List.length_map];exact hplt)) ?_)|fail)
   |refine nB ?_|(guard_target=bH _ _ _;first|refine bH.row 4 rfl ?_|refine bH.aG 4 rfl ?_))
  all_goals(try(conv=>whnf))
end
end
end Go.Proofs.YtgbggaddpbghfaaGreat
namespace Go.Proofs.YtgbggaddpbghfaaGreat
open Go Go.KA Go.Proofs
set_option maxHeartbeats 16000000
set_option maxRecDepth 100000
theorem Od{a:af}{e:aS}(hk:e.kind=4∨e.kind=5):iB a e=tf a e:=by
 unfold iB tf
 split
 ·rfl
 ·rw[if_pos (by omega)]
theorem Dw{a:af}{e:aS}(hk:e.kind=6):iB a e=dP a e.a:=by
 unfold iB
 rw[if_neg (by omega),if_neg (by omega),if_pos hk]
theorem KT{a:af}{e:aS}(hk:¬e.kind=4∧¬e.kind=5∧¬e.kind=6)(hp:bY a e.a=false):iB a e=(2,a):=by
 unfold iB
 rw[if_neg hk.1,if_neg hk.2.1,if_neg hk.2.2,if_pos hp]
theorem Ny{a:af}{e:aS}(hk:¬e.kind=4∧¬e.kind=5∧¬e.kind=6)(hp:bY a e.a=true):iB a e=(if e.kind=1 then eJ a e else if e.kind=2 then cD a e else if e.kind=3 then dv a e else iw a e):=by
 unfold iB
 rw[if_neg hk.1,if_neg hk.2.1,if_neg hk.2.2,if_neg (by rw[hp];decide)]
section
variable(a:af)(e:aS)(hw:WA a)(he:EA e)(hk9:1≤e.kind∧e.kind≤9)
include hw he
include hk9 in
theorem tY:ah Tryz.prog 38 [.c (.op (cj a)), .a 9 (aT e)] [some [.op (cj (iB a e).2)],none] (I (iB a e).1):=by
 by_cases h1:e.kind=4∨e.kind=5
 ·rw[Od h1]
  exact IL a e hw he h1
 by_cases h2:e.kind=6
 ·rw[Dw h2]
  exact Cs a e hw he h2
 have hk:¬e.kind=4∧¬e.kind=5∧¬e.kind=6:=by omega
 cases hp:bY a e.a with
 |false=>
  rw[KT hk hp]
  exact I5 a e hw he hk hp
 |true=>
  rw[Ny hk hp]
  by_cases h3:e.kind=1
  ·rw[if_pos h3]
   exact Fp a e hw he hp h3
  rw[if_neg h3]
  by_cases h4:e.kind=2
  ·rw[if_pos h4]
   exact yu a e hw he hp h4
  rw[if_neg h4]
  by_cases h5:e.kind=3
  ·rw[if_pos h5]
   exact Dk a e hw he hp h5
  rw[if_neg h5]
  exact Hp a e hw he hp (by omega)
section
variable(hp:bY a e.a=false)
include hp
theorem Ig:ah Tryz.prog 118 [.c (.op (cj a)), .c (.rp 9 (aT e))] [some [.op (cj a)],none] (I 2):=by
 have _:=hw
 have _:=he
 have hat:=iR a e.a
 rw[hp] at hat
 refine cX Tryz.func118 (h:= ?_)
 repeat'((conv=>whnf);first
  |refine aq.mk ?_ ?_
  |((first|apply bA|apply bB|apply bC|apply bD|apply bE|apply bF)<;>intro h<;>(try simp only[List.length_map] at h)<;>(try omega)<;>(try contradiction))|(guard_target=aa _ 104 _ _ _ _;refine cP rfl (hat) ?_))
 all_goals first|rfl|exact⟨rfl,trivial⟩
theorem Aw:ah Tryz.prog 119 [.c (.op (cj a)), .c (.rp 9 (aT e))] [some [.op (cj a)],none] (I 2):=by
 have _:=hw
 have _:=he
 have hat:=iR a e.a
 rw[hp] at hat
 refine cX Tryz.func119 (h:= ?_)
 repeat'((conv=>whnf);first
  |refine aq.mk ?_ ?_
  |((first|apply bA|apply bB|apply bC|apply bD|apply bE|apply bF)<;>intro h<;>(try simp only[List.length_map] at h)<;>(try omega)<;>(try contradiction))|(guard_target=aa _ 104 _ _ _ _;refine cP rfl (hat) ?_))
 all_goals first|rfl|exact⟨rfl,trivial⟩
theorem E6:ah Tryz.prog 120 [.c (.op (cj a)), .c (.rp 9 (aT e))] [some [.op (cj a)],none] (I 2):=by
 have _:=hw
 have _:=he
 have hat:=iR a e.a
 rw[hp] at hat
 refine cX Tryz.func120 (h:= ?_)
 repeat'((conv=>whnf);first
  |refine aq.mk ?_ ?_
  |((first|apply bA|apply bB|apply bC|apply bD|apply bE|apply bF)<;>intro h<;>(try simp only[List.length_map] at h)<;>(try omega)<;>(try contradiction))|(guard_target=aa _ 104 _ _ _ _;refine cP rfl (hat) ?_)
  |refine nB ?_)
 all_goals first|rfl|exact⟨rfl,trivial⟩
theorem z9:ah Tryz.prog 123 [.c (.op (cj a)), .c (.rp 9 (aT e))] [some [.op (cj a)],none] (I 2):=by
 have _:=hw
 have _:=he
 have hat:=iR a e.a
 rw[hp] at hat
 refine cX Tryz.func123 (h:= ?_)
 repeat'((conv=>whnf);first
  |refine aq.mk ?_ ?_
  |((first|apply bA|apply bB|apply bC|apply bD|apply bE|apply bF)<;>intro h<;>(try simp only[List.length_map] at h)<;>(try omega)<;>(try contradiction))|(guard_target=aa _ 104 _ _ _ _;refine cP rfl (hat) ?_))
 all_goals first|rfl|exact⟨rfl,trivial⟩
end
section
variable(hp:bY a e.a=true)
include hp
theorem Bz(hk:7≤e.kind∧e.kind≤9):ah Tryz.prog 123 [.c (.op (cj a)), .c (.rp 9 (aT e))] [some [.op (cj (iw a e).2)],none] (I (iw a e).1):=by
 have _:=he
 have hlt:=bX hp
 have h5:=hw.n5
 have hplt:e.a.toNat<a.ab.length:=by omega
 have hsv:=hw.sv _ hplt
 have hat:=iR a e.a
 rw[hp] at hat
 by_cases hs:(a.ab.getD e.a.toNat db).saved=((a.ab.getD e.a.toNat db).notes.length:Int)
 ·refine Jb Tryz.func123 (fun reg_=>match reg_ with|10=>true|_=>false) (h:= ?_)
  repeat'((conv=>whnf);first
   |(guard_target=~ aq (I 4=_) _;rw[Mx (by assumption)];exact aq.mk rfl ⟨rfl,trivial⟩)|(guard_target=~ aq (I 0=_) _;rw[LX (by assumption) (by assumption)];exact aq.mk rfl ⟨congrArg (FA a) (Eq.trans (b:=(a.ab.map bI).set e.a.toNat (bI ⟨(sA a e.a).up,(sA a e.a).notes,((sA a e.a).notes.length:Nat)⟩)) (by(repeat rw[List.set_set]);(try simp only[List.length_map]);rfl) (gn rfl)),trivial⟩)|(guard_target=~ aq (I 0=_) _;rw[MK (by assumption) (by assumption) (by assumption)];exact aq.mk rfl ⟨congrArg (FA a) (Eq.trans (b:=(a.ab.map bI).set e.a.toNat (bI ⟨true,(sA a e.a).notes,(sA a e.a).saved⟩)) (by(repeat rw[List.set_set]);rfl) (gn rfl)),trivial⟩)
   |(apply Fact.mk;intro hL;try simp only[List.length_map,maxLen] at hL)
   |((first|apply bA|apply bB|apply bC|apply bD|apply bE|apply bF)<;>intro h<;>(try simp only[List.length_map] at h)<;>(try omega)<;>(try contradiction))|(guard_target=aa _ 104 _ _ _ _;refine cP rfl (hat) ?_)|(guard_target= ∀_:Value,_;intro v)|(guard_target=Gh _ _ _ _ _;refine Gh.iO 0 e.a.toNat 1 3 rfl (cy (by simp only[List.length_set,List.length_map];exact hplt)) rfl rfl rfl (Gh.go ?_))|(guard_target=Gh _ _ _ _ _;refine Gh.go ?_)|(guard_target=Index _ _ _;first|(refine Index.mk _ (aF (d:=db) hplt) ?_)|(refine Index.mk _ (cy (by rw[List.length_map];exact hplt)) ?_)|fail)
   |refine nB ?_|(guard_target=aV _ _;refine aV.mk (by first|((simp only[List.length_set,List.length_map];omega))|fail) ?_))
  all_goals(conv=>whnf)
  all_goals try refine iV.opens 0 e.a.toNat 1 rfl (aF (d:=db) hplt) rfl fun v=>iV.go ?_
  repeat'((conv=>whnf);first
   |(guard_target=~ aq (I 0=_) _;rw[Mm (by assumption) (by assumption)];exact aq.mk rfl ⟨congrArg (FA a) (Eq.trans (b:=(a.ab.map bI).set e.a.toNat (bI ⟨false,(sA a e.a).notes.take (sA a e.a).saved.toNat,(sA a e.a).saved⟩)) (by(repeat rw[List.set_set]);rw[List.take_of_length_le (l:=(sA a e.a).notes) (i:=(sA a e.a).saved.toNat) (by show(a.ab.getD e.a.toNat db).notes.length≤(a.ab.getD e.a.toNat db).saved.toNat;omega)];rfl) (gn rfl)),trivial⟩)|(guard_target=gz _ _ _ _ _ _;refine gz.all (by rw[List.length_map];exact⟨rfl,hs⟩) ?_)|(guard_target=Gh _ _ _ _ _;refine Gh.go ?_)|(guard_target=Index _ _ _;first|(refine Index.mk _ (cy (by simp only[List.length_set,List.length_map];exact hplt)) ?_)|fail)
   |refine nB ?_|(guard_target=bH _ _ _;first|refine bH.row 3 rfl ?_|refine bH.aG 3 rfl ?_))
  all_goals(try(conv=>whnf))
 ·refine Jb Tryz.func123 (fun reg_=>match reg_ with|10=>true|_=>false) (h:= ?_)
  repeat'((conv=>whnf);first
   |(guard_target=~ aq (I 4=_) _;rw[Mx (by assumption)];exact aq.mk rfl ⟨rfl,trivial⟩)|(guard_target=~ aq (I 0=_) _;rw[LX (by assumption) (by assumption)];exact aq.mk rfl ⟨congrArg (FA a) (Eq.trans (b:=(a.ab.map bI).set e.a.toNat (bI ⟨(sA a e.a).up,(sA a e.a).notes,((sA a e.a).notes.length:Nat)⟩)) (by(repeat rw[List.set_set]);(try simp only[List.length_map]);rfl) (gn rfl)),trivial⟩)|(guard_target=~ aq (I 0=_) _;rw[MK (by assumption) (by assumption) (by assumption)];exact aq.mk rfl ⟨congrArg (FA a) (Eq.trans (b:=(a.ab.map bI).set e.a.toNat (bI ⟨true,(sA a e.a).notes,(sA a e.a).saved⟩)) (by(repeat rw[List.set_set]);rfl) (gn rfl)),trivial⟩)
   |(apply Fact.mk;intro hL;try simp only[List.length_map,maxLen] at hL)
   |((first|apply bA|apply bB|apply bC|apply bD|apply bE|apply bF)<;>intro h<;>(try simp only[List.length_map] at h)<;>(try omega)<;>(try contradiction))|(guard_target=aa _ 104 _ _ _ _;refine cP rfl (hat) ?_)|(guard_target= ∀_:Value,_;intro v)|(guard_target=Gh _ _ _ _ _;refine Gh.iO 0 e.a.toNat 1 3 rfl (cy (by simp only[List.length_set,List.length_map];exact hplt)) rfl rfl rfl (Gh.go ?_))|(guard_target=Gh _ _ _ _ _;refine Gh.go ?_)|(guard_target=Index _ _ _;first|(refine Index.mk _ (aF (d:=db) hplt) ?_)|(refine Index.mk _ (cy (by rw[List.length_map];exact hplt)) ?_)|fail)
   |refine nB ?_|(guard_target=aV _ _;refine aV.mk (by first|((simp only[List.length_set,List.length_map];omega))|fail) ?_))
  all_goals(conv=>whnf)
  all_goals try refine iV.opens 0 e.a.toNat 1 rfl (aF (d:=db) hplt) rfl fun v=>iV.go ?_
  repeat'((conv=>whnf);first
   |(guard_target=~ aq (I 0=_) _;rw[Mm (by assumption) (by assumption)];exact aq.mk rfl ⟨congrArg (FA a) (Eq.trans (b:=(a.ab.map bI).set e.a.toNat (bI ⟨false,(sA a e.a).notes.take (sA a e.a).saved.toNat,(sA a e.a).saved⟩)) (by(repeat rw[List.set_set]);exact congrArg (fun R=>(a.ab.map bI).set e.a.toNat [CV.val (.bool false),CV.ows 51 7 R,J (sA a e.a).saved]) Lc) (gn rfl)),trivial⟩)|(guard_target=gz _ _ _ _ _ _;refine gz.some (by rw[List.length_map];omega) ?_)|(guard_target=Gh _ _ _ _ _;refine Gh.go ?_)|(guard_target=Index _ _ _;first|(refine Index.mk _ (cy (by simp only[List.length_set,List.length_map];exact hplt)) ?_)|fail)
   |refine nB ?_|(guard_target=bH _ _ _;first|refine bH.row 3 rfl ?_|refine bH.aG 3 rfl ?_))
  all_goals(try(conv=>whnf))
end
end
end Go.Proofs.YtgbggaddpbghfaaGreat
namespace Go.Proofs.YtgbggaddpbghfaaGreat
open Go Go.KA Go.Proofs
set_option maxHeartbeats 16000000
set_option maxRecDepth 100000
theorem CB{a:af}{i:Int}(h:¬(bM a i).1=0):(bM a i).2=a:=by
 unfold bM at h⊢
 repeat' split at h
 all_goals first|(exfalso;exact h rfl)|skip
 all_goals(repeat' split)
 all_goals first|rfl|(exfalso;contradiction)
theorem w9{a:af}{i:Int}:(bM a i).2.aw=a.aw:=by
 unfold bM
 repeat' split
 all_goals rfl
section
variable(a:af)(e:aS)(hw:WA a)(he:EA e)(hk9:1≤e.kind∧e.kind≤9)
include hw he
theorem MJ(hk:e.kind=4):ah Tryz.prog 93 [.c (.op (cj a)), .c (.rp 9 (aT e))] [some [.op (cj (iB a e).2)],none] (I (iB a e).1):=by
 have h12:=hw.f12
 have hf:(bM a e.a).2.aw.length≤1048576:=by rw[w9];omega
 rw[show iB a e=dR a e.a by unfold iB;rw[if_pos hk]]
 by_cases ht:(bM a e.a).1=0
 ·rw[Ph ht]
  refine cX Tryz.func93 (h:= ?_)
  repeat'((conv=>whnf);first
   |refine aq.mk ?_ ?_
   |((first|apply bA|apply bB|apply bC|apply bD|apply bE|apply bF)<;>intro h<;>(try simp only[List.length_map] at h)<;>(try omega)<;>(try contradiction))|(guard_target=aa _ 121 _ _ _ _;refine cG [true,false] rfl (rH a e.a hw he.ra) ?_)|(guard_target=aa _ 122 _ _ _ _;refine cG [true,false] rfl (w8 (bM a e.a).2 e.a hf he.ra) ?_))
  all_goals first|rfl|exact⟨rfl,trivial⟩|(exfalso;omega)|(exfalso;contradiction)
 ·rw[zR ht]
  have hl:=rH a e.a hw he.ra
  rw[CB ht] at hl
  refine cX Tryz.func93 (h:= ?_)
  repeat'((conv=>whnf);first
   |refine aq.mk ?_ ?_
   |((first|apply bA|apply bB|apply bC|apply bD|apply bE|apply bF)<;>intro h<;>(try simp only[List.length_map] at h)<;>(try omega)<;>(try contradiction))|(guard_target=aa _ 121 _ _ _ _;refine cG [true,false] rfl (hl) ?_))
  all_goals first|rfl|exact⟨rfl,trivial⟩|(exfalso;omega)|(exfalso;contradiction)
theorem LZ(hk:e.kind=5):ah Tryz.prog 93 [.c (.op (cj a)), .c (.rp 9 (aT e))] [some [.op (cj (iB a e).2)],none] (I (iB a e).1):=by
 rw[show iB a e=bM a e.a by unfold iB;rw[if_neg (by omega),if_pos hk]]
 refine cX Tryz.func93 (h:= ?_)
 repeat'((conv=>whnf);first
  |refine aq.mk ?_ ?_
  |((first|apply bA|apply bB|apply bC|apply bD|apply bE|apply bF)<;>intro h<;>(try simp only[List.length_map] at h)<;>(try omega)<;>(try contradiction))|(guard_target=aa _ 121 _ _ _ _;refine cG [true,false] rfl (rH a e.a hw he.ra) ?_))
 all_goals first|rfl|exact⟨rfl,trivial⟩|(exfalso;omega)|(exfalso;contradiction)
theorem M6(hk:e.kind=6):ah Tryz.prog 93 [.c (.op (cj a)), .c (.rp 9 (aT e))] [some [.op (cj (iB a e).2)],none] (I (iB a e).1):=by
 have h12:=hw.f12
 rw[Dw hk]
 refine cX Tryz.func93 (h:= ?_)
 repeat'((conv=>whnf);first
  |refine aq.mk ?_ ?_
  |((first|apply bA|apply bB|apply bC|apply bD|apply bE|apply bF)<;>intro h<;>(try simp only[List.length_map] at h)<;>(try omega)<;>(try contradiction))|(guard_target=aa _ 122 _ _ _ _;refine cG [true,false] rfl (w8 a e.a (by omega) he.ra) ?_))
 all_goals first|rfl|exact⟨rfl,trivial⟩|(exfalso;omega)|(exfalso;contradiction)
theorem J1(hk:¬e.kind=4∧¬e.kind=5∧¬e.kind=6)(hp:bY a e.a=false):ah Tryz.prog 93 [.c (.op (cj a)), .c (.rp 9 (aT e))] [some [.op (cj (iB a e).2)],none] (I (iB a e).1):=by
 rw[KT hk hp]
 obtain⟨h4,h5,h6⟩:=hk
 refine cX Tryz.func93 (h:= ?_)
 repeat'((conv=>whnf);first
  |refine aq.mk ?_ ?_
  |((first|apply bA|apply bB|apply bC|apply bD|apply bE|apply bF)<;>intro h<;>(try simp only[List.length_map] at h)<;>(try omega)<;>(try contradiction))|(guard_target=aa _ 118 _ _ _ _;refine cG [true,false] rfl (Ig a e hw he hp) ?_)|(guard_target=aa _ 119 _ _ _ _;refine cG [true,false] rfl (Aw a e hw he hp) ?_)|(guard_target=aa _ 120 _ _ _ _;refine cG [true,false] rfl (E6 a e hw he hp) ?_)|(guard_target=aa _ 123 _ _ _ _;refine cG [true,false] rfl (z9 a e hw he hp) ?_))
 all_goals first|rfl|exact⟨rfl,trivial⟩|(exfalso;omega)|(exfalso;contradiction)
include hk9 in
theorem M7(hk:¬e.kind=4∧¬e.kind=5∧¬e.kind=6)(hp:bY a e.a=true):ah Tryz.prog 93 [.c (.op (cj a)), .c (.rp 9 (aT e))] [some [.op (cj (iB a e).2)],none] (I (iB a e).1):=by
 rw[Ny hk hp]
 obtain⟨h4,h5,h6⟩:=hk
 by_cases h1:e.kind=1
 ·rw[if_pos h1]
  refine cX Tryz.func93 (h:= ?_)
  repeat'((conv=>whnf);first
   |refine aq.mk ?_ ?_
   |((first|apply bA|apply bB|apply bC|apply bD|apply bE|apply bF)<;>intro h<;>(try simp only[List.length_map] at h)<;>(try omega)<;>(try contradiction))|(guard_target=aa _ 118 _ _ _ _;refine cG [true,false] rfl (IJ a e hw he hp) ?_))
  all_goals first|rfl|exact⟨rfl,trivial⟩|(exfalso;omega)|(exfalso;contradiction)
 rw[if_neg h1]
 by_cases h2:e.kind=2
 ·rw[if_pos h2]
  refine cX Tryz.func93 (h:= ?_)
  repeat'((conv=>whnf);first
   |refine aq.mk ?_ ?_
   |((first|apply bA|apply bB|apply bC|apply bD|apply bE|apply bF)<;>intro h<;>(try simp only[List.length_map] at h)<;>(try omega)<;>(try contradiction))|(guard_target=aa _ 119 _ _ _ _;refine cG [true,false] rfl (A4 a e hw he hp) ?_))
  all_goals first|rfl|exact⟨rfl,trivial⟩|(exfalso;omega)|(exfalso;contradiction)
 rw[if_neg h2]
 by_cases h3:e.kind=3
 ·rw[if_pos h3]
  refine cX Tryz.func93 (h:= ?_)
  repeat'((conv=>whnf);first
   |refine aq.mk ?_ ?_
   |((first|apply bA|apply bB|apply bC|apply bD|apply bE|apply bF)<;>intro h<;>(try simp only[List.length_map] at h)<;>(try omega)<;>(try contradiction))|(guard_target=aa _ 120 _ _ _ _;refine cG [true,false] rfl (Fj a e hw he hp) ?_))
  all_goals first|rfl|exact⟨rfl,trivial⟩|(exfalso;omega)|(exfalso;contradiction)
 rw[if_neg h3]
 refine cX Tryz.func93 (h:= ?_)
 repeat'((conv=>whnf);first
  |refine aq.mk ?_ ?_
  |((first|apply bA|apply bB|apply bC|apply bD|apply bE|apply bF)<;>intro h<;>(try simp only[List.length_map] at h)<;>(try omega)<;>(try contradiction))|(guard_target=aa _ 123 _ _ _ _;refine cG [true,false] rfl (Bz a e hw he hp (by omega)) ?_))
 all_goals first|rfl|exact⟨rfl,trivial⟩|(exfalso;omega)|(exfalso;contradiction)
include hk9 in
theorem DG:ah Tryz.prog 93 [.c (.op (cj a)), .c (.rp 9 (aT e))] [some [.op (cj (iB a e).2)],none] (I (iB a e).1):=by
 by_cases h4:e.kind=4
 ·exact MJ a e hw he h4
 by_cases h5:e.kind=5
 ·exact LZ a e hw he h5
 by_cases h6:e.kind=6
 ·exact M6 a e hw he h6
 cases hp:bY a e.a with
 |false=>exact J1 a e hw he ⟨h4,h5,h6⟩ hp
 |true=>exact M7 a e hw he hk9 ⟨h4,h5,h6⟩ hp
end
end Go.Proofs.YtgbggaddpbghfaaGreat
