/- Contracts of what takes in and what removes a packet: the program's and the reference's functions. Conditions: the archive's shape. -/
import Derived.Test.YtgbggaddpbghfaaGreatKAF
namespace Go.Proofs.YtgbggaddpbghfaaGreat
open Go Go.KA Go.Proofs Go.Proofs.Tryz
set_option maxHeartbeats 16000000
set_option maxRecDepth 100000
theorem MN{l:List c8}{z h:Int}(hz:0≤z)(hl:z+1<(l.length:Int)):
 []++((l.map bN).drop (0:Int).toNat).take (z.toNat-(0:Int).toNat)++((l.map bN).drop (z+1).toNat).take ((((l.map bN).length:Nat):Int).toNat-(z+1).toNat)=(l.take z.toNat++l.drop (z.toNat+1)).map bN:=by
 rw[show(z+1).toNat=z.toNat+1 by omega,List.take_of_length_le (l:=(l.map bN).drop (z.toNat+1)) (by simp),au,List.map_take,List.map_drop];simp
theorem J2{l:List c8}{z h:Int}(hz:0≤z)(hl:z+1=(l.length:Int)):
 []++((l.map bN).drop (0:Int).toNat).take (z.toNat-(0:Int).toNat)++[]=(l.take z.toNat++l.drop (z.toNat+1)).map bN:=by
 rw[List.drop_of_length_le (l:=l) (i:=z.toNat+1) (by omega),List.append_nil,List.append_nil,List.map_take];simp
theorem Uz{a:aB}{i:Int}(h:i≥(a.aL.length:Int)):fv a i=(2,a):=if_pos h
theorem Lf{a:aB}{i:Int}(h:¬i≥(a.aL.length:Int)):fv a i=(0,⟨a.sig,a.az,a.aL.take i.toNat++a.aL.drop (i.toNat+1)⟩):=if_neg h
theorem y3(a:aB)(z:Int)(Ci:a.aL.length≤1048576)(hz:0≤z/\z≤999):aE prog 122 [.c (.op (cQ a)),I z] [some [.op (cQ (fv a z).2)],none] (I (fv a z).1):=by
 by_cases hlast:z+1=(a.aL.length:Int)
 ·refine cX func122 (h:=?_)
  repeat'((conv=>whnf);first
   |(show aI (I 0=_) _;rw[Lf (by omega)];exact aI.mk rfl ⟨congrArg (FB a) (J2 (h:=0) hz.1 hlast),trivial⟩)
   |(apply Fact.mk;intro hL;try simp only[aa,maxLen]at hL)
   |((apply bX;constructor)<;>intro h<;>(try simp only[aa]at h)<;>(try first|omega|contradiction))|(show iK _ _ _ _ _ _;refine iK.some (by simp only[aa];omega) ?_)|(show iK _ _ _ _ _ _;refine iK.none (by simp only[aa];omega) ?_)
   |refine aR ?_
   |refine nB ?_|(show bh _ _;refine bh.mk (by first|((simp only[ai,aq,List.length_drop,List.length_nil,aa,maxLen];constructor<;>omega))|fail) ?_))
  all_goals(try(conv=>whnf))
 ·refine cX func122 (h:=?_)
  repeat'((conv=>whnf);first
   |(show aI (I 2=_) _;rw[Uz (by omega)];exact aI.mk rfl ⟨rfl,trivial⟩)|(show aI (I 0=_) _;rw[Lf (by omega)];exact aI.mk rfl ⟨congrArg (FB a) (MN (h:=0) hz.1 (by omega)),trivial⟩)
   |(apply Fact.mk;intro hL;try simp only[aa,maxLen]at hL)
   |((apply bX;constructor)<;>intro h<;>(try simp only[aa]at h)<;>(try first|omega|contradiction))|(show iK _ _ _ _ _ _;refine iK.some (by simp only[aa];omega) ?_)
   |refine aR ?_
   |refine nB ?_|(show bh _ _;refine bh.mk (by first|((simp only[ai,aq,List.length_drop,List.length_nil,aa,maxLen];constructor<;>omega))|fail) ?_))
  all_goals(try(conv=>whnf))
section
variable{a:aB}{i:Int}
abbrev sP(a:aB)(i:Int):bj:=a.az.getD (a.aL.getD i.toNat lF).mc.toNat ck
abbrev pP(a:aB)(i:Int):c8:=a.aL.getD i.toNat lF
theorem Tf(h:i≥(a.aL.length:Int)):dg a i=(2,a):=if_pos h
theorem UF(h:¬i≥(a.aL.length:Int))(hw:nA a (iJ a i)=false):dg a i=(0,a):=by
 unfold dg;rw[if_neg h,if_pos hw]
theorem Y0(h:(sP a i).up=false):nA a (iJ a i)=false:=by
 unfold nA;rw[show(sA a (iJ a i).mc).up=false from h];rfl
theorem YS(h:¬bf (sP a i).notes (pP a i).note.bT (pP a i).note.id<0):nA a (iJ a i)=false:=by
 unfold nA;rw[decide_eq_false (show¬bf (sA a (iJ a i).mc).notes (iJ a i).note.bT (iJ a i).note.id<0 from h)];simp
theorem XU(h:iO (sP a i).notes (pP a i).note.entry.bI=false):nA a (iJ a i)=false:=by
 unfold nA;rw[show iO (sA a (iJ a i).mc).notes (iJ a i).note.entry.bI=false from h];simp
theorem XE(h1:(sP a i).up=true)(h2:bf (sP a i).notes (pP a i).note.bT (pP a i).note.id<0)(h3:iO (sP a i).notes (pP a i).note.entry.bI=true):¬nA a (iJ a i)=false:=by
 unfold nA;rw[show(sA a (iJ a i).mc).up=true from h1,decide_eq_true (show bf (sA a (iJ a i).mc).notes (iJ a i).note.bT (iJ a i).note.id<0 from h2),show iO (sA a (iJ a i).mc).notes (iJ a i).note.entry.bI=true from h3]
 decide
theorem Y4(h:¬i≥(a.aL.length:Int))(h1:(sP a i).up=true)(h2:bf (sP a i).notes (pP a i).note.bT (pP a i).note.id<0)(h3:iO (sP a i).notes (pP a i).note.entry.bI=true)(h4:(sP a i).notes.length=20):dg a i=(3,a):=by
 unfold dg;rw[if_neg h,if_neg (XE h1 h2 h3),if_pos h4]
theorem XS(h:¬i≥(a.aL.length:Int))(h1:(sP a i).up=true)(h2:bf (sP a i).notes (pP a i).note.bT (pP a i).note.id<0)(h3:iO (sP a i).notes (pP a i).note.entry.bI=true)(h4:¬(sP a i).notes.length=20):dg a i=(0,jE a (pP a i).mc (mf (sP a i) (pP a i).note)):=by
 unfold dg;rw[if_neg h,if_neg (XE h1 h2 h3),if_neg h4]
end
theorem tW(a:aB)(z:Int)(hw:WA a)(hz:0≤z/\z≤999):aE prog 121 [.c (.op (cQ a)),I z] [some [.op (cQ (dg a z).2)],none] (I (dg a z).1):=by
 have Ci:=hw.f12;by_cases hlen:z≥(a.aL.length:Int)
 ·refine cX func121 (h:=?_)
  repeat'((conv=>whnf);first
   |(show aI (I 2=_) _;rw[Tf (by omega)];exact aI.mk rfl ⟨rfl,trivial⟩)
   |(apply Fact.mk;intro hL;try simp only[aa,maxLen]at hL)
   |((apply bX;constructor)<;>intro h<;>(try simp only[aa]at h)<;>(try first|omega|contradiction)))
  all_goals(try(conv=>whnf))
 ·have YQ:=hw.pk z.toNat (by omega);have dV:(a.aL.getD z.toNat lF).mc.toNat<a.az.length:=by omega
  have Bd:=(hw.sv _ dV).1;refine Oa func121 (fun ew=>match ew with|5=>true|_=>false) (h:=?_)
  repeat'((conv=>whnf);first
   |(apply Fact.mk;intro hL;try simp only[aa,maxLen]at hL)
   |((apply bX;constructor)<;>intro h<;>(try simp only[aa]at h)<;>(try first|omega|contradiction))|(show Gh _ _ _ _ _;refine Gh.go ?_)|(show Index _ _ _;first|(refine Index.mk _ (aN (d:=lF) (i:=z.toNat) (by omega)) ?_)|fail)
   |refine nB ?_|(show bh _ _;refine bh.mk (by first|((simp only[aa];omega))|fail) ?_))
  all_goals(conv=>whnf)
  all_goals try refine jY.opens 0 (a.aL.getD z.toNat lF).mc.toNat 1 rfl (aN (d:=ck) dV) rfl fun v=>jY.go ?_
  repeat'((conv=>whnf);first
   |(show aI (I 3=_) _;have hd:=Y4 (a:=a) (i:=z) (by omega) (by assumption) (by first|assumption|exact Int.not_le.1 (by assumption)) (by assumption) (show(a.az.getD (a.aL.getD z.toNat lF).mc.toNat ck).notes.length=20 by omega);rw[hd];exact aI.mk rfl ⟨rfl,trivial⟩)|(show aI (I 0=_) _;have hd:=UF (a:=a) (i:=z) (by omega) (by first|exact Y0 (by assumption)|exact YS (by omega)|exact XU (by assumption));rw[hd];exact aI.mk rfl ⟨rfl,trivial⟩)|(show aI (I 0=_) _;have hd:=XS (a:=a) (i:=z) (by omega) (by assumption) (by first|assumption|exact Int.not_le.1 (by assumption)) (by assumption) (show¬(a.az.getD (a.aL.getD z.toNat lF).mc.toNat ck).notes.length=20 by omega);rw[hd];exact aI.mk rfl ⟨congrArg (FA a) (pT (s:=mf (sP a z) (pP a z).note) (congrArg (fun R=>[CV.val (.bool (sP a z).up),CV.ows 51 7 R,J (sP a z).saved]) (wS (AT _)))),trivial⟩)
   |(apply Fact.mk;intro hL;try simp only[aa,maxLen]at hL)
   |((apply bX;constructor)<;>intro h<;>(try simp only[aa]at h)<;>(try first|omega|contradiction))|(show ay _ 60 _ _ _ _;refine cP rfl (jd (sP a z).notes (pP a z).note.bT (pP a z).note.id) ?_)|(show ay _ 115 _ _ _ _;refine cP rfl (xk (sP a z).notes (pP a z).note.entry.bI) ?_)|(show ay _ 108 _ _ _ _;refine ay.own _ _ (Ls rfl (aN (d:=lF) (i:=z.toNat) (by omega))) (l3 (pP a z).note YQ.2.2) (BR _) _ rfl ?_)|(show Gh _ _ _ _ _;refine Gh.j8 0 (a.aL.getD z.toNat lF).mc.toNat 1 3 rfl (c9 (by rw[aa];exact dV)) rfl rfl rfl (Gh.soft 0 (b':= .aU none 47 3 (a.az.map cy)) (.aU (lr dV rfl)) (Gh.go ?_)))|(show Gh _ _ _ _ _;refine Gh.soft 0 (iP.aU (sH (i:=(a.aL.getD z.toNat lF).mc.toNat) (.same (.ows (.same .nil))))) (Gh.go ?_))|(show Index _ _ _;first|(refine Index.mk _ (c9 (by rw[aa];exact dV)) ?_)|(refine Index.mk _ (aN (d:=lF) (i:=z.toNat) (by omega)) ?_)|fail)
   |refine nB ?_|(show ch _ _ _;first|refine ch.row 3 rfl ?_|refine ch.aU 3 rfl ?_)|(show bh _ _;refine bh.mk (by first|((simp only[af,aa];omega))|((simp only[List.length_cons,List.length_nil,aa,maxLen];constructor<;>omega))|fail) ?_))
  all_goals(try(conv=>whnf))
theorem zy(l:List c8)(z:Int)(hz:0≤z)(hi:z<(l.length:Int)):aE prog 80 [.c (.ows 89 8 (l.map bN)),I z,I (z+1)] [] (.c (.ows 89 8 ((l.take z.toNat++l.drop (z.toNat+1)).map bN))):=by
 have h:=L8 l z.toNat (by omega);rwa[show((z.toNat:Nat):Int)=z by omega]at h
theorem dlv{a:aB}{i:Int}(h:(dg a i).1=0):fV a i=fv (dg a i).2 i:=if_pos h
theorem Oo{a:aB}{i:Int}(h:¬(dg a i).1=0):fV a i=((dg a i).1,a):=if_neg h
def uM(a:aB)(e:bH):Int × aB:=if e.kind=4 then fV a e.a else dg a e.a
theorem abS{a:aB}{e:bH}(h:e.a≥(a.aL.length:Int)):uM a e=(2,a):=by
 unfold uM;split
 ·rw[Oo (by rw[Tf h];show¬(2:Int)=0;decide),Tf h]
 ·exact Tf h
theorem acg{a:aB}{e:bH}(h:dg a e.a=(3,a)):uM a e=(3,a):=by
 unfold uM;split
 ·rw[Oo (by rw[h];show¬(3:Int)=0;decide),h]
 ·exact h
theorem Y6{a b:aB}{e:bH}(hk:e.kind=4)(h:dg a e.a=(0,b))(hl:e.a<(b.aL.length:Int)):uM a e=(0,⟨b.sig,b.az,b.aL.take e.a.toNat++b.aL.drop (e.a.toNat+1)⟩):=by
 unfold uM;rw[if_pos hk,dlv (by rw[h]),h,Lf (by simp only;omega)]
theorem XG{a b:aB}{e:bH}(hk:¬e.kind=4)(h:dg a e.a=(0,b)):uM a e=(0,b):=by
 unfold uM;rw[if_neg hk,h]
abbrev FC(a:aB)(R S:List (List CV)):Option (List CV):=some [CV.op [J a.sig.aK,J a.sig.aF,CV.own 47 3 R,CV.ows 89 8 S]]
theorem Jx(a:aB)(e:bH)(hw:WA a)(he:EA e):aE prog 79 [.c (.op (cQ a)), .a 9 (cj e)] [some [.op (cQ (uM a e).2)],none] (I (uM a e).1):=by
 have Ci:=hw.f12;have hz:=he.ra;by_cases hlen:e.a≥(a.aL.length:Int)
 ·refine cX func79 (h:=?_)
  repeat'((conv=>whnf);first
   |(show aI (I 2=_) _;rw[abS (by omega)];exact aI.mk rfl ⟨rfl,trivial⟩)
   |((apply bX;constructor)<;>intro h<;>(try simp only[aa]at h)<;>(try first|omega|contradiction))
   |refine nB ?_)
  all_goals(try(conv=>whnf))
 ·have YQ:=hw.pk e.a.toNat (by omega);have dV:(a.aL.getD e.a.toNat lF).mc.toNat<a.az.length:=by omega
  have Bd:=(hw.sv _ dV).1;refine Oa func79 (fun ew=>match ew with|5=>true|_=>false) (h:=?_)
  repeat'((conv=>whnf);first
   |((apply bX;constructor)<;>intro h<;>(try simp only[aa]at h)<;>(try first|omega|contradiction))|(show Gh _ _ _ _ _;refine Gh.go ?_)|(show Index _ _ _;first|(refine Index.mk _ (aN (d:=lF) (i:=e.a.toNat) (by omega)) ?_)|fail)
   |refine nB ?_|(show bh _ _;refine bh.mk (by first|((simp only[aa];omega))|fail) ?_))
  all_goals(conv=>whnf)
  all_goals try refine jY.opens 0 (a.aL.getD e.a.toNat lF).mc.toNat 1 rfl (aN (d:=ck) dV) rfl fun v=>jY.go ?_
  repeat'((conv=>whnf);first
   |(show aI (I 3=_) _;have hd:=acg (e:=e) (Y4 (a:=a) (i:=e.a) (by omega) (by assumption) (by first|assumption|exact Int.not_le.1 (by assumption)) (by assumption) (show(a.az.getD (a.aL.getD e.a.toNat lF).mc.toNat ck).notes.length=20 by omega));rw[hd];exact aI.mk rfl ⟨rfl,trivial⟩)|(show aI (I 0=_) _;have ht:=UF (a:=a) (i:=e.a) (by omega) (by first|exact Y0 (by assumption)|exact YS (by assumption)|exact XU (by assumption));(first|(rw[Y6 (by assumption) ht (by omega)];exact aI.mk rfl ⟨rfl,trivial⟩)|(rw[XG (by assumption) ht];exact aI.mk rfl ⟨rfl,trivial⟩)))|(show aI (I 0=_) _;have ht:=XS (a:=a) (i:=e.a) (by omega) (by assumption) (by first|assumption|exact Int.not_le.1 (by assumption)) (by assumption) (show¬(a.az.getD (a.aL.getD e.a.toNat lF).mc.toNat ck).notes.length=20 by omega);(first|(rw[Y6 (by assumption) ht (show e.a<(a.aL.length:Int) by omega)];exact aI.mk rfl ⟨congrArg (fun R=>FC a R ((a.aL.take e.a.toNat++a.aL.drop (e.a.toNat+1)).map bN)) (pT (s:=mf (sP a e.a) (pP a e.a).note) (by simp only[cy,au];rfl)),trivial⟩)|(rw[XG (by assumption) ht];exact aI.mk rfl ⟨congrArg (FA a) (pT (s:=mf (sP a e.a) (pP a e.a).note) (by simp only[cy,au];rfl)),trivial⟩)))
   |(apply Fact.mk;intro hL;try simp only[aa,maxLen]at hL)
   |((apply bX;constructor)<;>intro h<;>(try simp only[aa]at h)<;>(try first|omega|contradiction))|(show ay _ 59 _ _ _ _;refine cP rfl (mF (sP a e.a).notes (pP a e.a).note.bT (pP a e.a).note.id) ?_)|(show ay _ 95 _ _ _ _;refine cP rfl (qL (sP a e.a).notes (pP a e.a).note.entry.bI) ?_)|(show ay _ 78 _ _ _ _;refine cG [] rfl (oV (pP a e.a).note YQ.2.2) ?_)|(show ay _ 80 _ _ _ _;refine cG [true,false,false] rfl (zy a.aL e.a hz.1 (by omega)) ?_)|(show Gh _ _ _ _ _;refine Gh.j8 0 (a.aL.getD e.a.toNat lF).mc.toNat 1 7 rfl (c9 (by rw[aa];exact dV)) rfl rfl rfl (Gh.soft 0 (b':= .aU none 47 3 (a.az.map cy)) (.aU (lr dV rfl)) (Gh.go ?_)))|(show Gh _ _ _ _ _;refine Gh.go ?_)
   |refine aR ?_|(show Index _ _ _;first|(refine Index.mk _ (c9 (by rw[aa];exact dV)) ?_)|fail)
   |refine nB ?_|(show ch _ _ _;first|refine ch.row 4 rfl ?_|refine ch.aU 4 rfl ?_|refine ch.row 5 rfl ?_|refine ch.aU 5 rfl ?_|refine ch.row 6 rfl ?_|refine ch.aU 6 rfl ?_|refine ch.row 7 rfl ?_|refine ch.aU 7 rfl ?_|refine ch.row 8 rfl ?_|refine ch.aU 8 rfl ?_)|(show bh _ _;refine bh.mk (by first|((simp only[af,aa];omega))|((simp only[List.length_cons,List.length_nil,aa,maxLen];constructor<;>omega))|fail) ?_))
  all_goals(try(conv=>whnf))
section
variable(a:aB)(e:bH)(hw:WA a)(he:EA e)
include hw he
theorem Mj(hk:e.kind=4\/e.kind=5):aE prog 38 [.c (.op (cQ a)), .a 9 (cj e)] [some [.op (cQ (uM a e).2)],none] (I (uM a e).1):=by
 refine cX func38 (h:=?_)
 repeat'((conv=>whnf);first
  |refine aI.mk ?_ ?_
  |((apply bX;constructor)<;>intro h<;>(try simp only[aa]at h)<;>(try first|omega|contradiction))|(show ay _ 79 _ _ _ _;refine cG [true,false] rfl (Jx a e hw he) ?_))
 all_goals first|rfl|exact⟨rfl,trivial⟩|(exfalso;omega)
theorem HO(hk:e.kind=6):aE prog 38 [.c (.op (cQ a)), .a 9 (cj e)] [some [.op (cQ (fv a e.a).2)],none] (I (fv a e.a).1):=by
 have Ci:=hw.f12;have hz:=he.ra;by_cases hlen:e.a≥(a.aL.length:Int)
 ·refine cX func38 (h:=?_)
  repeat'((conv=>whnf);first
   |(show aI (I 2=_) _;rw[Uz (by omega)];exact aI.mk rfl ⟨rfl,trivial⟩)
   |((apply bX;constructor)<;>intro h<;>(try simp only[aa]at h)<;>(try first|omega|contradiction))
   |refine nB ?_)
  all_goals first|rfl|exact⟨rfl,trivial⟩|(exfalso;omega)
 ·refine cX func38 (h:=?_)
  repeat'((conv=>whnf);first
   |(show aI (I 0=_) _;rw[Lf (by omega)];exact aI.mk rfl ⟨rfl,trivial⟩)
   |((apply bX;constructor)<;>intro h<;>(try simp only[aa]at h)<;>(try first|omega|contradiction))|(show ay _ 80 _ _ _ _;refine cG [true,false,false] rfl (zy a.aL e.a hz.1 (by omega)) ?_)
   |refine aR ?_
   |refine nB ?_)
  all_goals first|rfl|exact⟨rfl,trivial⟩|(exfalso;omega)
theorem Ni(hk:¬e.kind=4/\ ¬e.kind=5/\ ¬e.kind=6)(hp:bW a e.a=false):aE prog 38 [.c (.op (cQ a)), .a 9 (cj e)] [some [.op (cQ a)],none] (I 2):=by
 have _:=hw;have _:=he;have dV:=kN a e.a;rw[hp]at dV;refine cX func38 (h:=?_)
 repeat'((conv=>whnf);first
  |refine aI.mk ?_ ?_
  |((apply bX;constructor)<;>intro h<;>(try simp only[aa]at h)<;>(try first|omega|contradiction))|(show ay _ 81 _ _ _ _;refine cP rfl (dV) ?_)
  |refine nB ?_)
 all_goals first|rfl|exact⟨rfl,trivial⟩|(exfalso;omega)
section
variable(hp:bW a e.a=true)
include hp
theorem Kl(hk:e.kind=1):aE prog 38 [.c (.op (cQ a)), .a 9 (cj e)] [some [.op (cQ (fq a e).2)],none] (I (fq a e).1):=by
 have eu:=bQ hp;have h5:=hw.n5;have dV:=kN a e.a;rw[hp]at dV;refine cX func38 (h:=?_)
 repeat'((conv=>whnf);first
  |refine aI.mk ?_ ?_
  |((apply bX;constructor)<;>intro h<;>(try simp only[aa]at h)<;>(try first|omega|contradiction))|(show ay _ 81 _ _ _ _;refine cP rfl (dV) ?_)|(show ay _ 82 _ _ _ _;refine cG [true,false] rfl (WO a e hw he (by omega)) ?_)
  |refine nB ?_|(show bh _ _;refine bh.mk (by first|((simp only[aa];omega))|fail) ?_))
 all_goals first|rfl|exact⟨rfl,trivial⟩|(exfalso;omega)
theorem BB(hk:e.kind=2):aE prog 38 [.c (.op (cQ a)), .a 9 (cj e)] [some [.op (cQ (cT a e).2)],none] (I (cT a e).1):=by
 have eu:=bQ hp;have h5:=hw.n5;have dV:=kN a e.a;rw[hp]at dV;refine cX func38 (h:=?_)
 repeat'((conv=>whnf);first
  |refine aI.mk ?_ ?_
  |((apply bX;constructor)<;>intro h<;>(try simp only[aa]at h)<;>(try first|omega|contradiction))|(show ay _ 81 _ _ _ _;refine cP rfl (dV) ?_)|(show ay _ 83 _ _ _ _;refine cG [true,false] rfl (Mu a e hw he (by omega)) ?_)
  |refine nB ?_|(show bh _ _;refine bh.mk (by first|((simp only[aa];omega))|fail) ?_))
 all_goals first|rfl|exact⟨rfl,trivial⟩|(exfalso;omega)
theorem HZ(hk:e.kind=3):aE prog 38 [.c (.op (cQ a)), .a 9 (cj e)] [some [.op (cQ (dR a e).2)],none] (I (dR a e).1):=by
 have eu:=bQ hp;have h5:=hw.n5;have dV:=kN a e.a;rw[hp]at dV;refine cX func38 (h:=?_)
 repeat'((conv=>whnf);first
  |refine aI.mk ?_ ?_
  |((apply bX;constructor)<;>intro h<;>(try simp only[aa]at h)<;>(try first|omega|contradiction))|(show ay _ 81 _ _ _ _;refine cP rfl (dV) ?_)|(show ay _ 84 _ _ _ _;refine cG [true,false] rfl (SJ a e hw he (by omega)) ?_)
  |refine nB ?_|(show bh _ _;refine bh.mk (by first|((simp only[aa];omega))|fail) ?_))
 all_goals first|rfl|exact⟨rfl,trivial⟩|(exfalso;omega)
end
end
theorem PS{n:Nat}{l:List aT}:(l.map bG).take (n-Int.toNat 0)=(l.take n).map bG:=List.map_take.symm
section
variable{a:aB}{e:bH}
theorem Sd(h:(sA a e.a).up=(e.kind==9)):jf a e=(4,a):=if_pos h
theorem TC(h:¬(sA a e.a).up=(e.kind==9))(h7:e.kind=7):jf a e=(0,jE a e.a ⟨(sA a e.a).up,(sA a e.a).notes,((sA a e.a).notes.length:Nat)⟩):=(if_neg h).trans (if_pos h7)
theorem Te(h:¬(sA a e.a).up=(e.kind==9))(h8:e.kind=8):jf a e=(0,jE a e.a ⟨false,(sA a e.a).notes.take (sA a e.a).saved.toNat,(sA a e.a).saved⟩):=(if_neg h).trans ((if_neg (by omega)).trans (if_pos h8))
theorem Ti(h:¬(sA a e.a).up=(e.kind==9))(h7:¬e.kind=7)(h8:¬e.kind=8):jf a e=(0,jE a e.a ⟨true,(sA a e.a).notes,(sA a e.a).saved⟩):=(if_neg h).trans ((if_neg h7).trans (if_neg h8))
end
section
variable(a:aB)(e:bH)(hw:WA a)(he:EA e)
include hw he
section
variable(hp:bW a e.a=true)
include hp
theorem MP(hk:7≤e.kind/\e.kind≤9):aE prog 38 [.c (.op (cQ a)), .a 9 (cj e)] [some [.op (cQ (jf a e).2)],none] (I (jf a e).1):=by
 have _:=he;have eu:=bQ hp;have h5:=hw.n5;have nX:e.a.toNat<a.az.length:=by omega
 have wm:=hw.sv _ nX;have dV:=kN a e.a;rw[hp]at dV;by_cases hs:(a.az.getD e.a.toNat ck).saved=((a.az.getD e.a.toNat ck).notes.length:Int)
 ·refine Oa func38 (fun ew=>match ew with|27=>true|_=>false) (h:=?_)
  repeat'((conv=>whnf);first
   |(show aI (I 4=_) _;rw[Sd (by assumption)];exact aI.mk rfl ⟨rfl,trivial⟩)|(show aI (I 0=_) _;rw[TC (by assumption) (by assumption)];exact aI.mk rfl ⟨congrArg (FA a) (Eq.trans (b:=(a.az.map cy).set e.a.toNat (cy ⟨(sA a e.a).up,(sA a e.a).notes,((sA a e.a).notes.length:Nat)⟩)) (by(repeat rw[List.set_set]);(try simp only[aa]);rfl) (iD rfl)),trivial⟩)|(show aI (I 0=_) _;rw[Ti (by assumption) (by assumption) (by assumption)];exact aI.mk rfl ⟨congrArg (FA a) (Eq.trans (b:=(a.az.map cy).set e.a.toNat (cy ⟨true,(sA a e.a).notes,(sA a e.a).saved⟩)) (by(repeat rw[List.set_set]);rfl) (iD rfl)),trivial⟩)
   |(apply Fact.mk;intro hL;try simp only[aa,maxLen]at hL)
   |((apply bX;constructor)<;>intro h<;>(try simp only[aa]at h)<;>(try first|omega|contradiction))|(show ay _ 81 _ _ _ _;refine cP rfl (dV) ?_)|(show∀_:Value,_;intro v)|(show Gh _ _ _ _ _;refine Gh.j8 0 e.a.toNat 1 4 rfl (c9 (by simp only[af,aa];exact nX)) rfl rfl rfl (Gh.go ?_))|(show Gh _ _ _ _ _;refine Gh.go ?_)|(show Index _ _ _;first|(refine Index.mk _ (aN (d:=ck) nX) ?_)|(refine Index.mk _ (c9 (by rw[aa];exact nX)) ?_)|fail)
   |refine nB ?_|(show bh _ _;refine bh.mk (by first|((simp only[af,aa];omega))|fail) ?_))
  all_goals(conv=>whnf)
  all_goals try refine jY.opens 0 e.a.toNat 1 rfl (aN (d:=ck) nX) rfl fun v=>jY.go ?_
  repeat'((conv=>whnf);first
   |(show aI (I 0=_) _;rw[Te (by assumption) (by assumption)];exact aI.mk rfl ⟨congrArg (FA a) (Eq.trans (b:=(a.az.map cy).set e.a.toNat (cy ⟨false,(sA a e.a).notes.take (sA a e.a).saved.toNat,(sA a e.a).saved⟩)) (by(repeat rw[List.set_set]);rw[List.take_of_length_le (l:=(sA a e.a).notes) (i:=(sA a e.a).saved.toNat) (by show(a.az.getD e.a.toNat ck).notes.length≤(a.az.getD e.a.toNat ck).saved.toNat;omega)];rfl) (iD rfl)),trivial⟩)|(show iK _ _ _ _ _ _;refine iK.all (by rw[aa];exact⟨rfl,hs⟩) ?_)|(show Gh _ _ _ _ _;refine Gh.go ?_)|(show Index _ _ _;first|(refine Index.mk _ (c9 (by simp only[af,aa];exact nX)) ?_)|fail)
   |refine nB ?_|(show ch _ _ _;first|refine ch.row 4 rfl ?_|refine ch.aU 4 rfl ?_))
  all_goals(try(conv=>whnf))
 ·refine Oa func38 (fun ew=>match ew with|27=>true|_=>false) (h:=?_)
  repeat'((conv=>whnf);first
   |(show aI (I 4=_) _;rw[Sd (by assumption)];exact aI.mk rfl ⟨rfl,trivial⟩)|(show aI (I 0=_) _;rw[TC (by assumption) (by assumption)];exact aI.mk rfl ⟨congrArg (FA a) (Eq.trans (b:=(a.az.map cy).set e.a.toNat (cy ⟨(sA a e.a).up,(sA a e.a).notes,((sA a e.a).notes.length:Nat)⟩)) (by(repeat rw[List.set_set]);(try simp only[aa]);rfl) (iD rfl)),trivial⟩)|(show aI (I 0=_) _;rw[Ti (by assumption) (by assumption) (by assumption)];exact aI.mk rfl ⟨congrArg (FA a) (Eq.trans (b:=(a.az.map cy).set e.a.toNat (cy ⟨true,(sA a e.a).notes,(sA a e.a).saved⟩)) (by(repeat rw[List.set_set]);rfl) (iD rfl)),trivial⟩)
   |(apply Fact.mk;intro hL;try simp only[aa,maxLen]at hL)
   |((apply bX;constructor)<;>intro h<;>(try simp only[aa]at h)<;>(try first|omega|contradiction))|(show ay _ 81 _ _ _ _;refine cP rfl (dV) ?_)|(show∀_:Value,_;intro v)|(show Gh _ _ _ _ _;refine Gh.j8 0 e.a.toNat 1 4 rfl (c9 (by simp only[af,aa];exact nX)) rfl rfl rfl (Gh.go ?_))|(show Gh _ _ _ _ _;refine Gh.go ?_)|(show Index _ _ _;first|(refine Index.mk _ (aN (d:=ck) nX) ?_)|(refine Index.mk _ (c9 (by rw[aa];exact nX)) ?_)|fail)
   |refine nB ?_|(show bh _ _;refine bh.mk (by first|((simp only[af,aa];omega))|fail) ?_))
  all_goals(conv=>whnf)
  all_goals try refine jY.opens 0 e.a.toNat 1 rfl (aN (d:=ck) nX) rfl fun v=>jY.go ?_
  repeat'((conv=>whnf);first
   |(show aI (I 0=_) _;rw[Te (by assumption) (by assumption)];exact aI.mk rfl ⟨congrArg (FA a) (Eq.trans (b:=(a.az.map cy).set e.a.toNat (cy ⟨false,(sA a e.a).notes.take (sA a e.a).saved.toNat,(sA a e.a).saved⟩)) (by(repeat rw[List.set_set]);exact congrArg (fun R=>(a.az.map cy).set e.a.toNat [CV.val (.bool false),CV.ows 51 7 R,J (sA a e.a).saved]) PS) (iD rfl)),trivial⟩)|(show iK _ _ _ _ _ _;refine iK.some (by rw[aa];omega) ?_)|(show Gh _ _ _ _ _;refine Gh.go ?_)|(show Index _ _ _;first|(refine Index.mk _ (c9 (by simp only[af,aa];exact nX)) ?_)|fail)
   |refine nB ?_|(show ch _ _ _;first|refine ch.row 4 rfl ?_|refine ch.aU 4 rfl ?_))
  all_goals(try(conv=>whnf))
end
end
theorem VJ{a:aB}{e:bH}(hk:e.kind=4\/e.kind=5):lj a e=uM a e:=by
 unfold lj uM;split
 ·rfl
 ·rw[if_pos (by omega)]
theorem Hn{a:aB}{e:bH}(hk:e.kind=6):lj a e=fv a e.a:=by
 unfold lj;rw[if_neg (by omega),if_neg (by omega),if_pos hk]
theorem Rp{a:aB}{e:bH}(hk:¬e.kind=4/\ ¬e.kind=5/\ ¬e.kind=6)(hp:bW a e.a=false):lj a e=(2,a):=by
 unfold lj;rw[if_neg hk.1,if_neg hk.2.1,if_neg hk.2.2,if_pos hp]
theorem UG{a:aB}{e:bH}(hk:¬e.kind=4/\ ¬e.kind=5/\ ¬e.kind=6)(hp:bW a e.a=true):lj a e=(if e.kind=1 then fq a e else if e.kind=2 then cT a e else if e.kind=3 then dR a e else jf a e):=by
 unfold lj;rw[if_neg hk.1,if_neg hk.2.1,if_neg hk.2.2,if_neg (by rw[hp];decide)]
section
variable(a:aB)(e:bH)(hw:WA a)(he:EA e)(Iz:1≤e.kind/\e.kind≤9)
include hw he
include Iz in
theorem B2:aE prog 38 [.c (.op (cQ a)), .a 9 (cj e)] [some [.op (cQ (lj a e).2)],none] (I (lj a e).1):=by
 by_cases h1:e.kind=4\/e.kind=5
 ·rw[VJ h1];exact Mj a e hw he h1
 by_cases h2:e.kind=6
 ·rw[Hn h2];exact HO a e hw he h2
 have hk:¬e.kind=4/\ ¬e.kind=5/\ ¬e.kind=6:=by omega
 cases hp:bW a e.a with
 |false=>
  rw[Rp hk hp];exact Ni a e hw he hk hp
 |true=>
  rw[UG hk hp];by_cases h3:e.kind=1
  ·rw[if_pos h3];exact Kl a e hw he hp h3
  rw[if_neg h3];by_cases h4:e.kind=2
  ·rw[if_pos h4];exact BB a e hw he hp h4
  rw[if_neg h4];by_cases h5:e.kind=3
  ·rw[if_pos h5];exact HZ a e hw he hp h5
  rw[if_neg h5];exact MP a e hw he hp (by omega)
section
variable(hp:bW a e.a=false)
include hp
theorem NT:aE prog 118 [.c (.op (cQ a)), .c (.rp 9 (cj e))] [some [.op (cQ a)],none] (I 2):=by
 have _:=hw;have _:=he;have jC:=j6 a e.a;rw[hp]at jC;refine cX func118 (h:=?_)
 repeat'((conv=>whnf);first
  |refine aI.mk ?_ ?_
  |((apply bX;constructor)<;>intro h<;>(try simp only[aa]at h)<;>(try first|omega|contradiction))|(show ay _ 104 _ _ _ _;refine cP rfl (jC) ?_))
 all_goals first|rfl|exact⟨rfl,trivial⟩
theorem DN:aE prog 119 [.c (.op (cQ a)), .c (.rp 9 (cj e))] [some [.op (cQ a)],none] (I 2):=by
 have _:=hw;have _:=he;have jC:=j6 a e.a;rw[hp]at jC;refine cX func119 (h:=?_)
 repeat'((conv=>whnf);first
  |refine aI.mk ?_ ?_
  |((apply bX;constructor)<;>intro h<;>(try simp only[aa]at h)<;>(try first|omega|contradiction))|(show ay _ 104 _ _ _ _;refine cP rfl (jC) ?_))
 all_goals first|rfl|exact⟨rfl,trivial⟩
theorem Jd:aE prog 120 [.c (.op (cQ a)), .c (.rp 9 (cj e))] [some [.op (cQ a)],none] (I 2):=by
 have _:=hw;have _:=he;have jC:=j6 a e.a;rw[hp]at jC;refine cX func120 (h:=?_)
 repeat'((conv=>whnf);first
  |refine aI.mk ?_ ?_
  |((apply bX;constructor)<;>intro h<;>(try simp only[aa]at h)<;>(try first|omega|contradiction))|(show ay _ 104 _ _ _ _;refine cP rfl (jC) ?_)
  |refine nB ?_)
 all_goals first|rfl|exact⟨rfl,trivial⟩
theorem Ey:aE prog 123 [.c (.op (cQ a)), .c (.rp 9 (cj e))] [some [.op (cQ a)],none] (I 2):=by
 have _:=hw;have _:=he;have jC:=j6 a e.a;rw[hp]at jC;refine cX func123 (h:=?_)
 repeat'((conv=>whnf);first
  |refine aI.mk ?_ ?_
  |((apply bX;constructor)<;>intro h<;>(try simp only[aa]at h)<;>(try first|omega|contradiction))|(show ay _ 104 _ _ _ _;refine cP rfl (jC) ?_))
 all_goals first|rfl|exact⟨rfl,trivial⟩
end
section
variable(hp:bW a e.a=true)
include hp
theorem DJ(hk:7≤e.kind/\e.kind≤9):aE prog 123 [.c (.op (cQ a)), .c (.rp 9 (cj e))] [some [.op (cQ (jf a e).2)],none] (I (jf a e).1):=by
 have _:=he;have eu:=bQ hp;have h5:=hw.n5;have nX:e.a.toNat<a.az.length:=by omega
 have wm:=hw.sv _ nX;have jC:=j6 a e.a;rw[hp]at jC;by_cases hs:(a.az.getD e.a.toNat ck).saved=((a.az.getD e.a.toNat ck).notes.length:Int)
 ·refine Oa func123 (fun ew=>match ew with|10=>true|_=>false) (h:=?_)
  repeat'((conv=>whnf);first
   |(show aI (I 4=_) _;rw[Sd (by assumption)];exact aI.mk rfl ⟨rfl,trivial⟩)|(show aI (I 0=_) _;rw[TC (by assumption) (by assumption)];exact aI.mk rfl ⟨congrArg (FA a) (Eq.trans (b:=(a.az.map cy).set e.a.toNat (cy ⟨(sA a e.a).up,(sA a e.a).notes,((sA a e.a).notes.length:Nat)⟩)) (by(repeat rw[List.set_set]);(try simp only[aa]);rfl) (iD rfl)),trivial⟩)|(show aI (I 0=_) _;rw[Ti (by assumption) (by assumption) (by assumption)];exact aI.mk rfl ⟨congrArg (FA a) (Eq.trans (b:=(a.az.map cy).set e.a.toNat (cy ⟨true,(sA a e.a).notes,(sA a e.a).saved⟩)) (by(repeat rw[List.set_set]);rfl) (iD rfl)),trivial⟩)
   |(apply Fact.mk;intro hL;try simp only[aa,maxLen]at hL)
   |((apply bX;constructor)<;>intro h<;>(try simp only[aa]at h)<;>(try first|omega|contradiction))|(show ay _ 104 _ _ _ _;refine cP rfl (jC) ?_)|(show∀_:Value,_;intro v)|(show Gh _ _ _ _ _;refine Gh.j8 0 e.a.toNat 1 3 rfl (c9 (by simp only[af,aa];exact nX)) rfl rfl rfl (Gh.go ?_))|(show Gh _ _ _ _ _;refine Gh.go ?_)|(show Index _ _ _;first|(refine Index.mk _ (aN (d:=ck) nX) ?_)|(refine Index.mk _ (c9 (by rw[aa];exact nX)) ?_)|fail)
   |refine nB ?_|(show bh _ _;refine bh.mk (by first|((simp only[af,aa];omega))|fail) ?_))
  all_goals(conv=>whnf)
  all_goals try refine jY.opens 0 e.a.toNat 1 rfl (aN (d:=ck) nX) rfl fun v=>jY.go ?_
  repeat'((conv=>whnf);first
   |(show aI (I 0=_) _;rw[Te (by assumption) (by assumption)];exact aI.mk rfl ⟨congrArg (FA a) (Eq.trans (b:=(a.az.map cy).set e.a.toNat (cy ⟨false,(sA a e.a).notes.take (sA a e.a).saved.toNat,(sA a e.a).saved⟩)) (by(repeat rw[List.set_set]);rw[List.take_of_length_le (l:=(sA a e.a).notes) (i:=(sA a e.a).saved.toNat) (by show(a.az.getD e.a.toNat ck).notes.length≤(a.az.getD e.a.toNat ck).saved.toNat;omega)];rfl) (iD rfl)),trivial⟩)|(show iK _ _ _ _ _ _;refine iK.all (by rw[aa];exact⟨rfl,hs⟩) ?_)|(show Gh _ _ _ _ _;refine Gh.go ?_)|(show Index _ _ _;first|(refine Index.mk _ (c9 (by simp only[af,aa];exact nX)) ?_)|fail)
   |refine nB ?_|(show ch _ _ _;first|refine ch.row 3 rfl ?_|refine ch.aU 3 rfl ?_))
  all_goals(try(conv=>whnf))
 ·refine Oa func123 (fun ew=>match ew with|10=>true|_=>false) (h:=?_)
  repeat'((conv=>whnf);first
   |(show aI (I 4=_) _;rw[Sd (by assumption)];exact aI.mk rfl ⟨rfl,trivial⟩)|(show aI (I 0=_) _;rw[TC (by assumption) (by assumption)];exact aI.mk rfl ⟨congrArg (FA a) (Eq.trans (b:=(a.az.map cy).set e.a.toNat (cy ⟨(sA a e.a).up,(sA a e.a).notes,((sA a e.a).notes.length:Nat)⟩)) (by(repeat rw[List.set_set]);(try simp only[aa]);rfl) (iD rfl)),trivial⟩)|(show aI (I 0=_) _;rw[Ti (by assumption) (by assumption) (by assumption)];exact aI.mk rfl ⟨congrArg (FA a) (Eq.trans (b:=(a.az.map cy).set e.a.toNat (cy ⟨true,(sA a e.a).notes,(sA a e.a).saved⟩)) (by(repeat rw[List.set_set]);rfl) (iD rfl)),trivial⟩)
   |(apply Fact.mk;intro hL;try simp only[aa,maxLen]at hL)
   |((apply bX;constructor)<;>intro h<;>(try simp only[aa]at h)<;>(try first|omega|contradiction))|(show ay _ 104 _ _ _ _;refine cP rfl (jC) ?_)|(show∀_:Value,_;intro v)|(show Gh _ _ _ _ _;refine Gh.j8 0 e.a.toNat 1 3 rfl (c9 (by simp only[af,aa];exact nX)) rfl rfl rfl (Gh.go ?_))|(show Gh _ _ _ _ _;refine Gh.go ?_)|(show Index _ _ _;first|(refine Index.mk _ (aN (d:=ck) nX) ?_)|(refine Index.mk _ (c9 (by rw[aa];exact nX)) ?_)|fail)
   |refine nB ?_|(show bh _ _;refine bh.mk (by first|((simp only[af,aa];omega))|fail) ?_))
  all_goals(conv=>whnf)
  all_goals try refine jY.opens 0 e.a.toNat 1 rfl (aN (d:=ck) nX) rfl fun v=>jY.go ?_
  repeat'((conv=>whnf);first
   |(show aI (I 0=_) _;rw[Te (by assumption) (by assumption)];exact aI.mk rfl ⟨congrArg (FA a) (Eq.trans (b:=(a.az.map cy).set e.a.toNat (cy ⟨false,(sA a e.a).notes.take (sA a e.a).saved.toNat,(sA a e.a).saved⟩)) (by(repeat rw[List.set_set]);exact congrArg (fun R=>(a.az.map cy).set e.a.toNat [CV.val (.bool false),CV.ows 51 7 R,J (sA a e.a).saved]) PS) (iD rfl)),trivial⟩)|(show iK _ _ _ _ _ _;refine iK.some (by rw[aa];omega) ?_)|(show Gh _ _ _ _ _;refine Gh.go ?_)|(show Index _ _ _;first|(refine Index.mk _ (c9 (by simp only[af,aa];exact nX)) ?_)|fail)
   |refine nB ?_|(show ch _ _ _;first|refine ch.row 3 rfl ?_|refine ch.aU 3 rfl ?_))
  all_goals(try(conv=>whnf))
end
end
theorem Rm{a:aB}{i:Int}(h:¬(dg a i).1=0):(dg a i).2=a:=by
 unfold dg at h⊢
 repeat' split at h
 all_goals first|(exfalso;exact h rfl)|skip
 all_goals(repeat' split)
 all_goals first|rfl|(exfalso;contradiction)
theorem Qx{a:aB}{i:Int}:(dg a i).2.aL=a.aL:=by
 unfold dg
 repeat' split
 all_goals rfl
section
variable(a:aB)(e:bH)(hw:WA a)(he:EA e)(Iz:1≤e.kind/\e.kind≤9)
include hw he
theorem TF(hk:e.kind=4):aE prog 93 [.c (.op (cQ a)), .c (.rp 9 (cj e))] [some [.op (cQ (lj a e).2)],none] (I (lj a e).1):=by
 have Ci:=hw.f12;have hf:(dg a e.a).2.aL.length≤1048576:=by rw[Qx];omega
 rw[show lj a e=fV a e.a by unfold lj;rw[if_pos hk]];by_cases ht:(dg a e.a).1=0
 ·rw[dlv ht];refine cX func93 (h:=?_)
  repeat'((conv=>whnf);first
   |refine aI.mk ?_ ?_
   |((apply bX;constructor)<;>intro h<;>(try simp only[aa]at h)<;>(try first|omega|contradiction))|(show ay _ 121 _ _ _ _;refine cG [true,false] rfl (tW a e.a hw he.ra) ?_)|(show ay _ 122 _ _ _ _;refine cG [true,false] rfl (y3 (dg a e.a).2 e.a hf he.ra) ?_))
  all_goals first|rfl|exact⟨rfl,trivial⟩|(exfalso;omega)|(exfalso;contradiction)
 ·rw[Oo ht];have hl:=tW a e.a hw he.ra;rw[Rm ht]at hl;refine cX func93 (h:=?_)
  repeat'((conv=>whnf);first
   |refine aI.mk ?_ ?_
   |((apply bX;constructor)<;>intro h<;>(try simp only[aa]at h)<;>(try first|omega|contradiction))|(show ay _ 121 _ _ _ _;refine cG [true,false] rfl (hl) ?_))
  all_goals first|rfl|exact⟨rfl,trivial⟩|(exfalso;omega)|(exfalso;contradiction)
theorem SG(hk:e.kind=5):aE prog 93 [.c (.op (cQ a)), .c (.rp 9 (cj e))] [some [.op (cQ (lj a e).2)],none] (I (lj a e).1):=by
 rw[show lj a e=dg a e.a by unfold lj;rw[if_neg (by omega),if_pos hk]];refine cX func93 (h:=?_)
 repeat'((conv=>whnf);first
  |refine aI.mk ?_ ?_
  |((apply bX;constructor)<;>intro h<;>(try simp only[aa]at h)<;>(try first|omega|contradiction))|(show ay _ 121 _ _ _ _;refine cG [true,false] rfl (tW a e.a hw he.ra) ?_))
 all_goals first|rfl|exact⟨rfl,trivial⟩|(exfalso;omega)|(exfalso;contradiction)
theorem SQ(hk:e.kind=6):aE prog 93 [.c (.op (cQ a)), .c (.rp 9 (cj e))] [some [.op (cQ (lj a e).2)],none] (I (lj a e).1):=by
 have Ci:=hw.f12;rw[Hn hk];refine cX func93 (h:=?_)
 repeat'((conv=>whnf);first
  |refine aI.mk ?_ ?_
  |((apply bX;constructor)<;>intro h<;>(try simp only[aa]at h)<;>(try first|omega|contradiction))|(show ay _ 122 _ _ _ _;refine cG [true,false] rfl (y3 a e.a (by omega) he.ra) ?_))
 all_goals first|rfl|exact⟨rfl,trivial⟩|(exfalso;omega)|(exfalso;contradiction)
theorem PO(hk:¬e.kind=4/\ ¬e.kind=5/\ ¬e.kind=6)(hp:bW a e.a=false):aE prog 93 [.c (.op (cQ a)), .c (.rp 9 (cj e))] [some [.op (cQ (lj a e).2)],none] (I (lj a e).1):=by
 rw[Rp hk hp];obtain⟨h4,h5,h6⟩:=hk;refine cX func93 (h:=?_)
 repeat'((conv=>whnf);first
  |refine aI.mk ?_ ?_
  |((apply bX;constructor)<;>intro h<;>(try simp only[aa]at h)<;>(try first|omega|contradiction))|(show ay _ 118 _ _ _ _;refine cG [true,false] rfl (NT a e hw he hp) ?_)|(show ay _ 119 _ _ _ _;refine cG [true,false] rfl (DN a e hw he hp) ?_)|(show ay _ 120 _ _ _ _;refine cG [true,false] rfl (Jd a e hw he hp) ?_)|(show ay _ 123 _ _ _ _;refine cG [true,false] rfl (Ey a e hw he hp) ?_))
 all_goals first|rfl|exact⟨rfl,trivial⟩|(exfalso;omega)|(exfalso;contradiction)
include Iz in
theorem SE(hk:¬e.kind=4/\ ¬e.kind=5/\ ¬e.kind=6)(hp:bW a e.a=true):aE prog 93 [.c (.op (cQ a)), .c (.rp 9 (cj e))] [some [.op (cQ (lj a e).2)],none] (I (lj a e).1):=by
 rw[UG hk hp];obtain⟨h4,h5,h6⟩:=hk;by_cases h1:e.kind=1
 ·rw[if_pos h1];refine cX func93 (h:=?_)
  repeat'((conv=>whnf);first
   |refine aI.mk ?_ ?_
   |((apply bX;constructor)<;>intro h<;>(try simp only[aa]at h)<;>(try first|omega|contradiction))|(show ay _ 118 _ _ _ _;refine cG [true,false] rfl (NM a e hw he hp) ?_))
  all_goals first|rfl|exact⟨rfl,trivial⟩|(exfalso;omega)|(exfalso;contradiction)
 rw[if_neg h1];by_cases h2:e.kind=2
 ·rw[if_pos h2];refine cX func93 (h:=?_)
  repeat'((conv=>whnf);first
   |refine aI.mk ?_ ?_
   |((apply bX;constructor)<;>intro h<;>(try simp only[aa]at h)<;>(try first|omega|contradiction))|(show ay _ 119 _ _ _ _;refine cG [true,false] rfl (EM a e hw he hp) ?_))
  all_goals first|rfl|exact⟨rfl,trivial⟩|(exfalso;omega)|(exfalso;contradiction)
 rw[if_neg h2];by_cases h3:e.kind=3
 ·rw[if_pos h3];refine cX func93 (h:=?_)
  repeat'((conv=>whnf);first
   |refine aI.mk ?_ ?_
   |((apply bX;constructor)<;>intro h<;>(try simp only[aa]at h)<;>(try first|omega|contradiction))|(show ay _ 120 _ _ _ _;refine cG [true,false] rfl (Jb a e hw he hp) ?_))
  all_goals first|rfl|exact⟨rfl,trivial⟩|(exfalso;omega)|(exfalso;contradiction)
 rw[if_neg h3];refine cX func93 (h:=?_)
 repeat'((conv=>whnf);first
  |refine aI.mk ?_ ?_
  |((apply bX;constructor)<;>intro h<;>(try simp only[aa]at h)<;>(try first|omega|contradiction))|(show ay _ 123 _ _ _ _;refine cG [true,false] rfl (DJ a e hw he hp (by omega)) ?_))
 all_goals first|rfl|exact⟨rfl,trivial⟩|(exfalso;omega)|(exfalso;contradiction)
include Iz in
theorem GJ:aE prog 93 [.c (.op (cQ a)), .c (.rp 9 (cj e))] [some [.op (cQ (lj a e).2)],none] (I (lj a e).1):=by
 by_cases h4:e.kind=4
 ·exact TF a e hw he h4
 by_cases h5:e.kind=5
 ·exact SG a e hw he h5
 by_cases h6:e.kind=6
 ·exact SQ a e hw he h6
 cases hp:bW a e.a with
 |false=>exact PO a e hw he ⟨h4,h5,h6⟩ hp
 |true=>exact SE a e hw he Iz ⟨h4,h5,h6⟩ hp
end
structure SA(s:bj):Prop where
 IG:s.notes.length≤20
 sav:0≤s.saved/\s.saved≤(s.notes.length:Int)
 bn:∀n∈s.notes,bU n≤1048576
theorem WA.srv{a:aB}(hw:WA a){i:Nat}(hi:i<a.az.length):SA (a.az.getD i ck):=⟨(hw.sv i hi).1,(hw.sv i hi).2,hw.bn i hi⟩
theorem Ay{l:List bj}{i k:Nat}{s:bj}(hk:k<l.length):(l.set i s).getD k ck=if i=k then s else l.getD k ck:=by
 rw[getD_eq (by rw[af];exact hk),List.getElem_set,getD_eq hk]
theorem WA.set{a:aB}(hw:WA a)(i:Int){s:bj}(hs:SA s):WA (jE a i s):=by
 have hl:(a.az.set i.toNat s).length=a.az.length:=af;refine⟨?_,hw.f12,fun k hk=>?_,fun k hk=>?_,fun k hk=>?_⟩
 ·show 1≤(a.az.set i.toNat s).length/\(a.az.set i.toNat s).length≤5;rw[hl];exact hw.n5
 ·have sY:k<a.az.length:=hl▸hk;show((a.az.set i.toNat s).getD k ck).notes.length≤20/\0≤((a.az.set i.toNat s).getD k ck).saved/\((a.az.set i.toNat s).getD k ck).saved≤(((a.az.set i.toNat s).getD k ck).notes.length:Int);rw[Ay sY];split
  ·exact⟨hs.IG,hs.sav⟩
  ·exact hw.sv k sY
 ·have sY:k<a.az.length:=hl▸hk;show∀n∈((a.az.set i.toNat s).getD k ck).notes,bU n≤1048576
  rw[Ay sY];split
  ·exact hs.bn
  ·exact hw.bn k sY
 ·have:=hw.pk k hk;show 0≤(a.aL.getD k lF).mc/\(a.aL.getD k lF).mc<((a.az.set i.toNat s).length:Int)/\bU (a.aL.getD k lF).note≤1048576;rw[hl];exact this
theorem SA.add{s:bj}(h:SA s)(hn:¬s.notes.length=20){n:aT}(hb:bU n≤1048576):SA (mf s n):=by
 have h1:=h.IG;have h2:=h.sav;refine⟨?_,?_,fun x hx=>?_⟩
 ·show(s.notes++[n]).length≤20;rw[ai];simp only[List.length_singleton];omega
 ·show 0≤s.saved/\s.saved≤((s.notes++[n]).length:Int);rw[ai];simp only[List.length_singleton];omega
 ·rcases ao.1 hx with hx|hx
  ·exact h.bn x hx
  ·rw[List.mem_singleton.1 hx];exact hb
theorem WA.Zz{a:aB}(hw:WA a){l:List c8}(hl:l.length≤12)(h:∀p∈l,0≤p.mc/\p.mc<(a.az.length:Int)/\bU p.note≤1048576):WA ⟨a.sig,a.az,l⟩:=by
 refine⟨hw.n5,hl,hw.sv,hw.bn,fun i hi=>?_⟩;show 0≤(l.getD i lF).mc/\(l.getD i lF).mc<(a.az.length:Int)/\bU (l.getD i lF).note≤1048576;rw[getD_eq hi];exact h _ (ag hi)
theorem WA.mem{a:aB}(hw:WA a){p:c8}(hp:p∈a.aL):0≤p.mc/\p.mc<(a.az.length:Int)/\bU p.note≤1048576:=by
 obtain⟨i,hi,rfl⟩:=List.mem_iff_getElem.1 hp;have:=hw.pk i hi;rwa[getD_eq hi]at this
theorem WA.drop{a:aB}(hw:WA a)(i:Int):WA (fv a i).2:=by
 have Ci:=hw.f12;unfold fv;split
 ·exact hw
 ·refine hw.Zz ?_ fun p hp=>?_
  ·rw[ai,aq,List.length_drop];omega
  ·rcases ao.1 hp with hp|hp
   ·exact hw.mem (List.mem_of_mem_take hp)
   ·exact hw.mem (List.mem_of_mem_drop hp)
theorem WA.take{a:aB}(hw:WA a){i:Int}(hi:0≤i):WA (dg a i).2:=by
 unfold dg
 repeat' split
 ·exact hw
 ·exact hw
 ·exact hw
 ·have hp:=hw.pk i.toNat (by omega);exact hw.set _ ((hw.srv (i:=(iJ a i).mc.toNat) (by show(a.aL.getD i.toNat lF).mc.toNat<_;omega)).add (by assumption) hp.2.2)
theorem Sj{a:aB}{e:bH}(he:EA e):bU (zi a e)≤1048576:=by
 have:=he.bl;show e.bI.length+cL e.proof≤1048576;omega
theorem Sc(e:bH):bU (Bf e)≤1048576:=by
 have:bU (Bf e)=0:=rfl;omega
theorem WA.step{a:aB}(hw:WA a){e:bH}(he:EA e):WA (lj a e).2:=by
 have hz:=he.ra.1;have hc:=he.rc.1;unfold lj;split
 ·unfold fV;split
  ·exact(hw.take hz).drop _
  ·exact hw
 split
 ·exact hw.take hz
 split
 ·exact hw.drop _
 split
 ·exact hw
 have hp:bW a e.a=true:=by cases hb:bW a e.a with
  |true=>rfl
  |false=>contradiction
 have dV:e.a.toNat<a.az.length:=by have:=bQ hp;have:=hw.n5;omega
 have hs:SA (sA a e.a):=hw.srv dV;split
 ·unfold fq
  repeat' split
  ·exact hw
  ·exact hw
  ·exact hw
  ·refine hw.set _ (hs.add ?_ (Sj he));rename_i h;intro Bd;exact h (by rw[decide_eq_true Bd];rfl)
 split
 ·unfold cT
  repeat' split
  ·exact hw
  ·exact hw
  ·exact hw
  ·exact hw.set _ (hs.add (by assumption) (Sc e))
 split
 ·unfold dR
  repeat' split
  ·exact hw
  ·exact hw
  ·exact hw
  ·have hf:=hw.f12;rename_i h1 h2 h3;simp only[Bool.or_eq_true,Bool.not_eq_true',decide_eq_true_eq,not_or,Bool.not_eq_false]at h1;have hb:=bQ h1.1;refine hw.Zz (by rw[ai];simp only[List.length_singleton];omega) fun p hp=>?_
   rcases ao.1 hp with hp|hp
   ·exact hw.mem hp
   ·rw[List.mem_singleton.1 hp];have hn:e.c.toNat<(sA a e.a).notes.length:=by omega
    refine⟨hb.1,by show e.b<_;omega,?_⟩;show bU ((sA a e.a).notes.getD e.c.toNat n0)≤1048576;rw[getD_eq hn];exact hs.bn _ (ag hn)
 have h1:=hs.IG;have h2:=hs.sav;unfold jf
 repeat' split
 ·exact hw
 ·exact hw.set _ ⟨h1,⟨by show(0:Int)≤((sA a e.a).notes.length:Nat);omega,Int.le_refl _⟩,hs.bn⟩
 ·refine hw.set _ ⟨?_,?_,fun n hn=>hs.bn n (List.mem_of_mem_take hn)⟩
  ·show((sA a e.a).notes.take _).length≤20;rw[aq];omega
  ·show 0≤(sA a e.a).saved/\(sA a e.a).saved≤(((sA a e.a).notes.take (sA a e.a).saved.toNat).length:Int);rw[aq];omega
 ·exact hw.set _ ⟨h1,h2,hs.bn⟩
theorem WA.ca{a:aB}(hw:WA a):CA a:=by
 have h5:=hw.n5;have Ci:=hw.f12;refine⟨by omega,by omega,fun i hi=>?_,fun i hi k hk=>?_,fun i hi=>(hw.pk i hi).2.2⟩
 ·have:=(hw.sv i hi).1;omega
 ·rw[getD_eq hk];exact hw.bn i hi _ (ag hk)
theorem WA.of{a:aB}(hg:GA a)(hb:bS a≤1048576):WA a:=by
 have hc:=CA.of hb;have h5:=bQ hg.2.1;have Ci:=hg.2.2.1;refine⟨by omega,by omega,fun i hi=>⟨?_,wx hg hi⟩,fun i hi n hn=>?_,fun i hi=>?_⟩
 ·have h4:=aj.1 hg.2.2.2.1 _ (ag hi);rw[getD_eq hi];unfold cO at h4;simp only[ab,decide_eq_true_eq]at h4;omega
 ·obtain⟨k,hk,rfl⟩:=List.mem_iff_getElem.1 hn;have:=hc.bn i hi k hk;rwa[getD_eq hk]at this
 ·have h:=aj.1 hg.2.2.2.2.1 _ (ag hi);unfold g8 at h;simp only[ab]at h;have h1:=bQ h.1;have h2:=hc.bp i hi;rw[getD_eq hi]at h2⊢;exact⟨h1.1,by omega,h2⟩
theorem EA.of{t c:Int}{e:bH}(hg:cK t c e=true)(hb:gi e≤1048576):EA e/\(1≤e.kind/\e.kind≤9):=by
 unfold cK at hg;simp only[ab]at hg;exact⟨⟨bQ hg.2.1,bQ hg.2.2.1,bQ hg.2.2.2.1,hb⟩,bQ hg.1⟩
end Go.Proofs.YtgbggaddpbghfaaGreat
