/- Contracts of the reference's functions that learn an entry or a revocation. Conditions: the archive's shape, the event's. -/
import Derived.Test.YtgbggaddpbghfaaGreatKAE
import Derived.WalkKit
import Derived.Deep.RegionLaw
import Derived.Lib.SliceRun
namespace Go.Proofs.YtgbggaddpbghfaaGreat
open Go Go.KA Go.Proofs Go.Proofs.Tryz
set_option maxHeartbeats 16000000
set_option maxRecDepth 1000000
theorem H7(l:List Int)(hl:l.length≤1048576):aE prog 133 [.c (.ro 1 (l.map eI))] [] (.c (.ro 1 (l.map eI))):=(km l hl).soft (.v (.c (.ro .nil)))
theorem FD(e:bH)(h:cL e.proof≤1048576):aE prog 134 [.c (.rp 4 ((cj e).drop 5))] [] (.a 3 (dk e.proof)):=by
 have h1:dB (q8 e.proof) (dk e.proof):=by rw[<-Tv];exact dB.pf _
 exact((BN e.proof h).soft (.v (.a h1))).cut (.cut (k:=3) (by omega) .nil)
theorem EM(a:aB)(e:bH)(hw:WA a)(he:EA e)(hp:bW a e.a=true):aE prog 119 [.c (.op (cQ a)), .c (.rp 9 (cj e))] [some [.op (cQ (cT a e).2)],none] (I (cT a e).1):=by
 have dV:e.a.toNat<a.az.length:=by have:=bQ hp;have:=hw.n5;omega
 have Yn:=he.ra;have Bd:=(hw.sv _ dV).1;have jC:=j6 a e.a;rw[hp]at jC;refine Oa func119 (fun ew=>match ew with|4=>true|_=>false) (h:=?_)
 repeat'((conv=>whnf);first
  |(show aI (I 2=_) _;have hd:cT a e=(2,a):=UI (by assumption);rw[hd];exact aI.mk rfl ⟨rfl,trivial⟩)
  |((apply bX;constructor)<;>intro h<;>(try simp only[aa]at h)<;>(try first|omega|contradiction))|(show ay _ 104 _ _ _ _;refine cP rfl (jC) ?_)|(show Gh _ _ _ _ _;refine Gh.go ?_)
  |refine nB ?_|(show bh _ _;refine bh.mk (by first|((simp only[aa];omega))|fail) ?_))
 all_goals(conv=>whnf)
 all_goals try refine jY.opens 0 e.a.toNat 1 rfl (aN (d:=ck) dV) rfl fun v=>jY.go ?_
 repeat'((conv=>whnf);first
  |(show aI (I 4=_) _;have hd:cT a e=(4,a):=(by first|exact OO (by assumption) (by assumption)|exact Qb (by assumption) (by assumption) (by assumption));rw[hd];exact aI.mk rfl ⟨congrArg (FA a) (pt dV rfl),trivial⟩)|(show aI (I 3=_) _;have hd:cT a e=(3,a):=TV (by assumption) (by assumption) (by assumption) (show((a.az.getD e.a.toNat ck).notes.length:Int)=20 by omega);rw[hd];exact aI.mk rfl ⟨congrArg (FA a) (pt dV rfl),trivial⟩)|(show aI (I 0=_) _;have hd:cT a e=(0,jE a e.a (mf (sA a e.a) (Bf e))):=UB (by assumption) (by assumption) (by assumption) (show¬((a.az.getD e.a.toNat ck).notes.length:Int)=20 by omega);rw[hd];exact aI.mk rfl ⟨congrArg (FA a) (pT (s:=mf (sA a e.a) (Bf e)) (congrArg (fun R=>[CV.val (.bool (sA a e.a).up),CV.ows 51 7 R,J (sA a e.a).saved]) (wS rfl))),trivial⟩)
  |(apply Fact.mk;intro hL;try simp only[aa,maxLen]at hL)
  |((apply bX;constructor)<;>intro h<;>(try simp only[aa]at h)<;>(try first|omega|contradiction))|(show ay _ 60 _ _ _ _;refine cP rfl (jd (a.az.getD e.a.toNat ck).notes true e.b) ?_)|(show Gh _ _ _ _ _;refine Gh.j8 0 e.a.toNat 1 3 rfl (c9 (by rw[aa];exact dV)) rfl rfl rfl (Gh.go ?_))|(show Gh _ _ _ _ _;refine Gh.soft 0 (iP.aU (sH (i:=e.a.toNat) (.same (.ows (.same .nil))))) (Gh.go ?_))|(show Index _ _ _;first|(refine Index.mk _ (c9 (by rw[aa];exact dV)) ?_)|fail)
  |refine nB ?_|(show ch _ _ _;first|refine ch.row 3 rfl ?_|refine ch.aU 3 rfl ?_|refine ch.row 4 rfl ?_|refine ch.aU 4 rfl ?_)|(show bh _ _;refine bh.mk (by first|((simp only[af,aa];omega))|((simp only[List.length_cons,List.length_nil,aa,maxLen];constructor<;>omega))|fail) ?_))
 all_goals(try(conv=>whnf))
theorem NM(a:aB)(e:bH)(hw:WA a)(he:EA e)(hp:bW a e.a=true):aE prog 118 [.c (.op (cQ a)), .c (.rp 9 (cj e))] [some [.op (cQ (fq a e).2)],none] (I (fq a e).1):=by
 have dV:e.a.toNat<a.az.length:=by have:=bQ hp;have:=hw.n5;omega
 have Yn:=he.ra;have h5:=hw.n5;have Bd:=(hw.sv _ dV).1;have jC:=j6 a e.a;rw[hp]at jC;have hmul:∀c:Int,0≤c->c≤20->0≤(a.az.length:Int)*c/\(a.az.length:Int)*c≤100:=fun c h1 h2=>by
  constructor
  ·exact Int.mul_nonneg (by omega) h1
  ·have:=Int.mul_le_mul (show(a.az.length:Int)≤5 by omega) h2 h1 (by omega);omega
 have Yh:=Gg e.nH (by have:=he.bl;omega);obtain⟨vb,SY⟩:∃vb,vb=oX e.nH:=⟨_,rfl⟩
 rw[<-SY]at Yh;have IC:e.bI.length≤1048576/\cL e.proof≤1048576:=by have:=he.bl;omega
 refine Oa func118 (fun ew=>match ew with|4=>true|1000015=>true|14015=>true|17=>true|_=>false) (h:=?_)
 repeat'((conv=>whnf);first
  |((apply bX;constructor)<;>intro h<;>(try simp only[aa]at h)<;>(try first|omega|contradiction))|(show ay _ 104 _ _ _ _;refine cP rfl (jC) ?_)|(show Gh _ _ _ _ _;refine Gh.go ?_)
  |refine nB ?_|(show bh _ _;refine bh.mk (by first|((simp only[aa];omega))|fail) ?_))
 all_goals(conv=>whnf)
 all_goals try refine jY.opens 0 e.a.toNat 1 rfl (aN (d:=ck) dV) rfl fun v=>jY.go ?_
 repeat'((conv=>whnf);first
  |(show aI (I 4=_) _;have hd:fq a e=(4,a):=(by first|exact QV (by assumption)|exact Re (by assumption) (by assumption));rw[hd];exact aI.mk rfl ⟨rfl,trivial⟩)|(show aI (I 8=_) _;have hd:fq a e=(8,a):=Um (by assumption) (by assumption) (by rw[<-SY];assumption);rw[hd];exact aI.mk rfl ⟨rfl,trivial⟩)|(show aZ 11 _ _ _ _ _ _;refine lp (Int × Nat) [0,1,5,6] (fun⟨d,i⟩=>[(7,I d),(8,I (i:Nat))]) (fun⟨d,i⟩=>i≤(a.az.getD e.a.toNat ck).notes.length/\ ∃c:Int,c=(((a.az.getD e.a.toNat ck).notes.take i).countP (uc a.az.length e.a):Nat)/\d=e.a+(a.az.length:Int)*c) (fun⟨d,i⟩=>(a.az.getD e.a.toNat ck).notes.length-i) (e.a,0) (by exact⟨ah _,0,by simp,by omega⟩) (fun A ha=>?_);obtain⟨d,i⟩:=A;have ha:i≤(a.az.getD e.a.toNat ck).notes.length/\ ∃c:Int,c=(((a.az.getD e.a.toNat ck).notes.take i).countP (uc a.az.length e.a):Nat)/\d=e.a+(a.az.length:Int)*c:=ha;have VY:=EG (p:=uc a.az.length e.a) (l:=(a.az.getD e.a.toNat ck).notes) (i:=i);obtain⟨Z0,c,WD,hd9⟩:=ha;have RT:=hmul c (by omega) (by omega))
  |(apply Fact.mk;intro hL;try simp only[aa,maxLen]at hL)
  |((apply bX;constructor)<;>intro h<;>(try simp only[aa]at h)<;>(try first|omega|contradiction))|(show ay _ 115 _ _ _ _;refine cP rfl (xk (a.az.getD e.a.toNat ck).notes e.bI) ?_)|(show ay _ 146 _ _ _ _;refine cP rfl (Yh) ?_)|(show Gh _ _ _ _ _;refine Gh.go ⟨((d+((((a.az.map cy).set e.a.toNat (bo (cy (a.az.getD e.a.toNat ck)) 1 [CV.val v])).length:Nat):Int),i+1):Int × Nat),⟨by show i+1≤_;omega,c+1,yK (by omega) (by rw[<-getD_eq (d:=n0) (by omega)];refine HB (by assumption) ?_;simpa only[af,aa]using h) WD,by rw[hd9,Int.mul_add,Int.mul_one];simp only[af,aa];omega⟩,(by show _-(i+1)<_-i;omega),(by repeat' first|exact trivial|exact rfl|constructor),(by repeat' first|exact trivial|exact rfl|constructor),(by repeat' first|exact trivial|exact rfl|constructor)⟩)|(show Gh _ _ _ _ _;refine Gh.go ⟨((d,i+1):Int × Nat),⟨by show i+1≤_;omega,c,Dv (by omega) (by rw[<-getD_eq (d:=n0) (by omega)];first|exact Ga h|(refine H6 ?_;simpa only[af,aa]using h)) WD,hd9⟩,(by show _-(i+1)<_-i;omega),(by repeat' first|exact trivial|exact rfl|constructor),(by repeat' first|exact trivial|exact rfl|constructor),(by repeat' first|exact trivial|exact rfl|constructor)⟩)|(show Gh _ _ _ _ _;refine Gh.j8 0 e.a.toNat 1 3 rfl (c9 (by rw[aa];exact dV)) rfl rfl rfl (Gh.soft 0 (b':= .aU none 47 3 (a.az.map cy)) (.aU (lr dV rfl)) (Gh.go ?_)))|(show Arith _ _ _;refine Arith.fit (bu (by(first|omega|(simp only[af,aa];omega))) (by(first|omega|(simp only[af,aa];omega)))) ?_)|(show Index _ _ _;first|(refine Index.mk _ (c9 (by rw[aa];exact dV)) ?_)|(refine Index.mk _ (aN (d:=n0) (i:=i) (by omega)) ?_)|fail)
  |refine nB ?_|(show ch _ _ _;first|refine ch.row 3 rfl ?_|refine ch.aU 3 rfl ?_)|(show bh _ _;refine bh.mk (by first|((simp only[af,aa];omega))|fail) ?_))
 all_goals(conv=>whnf)
 all_goals(have Ob:d=kY a e.a:=(by rw[ar (by omega)]at WD;rw[hd9,WD];rfl);refine jY.go ?_)
 repeat'((conv=>whnf);first
  |(show aI (I 3=_) _;have hd:fq a e=(3,a):=UE (by assumption) (by assumption) (by rw[<-SY];assumption) (by first|exact .inl (show((a.az.getD e.a.toNat ck).notes.length:Int)=20 by omega)|exact .inr (.inl (by omega))|exact .inr (.inr (by rw[<-Ob];assumption))|exact .inr (.inr (by rw[<-Ob];exact decide_eq_true (by assumption))));rw[hd];exact aI.mk rfl ⟨rfl,trivial⟩)
  |((apply bX;constructor)<;>intro h<;>(try simp only[aa]at h)<;>(try first|omega|contradiction))|(show ay _ 147 _ _ _ _;refine cP rfl (Bz a hw d) ?_)|(show Gh _ _ _ _ _;refine Gh.go ?_))
 all_goals(conv=>whnf)
 all_goals refine jY.opens 0 e.a.toNat 1 rfl (aN (d:=ck) dV) rfl fun v=>jY.go ?_
 repeat'((conv=>whnf);first
  |(show aI (I 0=_) _;have hd:fq a e=(0,jE a e.a (mf (sA a e.a) (zi a e))):=Up (by assumption) (by assumption) (by rw[<-SY];assumption) (show¬((a.az.getD e.a.toNat ck).notes.length:Int)=20 by omega) (by omega) (by rw[<-Ob];first|assumption|exact decide_eq_false (by assumption));rw[hd];exact aI.mk rfl ⟨congrArg (FA a) (pT (s:=mf (sA a e.a) (zi a e)) (by simp only[cy,au];unfold zi;rw[<-Ob];rfl)),trivial⟩)|(show ay _ 133 _ _ _ _;refine cG [] rfl (H7 e.bI IC.1) ?_)|(show ay _ 134 _ _ _ _;refine cG [] rfl (FD e IC.2) ?_)|(show Gh _ _ _ _ _;refine Gh.go ?_)|(show Index _ _ _;first|(refine Index.mk _ (c9 (by rw[aa];exact dV)) ?_)|fail)
  |refine nB ?_|(show ch _ _ _;first|refine ch.row 3 rfl ?_|refine ch.aU 3 rfl ?_|refine ch.row 4 rfl ?_|refine ch.aU 4 rfl ?_|refine ch.row 5 rfl ?_|refine ch.aU 5 rfl ?_|refine ch.row 6 rfl ?_|refine ch.aU 6 rfl ?_|refine ch.row 7 rfl ?_|refine ch.aU 7 rfl ?_|refine ch.row 8 rfl ?_|refine ch.aU 8 rfl ?_|refine ch.row 9 rfl ?_|refine ch.aU 9 rfl ?_|refine ch.row 10 rfl ?_|refine ch.aU 10 rfl ?_)|(show bh _ _;refine bh.mk (by first|((simp only[af,aa];omega))|((simp only[List.length_cons,List.length_nil,aa,maxLen];constructor<;>omega))|fail) ?_))
 all_goals(try(conv=>whnf))
mutual
theorem zZ:∀e:aA,ki (aM e)
 | .mk kind num kids=>by
   simp only[aM,ki,jc];exact⟨trivial,trivial,va kids,trivial⟩
theorem va:∀l:List aA,kJ (ml l)
 |[]=>trivial
 |x::xs=>⟨zZ x,va xs⟩
end
theorem jo{α:Type}{f:α->List CV}(h:∀x,ki (f x)):∀l:List α,kJ (l.map f)
 |[]=>trivial
 |x::xs=>⟨h x,jo h xs⟩
theorem mh(l:List aA):kJ (l.map aM):=jo zZ l
theorem A1(l:List Int):kJ (l.map eI):=jo (f:=eI) (fun x=>(show jc (J x)/\True from⟨trivial,trivial⟩)) l
theorem zl(s:aP):ki (bx s):=by
 simp only[bx,ki,jc];exact⟨trivial,trivial,A1 _,mh _,mh _,trivial⟩
theorem FT(c:bV):ki (fH c):=by
 simp only[fH,ki,jc];exact⟨trivial,trivial,mh _,trivial,trivial,mh _,trivial,trivial,jo zl _,trivial⟩
theorem tC(n:aT):ki (ey n):=by
 simp only[ey,ki,jc];exact⟨trivial,trivial,trivial,A1 _,trivial,trivial,jo FT _,trivial⟩
theorem BR(n:aT):ld (.a 7 (ey n)):=fun x hx=>pz.1 (tC n) x hx
theorem Ka{l:List c8}{r:List CV}{p:c8}(h:pf r=bN p):dD (l.map bN++[r])=(l++[p]).map bN:=by
 have h1:=OX l;rw[ep]at h1⊢;rw[au,h1,au];refine congrArg _ ?_;show[r.map mV]=[bN p];rw[<-h,so]
theorem GY(t c:Int)(R S:List (List CV))(s:Int):aS prog 81 [.a 4 [J t,J c, .ro 3 R, .ro 8 S],I s] (B (ee 0 ((R.length:Int)-1) s)):=by
 refine cF func81 (h:=?_)
 repeat'((conv=>whnf);first
  |(apply bP.mk;first|(rfl;done)|skip)
  |(apply Fact.mk;intro hL;try simp only[aa,maxLen]at hL)|(show ay _ 45 _ _ _ _;refine cP rfl (eg _ _ _) ?_)
  |refine aR ?_)
theorem Nf(t c:Int)(R S:List (List CV))(s:Int):aS prog 104 [.c (.rp 4 [J t,J c, .ro 3 R, .ro 8 S]),I s] (B (ee 0 ((R.length:Int)-1) s)):=by
 refine cF func104 (h:=?_)
 repeat'((conv=>whnf);first
  |(apply bP.mk;first|(rfl;done)|skip)
  |(apply Fact.mk;intro hL;try simp only[aa,maxLen]at hL)|(show ay _ 86 _ _ _ _;refine cP rfl (ed _ _ _) ?_)
  |refine aR ?_)
theorem Ev(a:aB)(i:Nat)(x:List CV)(s:Int):aS prog 81 [.a 4 [J a.sig.aK,J a.sig.aF, .ro 3 (dD ((a.az.map cy).set i x)), .ro 8 (a.aL.map bN)],I s] (B (bW a s)):=by
 have h:=GY a.sig.aK a.sig.aF (dD ((a.az.map cy).set i x)) (a.aL.map bN) s;rwa[show(dD ((a.az.map cy).set i x)).length=a.az.length by rw[ep];simp]at h
theorem Ao(a:aB)(i:Nat)(x:List CV)(s:Int):aS prog 104 [.c (.rp 4 [J a.sig.aK,J a.sig.aF, .ro 3 (dD ((a.az.map cy).set i x)), .ro 8 (a.aL.map bN)]),I s] (B (bW a s)):=by
 have h:=Nf a.sig.aK a.sig.aF (dD ((a.az.map cy).set i x)) (a.aL.map bN) s;rwa[show(dD ((a.az.map cy).set i x)).length=a.az.length by rw[ep];simp]at h
abbrev FB(a:aB)(R:List (List CV)):Option (List CV):=some [CV.op [J a.sig.aK,J a.sig.aF,CV.own 47 3 (a.az.map cy),CV.ows 89 8 R]]
section
variable{a:aB}{e:bH}
theorem Pk(h:bW a e.b=false):dR a e=(2,a):=by
 unfold dR;rw[if_pos (by rw[h];rfl)]
theorem P2(h:bW a e.b=true)(h2:e.a=e.b):dR a e=(2,a):=by
 unfold dR;rw[if_pos (by rw[h,decide_eq_true h2];rfl)]
theorem Q6(h:bW a e.b=true)(h2:¬e.a=e.b)(h3:e.c≥((a.az.getD e.a.toNat ck).notes.length:Int)):dR a e=(2,a):=by
 unfold dR;rw[if_pos (by rw[h,decide_eq_false h2,decide_eq_true (show((sA a e.a).notes.length:Int)≤e.c from h3)];rfl)]
theorem KL(h:bW a e.b=true)(h2:¬e.a=e.b)(h3:¬e.c≥((a.az.getD e.a.toNat ck).notes.length:Int)):¬(!(bW a e.b)||(decide (e.a=e.b)||decide (((sA a e.a).notes.length:Int)≤e.c)))=true:=by
 rw[h,decide_eq_false h2,decide_eq_false (show¬((sA a e.a).notes.length:Int)≤e.c from h3)]
 decide
theorem QF(h:bW a e.b=true)(h2:¬e.a=e.b)(h3:¬e.c≥((a.az.getD e.a.toNat ck).notes.length:Int))(h4:(a.az.getD e.a.toNat ck).up=false):dR a e=(4,a):=by
 unfold dR;rw[if_neg (KL h h2 h3),if_pos (by rw[show(sA a e.a).up=false from h4];rfl)]
theorem Oq(h:bW a e.b=true)(h2:¬e.a=e.b)(h3:¬e.c≥((a.az.getD e.a.toNat ck).notes.length:Int))(h4:(a.az.getD e.a.toNat ck).up=true)(h5:e.c≥(a.az.getD e.a.toNat ck).saved):dR a e=(4,a):=by
 unfold dR;rw[if_neg (KL h h2 h3),if_pos (by rw[show(sA a e.a).up=true from h4,decide_eq_true (show(sA a e.a).saved≤e.c from h5)];rfl)]
theorem Ux(h4:(a.az.getD e.a.toNat ck).up=true)(h5:¬e.c≥(a.az.getD e.a.toNat ck).saved):¬(!(sA a e.a).up||decide ((sA a e.a).saved≤e.c))=true:=by
 rw[show(sA a e.a).up=true from h4,decide_eq_false (show¬(sA a e.a).saved≤e.c from h5)]
 decide
theorem Ur(h:bW a e.b=true)(h2:¬e.a=e.b)(h3:¬e.c≥((a.az.getD e.a.toNat ck).notes.length:Int))(h4:(a.az.getD e.a.toNat ck).up=true)(h5:¬e.c≥(a.az.getD e.a.toNat ck).saved)(h6:a.aL.length=12):dR a e=(3,a):=by
 unfold dR;rw[if_neg (KL h h2 h3),if_neg (Ux h4 h5),if_pos h6]
theorem Ua(h:bW a e.b=true)(h2:¬e.a=e.b)(h3:¬e.c≥((a.az.getD e.a.toNat ck).notes.length:Int))(h4:(a.az.getD e.a.toNat ck).up=true)(h5:¬e.c≥(a.az.getD e.a.toNat ck).saved)(h6:¬a.aL.length=12):dR a e=(0,⟨a.sig,a.az,a.aL++[⟨e.b,(a.az.getD e.a.toNat ck).notes.getD e.c.toNat n0⟩]⟩):=by
 unfold dR;rw[if_neg (KL h h2 h3),if_neg (Ux h4 h5),if_neg h6]
end
theorem SJ(a:aB)(e:bH)(hw:WA a)(he:EA e)(hp:e.a<(a.az.length:Int)):aE prog 84 [.c (.op (cQ a)), .a 9 (cj e)] [some [.op (cQ (dR a e).2)],none] (I (dR a e).1):=by
 have dV:e.a.toNat<a.az.length:=by have:=he.ra;omega
 have Yn:=he.ra;have hrc:=he.rc;have Ci:=hw.f12;have Bd:=(hw.sv _ dV).1;have Mb:∀k,k<(a.az.getD e.a.toNat ck).notes.length->bU ((a.az.getD e.a.toNat ck).notes.getD k n0)≤1048576:=fun k hk=>by rw[getD_eq hk];exact hw.bn _ dV _ (ag hk)
 have Pa:∀x,aS prog 81 [.a 4 [J a.sig.aK,J a.sig.aF, .ro 3 (dD ((a.az.map cy).set e.a.toNat x)), .ro 8 (a.aL.map bN)],I e.b] (B (bW a e.b)):=fun x=>Ev a _ x _
 obtain⟨pb,A3⟩:∃pb,pb=bW a e.b:=⟨_,rfl⟩
 rw[<-A3]at Pa;refine Oa func84 (fun ew=>match ew with|1=>true|_=>false) (h:=?_)
 repeat'((conv=>whnf);first
  |(show Gh _ _ _ _ _;refine Gh.go ?_))
 all_goals(conv=>whnf)
 all_goals try refine jY.opens 0 e.a.toNat 1 rfl (aN (d:=ck) dV) rfl fun v=>jY.go ?_
 repeat'((conv=>whnf);first
  |(show aI (I 2=_) _;have hd:dR a e=(2,a):=(by first|exact Pk (by rw[<-A3];assumption)|exact P2 (by rw[<-A3];assumption) (by assumption)|exact Q6 (by rw[<-A3];assumption) (by assumption) (by assumption));rw[hd];exact aI.mk rfl ⟨rfl,trivial⟩)|(show aI (I 4=_) _;have hd:dR a e=(4,a):=(by first|exact QF (by rw[<-A3];assumption) (by assumption) (by assumption) (by assumption)|exact Oq (by rw[<-A3];assumption) (by assumption) (by assumption) (by assumption) (by assumption));rw[hd];exact aI.mk rfl ⟨rfl,trivial⟩)|(show aI (I 3=_) _;have hd:dR a e=(3,a):=Ur (by rw[<-A3];assumption) (by assumption) (by assumption) (by assumption) (by assumption) (by omega);rw[hd];exact aI.mk rfl ⟨rfl,trivial⟩)|(show aI (I 0=_) _;have hd:=Ua (a:=a) (e:=e) (by rw[<-A3];assumption) (by assumption) (by assumption) (by assumption) (by assumption) (by omega);rw[hd];exact aI.mk rfl ⟨congrArg (FB a) (by rw[au];rfl),trivial⟩)
  |(apply Fact.mk;intro hL;try simp only[aa,maxLen]at hL)
  |((apply bX;constructor)<;>intro h<;>(try simp only[aa]at h)<;>(try first|omega|contradiction))|(show ay _ 81 _ _ _ _;refine cP rfl (Pa _) ?_)|(show ay _ 78 _ _ _ _;refine cG [] rfl (oV _ (Mb e.c.toNat (by omega))) ?_)|(show Gh _ _ _ _ _;refine Gh.j8 0 e.a.toNat 1 4 rfl (c9 (by rw[aa];exact dV)) rfl rfl rfl (Gh.soft 0 (b':= .aU none 47 3 (a.az.map cy)) (.aU (lr dV rfl)) (Gh.go ?_)))|(show Index _ _ _;first|(refine Index.mk _ (c9 (by rw[aa];exact dV)) ?_)|(refine Index.mk _ (aN (d:=n0) (i:=e.c.toNat) (by omega)) ?_)|fail)
  |refine nB ?_|(show ch _ _ _;first|refine ch.row 4 rfl ?_|refine ch.aU 4 rfl ?_)|(show bh _ _;refine bh.mk (by first|((simp only[af,aa];omega))|((simp only[List.length_cons,List.length_nil,aa,maxLen];constructor<;>omega))|fail) ?_))
 all_goals(try(conv=>whnf))
theorem Jb(a:aB)(e:bH)(hw:WA a)(he:EA e)(hp:bW a e.a=true):aE prog 120 [.c (.op (cQ a)), .c (.rp 9 (cj e))] [some [.op (cQ (dR a e).2)],none] (I (dR a e).1):=by
 have dV:e.a.toNat<a.az.length:=by have:=bQ hp;have:=hw.n5;omega
 have Yn:=he.ra;have hrc:=he.rc;have Ci:=hw.f12;have Bd:=(hw.sv _ dV).1;have Mb:∀k,k<(a.az.getD e.a.toNat ck).notes.length->bU ((a.az.getD e.a.toNat ck).notes.getD k n0)≤1048576:=fun k hk=>by rw[getD_eq hk];exact hw.bn _ dV _ (ag hk)
 have abQ:∀x,aS prog 104 [.c (.rp 4 [J a.sig.aK,J a.sig.aF, .ro 3 (dD ((a.az.map cy).set e.a.toNat x)), .ro 8 (a.aL.map bN)]),I e.a] (B true):=fun x=>by
  have:=Ao a e.a.toNat x e.a;rwa[hp]at this
 have Pa:∀x,aS prog 104 [.c (.rp 4 [J a.sig.aK,J a.sig.aF, .ro 3 (dD ((a.az.map cy).set e.a.toNat x)), .ro 8 (a.aL.map bN)]),I e.b] (B (bW a e.b)):=fun x=>Ao a _ x _
 obtain⟨pb,A3⟩:∃pb,pb=bW a e.b:=⟨_,rfl⟩
 rw[<-A3]at Pa;refine Oa func120 (fun ew=>match ew with|1=>true|_=>false) (h:=?_)
 repeat'((conv=>whnf);first
  |(show Gh _ _ _ _ _;refine Gh.go ?_))
 all_goals(conv=>whnf)
 all_goals try refine jY.opens 0 e.a.toNat 1 rfl (aN (d:=ck) dV) rfl fun v=>jY.go ?_
 repeat'((conv=>whnf);first
  |(show aI (I 2=_) _;have hd:dR a e=(2,a):=(by first|exact Pk (by rw[<-A3];assumption)|exact P2 (by rw[<-A3];assumption) (by assumption)|exact Q6 (by rw[<-A3];assumption) (by assumption) (by assumption));rw[hd];exact aI.mk rfl ⟨rfl,trivial⟩)|(show aI (I 4=_) _;have hd:dR a e=(4,a):=(by first|exact QF (by rw[<-A3];assumption) (by assumption) (by assumption) (by assumption)|exact Oq (by rw[<-A3];assumption) (by assumption) (by assumption) (by assumption) (by assumption));rw[hd];exact aI.mk rfl ⟨rfl,trivial⟩)|(show aI (I 3=_) _;have hd:dR a e=(3,a):=Ur (by rw[<-A3];assumption) (by assumption) (by assumption) (by assumption) (by assumption) (by omega);rw[hd];exact aI.mk rfl ⟨rfl,trivial⟩)|(show aI (I 0=_) _;have hd:=Ua (a:=a) (e:=e) (by rw[<-A3];assumption) (by assumption) (by assumption) (by assumption) (by assumption) (by omega);rw[hd];exact aI.mk rfl ⟨congrArg (FB a) (Ka (p:=⟨e.b,(a.az.getD e.a.toNat ck).notes.getD e.c.toNat n0⟩) (ve ⟨e.b,(a.az.getD e.a.toNat ck).notes.getD e.c.toNat n0⟩)),trivial⟩)
  |(apply Fact.mk;intro hL;try simp only[aa,maxLen]at hL)
  |((apply bX;constructor)<;>intro h<;>(try simp only[aa]at h)<;>(try first|omega|contradiction))|(show ay _ 104 _ _ _ _;refine cP rfl (abQ _) ?_)|(show ay _ 104 _ _ _ _;refine cP rfl (Pa _) ?_)|(show ay _ 108 _ _ _ _;refine ay.own _ _ (Ls rfl (aN (d:=n0) (i:=e.c.toNat) (by omega))) (l3 _ (Mb e.c.toNat (by omega))) (BR _) _ rfl ?_)|(show Gh _ _ _ _ _;refine Gh.j8 0 e.a.toNat 1 3 rfl (c9 (by rw[aa];exact dV)) rfl rfl rfl (Gh.soft 0 (b':= .aU none 47 3 (a.az.map cy)) (.aU (lr dV rfl)) (Gh.soft 1 iP.row (Gh.go ?_))))|(show Gh _ _ _ _ _;refine Gh.j8 0 e.a.toNat 1 3 rfl (c9 (by rw[aa];exact dV)) rfl rfl rfl (Gh.soft 0 (b':= .aU none 47 3 (a.az.map cy)) (.aU (lr dV rfl)) (Gh.go ?_)))|(show Index _ _ _;first|(refine Index.mk _ (c9 (by rw[aa];exact dV)) ?_)|fail)
  |refine nB ?_|(show ch _ _ _;first|refine ch.row 3 rfl ?_|refine ch.aU 3 rfl ?_)|(show bh _ _;refine bh.mk (by first|((simp only[af,aa];omega))|((simp only[List.length_cons,List.length_nil,aa,maxLen];constructor<;>omega))|fail) ?_))
 all_goals(try(conv=>whnf))
section
open Go Go.KA Go.Proofs Go.RowKit
theorem lV(b:Nat):∀(vs:List Value) (o:Nat) (w:World) (cur:Array Value) (ty:TypeId) (fz:Nat × Nat),w.heap[b]? =some (.cells cur ty fz)->o+vs.length≤cur.size->
 ∃TK,(w.setCells b o vs).heap[b]? =some (.cells TK ty fz)/\TK.toList=cur.toList.take o++vs++cur.toList.drop (o+vs.length)
 |[],o,w,cur,ty,fz,h,_=>⟨cur,h,by simp⟩
 |v::vs,o,w,cur,ty,fz,h,hl=>by
  have uY:o<cur.size:=by simp only[List.length_cons]at hl;omega
  have h1:(w.setCell ⟨b,o,none⟩ v).heap[b]? =some (.cells (cur.setIfInBounds o v) ty fz):=by
   simp[World.setCell,Array.getElem?_modify,h]
  obtain⟨TK,h2,h3⟩:=lV b vs (o+1) _ _ ty fz h1 (by simp only[List.length_cons]at hl;simp;omega);refine⟨TK,h2,?_⟩;rw[h3];have hlen:o<cur.toList.length:=by simpa using uY
  have e1:(cur.setIfInBounds o v).toList=cur.toList.set o v:=by simp
  rw[e1,List.take_set,List.drop_set];rw[if_pos (by omega)];have e2:(cur.toList.take (o+1)).set o v=cur.toList.take o++[v]:=by
   rw[List.take_succ_eq_append_getElem hlen,List.set_append_right _ _ (by rw[aq];omega),aq];rw[show o-min o cur.toList.length=0 by omega];rfl
  rw[e2,List.length_cons,show o+1+vs.length=o+(vs.length+1) by omega];simp
theorem oP(b:Nat):∀(vs:List Value) (o:Nat) (w:World),(w.setCells b o vs).os=w.os/\(w.setCells b o vs).tape=w.tape/\(w.setCells b o vs).output=w.output/\(w.setCells b o vs).heap.size=w.heap.size/\ ∀k,k≠b->(w.setCells b o vs).heap[k]? =w.heap[k]?
 |[],o,w=>⟨rfl,rfl,rfl,rfl,fun _ _=>rfl⟩
 |v::vs,o,w=>by
  obtain⟨h1,h2,h3,h4,h5⟩:=oP b vs (o+1) (w.setCell ⟨b,o,none⟩ v);refine⟨h1,h2,h3,h4.trans (by simp[World.setCell]),fun k hk=>(h5 k hk).trans ?_⟩;simp[World.setCell,Array.getElem?_modify,Ne.symm hk]
abbrev Z8:List Value:=[.int .i64 0, .bool false, .int .i64 0, .int .i64 0, .slice none 0 0, .int .i64 0, .int .i64 0, .slice none 0 0]
theorem Fu(b n c i:Nat)(cur:Array Value)(w:World)(hb:w.heap[b]? =some (.cells cur 89 (0,0)))(hi:i<n)(hc:n≤c)(hm:c≤9223372036854775807)(hs:cur.size=c*8)(h1:∀v∈cur.toList.take (n*8),v.oneCell'=true):
 Calls prog 80 #[.slice (some ⟨b,0,none⟩) n c, .int .i64 i, .int .i64 ((i:Int)+1)] w fun e w'=>e= .returned (.slice (some ⟨b,0,none⟩) (i+(n-(i+1))) c)/\
  w'=(w.drew.setCells b (0+i*8) ((cur.toList.take (n*8)).drop ((i+1)*8))).setCells b ((i+(n-(i+1)))*8) Z8:=by
 obtain⟨news,Hy⟩:∃news,news=(cur.toList.take (n*8)).drop ((i+1)*8):=⟨_,rfl⟩
 have kR:∀j,j<n*8->w.cell? ⟨b,j,none⟩=cur.toList[j]? /\(cur.toList[j]?).isSome=true:=fun j hj=>by
  have Y8:j<cur.size:=by omega
  constructor
  ·simp[World.cell?,hb]
  ·simp[Y8]
 have hfz:∀j,w.frozen? ⟨b,j,none⟩=false:=fun j=>by
  simp[World.frozen?,hb]
 have hlen:news.length=(n-(i+1))*8:=by
  rw[Hy,List.length_drop,aq,Array.length_toList,Nat.min_eq_left (by omega),<-Nat.sub_mul]
 have kx:∀j u,news[j]? =some u->cur.toList[(i+1)*8+j]? =some u:=fun j u hu=>by
  rw[Hy,List.getElem?_drop,List.getElem?_take]at hu;split at hu
  ·exact hu
  ·cases hu
 obtain⟨A,hA,qE⟩:∃A:Addr,(if c=i+1 then some (⟨b,0,none⟩:Addr)else some ⟨b,(i+1)*8,none⟩)=some A/\Hid (∀t u,news[t]? =some u->w.drew.cell? (A.add t)=some u):=by
  by_cases h:c=i+1
  ·refine⟨⟨b,0,none⟩,by simp[h],fun t u hu=>?_⟩;have h0:news.length=0:=by rw[hlen];have:n-(i+1)=0:=by omega
                                                                          rw[this]
   rw[List.length_eq_zero_iff.1 h0]at hu;simp at hu
  ·refine⟨⟨b,(i+1)*8,none⟩,by simp[h],fun t u hu=>?_⟩;have ht:t<(n-(i+1))*8:=by
        have:=(List.getElem?_eq_some_iff.1 hu).1;rwa[hlen]at this
   rw[Addr.add_lit];exact((kR _ (by omega)).1).trans (kx t u hu)
 have s1:Hid (news.length=(n-(i+1))*8):=hlen;have s2:Hid (∀u∈news,u.oneCell'=true):=by
  intro u hu;rw[Hy]at hu;exact h1 u (List.mem_of_mem_drop hu)
 have s3:Hid (∀t,t<news.length->(w.drew.cell? ⟨b,0+i*8+t,none⟩).isSome=true/\w.drew.frozen? ⟨b,0+i*8+t,none⟩=false):=by
  intro t ht;rw[hlen]at ht;rw[Nat.zero_add];exact⟨by show(w.cell? _).isSome=true;rw[(kR _ (by omega)).1];exact(kR _ (by omega)).2,hfz _⟩
 obtain⟨W1,ZM⟩:∃W1,W1=w.drew.setCells b (0+i*8) news:=⟨_,rfl⟩
 obtain⟨Yu,yF,RD⟩:=lV b news (0+i*8) w.drew cur 89 (0,0) hb (by rw[hlen,hs];omega);rw[<-ZM]at yF;have aaN:Yu.size=c*8:=by
  have:=congrArg List.length RD;simp only[ai,aq,List.length_drop,Array.length_toList]at this;omega
 have BC:∀ty,(Builtin.clear_ #[27] ty #[.slice (some ⟨b,(i+(n-(i+1)))*8,none⟩) (n-(i+(n-(i+1)))) (c-(i+(n-(i+1))))]).run prog W1= .ok (.tuple #[]) (W1.setCells b ((i+(n-(i+1)))*8) Z8):=by
  intro ty;have e1:n-(i+(n-(i+1)))=1:=by omega
  rw[e1];have uo:=run_storeCells_cells (P:=prog) b ((i+(n-(i+1)))*8) Z8 0 W1 (fun j hj=>by
   have hj:j<8:=hj;have:(i+(n-(i+1)))*8+0+j<Yu.size:=by rw[aaN];omega
   simp[World.cell?,yF];omega) (fun j hj=>by simp[World.frozen?,yF]) (by intro v hv;simp only[Z8,List.mem_cons,List.not_mem_nil,or_false]at hv;rcases hv with rfl|rfl|rfl|rfl|rfl|rfl|rfl|rfl<;>rfl)
  simp only[Nat.add_zero]at uo;have hz:(Builtin.zeroCells #[Value.int .i64 0, .bool false, .int .i64 0, .int .i64 0, .slice none 0 0, .int .i64 0, .int .i64 0, .slice none 0 0] 1).toList=Z8:=by first|(simp[Builtin.zeroCells];done)|decide|kernel_rfl|(simp[Builtin.zeroCells,Array.ofFn];rfl)
  simp[Builtin.clear_,run_underlying Tryz.underlying27,Tryz.zeroValue89,hz,uo,Value.cells]
 have hW:Hid (W1=w.drew.setCells b (0+i*8) news):=ZM;have N:Aside (news=(cur.toList.take (n*8)).drop ((i+1)*8)):=Hy;have X:Aside (W1=w.drew.setCells b (0+i*8) news):=ZM;obtain⟨i0,Rl,Z5⟩:∃i0,prog.info? 89=some i0/\i0.size=8:=by
  have:(prog.info? 89).map (·.size)=some 8:=by kernel_rfl
  cases h:prog.info? 89 with
  |none=>rw[h]at this;cases this
  |some i0=>rw[h]at this;exact⟨i0,rfl,by simpa using this⟩
 have hic:i≤c:=by omega
 have MT:(0:Int)≤(i:Int)+1:=by omega
 have hp1:(i:Int)+1≤(n:Int):=by omega
 have hp2:((i:Int)+1).toNat=i+1:=by omega
 have jr:¬((i:Int)=(i:Int)+1):=by omega
 clear ZM kR hfz kx RD Hy hlen
 go_enter func80,Tryz.ntmps80
 go_wp2_with fail
 go_region_law (refine step_append_room rfl (.tmp 22) (.tmp 25) 27 rfl 89 i0 8 Tryz.underlying27 Rl Z5 b 0 i c (by simp[Act.eval,Act.put]) A (n-(i+1)) (c-(i+1)) news (by simp[Act.eval,Act.put]) s1.out qE.out s2.out (by omega) s3.out ?_;rw[<-hW.out])
 go_wp2
 go_ret
 exact⟨rfl,by rw[<-N.out,<-X.out]⟩
theorem Pr{w:World}{ok:Nat->Prop}{x:CV}{v:Value}{f:List Nat}{ty sz:Nat}{rows:List (List CV)}(hx:x= .ows ty sz rows)(h:sV w ok (.c x) v f):Den w ok [x] [v] f:=by
 subst hx;cases h with
 |v h=>
  cases h fun _=>none with
  |c h=>cases h with
   |c h=>exact h
 |o h=>exact h
theorem QE{w:World}{ok:Nat->Prop}{x v:Value}{f:List Nat}(h:sV w ok (.c (.val x)) v f):v=x/\f=[]:=by
 have key:∀{f},Den w ok [.val x] [v] f->v=x/\f=[]:=fun h=>by
  cases h with
  |val _ ht=>cases ht;exact⟨rfl,rfl⟩
 cases h with
 |v h=>
  cases h fun _=>none with
  |c h=>cases h with
   |c h=>exact key h
 |o h=>exact key h
theorem B9{α:Type}{sz:Nat}:∀{rows:List (List α)},(∀r∈rows,r.length=sz)-> ∀n:Nat,(rows.drop n).flatten=rows.flatten.drop (n*sz)
 |[],_,n=>by simp
 |r::rs,hr,0=>by simp
 |r::rs,hr,n+1=>by
  have h1:=hr r (by simp);rw[List.drop_succ_cons,List.flatten_cons,B9 (fun r h=>hr r (by simp[h])) n,List.drop_append,List.drop_of_length_le (l:=r) (by rw[h1,Nat.succ_mul];omega),h1,Nat.succ_mul,Nat.add_sub_cancel];rfl
end
section
open Go Go.KA Go.Proofs Go.RowKit
theorem L8(l:List c8)(i:Nat)(hi:i<l.length):aE prog 80 [.c (.ows 89 8 (l.map bN)),I (i:Nat),I ((i:Int)+1)] [] (.c (.ows 89 8 ((l.take i++l.drop (i+1)).map bN))):=by
 refine⟨⟨_,func80,rfl,rfl⟩,?_⟩;intro w ok vs fs cH zp gB yN;cases zp with
 |cons h ht=>
 cases ht with
 |cons h2 ht=>
 cases ht with
 |cons h3 ht=>
 cases ht;obtain⟨rfl,rfl⟩:=QE h2;obtain⟨rfl,rfl⟩:=QE h3;have hd:=Pr rfl h;cases hd with
 | @ows _ _ _ _ _ _ xs v bw hr ho ht=>
 cases ht;obtain⟨hlx,⟨_,h0⟩|⟨g,cap,cur,rfl,_,hb,hn,hm,hs,wi⟩⟩:=ho
 ·rw[aa]at h0;omega
 rw[aa]at hlx hn wi;have hN:(l.map bN).length=l.length:=aa _;rw[hN]at yN gB⊢;have hg:g<w.heap.size:=(Array.getElem?_eq_some_iff.1 hb).1;have hng:¬ok g:=(yN g (by simp[Value.ownBlock])).2;refine(Fu g l.length cap i cur w hb hi hn hm hs (by rw[wi];exact bw.one)).mono ?_;rintro e w' ⟨rfl,rfl⟩;rw[wi];have hml:(l.length-(i+1))*8+(i+1)*8=l.length*8:=by rw[<-Nat.add_mul];congr 1;omega
 have YR:(xs.drop ((i+1)*8)).length=(l.length-(i+1))*8:=by rw[List.length_drop,hlx];omega
 obtain⟨c1,yF,e1⟩:=lV g (xs.drop ((i+1)*8)) (0+i*8) w.drew cur 89 (0,0) hb (by rw[YR,hs];omega);have hz1:c1.size=cap*8:=by
  have:=congrArg List.length e1;simp only[ai,aq,List.length_drop,Array.length_toList]at this;omega
 obtain⟨c2,QI,e2⟩:=lV g Z8 ((i+(l.length-(i+1)))*8) _ c1 89 (0,0) yF (by rw[hz1];show _+8≤_;omega);have hz2:c2.size=cap*8:=by
  have:=congrArg List.length e2;simp only[ai,aq,List.length_drop,Array.length_toList,hz1]at this;have h8:Z8.length=8:=rfl;omega
 obtain⟨o1,o2,o3,o4,o5⟩:=oP g (xs.drop ((i+1)*8)) (0+i*8) w.drew;obtain⟨q1,q2,q3,q4,q5⟩:=oP g Z8 ((i+(l.length-(i+1)))*8) (w.drew.setCells g (0+i*8) (xs.drop ((i+1)*8)));have ko:∀k,k≠g->((w.drew.setCells g (0+i*8) (xs.drop ((i+1)*8))).setCells g ((i+(l.length-(i+1)))*8) Z8).heap[k]? =w.heap[k]? :=fun k hk=>(q5 k hk).trans (o5 k hk)
 have eZ:((w.drew.setCells g (0+i*8) (xs.drop ((i+1)*8))).setCells g ((i+(l.length-(i+1)))*8) Z8).heap.size=w.heap.size:=q4.trans o4;have my:∀r∈l.map bN,r.length=8:=hr
 have hfl:((l.take i++l.drop (i+1)).map bN).flatten=(l.map bN).flatten.take (i*8)++(l.map bN).flatten.drop ((i+1)*8):=by
  rw[au,List.flatten_append,List.map_take,List.map_drop,w5 my,B9 my]
 have Xk:(l.take i++l.drop (i+1)).length=i+(l.length-(i+1)):=by
  rw[ai,aq,List.length_drop];omega
 refine⟨_,[g],[],rfl,⟨q1.trans o1,q2.trans o2,q3.trans o3,by rw[eZ];exact aw _,fun k _ hk=>ko k (fun e=>hk (by simp[e,Value.ownBlock]))⟩,by simp,fun k hk=>?_, .v (.o ?_), .nil⟩
 ·have:k=g:=by simpa using hk
  subst this;exact⟨.inl (by simp[Value.ownBlock]),by rw[eZ];exact hg⟩
 ·have hd:=((kH bw (i*8)).append (gI bw ((i+1)*8)));rw[<-hfl]at hd;refine Den.ows (xs:=xs.take (i*8)++xs.drop ((i+1)*8)) (f:=[]) (hd.mono (fun k hk=>ko k (fun e=>hng (e▸hk))) (fun k hk=>⟨by rw[eZ];exact cH k hk, .inl hk,fun hm=>hng (by have:k=g:=by simpa using hm
                                                                                                                                                                                                                                            exact this▸hk)⟩) (by simp)) (fun r yE=>?_) ?_ .nil
  ·obtain⟨p,_,rfl⟩:=List.mem_map.1 yE;rfl
  ·rw[aa,Xk];have WM:(xs.take (i*8)++xs.drop ((i+1)*8)).length=(i+(l.length-(i+1)))*8:=by
        rw[ai,YR,aq,hlx,Nat.min_eq_left (by omega),Nat.add_mul]
   refine⟨WM, .inr ⟨g,cap,c2,rfl,ah _,QI,by omega,hm,hz2,?_⟩⟩;have BC:c1.toList.length=cap*8:=by simpa using hz1
   rw[e2,List.append_assoc,List.take_left' (by rw[aq,BC];omega),e1,Nat.zero_add,<-WM];have hci:cur.toList.take (i*8)=xs.take (i*8):=by
        rw[<-wi,List.take_take,Nat.min_eq_left (by omega)]
   rw[hci,List.take_left' rfl]
end
end Go.Proofs.YtgbggaddpbghfaaGreat
