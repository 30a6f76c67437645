/- Contracts of the draws of expressions, which own their memory. No conditions but bounds of size. -/
import Derived.Test.YtgbggaddpbghfaaGreatKAN
namespace Go.Proofs.YtgbggaddpbghfaaGreat
open Go Go.KA Go.Proofs Go.Proofs.Tryz
set_option maxHeartbeats 16000000
set_option maxRecDepth 100000
theorem Au{P:Program}{f:Nat}{args:List SV}{outs:List (Option (List CV))}{k n:Int}{x:aA}(h:aE P f args outs (.a 3 [J k,J n, .own 66 3 [cC x]])):aE P f args outs (.a 3 (cC (.mk k n [x]))):=by
 have e:cC (.mk k n [x])=[J k,J n, .own 66 3 [cC x]]:=by
  show[J k,J n,CV.own 66 3 [aM x]]=_;rw[dQ]
 rw[e];exact h
theorem mH(k:Int)(a b:aA):aE prog 195 [I k, .m ((cC a).map .c), .m ((cC b).map .c)] [] (.a 3 (cC (vD k a b))):=by
 have e:cC (vD k a b)=[J k,J 0, .own 66 3 [cC a,cC b]]:=by
  show[J k,J 0,CV.own 66 3 [aM a,aM b]]=_;rw[dQ,dQ]
 rw[e];refine cX func195 (h:=?_)
 repeat'((conv=>whnf);first
  |refine aI.mk ?_ ?_)
 all_goals first|rfl|trivial
section
variable(g:ku)(hg:0≤g.aK/\g.aK≤3/\0≤g.aF/\g.aF≤4)
include hg
theorem qR(left:Int)(s:Src)(hs:Rd s 800000000)(hc:s.code.length≤1000000)(c:Bool):
 aE prog 194 [.c (.op (gg ⟨s,left⟩ g)),B c] [some [.op (gg ⟨(cI g c s).2,left⟩ g)],none] (.a 3 (cC (cI g c s).1)):=by
 have ht:lJ g.aK:=by unfold lJ;omega
 have ha:lJ g.aF:=by unfold lJ;omega
 have i2:lJ 2:=by unfold lJ;omega
 have i3:lJ 3:=by unfold lJ;omega
 have i4:lJ 4:=by unfold lJ;omega
 obtain⟨gt,ga⟩:=g;simp only[]at hg ht ha;have p3:=jF s (hs.mono (by omega)) hc 3 i3;have QC:Rd (aJ s 3) 800000002:=hs.pick 3;have MC:(aJ s 3).code.length≤1000000:=by rw[dO];exact hc
 cases c with
 |true=>
  by_cases g2:gt>0
  ·have p4:=jF s (hs.mono (by omega)) hc 4 i4;have FJ:Rd (aJ s 4) 800000004:=(hs.pick 4).mono (by omega);have Dn:(aJ s 4).code.length≤1000000:=by rw[dO];exact hc
   cases h4:ky s 4 with
   |false=>
    rw[h4]at p4;have q:=dx (aJ s 4) (FJ.mono (by omega)) Dn gt ht;have e:cI ⟨gt,ga⟩ true s=(.mk 3 (cx (aJ s 4) gt) [],aJ (aJ s 4) gt):=by simp[cI,gH,iC,g2,h4]
    rw[e];simp only[gg];refine eA ?_;refine cX func194 (h:=?_)
    repeat'((conv=>whnf);first
     |refine aI.mk ?_ ?_
     |((apply bX;constructor)<;>intro h<;>(try simp only[aa]at h)<;>(try first|omega|contradiction))|(show ay _ 76 _ _ _ _;refine ay.gen [true,false] _ _ _ rfl p4 rfl rfl _ rfl ?_)|(show ay _ 53 _ _ _ _;refine ay.gen [true,false] _ _ _ rfl q rfl rfl _ rfl ?_)
     |refine nB ?_)
    all_goals first|rfl|exact⟨rfl,trivial⟩|(exfalso;simp at*;omega)
   |true=>
    rw[h4]at p4;have q:=dx (aJ s 4) (FJ.mono (by omega)) Dn 2 i2;have qb:=cV (aJ s 4) (n:=2) (by omega);have e:cI ⟨gt,ga⟩ true s=(.mk (1+cx (aJ s 4) 2) 0 [],aJ (aJ s 4) 2):=by simp[cI,gH,iC,g2,h4]
    rw[e];simp only[gg];refine eA ?_;refine cX func194 (h:=?_)
    repeat'((conv=>whnf);first
     |refine aI.mk ?_ ?_
     |((apply bX;constructor)<;>intro h<;>(try simp only[aa]at h)<;>(try first|omega|contradiction))|(show ay _ 76 _ _ _ _;refine ay.gen [true,false] _ _ _ rfl p4 rfl rfl _ rfl ?_)|(show ay _ 53 _ _ _ _;refine ay.gen [true,false] _ _ _ rfl q rfl rfl _ rfl ?_)|(show Arith _ _ _;refine Arith.fit (bu (by omega) (by omega)) ?_))
    all_goals first|rfl|exact⟨rfl,trivial⟩|(exfalso;simp at*;omega)
  ·have q:=dx s (hs.mono (by omega)) hc 2 i2;have qb:=cV s (n:=2) (by omega);have e:cI ⟨gt,ga⟩ true s=(.mk (1+cx s 2) 0 [],aJ s 2):=by simp[cI,gH,iC,g2]
   rw[e];simp only[gg];refine eA ?_;refine cX func194 (h:=?_)
   repeat'((conv=>whnf);first
        |refine aI.mk ?_ ?_
        |((apply bX;constructor)<;>intro h<;>(try simp only[aa]at h)<;>(try first|omega|contradiction))|(show ay _ 53 _ _ _ _;refine ay.gen [true,false] _ _ _ rfl q rfl rfl _ rfl ?_)|(show Arith _ _ _;refine Arith.fit (bu (by omega) (by omega)) ?_))
   all_goals first|rfl|exact⟨rfl,trivial⟩|(exfalso;simp at*;omega)
 |false=>
  by_cases g1:ga>0
  ·cases h3:ky s 3 with
   |false=>
    rw[h3]at p3;have q:=dx (aJ s 3) (QC.mono (by omega)) MC ga ha;have e:cI ⟨gt,ga⟩ false s=(.mk 4 (cx (aJ s 3) ga) [],aJ (aJ s 3) ga):=by simp[cI,g1,h3]
    rw[e];simp only[gg];refine eA ?_;refine cX func194 (h:=?_)
    repeat'((conv=>whnf);first
       |refine aI.mk ?_ ?_
       |((apply bX;constructor)<;>intro h<;>(try simp only[aa]at h)<;>(try first|omega|contradiction))|(show ay _ 76 _ _ _ _;refine ay.gen [true,false] _ _ _ rfl p3 rfl rfl _ rfl ?_)|(show ay _ 53 _ _ _ _;refine ay.gen [true,false] _ _ _ rfl q rfl rfl _ rfl ?_)
       |refine nB ?_)
    all_goals first|rfl|exact⟨rfl,trivial⟩|(exfalso;simp at*;omega)
   |true=>
    rw[h3]at p3;by_cases g2:gt>0
    ·have p4:=jF (aJ s 3) (QC.mono (by omega)) MC 4 i4;have FJ:Rd (aJ (aJ s 3) 4) 800000004:=(QC.pick 4).mono (by omega);have Dn:(aJ (aJ s 3) 4).code.length≤1000000:=by rw[dO];exact MC
     cases h4:ky (aJ s 3) 4 with
     |false=>
      rw[h4]at p4;have q:=dx (aJ (aJ s 3) 4) (FJ.mono (by omega)) Dn gt ht;have e:cI ⟨gt,ga⟩ false s=(.mk 3 (cx (aJ (aJ s 3) 4) gt) [],aJ (aJ (aJ s 3) 4) gt):=by simp[cI,gH,iC,g2,h4,g1,h3]
      rw[e];simp only[gg];refine eA ?_;refine cX func194 (h:=?_)
      repeat'((conv=>whnf);first
       |refine aI.mk ?_ ?_
       |((apply bX;constructor)<;>intro h<;>(try simp only[aa]at h)<;>(try first|omega|contradiction))|(show ay _ 76 _ _ _ _;(first|refine ay.gen [true,false] _ _ _ rfl p3 rfl rfl _ rfl ?_|refine ay.gen [true,false] _ _ _ rfl p4 rfl rfl _ rfl ?_))|(show ay _ 53 _ _ _ _;refine ay.gen [true,false] _ _ _ rfl q rfl rfl _ rfl ?_)
       |refine nB ?_)
      all_goals first|rfl|exact⟨rfl,trivial⟩|(exfalso;simp at*;omega)
     |true=>
      rw[h4]at p4;have q:=dx (aJ (aJ s 3) 4) (FJ.mono (by omega)) Dn 2 i2;have qb:=cV (aJ (aJ s 3) 4) (n:=2) (by omega);have e:cI ⟨gt,ga⟩ false s=(.mk (1+cx (aJ (aJ s 3) 4) 2) 0 [],aJ (aJ (aJ s 3) 4) 2):=by simp[cI,gH,iC,g2,h4,g1,h3]
      rw[e];simp only[gg];refine eA ?_;refine cX func194 (h:=?_)
      repeat'((conv=>whnf);first
       |refine aI.mk ?_ ?_
       |((apply bX;constructor)<;>intro h<;>(try simp only[aa]at h)<;>(try first|omega|contradiction))|(show ay _ 76 _ _ _ _;(first|refine ay.gen [true,false] _ _ _ rfl p3 rfl rfl _ rfl ?_|refine ay.gen [true,false] _ _ _ rfl p4 rfl rfl _ rfl ?_))|(show ay _ 53 _ _ _ _;refine ay.gen [true,false] _ _ _ rfl q rfl rfl _ rfl ?_)|(show Arith _ _ _;refine Arith.fit (bu (by omega) (by omega)) ?_))
      all_goals first|rfl|exact⟨rfl,trivial⟩|(exfalso;simp at*;omega)
    ·have q:=dx (aJ s 3) (QC.mono (by omega)) MC 2 i2;have qb:=cV (aJ s 3) (n:=2) (by omega);have e:cI ⟨gt,ga⟩ false s=(.mk (1+cx (aJ s 3) 2) 0 [],aJ (aJ s 3) 2):=by simp[cI,gH,iC,g2,g1,h3]
     rw[e];simp only[gg];refine eA ?_;refine cX func194 (h:=?_)
     repeat'((conv=>whnf);first
         |refine aI.mk ?_ ?_
         |((apply bX;constructor)<;>intro h<;>(try simp only[aa]at h)<;>(try first|omega|contradiction))|(show ay _ 76 _ _ _ _;refine ay.gen [true,false] _ _ _ rfl p3 rfl rfl _ rfl ?_)|(show ay _ 53 _ _ _ _;refine ay.gen [true,false] _ _ _ rfl q rfl rfl _ rfl ?_)|(show Arith _ _ _;refine Arith.fit (bu (by omega) (by omega)) ?_))
     all_goals first|rfl|exact⟨rfl,trivial⟩|(exfalso;simp at*;omega)
  ·clear p3 QC MC;by_cases g2:gt>0
   ·have p4:=jF s (hs.mono (by omega)) hc 4 i4;have FJ:Rd (aJ s 4) 800000004:=(hs.pick 4).mono (by omega);have Dn:(aJ s 4).code.length≤1000000:=by rw[dO];exact hc
    cases h4:ky s 4 with
    |false=>
     rw[h4]at p4;have q:=dx (aJ s 4) (FJ.mono (by omega)) Dn gt ht;have e:cI ⟨gt,ga⟩ false s=(.mk 3 (cx (aJ s 4) gt) [],aJ (aJ s 4) gt):=by simp[cI,gH,iC,g2,h4,g1]
     rw[e];simp only[gg];refine eA ?_;refine cX func194 (h:=?_)
     repeat'((conv=>whnf);first
         |refine aI.mk ?_ ?_
         |((apply bX;constructor)<;>intro h<;>(try simp only[aa]at h)<;>(try first|omega|contradiction))|(show ay _ 76 _ _ _ _;refine ay.gen [true,false] _ _ _ rfl p4 rfl rfl _ rfl ?_)|(show ay _ 53 _ _ _ _;refine ay.gen [true,false] _ _ _ rfl q rfl rfl _ rfl ?_)
         |refine nB ?_)
     all_goals first|rfl|exact⟨rfl,trivial⟩|(exfalso;simp at*;omega)
    |true=>
     rw[h4]at p4;have q:=dx (aJ s 4) (FJ.mono (by omega)) Dn 2 i2;have qb:=cV (aJ s 4) (n:=2) (by omega);have e:cI ⟨gt,ga⟩ false s=(.mk (1+cx (aJ s 4) 2) 0 [],aJ (aJ s 4) 2):=by simp[cI,gH,iC,g2,h4,g1]
     rw[e];simp only[gg];refine eA ?_;refine cX func194 (h:=?_)
     repeat'((conv=>whnf);first
         |refine aI.mk ?_ ?_
         |((apply bX;constructor)<;>intro h<;>(try simp only[aa]at h)<;>(try first|omega|contradiction))|(show ay _ 76 _ _ _ _;refine ay.gen [true,false] _ _ _ rfl p4 rfl rfl _ rfl ?_)|(show ay _ 53 _ _ _ _;refine ay.gen [true,false] _ _ _ rfl q rfl rfl _ rfl ?_)|(show Arith _ _ _;refine Arith.fit (bu (by omega) (by omega)) ?_))
     all_goals first|rfl|exact⟨rfl,trivial⟩|(exfalso;simp at*;omega)
   ·have q:=dx s (hs.mono (by omega)) hc 2 i2;have qb:=cV s (n:=2) (by omega);have e:cI ⟨gt,ga⟩ false s=(.mk (1+cx s 2) 0 [],aJ s 2):=by simp[cI,gH,iC,g2,g1]
    rw[e];simp only[gg];refine eA ?_;refine cX func194 (h:=?_)
    repeat'((conv=>whnf);first
       |refine aI.mk ?_ ?_
       |((apply bX;constructor)<;>intro h<;>(try simp only[aa]at h)<;>(try first|omega|contradiction))|(show ay _ 53 _ _ _ _;refine ay.gen [true,false] _ _ _ rfl q rfl rfl _ rfl ?_)|(show Arith _ _ _;refine Arith.fit (bu (by omega) (by omega)) ?_))
    all_goals first|rfl|exact⟨rfl,trivial⟩|(exfalso;simp at*;omega)
end
section
variable(g:ku)(hg:0≤g.aK/\g.aK≤3/\0≤g.aF/\g.aF≤4)
include hg
theorem nC:∀(d:Nat) (dp:Int) (c:Bool) (r:JH) (n:Int),dp=d->Room d r n->d≤1000->
 aE prog 170 [.c (.op (gg r g)),B c,I dp] [some [.op (gg (bY g d c r).2 g)],none,none] (.a 3 (cC (bY g d c r).1))
 |0,dp,c,⟨s,left⟩,n,hdp,⟨hs,hn,hc,hl,hu⟩,hd=>by
  have h0:=nT 0;simp only[]at hs hc hl hu;have lf:=qR g hg (left-1) s (hs.mono (by omega)) hc c;have e1:bY g 0 c ⟨s,left⟩=((cI g c s).1,⟨(cI g c s).2,left-1⟩):=rfl;rw[e1];generalize cI g c s=X at lf⊢;obtain⟨⟨k1,n1,Aw⟩,s1⟩:=X;simp only[gg]at lf⊢;refine cX func170 (h:=?_)
  repeat'((conv=>whnf);first
   |refine aI.mk ?_ ?_
   |((apply bX;constructor)<;>intro h<;>(try simp only[aa]at h)<;>(try first|omega|contradiction))|(show ay _ 194 _ _ _ _;refine ay.gen [true,false] _ _ _ rfl lf rfl rfl _ rfl ?_)|(show Arith _ _ _;refine Arith.fit (bu (by omega) (by omega)) ?_))
  all_goals first|rfl|exact⟨rfl,trivial⟩|(exfalso;simp at*;omega)
 |d+1,dp,c,⟨s,left⟩,n,hdp,⟨hs,hn,hc,hl,hu⟩,hd=>by
  have h0:=nT d;have h1:=pU d;have hp:=two_pow_succ (d+1);have hq:2≤2^(d+1):=by have:=two_pow_succ d;have:0<2^d:=Nat.pow_pos (by omega);omega
  simp only[]at hs hc hl hu;have i6:lJ 6:=by unfold lJ;omega
  have i5:lJ 5:=by unfold lJ;omega
  have i10:lJ 10:=by unfold lJ;omega
  by_cases g1:left-1<1
  ·have lf:=qR g hg (left-1) s (hs.mono (by omega)) hc c;have e1:bY g (d+1) c ⟨s,left⟩=((cI g c s).1,⟨(cI g c s).2,left-1⟩):=by rw[bY,if_pos g1];rfl
   rw[e1];generalize cI g c s=X at lf⊢;obtain⟨⟨k1,n1,Aw⟩,s1⟩:=X;simp only[gg]at lf⊢;refine cX func170 (h:=?_)
   repeat'((conv=>whnf);first
    |refine aI.mk ?_ ?_
    |((apply bX;constructor)<;>intro h<;>(try simp only[aa]at h)<;>(try first|omega|contradiction))|(show ay _ 194 _ _ _ _;refine ay.gen [true,false] _ _ _ rfl lf rfl rfl _ rfl ?_)|(show Arith _ _ _;refine Arith.fit (bu (by omega) (by omega)) ?_))
   all_goals first|rfl|exact⟨rfl,trivial⟩|(exfalso;simp at*;omega)
  have p6:=jF s (hs.mono (by omega)) hc 6 i6;have V9:Rd (aJ s 6) (n+2):=hs.pick 6;have WB:(aJ s 6).code.length≤1000000:=by rw[dO];exact hc
  cases h6:ky s 6 with
  |true=>
   rw[h6]at p6;have lf:=qR g hg (left-1) (aJ s 6) (V9.mono (by omega)) WB c;have e1:bY g (d+1) c ⟨s,left⟩=((cI g c (aJ s 6)).1,⟨(cI g c (aJ s 6)).2,left-1⟩):=by rw[bY,if_neg g1,if_pos h6];rfl
   rw[e1];generalize cI g c (aJ s 6)=X at lf⊢;obtain⟨⟨k1,n1,Aw⟩,s1⟩:=X;simp only[gg]at lf⊢;refine cX func170 (h:=?_)
   repeat'((conv=>whnf);first
    |refine aI.mk ?_ ?_
    |((apply bX;constructor)<;>intro h<;>(try simp only[aa]at h)<;>(try first|omega|contradiction))|(show ay _ 76 _ _ _ _;refine ay.gen [true,false] _ _ _ rfl p6 rfl rfl _ rfl ?_)|(show ay _ 194 _ _ _ _;refine ay.gen [true,false] _ _ _ rfl lf rfl rfl _ rfl ?_)|(show Arith _ _ _;refine Arith.fit (bu (by omega) (by omega)) ?_))
   all_goals first|rfl|exact⟨rfl,trivial⟩|(exfalso;simp at*;omega)
  |false=>
   rw[h6]at p6;have pk:=dx (aJ s 6) (V9.mono (by omega)) WB 10 i10;have bk:=cV (aJ s 6) (n:=10) (by omega);have Ko:Rd (aJ (aJ s 6) 10) (n+4):=(V9.pick 10).mono (by omega);have Kt:(aJ (aJ s 6) 10).code.length≤1000000:=by rw[dO];exact WB
   rw[bY,if_neg g1,if_neg (by show¬ky s 6=true;rw[h6];simp)];simp only[];generalize cx (aJ s 6) 10=k at pk bk⊢;generalize aJ (aJ s 6) 10=sA at pk Ko Kt⊢;by_cases g2:k=0\/(c=true/\k<4)
   ·rw[if_pos g2];have ih:=nC d (dp-1) true ⟨sA,left-1⟩ (n+4) (by omega) ⟨Ko,by omega,Kt,by simp only[];omega,by simp only[];omega⟩ (by omega);generalize bY g d true ⟨sA,left-1⟩=X at ih⊢;obtain⟨⟨k1,n1,Aw⟩,⟨s1,l1⟩⟩:=X;simp only[gg]at ih⊢;refine Au ?_;cases c
    ·skip
     refine cX func170 (h:=?_)
     repeat'((conv=>whnf);first
       |refine aI.mk ?_ ?_
       |((apply bX;constructor)<;>intro h<;>(try simp only[aa]at h)<;>(try first|omega|contradiction))|(show ay _ 76 _ _ _ _;refine ay.gen [true,false] _ _ _ rfl p6 rfl rfl _ rfl ?_)|(show ay _ 53 _ _ _ _;refine ay.gen [true,false] _ _ _ rfl pk rfl rfl _ rfl ?_)|(show ay _ 170 _ _ _ _;refine ay.gen [true,false,false] _ _ _ rfl ih rfl rfl _ rfl ?_)|(show Arith _ _ _;refine Arith.fit (bu (by omega) (by omega)) ?_))
     all_goals first|rfl|exact⟨rfl,trivial⟩|(exfalso;simp at*;omega)
    ·skip
     refine cX func170 (h:=?_)
     repeat'((conv=>whnf);first
       |refine aI.mk ?_ ?_
       |((apply bX;constructor)<;>intro h<;>(try simp only[aa]at h)<;>(try first|omega|contradiction))|(show ay _ 76 _ _ _ _;refine ay.gen [true,false] _ _ _ rfl p6 rfl rfl _ rfl ?_)|(show ay _ 53 _ _ _ _;refine ay.gen [true,false] _ _ _ rfl pk rfl rfl _ rfl ?_)|(show ay _ 170 _ _ _ _;refine ay.gen [true,false,false] _ _ _ rfl ih rfl rfl _ rfl ?_)|(show Arith _ _ _;refine Arith.fit (bu (by omega) (by omega)) ?_))
     all_goals first|rfl|exact⟨rfl,trivial⟩|(exfalso;simp at*;omega)
   rw[if_neg g2];by_cases g3:k<4
   ·rw[if_pos g3];have ih:=nC d (dp-1) false ⟨sA,left-1⟩ (n+4) (by omega) ⟨Ko,by omega,Kt,by simp only[];omega,by simp only[];omega⟩ (by omega);generalize bY g d false ⟨sA,left-1⟩=X at ih⊢;obtain⟨⟨k1,n1,Aw⟩,⟨s1,l1⟩⟩:=X;simp only[gg]at ih⊢;refine Au ?_;cases c
    ·skip
     refine cX func170 (h:=?_)
     repeat'((conv=>whnf);first
       |refine aI.mk ?_ ?_
       |((apply bX;constructor)<;>intro h<;>(try simp only[aa]at h)<;>(try first|omega|contradiction))|(show ay _ 76 _ _ _ _;refine ay.gen [true,false] _ _ _ rfl p6 rfl rfl _ rfl ?_)|(show ay _ 53 _ _ _ _;refine ay.gen [true,false] _ _ _ rfl pk rfl rfl _ rfl ?_)|(show ay _ 170 _ _ _ _;refine ay.gen [true,false,false] _ _ _ rfl ih rfl rfl _ rfl ?_)|(show Arith _ _ _;refine Arith.fit (bu (by omega) (by omega)) ?_))
     all_goals first|rfl|exact⟨rfl,trivial⟩|(exfalso;simp at*;omega)
    ·skip
     refine cX func170 (h:=?_)
     repeat'((conv=>whnf);first
       |((apply bX;constructor)<;>intro h<;>(try simp only[aa]at h)<;>(try first|omega|contradiction))|(show ay _ 76 _ _ _ _;refine ay.gen [true,false] _ _ _ rfl p6 rfl rfl _ rfl ?_)|(show ay _ 53 _ _ _ _;refine ay.gen [true,false] _ _ _ rfl pk rfl rfl _ rfl ?_)|(show Arith _ _ _;refine Arith.fit (bu (by omega) (by omega)) ?_))
     all_goals first|rfl|exact⟨rfl,trivial⟩|(exfalso;simp at*;omega)
   rw[if_neg g3];cases c with
   |true=>
    simp only[nJ,kI,if_true];have ia:=nC d (dp-1) true ⟨sA,left-1⟩ (n+4) (by omega) ⟨Ko,by omega,Kt,by simp only[];omega,by simp only[];omega⟩ (by omega);have ra:=Rd.expr g d true ⟨sA,left-1⟩ Ko;have la:=je g d true ⟨sA,left-1⟩;have ca:=kF g d true ⟨sA,left-1⟩;generalize bY g d true ⟨sA,left-1⟩=X at ia ra la ca⊢;obtain⟨⟨k1,n1,Aw⟩,⟨s1,l1⟩⟩:=X;simp only[]at ra la ca ia⊢;have ib:=nC d (dp-1) true ⟨s1,l1⟩ (n+4+na d) (by omega) ⟨ra,by omega,by simp only[];rw[ca];exact Kt,by simp only[];omega,by simp only[];omega⟩ (by omega);generalize bY g d true ⟨s1,l1⟩=Y at ib⊢;obtain⟨⟨k2,n2,OQ⟩,⟨s2,l2⟩⟩:=Y;simp only[gg]at ia ib⊢
    by_cases g4:k<6
    ·rw[if_pos g4];have pr:=mH 6 (.mk k1 n1 Aw) (.mk k2 n2 OQ);refine cX func170 (h:=?_)
     repeat'((conv=>whnf);first
        |refine aI.mk ?_ ?_
        |((apply bX;constructor)<;>intro h<;>(try simp only[aa]at h)<;>(try first|omega|contradiction))|(show ay _ 76 _ _ _ _;refine ay.gen [true,false] _ _ _ rfl p6 rfl rfl _ rfl ?_)|(show ay _ 53 _ _ _ _;refine ay.gen [true,false] _ _ _ rfl pk rfl rfl _ rfl ?_)|(show ay _ 170 _ _ _ _;(first|refine ay.gen [true,false,false] _ _ _ rfl ia rfl rfl _ rfl ?_|refine ay.gen [true,false,false] _ _ _ rfl ib rfl rfl _ rfl ?_))|(show ay _ 195 _ _ _ _;refine ay.gen [false,true,true] _ _ _ rfl pr rfl rfl _ rfl ?_)|(show Arith _ _ _;refine Arith.fit (bu (by omega) (by omega)) ?_))
     all_goals first|rfl|exact⟨rfl,trivial⟩|(exfalso;simp at*;omega)
    ·rw[if_neg g4];have pr:=mH 7 (.mk k1 n1 Aw) (.mk k2 n2 OQ);refine cX func170 (h:=?_)
     repeat'((conv=>whnf);first
        |refine aI.mk ?_ ?_
        |((apply bX;constructor)<;>intro h<;>(try simp only[aa]at h)<;>(try first|omega|contradiction))|(show ay _ 76 _ _ _ _;refine ay.gen [true,false] _ _ _ rfl p6 rfl rfl _ rfl ?_)|(show ay _ 53 _ _ _ _;refine ay.gen [true,false] _ _ _ rfl pk rfl rfl _ rfl ?_)|(show ay _ 170 _ _ _ _;(first|refine ay.gen [true,false,false] _ _ _ rfl ia rfl rfl _ rfl ?_|refine ay.gen [true,false,false] _ _ _ rfl ib rfl rfl _ rfl ?_))|(show ay _ 195 _ _ _ _;refine ay.gen [false,true,true] _ _ _ rfl pr rfl rfl _ rfl ?_)|(show Arith _ _ _;refine Arith.fit (bu (by omega) (by omega)) ?_))
     all_goals first|rfl|exact⟨rfl,trivial⟩|(exfalso;simp at*;omega)
   |false=>
    simp only[nJ,kI,Bool.false_eq_true,if_false];have p5:=jF sA (Ko.mono (by omega)) Kt 5 i5;have V6:Rd (aJ sA 5) (n+6):=(Ko.pick 5).mono (by omega);have Vy:(aJ sA 5).code.length≤1000000:=by rw[dO];exact Kt
    generalize ky sA 5=b5 at p5⊢;generalize aJ sA 5=sB at p5 V6 Vy⊢;have ia:=nC d (dp-1) b5 ⟨sB,left-1⟩ (n+6) (by omega) ⟨V6,by omega,Vy,by simp only[];omega,by simp only[];omega⟩ (by omega);have ra:=Rd.expr g d b5 ⟨sB,left-1⟩ V6;have la:=je g d b5 ⟨sB,left-1⟩;have ca:=kF g d b5 ⟨sB,left-1⟩;generalize bY g d b5 ⟨sB,left-1⟩=X at ia ra la ca⊢;obtain⟨⟨k1,n1,Aw⟩,⟨s1,l1⟩⟩:=X;simp only[]at ra la ca ia⊢;have yF:s1.code.length≤1000000:=by rw[ca];exact Vy
    have p1:=jF s1 (ra.mono (by omega)) yF 6 i6;have rb:Rd (aJ s1 6) (n+8+na d):=(ra.pick 6).mono (by omega);have K7:(aJ s1 6).code.length≤1000000:=by rw[dO];exact yF
    generalize ky s1 6=b6 at p1⊢;generalize aJ s1 6=sC at p1 rb K7⊢;have ib:=nC d (dp-1) b6 ⟨sC,l1⟩ (n+8+na d) (by omega) ⟨rb,by omega,K7,by simp only[];omega,by simp only[];omega⟩ (by omega);generalize bY g d b6 ⟨sC,l1⟩=Y at ib⊢;obtain⟨⟨k2,n2,OQ⟩,⟨s2,l2⟩⟩:=Y;simp only[gg]at ia ib⊢;by_cases g4:k<6
    ·rw[if_pos g4];have pr:=mH 6 (.mk k1 n1 Aw) (.mk k2 n2 OQ);refine cX func170 (h:=?_)
     repeat'((conv=>whnf);first
        |refine aI.mk ?_ ?_
        |((apply bX;constructor)<;>intro h<;>(try simp only[aa]at h)<;>(try first|omega|contradiction))|(show ay _ 76 _ _ _ _;(first|refine ay.gen [true,false] _ _ _ rfl p6 rfl rfl _ rfl ?_|refine ay.gen [true,false] _ _ _ rfl p5 rfl rfl _ rfl ?_|refine ay.gen [true,false] _ _ _ rfl p1 rfl rfl _ rfl ?_))|(show ay _ 53 _ _ _ _;refine ay.gen [true,false] _ _ _ rfl pk rfl rfl _ rfl ?_)|(show ay _ 170 _ _ _ _;(first|refine ay.gen [true,false,false] _ _ _ rfl ia rfl rfl _ rfl ?_|refine ay.gen [true,false,false] _ _ _ rfl ib rfl rfl _ rfl ?_))|(show ay _ 195 _ _ _ _;refine ay.gen [false,true,true] _ _ _ rfl pr rfl rfl _ rfl ?_)|(show Arith _ _ _;refine Arith.fit (bu (by omega) (by omega)) ?_))
     all_goals first|rfl|exact⟨rfl,trivial⟩|(exfalso;simp at*;omega)
    ·rw[if_neg g4];have pr:=mH 7 (.mk k1 n1 Aw) (.mk k2 n2 OQ);refine cX func170 (h:=?_)
     repeat'((conv=>whnf);first
        |refine aI.mk ?_ ?_
        |((apply bX;constructor)<;>intro h<;>(try simp only[aa]at h)<;>(try first|omega|contradiction))|(show ay _ 76 _ _ _ _;(first|refine ay.gen [true,false] _ _ _ rfl p6 rfl rfl _ rfl ?_|refine ay.gen [true,false] _ _ _ rfl p5 rfl rfl _ rfl ?_|refine ay.gen [true,false] _ _ _ rfl p1 rfl rfl _ rfl ?_))|(show ay _ 53 _ _ _ _;refine ay.gen [true,false] _ _ _ rfl pk rfl rfl _ rfl ?_)|(show ay _ 170 _ _ _ _;(first|refine ay.gen [true,false,false] _ _ _ rfl ia rfl rfl _ rfl ?_|refine ay.gen [true,false,false] _ _ _ rfl ib rfl rfl _ rfl ?_))|(show ay _ 195 _ _ _ _;refine ay.gen [false,true,true] _ _ _ rfl pr rfl rfl _ rfl ?_)|(show Arith _ _ _;refine Arith.fit (bu (by omega) (by omega)) ?_))
     all_goals first|rfl|exact⟨rfl,trivial⟩|(exfalso;simp at*;omega)
end
theorem vO(g:ku)(hg:0≤g.aK/\g.aK≤3/\0≤g.aF/\g.aF≤4)(s:Src)(hs:Rd s 600000000)(hc:s.code.length≤1000000)(n:Int)(hn:0≤n/\n≤100):
 aE prog 139 [.c (.op (dz s)), .a 2 [J g.aK,J g.aF],I n] [some [.op (dz (bY g 6 false ⟨s,n⟩).2.s)],none,none] (.a 3 (cC (bY g 6 false ⟨s,n⟩).1)):=by
 have e:=zf;have h:=nC g hg 6 6 false ⟨s,n⟩ 600000000 rfl ⟨hs,by omega,hc,by simp only[];omega,by simp only[];omega⟩ (by omega);obtain⟨gt,ga⟩:=g;generalize bY ⟨gt,ga⟩ 6 false ⟨s,n⟩=X at h⊢;obtain⟨⟨k1,n1,Aw⟩,⟨s1,l1⟩⟩:=X;simp only[gg]at h⊢;refine cX func139 (h:=?_)
 repeat'((conv=>whnf);first
  |refine aI.mk ?_ ?_|(show ay _ 170 _ _ _ _;refine ay.gen [true,false,false] _ _ _ rfl h rfl rfl _ rfl ?_))
 all_goals first|rfl|exact⟨rfl,trivial⟩
section
variable{t a k:Int}{cl:List (List CV)}{e L R X SL SR Zl Zr:aA}{path:List Int}{ts us:List (List CV)}{use fT fA cdl cdr:Int}{ub fb bb sl sr bk:Bool}{r:SV}
 (cu:aE prog 196 [.c (.rp 3 [J t,J a, .ro 9 cl]),I k,I use] [] (.tup [.a 6 [J L.kind,J L.num, .ro 3 (L.kids.map aD),J R.kind,J R.num, .ro 3 (R.kids.map aD)],B ub]))
 (cf:aS prog 187 [.c (.rp 6 [J L.kind,J L.num, .ro 3 (L.kids.map aD),J R.kind,J R.num, .ro 3 (R.kids.map aD)])] (.tup [I fT,I fA]))
 (ca:aS prog 197 [.c (.rp 3 (aY e)), .c (.ro 1 (path.map eI))] (.tup [.c (.rp 3 (aY X)),B bb,B fb]))
 (c1:aE prog 168 [.a 2 [J t,J a], .c (.rp 6 [J L.kind,J L.num, .ro 3 (L.kids.map aD),J R.kind,J R.num, .ro 3 (R.kids.map aD)]), .c (.ro 3 ts), .c (.ro 3 us)] [] (.tup [.a 3 (aY SL),B sl]))
 (c2:aE prog 168 [.a 2 [J t,J a], .c (.rp 3 (aY R)), .c (.ro 3 ts), .c (.ro 3 us)] [] (.tup [.a 3 (aY SR),B sr]))
 (Xe:aE prog 198 [.a 2 [J t,J a], .c (.rp 3 (aY e)), .c (.ro 1 (path.map eI)), .c (.rp 3 (aY SL))] [] (.tup [.a 3 (cC Zl),I cdl]))
 (W9:aE prog 198 [.a 2 [J t,J a], .c (.rp 3 (aY e)), .c (.ro 1 (path.map eI)), .c (.rp 3 (aY SR))] [] (.tup [.a 3 (cC Zr),I cdr]))
 (e1:ub=false->r= .tup [.a 3 [J 0,J 0, .ows 66 3 []],I 2])
 (e2:ub=true-> ¬((ts.length:Nat):Int)=fT->r= .tup [.a 3 [J 0,J 0, .ows 66 3 []],I 2])
 (e3:ub=true->((ts.length:Nat):Int)=fT-> ¬((us.length:Nat):Int)=fA->r= .tup [.a 3 [J 0,J 0, .ows 66 3 []],I 2])
 (e4:ub=true->((ts.length:Nat):Int)=fT->((us.length:Nat):Int)=fA->fb=false->r= .tup [.a 3 [J 0,J 0, .ows 66 3 []],I 2])
 (e5:ub=true->((ts.length:Nat):Int)=fT->((us.length:Nat):Int)=fA->fb=true->sl=false->r= .tup [.a 3 [J 0,J 0, .ows 66 3 []],I 3])
 (e6:ub=true->((ts.length:Nat):Int)=fT->((us.length:Nat):Int)=fA->fb=true->sl=true->sr=false->r= .tup [.a 3 [J 0,J 0, .ows 66 3 []],I 3])
 (e7:ub=true->((ts.length:Nat):Int)=fT->((us.length:Nat):Int)=fA->fb=true->sl=true->sr=true->eqv X (if bk=true then SR else SL)=false->r= .tup [.a 3 [J 0,J 0, .ows 66 3 []],I 6])
 (e8:ub=true->((ts.length:Nat):Int)=fT->((us.length:Nat):Int)=fA->fb=true->sl=true->sr=true->eqv X (if bk=true then SR else SL)=true->r=if bk=true then .tup [.a 3 (cC Zl),I cdl]else .tup [.a 3 (cC Zr),I cdr])
include cu cf ca c1 c2 Xe W9 e1 e2 e3 e4 e5 e6 e7 e8
theorem Gw:aE prog 172 [.c (.rp 3 [J t,J a, .ro 9 cl]),I k, .c (.rp 3 (aY e)), .c (.rp 5 [J use, .val (.bool bk), .ro 1 (path.map eI), .ro 3 ts, .ro 3 us])] [] r:=by
 have Si:bk=false->aE prog 172 [.c (.rp 3 [J t,J a, .ro 9 cl]),I k, .c (.rp 3 (aY e)), .c (.rp 5 [J use, .val (.bool bk), .ro 1 (path.map eI), .ro 3 ts, .ro 3 us])] [] r:=by
  rintro rfl;have e7':=fun a b c d e f g=>e7 a b c d e f (show eqv X SL=false from gE g)
  have e8':=fun a b c d e f g=>e8 a b c d e f (show eqv X SL=true from oW g)
  refine cX func172 (fun ew=>match ew with|4=>true|18=>true|_=>false) (h:=?_)
  repeat'((conv=>whnf);first
   |(show aI _ _;(have g0:=‹ub=false›);(obtain rfl:=e1 g0);exact aI.mk rfl trivial)|(show aI _ _;(have g0:=‹ub=true›);(have g1:=‹¬((ts.length:Nat):Int)=fT›);(obtain rfl:=e2 g0 g1);exact aI.mk rfl trivial)|(show aI _ _;(have g0:=‹ub=true›);(have g1:=‹((ts.length:Nat):Int)=fT›);(have g2:=‹¬((us.length:Nat):Int)=fA›);(obtain rfl:=e3 g0 g1 g2);exact aI.mk rfl trivial)|(show aI _ _;(have g0:=‹ub=true›);(have g1:=‹((ts.length:Nat):Int)=fT›);(have g2:=‹((us.length:Nat):Int)=fA›);(have g3:=‹fb=false›);(obtain rfl:=e4 g0 g1 g2 g3);exact aI.mk rfl trivial)|(show aI _ _;(have g0:=‹ub=true›);(have g1:=‹((ts.length:Nat):Int)=fT›);(have g2:=‹((us.length:Nat):Int)=fA›);(have g3:=‹fb=true›);(have g4:=‹sl=false›);(obtain rfl:=e5 g0 g1 g2 g3 g4);exact aI.mk rfl trivial)|(show aI _ _;(have g0:=‹ub=true›);(have g1:=‹((ts.length:Nat):Int)=fT›);(have g2:=‹((us.length:Nat):Int)=fA›);(have g3:=‹fb=true›);(have g4:=‹sl=true›);(have g5:=‹sr=false›);(obtain rfl:=e6 g0 g1 g2 g3 g4 g5);exact aI.mk rfl trivial)|(show aI _ _;(have g0:=‹ub=true›);(have g1:=‹((ts.length:Nat):Int)=fT›);(have g2:=‹((us.length:Nat):Int)=fA›);(have g3:=‹fb=true›);(have g4:=‹sl=true›);(have g5:=‹sr=true›);(have g6:=‹¬X=SL›);(obtain rfl:=e7' g0 g1 g2 g3 g4 g5 g6);exact aI.mk rfl trivial)|(show aI _ _;(have g0:=‹ub=true›);(have g1:=‹((ts.length:Nat):Int)=fT›);(have g2:=‹((us.length:Nat):Int)=fA›);(have g3:=‹fb=true›);(have g4:=‹sl=true›);(have g5:=‹sr=true›);(have g6:=‹X=SL›);(obtain rfl:=e8' g0 g1 g2 g3 g4 g5 g6);exact aI.mk rfl trivial)
   |(apply Fact.mk;intro hL;try simp only[aa,maxLen]at hL)
   |((apply bX;constructor)<;>intro h<;>(try simp only[aa]at h)<;>(try first|omega|contradiction))|(show ay _ 196 _ _ _ _;refine cG [] rfl (cu) ?_)|(show ay _ 187 _ _ _ _;refine cP rfl (cf) ?_)|(show ay _ 197 _ _ _ _;refine cP rfl (ca) ?_)|(show ay _ 168 _ _ _ _;refine cG [] rfl (c1) ?_)|(show ay _ 168 _ _ _ _;refine cG [] rfl (c2) ?_)|(show ay _ 198 _ _ _ _;refine cG [] rfl (W9) ?_)|(show ay _ 51 _ _ _ _;refine cP rfl (qq X SL) ?_)|(show Gh _ _ _ _ _;refine Gh.EO 4 _ rfl (Gh.go ?_))|(show Gh _ _ _ _ _;refine Gh.EO 8 _ rfl (Gh.go ?_))
   |refine nB ?_
   |apply jY.go)
  all_goals first|rfl|trivial
 have Wq:bk=true->aE prog 172 [.c (.rp 3 [J t,J a, .ro 9 cl]),I k, .c (.rp 3 (aY e)), .c (.rp 5 [J use, .val (.bool bk), .ro 1 (path.map eI), .ro 3 ts, .ro 3 us])] [] r:=by
  rintro rfl;have e7':=fun a b c d e f g=>e7 a b c d e f (show eqv X SR=false from gE g)
  have e8':=fun a b c d e f g=>e8 a b c d e f (show eqv X SR=true from oW g)
  refine cX func172 (fun ew=>match ew with|4=>true|18=>true|_=>false) (h:=?_)
  repeat'((conv=>whnf);first
   |(show aI _ _;(have g0:=‹ub=false›);(obtain rfl:=e1 g0);exact aI.mk rfl trivial)|(show aI _ _;(have g0:=‹ub=true›);(have g1:=‹¬((ts.length:Nat):Int)=fT›);(obtain rfl:=e2 g0 g1);exact aI.mk rfl trivial)|(show aI _ _;(have g0:=‹ub=true›);(have g1:=‹((ts.length:Nat):Int)=fT›);(have g2:=‹¬((us.length:Nat):Int)=fA›);(obtain rfl:=e3 g0 g1 g2);exact aI.mk rfl trivial)|(show aI _ _;(have g0:=‹ub=true›);(have g1:=‹((ts.length:Nat):Int)=fT›);(have g2:=‹((us.length:Nat):Int)=fA›);(have g3:=‹fb=false›);(obtain rfl:=e4 g0 g1 g2 g3);exact aI.mk rfl trivial)|(show aI _ _;(have g0:=‹ub=true›);(have g1:=‹((ts.length:Nat):Int)=fT›);(have g2:=‹((us.length:Nat):Int)=fA›);(have g3:=‹fb=true›);(have g4:=‹sl=false›);(obtain rfl:=e5 g0 g1 g2 g3 g4);exact aI.mk rfl trivial)|(show aI _ _;(have g0:=‹ub=true›);(have g1:=‹((ts.length:Nat):Int)=fT›);(have g2:=‹((us.length:Nat):Int)=fA›);(have g3:=‹fb=true›);(have g4:=‹sl=true›);(have g5:=‹sr=false›);(obtain rfl:=e6 g0 g1 g2 g3 g4 g5);exact aI.mk rfl trivial)|(show aI _ _;(have g0:=‹ub=true›);(have g1:=‹((ts.length:Nat):Int)=fT›);(have g2:=‹((us.length:Nat):Int)=fA›);(have g3:=‹fb=true›);(have g4:=‹sl=true›);(have g5:=‹sr=true›);(have g6:=‹¬X=SR›);(obtain rfl:=e7' g0 g1 g2 g3 g4 g5 g6);exact aI.mk rfl trivial)|(show aI _ _;(have g0:=‹ub=true›);(have g1:=‹((ts.length:Nat):Int)=fT›);(have g2:=‹((us.length:Nat):Int)=fA›);(have g3:=‹fb=true›);(have g4:=‹sl=true›);(have g5:=‹sr=true›);(have g6:=‹X=SR›);(obtain rfl:=e8' g0 g1 g2 g3 g4 g5 g6);exact aI.mk rfl trivial)
   |(apply Fact.mk;intro hL;try simp only[aa,maxLen]at hL)
   |((apply bX;constructor)<;>intro h<;>(try simp only[aa]at h)<;>(try first|omega|contradiction))|(show ay _ 196 _ _ _ _;refine cG [] rfl (cu) ?_)|(show ay _ 187 _ _ _ _;refine cP rfl (cf) ?_)|(show ay _ 197 _ _ _ _;refine cP rfl (ca) ?_)|(show ay _ 168 _ _ _ _;refine cG [] rfl (c1) ?_)|(show ay _ 168 _ _ _ _;refine cG [] rfl (c2) ?_)|(show ay _ 198 _ _ _ _;refine cG [] rfl (Xe) ?_)|(show ay _ 51 _ _ _ _;refine cP rfl (qq X SR) ?_)|(show Gh _ _ _ _ _;refine Gh.EO 4 _ rfl (Gh.go ?_))|(show Gh _ _ _ _ _;refine Gh.EO 8 _ rfl (Gh.go ?_))
   |refine nB ?_
   |apply jY.go)
  all_goals first|rfl|trivial
 cases bk with
 |false=>exact Si rfl
 |true=>exact Wq rfl
end
theorem Eh{t a k use:Int}{cl:List (List CV)}{e L R:aA}{path:List Int}{ts us:List (List CV)}{bk:Bool}
 (cu:aE prog 196 [.c (.rp 3 [J t,J a, .ro 9 cl]),I k,I use] [] (.tup [.a 6 [J L.kind,J L.num, .ro 3 (L.kids.map aD),J R.kind,J R.num, .ro 3 (R.kids.map aD)],B false])):
 aE prog 172 [.c (.rp 3 [J t,J a, .ro 9 cl]),I k, .c (.rp 3 (aY e)), .c (.rp 5 [J use, .val (.bool bk), .ro 1 (path.map eI), .ro 3 ts, .ro 3 us])] [] (.tup [.a 3 [J 0,J 0, .ows 66 3 []],I 2]):=by
 refine cX func172 (h:=?_)
 repeat'((conv=>whnf);first
  |refine aI.mk ?_ ?_
  |((apply bX;constructor)<;>intro h<;>(try simp only[aa]at h)<;>(try first|omega|contradiction))|(show ay _ 196 _ _ _ _;refine cG [] rfl (cu) ?_))
 all_goals first|rfl|trivial
theorem vC(p:cY)(hs:cE p.sig.aK p.sig.aF=true)(k:Int)(e:aA)(be:aH e≤200)(st:aP)(hu:(0≤st.use/\st.use≤23)\/(st.use<0/\ -1000000≤st.use/\k≤1000000))(hq:(kW jO p k st.use).2=true->Cd (kW jO p k st.use).1)
 (b1:∀x∈st.aK,aH x≤200)(b2:∀x∈st.dy,aH x≤200):aE prog 172 [.c (.rp 3 (dk p)),I k, .c (.rp 3 (aY e)), .c (.rp 5 (cD st))] [] (.tup [.a 3 (cC (g9 jO p k e st).1),I (g9 jO p k e st).2]):=by
 have soft:∀{f:Nat} {args:List SV} {n:Int},aE prog f args [] (.tup [.a 3 [J 0,J 0, .ows 66 3 []],I n])->aE prog f args [] (.tup [.a 3 (cC dm),I n]):=fun h=>
  B3 h
 have cu:aE prog 196 [.c (.rp 3 (dk p)),I k,I st.use] [] (.tup [.a 6 (bm (kW jO p k st.use).1),B (kW jO p k st.use).2]):=by
  rcases hu with⟨h0,h1⟩|⟨h0,h1,h2⟩
  ·exact Og p k st.use h0 h1
  ·exact O1 p k st.use h0 h1 h2
 obtain⟨U,hU⟩:∃U,kW jO p k st.use=U:=⟨_,rfl⟩
 rw[hU]at cu hq;obtain⟨⟨L,R⟩,ub⟩:=U;have hA:g9 jO p k e st=if ub=false then(dm,2)
  else if¬((st.aK.length:Int)=mz ⟨L,R⟩)then(dm,2)
  else if¬((st.dy.length:Int)=qB ⟨L,R⟩)then(dm,2)
  else if(pK e st.path false).2.2=false then(dm,2)
  else if(jm p.sig.aK p.sig.aF L st.aK st.dy).2=false\/(jm p.sig.aK p.sig.aF R st.aK st.dy).2=false then(dm,3)
  else if eqv (pK e st.path false).1 (if st.back=true then(jm p.sig.aK p.sig.aF R st.aK st.dy).1 else(jm p.sig.aK p.sig.aF L st.aK st.dy).1)=false then(dm,6)
  else o6 p.sig.aK p.sig.aF e st.path (if st.back=true then(jm p.sig.aK p.sig.aF L st.aK st.dy).1 else(jm p.sig.aK p.sig.aF R st.aK st.dy).1):=by
  unfold g9;simp only[hU]
 rw[hA];cases ub with
 |false=>
  rw[if_pos rfl];exact soft (Eh (L:=L) (R:=R) cu)
 |true=>
  have hG:=hq rfl;have lL:=m8 (by decide) (by decide) hG.l;have lR:=m8 (by decide) (by decide) hG.r;have bL:aH L≤200:=hG.bl;have bR:aH R≤200:=hG.br;have cf:=z8 ⟨L,R⟩ lL lR;have ca:=Q3 e st.path (by omega);have c1:=(Da b1 b2 p.sig.aK p.sig.aF hs L lL (by simp only[jj];omega)).cut (.same (lh.cut (sz:=6) (k:=3) (cs:=[J L.kind,J L.num, .ro 3 (L.kids.map aD),J R.kind,J R.num, .ro 3 (R.kids.map aD)]) (by decide) (lh.refl _)));have c2:=Da b1 b2 p.sig.aK p.sig.aF hs R lR (by simp only[jj];omega);have h1:=(nP b1 b2 L 200).1;have h2:=(nP b1 b2 R 200).1;simp only[jj]at h1 h2;have Xe:=ny p.sig.aK p.sig.aF hs e (jm p.sig.aK p.sig.aF L st.aK st.dy).1 st.path (by omega) (by unfold jm;simp only[];omega)
  have W9:=ny p.sig.aK p.sig.aF hs e (jm p.sig.aK p.sig.aF R st.aK st.dy).1 st.path (by omega) (by unfold jm;simp only[];omega);rw[if_neg (by decide)];generalize jm p.sig.aK p.sig.aF L st.aK st.dy=X1 at c1 Xe⊢;generalize jm p.sig.aK p.sig.aF R st.aK st.dy=X2 at c2 W9⊢;generalize pK e st.path false=X3 at ca⊢;generalize mz ⟨L,R⟩=fT at cf⊢;generalize qB ⟨L,R⟩=fA at cf⊢;obtain⟨SL,sl⟩:=X1;obtain⟨SR,sr⟩:=X2;obtain⟨X,bb,fb⟩:=X3;simp only[]at Xe W9 c1 c2 ca cf⊢;have nf:∀{b:Bool},b=true-> ¬b=false:=fun h=>by rw[h];decide
  have core:=fun r=>Gw (r:=r) (bk:=st.back) (use:=st.use) (k:=k) (cl:=p.aG.map aV) (ts:=st.aK.map aD) (us:=st.dy.map aD) cu cf ca c1 c2 Xe W9
  simp only[aa]at core;by_cases g1:((st.aK.length:Nat):Int)=fT
  ·rw[if_neg (not_not_intro g1)];by_cases g2:((st.dy.length:Nat):Int)=fA
   ·rw[if_neg (not_not_intro g2)];cases fb with
    |false=>
     rw[if_pos rfl];exact soft (core _ (fun _=>rfl) (fun _ _=>rfl) (fun _ _ _=>rfl) (fun _ _ _ _=>rfl) (fun _ _ _ h=>by cases h) (fun _ _ _ h=>by cases h) (fun _ _ _ h=>by cases h) (fun _ _ _ h=>by cases h))
    |true=>
     rw[if_neg (by decide)];have bad:∀{q:Prop},(true=false)->q:=fun h=>by cases h
     cases sl with
     |false=>
      rw[if_pos (.inl rfl)];exact soft (core _ (fun h=>bad h) (fun _ h=>(h g1).elim) (fun _ _ h=>(h g2).elim) (fun _ _ _ h=>bad h) (fun _ _ _ _ _=>rfl) (fun _ _ _ _ h=>bad h.symm) (fun _ _ _ _ h=>bad h.symm) (fun _ _ _ _ h=>bad h.symm))
     |true=>
      cases sr with
      |false=>
       rw[if_pos (.inr rfl)];exact soft (core _ (fun h=>bad h) (fun _ h=>(h g1).elim) (fun _ _ h=>(h g2).elim) (fun _ _ _ h=>bad h) (fun _ _ _ _ h=>bad h) (fun _ _ _ _ _ _=>rfl) (fun _ _ _ _ _ h=>bad h.symm) (fun _ _ _ _ _ h=>bad h.symm))
      |true=>
       rw[if_neg (fun h=>h.elim bad bad)];cases hE:eqv X (if st.back=true then SR else SL)with
       |false=>
        rw[if_pos rfl];exact soft (core _ (fun h=>bad h) (fun _ h=>(h g1).elim) (fun _ _ h=>(h g2).elim) (fun _ _ _ h=>bad h) (fun _ _ _ _ h=>bad h) (fun _ _ _ _ _ h=>bad h) (fun _ _ _ _ _ _ _=>rfl) (fun _ _ _ _ _ _ h=>by rw[hE]at h;cases h))
       |true=>
        rw[if_neg (by decide)];refine core _ (fun h=>bad h) (fun _ h=>(h g1).elim) (fun _ _ h=>(h g2).elim) (fun _ _ _ h=>bad h) (fun _ _ _ _ h=>bad h) (fun _ _ _ _ _ h=>bad h) (fun _ _ _ _ _ _ h=>by rw[hE]at h;cases h) (fun _ _ _ _ _ _ _=>?_);cases st.back<;>rfl
   ·rw[if_pos g2];exact soft (core _ (fun _=>rfl) (fun _ _=>rfl) (fun _ _ _=>rfl) (fun _ _ h=>(g2 h).elim) (fun _ _ h=>(g2 h).elim) (fun _ _ h=>(g2 h).elim) (fun _ _ h=>(g2 h).elim) (fun _ _ h=>(g2 h).elim))
  ·rw[if_pos g1];exact soft (core _ (fun _=>rfl) (fun _ _=>rfl) (fun _ h=>(g1 h).elim) (fun _ h=>(g1 h).elim) (fun _ h=>(g1 h).elim) (fun _ h=>(g1 h).elim) (fun _ h=>(g1 h).elim) (fun _ h=>(g1 h).elim))
end Go.Proofs.YtgbggaddpbghfaaGreat
