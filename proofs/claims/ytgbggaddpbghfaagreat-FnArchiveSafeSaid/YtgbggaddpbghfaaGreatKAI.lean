/- Contracts of the draws of yes or no, of one of some numbers, of a signature and of leaves of expressions. No conditions but bounds of size. -/
import Derived.Test.YtgbggaddpbghfaaGreatKAH
import Derived.Test.YtgbggaddpbghfaaGreatZl
import Derived.Sort.OwnSortedInts
import Derived.Shelf.SlGeneric
import Derived.Ground.SlgnProg
import Derived.Shelf.SortG.Plain
import Derived.Shelf.SortG.SortNone
namespace Go.Proofs.YtgbggaddpbghfaaGreat
open Go Go.KA Go.Proofs Go.Proofs.Tryz
set_option maxHeartbeats 16000000
set_option maxRecDepth 100000
theorem dO(s:Src)(n:Int):(aJ s n).code=s.code:=by
 unfold aJ;split
 ·rfl
 ·split<;>rfl
theorem jF(s:Src)(hs:Rd s 900000000)(hc:s.code.length≤1000000)(n:Int)(hn:lJ n):aE prog 76 [.c (.op (dz s)),I n] [some [.op (dz (aJ s n))],none] (B (ky s n)):=by
 have h1:=dx s hs hc n hn;refine cX func76 (h:=?_)
 repeat'((conv=>whnf);first
  |refine aI.mk ?_ ?_|(show ay _ 53 _ _ _ _;refine ay.gen [true,false] _ _ _ rfl h1 rfl rfl _ rfl ?_))
 all_goals first|rfl|exact⟨rfl,trivial⟩
theorem iG{P:Program}{f:Nat}{args:List SV}{outs:List (Option (List CV))}{k n:Int}(h:aE P f args outs (.a 3 [J k,J n, .ows 66 3 []])):aE P f args outs (.a 3 (aD (.mk k n []))):=
 h.soft (.v (.a (.same (.same (.ro .nil)))))
section
variable(g:ku)(hg:0≤g.aK/\g.aK≤3/\0≤g.aF/\g.aF≤4)
include hg
theorem uk(left:Int)(s:Src)(hs:Rd s 800000000)(hc:s.code.length≤1000000)(c:Bool):
 aE prog 194 [.c (.op (gg ⟨s,left⟩ g)),B c] [some [.op (gg ⟨(cI g c s).2,left⟩ g)],none] (.a 3 (aD (cI g c s).1)):=by
 have ht:lJ g.aK:=by unfold lJ;omega
 have ha:lJ g.aF:=by unfold lJ;omega
 have i2:lJ 2:=by unfold lJ;omega
 have i3:lJ 3:=by unfold lJ;omega
 have i4:lJ 4:=by unfold lJ;omega
 obtain⟨gt,ga⟩:=g;simp only[]at hg ht ha;have p3:=jF s (hs.mono (by omega)) hc 3 i3;have QC:Rd (aJ s 3) 800000002:=hs.pick 3;have MC:(aJ s 3).code.length≤1000000:=by rw[dO];exact hc
 cases c with
 |true=>
  by_cases g2:gt>0
  ·have p4:=jF s (hs.mono (by omega)) hc 4 i4;have FJ:Rd (aJ s 4) 800000004:=(hs.pick 4).mono (by omega);have Dn:(aJ s 4).code.length≤1000000:=by rw[dO];exact hc
   cases h4:ky s 4 with
   |false=>
    rw[h4]at p4;have q:=dx (aJ s 4) (FJ.mono (by omega)) Dn gt ht;have e:cI ⟨gt,ga⟩ true s=(.mk 3 (cx (aJ s 4) gt) [],aJ (aJ s 4) gt):=by simp[cI,gH,iC,g2,h4]
    rw[e];simp only[gg];refine iG ?_;refine cX func194 (h:=?_)
    repeat'((conv=>whnf);first
     |refine aI.mk ?_ ?_
     |((apply bX;constructor)<;>intro h<;>(try simp only[aa]at h)<;>(try first|omega|contradiction))|(show ay _ 76 _ _ _ _;refine ay.gen [true,false] _ _ _ rfl p4 rfl rfl _ rfl ?_)|(show ay _ 53 _ _ _ _;refine ay.gen [true,false] _ _ _ rfl q rfl rfl _ rfl ?_)
     |refine nB ?_)
    all_goals first|rfl|exact⟨rfl,trivial⟩|(exfalso;simp at*;omega)
   |true=>
    rw[h4]at p4;have q:=dx (aJ s 4) (FJ.mono (by omega)) Dn 2 i2;have qb:=cV (aJ s 4) (n:=2) (by omega);have e:cI ⟨gt,ga⟩ true s=(.mk (1+cx (aJ s 4) 2) 0 [],aJ (aJ s 4) 2):=by simp[cI,gH,iC,g2,h4]
    rw[e];simp only[gg];refine iG ?_;refine cX func194 (h:=?_)
    repeat'((conv=>whnf);first
     |refine aI.mk ?_ ?_
     |((apply bX;constructor)<;>intro h<;>(try simp only[aa]at h)<;>(try first|omega|contradiction))|(show ay _ 76 _ _ _ _;refine ay.gen [true,false] _ _ _ rfl p4 rfl rfl _ rfl ?_)|(show ay _ 53 _ _ _ _;refine ay.gen [true,false] _ _ _ rfl q rfl rfl _ rfl ?_)|(show Arith _ _ _;refine Arith.fit (bu (by omega) (by omega)) ?_))
    all_goals first|rfl|exact⟨rfl,trivial⟩|(exfalso;simp at*;omega)
  ·have q:=dx s (hs.mono (by omega)) hc 2 i2;have qb:=cV s (n:=2) (by omega);have e:cI ⟨gt,ga⟩ true s=(.mk (1+cx s 2) 0 [],aJ s 2):=by simp[cI,gH,iC,g2]
   rw[e];simp only[gg];refine iG ?_;refine cX func194 (h:=?_)
   repeat'((conv=>whnf);first
        |refine aI.mk ?_ ?_
        |((apply bX;constructor)<;>intro h<;>(try simp only[aa]at h)<;>(try first|omega|contradiction))|(show ay _ 53 _ _ _ _;refine ay.gen [true,false] _ _ _ rfl q rfl rfl _ rfl ?_)|(show Arith _ _ _;refine Arith.fit (bu (by omega) (by omega)) ?_))
   all_goals first|rfl|exact⟨rfl,trivial⟩|(exfalso;simp at*;omega)
 |false=>
  by_cases g1:ga>0
  ·cases h3:ky s 3 with
   |false=>
    rw[h3]at p3;have q:=dx (aJ s 3) (QC.mono (by omega)) MC ga ha;have e:cI ⟨gt,ga⟩ false s=(.mk 4 (cx (aJ s 3) ga) [],aJ (aJ s 3) ga):=by simp[cI,g1,h3]
    rw[e];simp only[gg];refine iG ?_;refine cX func194 (h:=?_)
    repeat'((conv=>whnf);first
       |refine aI.mk ?_ ?_
       |((apply bX;constructor)<;>intro h<;>(try simp only[aa]at h)<;>(try first|omega|contradiction))|(show ay _ 76 _ _ _ _;refine ay.gen [true,false] _ _ _ rfl p3 rfl rfl _ rfl ?_)|(show ay _ 53 _ _ _ _;refine ay.gen [true,false] _ _ _ rfl q rfl rfl _ rfl ?_)
       |refine nB ?_)
    all_goals first|rfl|exact⟨rfl,trivial⟩|(exfalso;simp at*;omega)
   |true=>
    rw[h3]at p3;by_cases g2:gt>0
    ·have p4:=jF (aJ s 3) (QC.mono (by omega)) MC 4 i4;have FJ:Rd (aJ (aJ s 3) 4) 800000004:=(QC.pick 4).mono (by omega);have Dn:(aJ (aJ s 3) 4).code.length≤1000000:=by rw[dO];exact MC
     cases h4:ky (aJ s 3) 4 with
     |false=>
      rw[h4]at p4;have q:=dx (aJ (aJ s 3) 4) (FJ.mono (by omega)) Dn gt ht;have e:cI ⟨gt,ga⟩ false s=(.mk 3 (cx (aJ (aJ s 3) 4) gt) [],aJ (aJ (aJ s 3) 4) gt):=by simp[cI,gH,iC,g2,h4,g1,h3]
      rw[e];simp only[gg];refine iG ?_;refine cX func194 (h:=?_)
      repeat'((conv=>whnf);first
       |refine aI.mk ?_ ?_
       |((apply bX;constructor)<;>intro h<;>(try simp only[aa]at h)<;>(try first|omega|contradiction))|(show ay _ 76 _ _ _ _;(first|refine ay.gen [true,false] _ _ _ rfl p3 rfl rfl _ rfl ?_|refine ay.gen [true,false] _ _ _ rfl p4 rfl rfl _ rfl ?_))|(show ay _ 53 _ _ _ _;refine ay.gen [true,false] _ _ _ rfl q rfl rfl _ rfl ?_)
       |refine nB ?_)
      all_goals first|rfl|exact⟨rfl,trivial⟩|(exfalso;simp at*;omega)
     |true=>
      rw[h4]at p4;have q:=dx (aJ (aJ s 3) 4) (FJ.mono (by omega)) Dn 2 i2;have qb:=cV (aJ (aJ s 3) 4) (n:=2) (by omega);have e:cI ⟨gt,ga⟩ false s=(.mk (1+cx (aJ (aJ s 3) 4) 2) 0 [],aJ (aJ (aJ s 3) 4) 2):=by simp[cI,gH,iC,g2,h4,g1,h3]
      rw[e];simp only[gg];refine iG ?_;refine cX func194 (h:=?_)
      repeat'((conv=>whnf);first
       |refine aI.mk ?_ ?_
       |((apply bX;constructor)<;>intro h<;>(try simp only[aa]at h)<;>(try first|omega|contradiction))|(show ay _ 76 _ _ _ _;(first|refine ay.gen [true,false] _ _ _ rfl p3 rfl rfl _ rfl ?_|refine ay.gen [true,false] _ _ _ rfl p4 rfl rfl _ rfl ?_))|(show ay _ 53 _ _ _ _;refine ay.gen [true,false] _ _ _ rfl q rfl rfl _ rfl ?_)|(show Arith _ _ _;refine Arith.fit (bu (by omega) (by omega)) ?_))
      all_goals first|rfl|exact⟨rfl,trivial⟩|(exfalso;simp at*;omega)
    ·have q:=dx (aJ s 3) (QC.mono (by omega)) MC 2 i2;have qb:=cV (aJ s 3) (n:=2) (by omega);have e:cI ⟨gt,ga⟩ false s=(.mk (1+cx (aJ s 3) 2) 0 [],aJ (aJ s 3) 2):=by simp[cI,gH,iC,g2,g1,h3]
     rw[e];simp only[gg];refine iG ?_;refine cX func194 (h:=?_)
     repeat'((conv=>whnf);first
         |refine aI.mk ?_ ?_
         |((apply bX;constructor)<;>intro h<;>(try simp only[aa]at h)<;>(try first|omega|contradiction))|(show ay _ 76 _ _ _ _;refine ay.gen [true,false] _ _ _ rfl p3 rfl rfl _ rfl ?_)|(show ay _ 53 _ _ _ _;refine ay.gen [true,false] _ _ _ rfl q rfl rfl _ rfl ?_)|(show Arith _ _ _;refine Arith.fit (bu (by omega) (by omega)) ?_))
     all_goals first|rfl|exact⟨rfl,trivial⟩|(exfalso;simp at*;omega)
  ·clear p3 QC MC;by_cases g2:gt>0
   ·have p4:=jF s (hs.mono (by omega)) hc 4 i4;have FJ:Rd (aJ s 4) 800000004:=(hs.pick 4).mono (by omega);have Dn:(aJ s 4).code.length≤1000000:=by rw[dO];exact hc
    cases h4:ky s 4 with
    |false=>
     rw[h4]at p4;have q:=dx (aJ s 4) (FJ.mono (by omega)) Dn gt ht;have e:cI ⟨gt,ga⟩ false s=(.mk 3 (cx (aJ s 4) gt) [],aJ (aJ s 4) gt):=by simp[cI,gH,iC,g2,h4,g1]
     rw[e];simp only[gg];refine iG ?_;refine cX func194 (h:=?_)
     repeat'((conv=>whnf);first
         |refine aI.mk ?_ ?_
         |((apply bX;constructor)<;>intro h<;>(try simp only[aa]at h)<;>(try first|omega|contradiction))|(show ay _ 76 _ _ _ _;refine ay.gen [true,false] _ _ _ rfl p4 rfl rfl _ rfl ?_)|(show ay _ 53 _ _ _ _;refine ay.gen [true,false] _ _ _ rfl q rfl rfl _ rfl ?_)
         |refine nB ?_)
     all_goals first|rfl|exact⟨rfl,trivial⟩|(exfalso;simp at*;omega)
    |true=>
     rw[h4]at p4;have q:=dx (aJ s 4) (FJ.mono (by omega)) Dn 2 i2;have qb:=cV (aJ s 4) (n:=2) (by omega);have e:cI ⟨gt,ga⟩ false s=(.mk (1+cx (aJ s 4) 2) 0 [],aJ (aJ s 4) 2):=by simp[cI,gH,iC,g2,h4,g1]
     rw[e];simp only[gg];refine iG ?_;refine cX func194 (h:=?_)
     repeat'((conv=>whnf);first
         |refine aI.mk ?_ ?_
         |((apply bX;constructor)<;>intro h<;>(try simp only[aa]at h)<;>(try first|omega|contradiction))|(show ay _ 76 _ _ _ _;refine ay.gen [true,false] _ _ _ rfl p4 rfl rfl _ rfl ?_)|(show ay _ 53 _ _ _ _;refine ay.gen [true,false] _ _ _ rfl q rfl rfl _ rfl ?_)|(show Arith _ _ _;refine Arith.fit (bu (by omega) (by omega)) ?_))
     all_goals first|rfl|exact⟨rfl,trivial⟩|(exfalso;simp at*;omega)
   ·have q:=dx s (hs.mono (by omega)) hc 2 i2;have qb:=cV s (n:=2) (by omega);have e:cI ⟨gt,ga⟩ false s=(.mk (1+cx s 2) 0 [],aJ s 2):=by simp[cI,gH,iC,g2,g1]
    rw[e];simp only[gg];refine iG ?_;refine cX func194 (h:=?_)
    repeat'((conv=>whnf);first
       |refine aI.mk ?_ ?_
       |((apply bX;constructor)<;>intro h<;>(try simp only[aa]at h)<;>(try first|omega|contradiction))|(show ay _ 53 _ _ _ _;refine ay.gen [true,false] _ _ _ rfl q rfl rfl _ rfl ?_)|(show Arith _ _ _;refine Arith.fit (bu (by omega) (by omega)) ?_))
    all_goals first|rfl|exact⟨rfl,trivial⟩|(exfalso;simp at*;omega)
end
theorem ob(k:Int)(a b:aA):aE prog 195 [I k, .a 3 (aD a), .a 3 (aD b)] [] (.a 3 (aD (vD k a b))):=by
 obtain⟨a1,a2,a3⟩:=a;obtain⟨b1,b2,b3⟩:=b;have h:aE prog 195 [I k, .a 3 (aD (.mk a1 a2 a3)), .a 3 (aD (.mk b1 b2 b3))] [] (.a 3 [J k,J 0, .ows 66 3 [aD (.mk a1 a2 a3),aD (.mk b1 b2 b3)]]):=by
  refine cX func195 (h:=?_)
  repeat'((conv=>whnf);first
   |refine aI.mk ?_ ?_)
  all_goals first|rfl|trivial
 exact h.soft (.v (.a (.same (.same (.ro .nil)))))
theorem BX{P:Program}{f:Nat}{args:List SV}{outs:List (Option (List CV))}{k n:Int}{x:aA}(h:aE P f args outs (.a 3 [J k,J n, .ows 66 3 [aD x]])):aE P f args outs (.a 3 (aD (.mk k n [x]))):=
 h.soft (.v (.a (.same (.same (.ro .nil)))))
theorem zr(g:ku)(c:Bool)(s:Src):(cI g c s).2.code=s.code:=by
 unfold cI gH iC;split
 ·split
  ·split
   ·split<;>simp[dO]
   ·simp[dO]
  ·simp[dO]
 ·split
  ·split<;>simp[dO]
  ·simp[dO]
theorem Le(c:Bool)(s:Src)(n:Int):(kI c s n).code=s.code:=by
 unfold kI;split
 ·rfl
 ·exact dO s n
theorem kF(g:ku):∀(d:Nat) (c:Bool) (r:JH),(bY g d c r).2.s.code=r.s.code
 |0,c,r=>zr g c r.s
 |d+1,c,r=>by
  unfold bY;split
  ·exact zr g c r.s
  ·split
   ·exact(zr g c _).trans (dO _ _)
   ·simp only;split
    ·rw[kF];simp[dO]
    ·split
     ·rw[kF];simp[dO]
     ·rw[kF,Le,kF,Le,dO,dO]
theorem je(g:ku):∀(d:Nat) (c:Bool) (r:JH),(bY g d c r).2.left≤r.left/\r.left+1≤(bY g d c r).2.left+(2^(d+1):Nat)
 |0,c,r=>by show r.left-1≤r.left/\r.left+1≤r.left-1+(2:Nat);omega
 |d+1,c,r=>by
  have hp:=two_pow_succ (d+1);have h0:2≤2^(d+1):=by have:=two_pow_succ d;have:0<2^d:=Nat.pow_pos (by omega);omega
  unfold bY;split
  ·show r.left-1≤r.left/\r.left+1≤r.left-1+(2^(d+1+1):Nat);omega
  ·split
   ·show r.left-1≤r.left/\r.left+1≤r.left-1+(2^(d+1+1):Nat);omega
   ·simp only;split
    ·have:=je g d true ⟨aJ (aJ r.s 6) 10,r.left-1⟩;simp only[]at this⊢;omega
    ·split
     ·have:=je g d false ⟨aJ (aJ r.s 6) 10,r.left-1⟩;simp only[]at this⊢;omega
     ·have h1:=je g d (nJ c (aJ (aJ r.s 6) 10) 5) ⟨kI c (aJ (aJ r.s 6) 10) 5,r.left-1⟩;simp only[]at h1;generalize bY g d (nJ c (aJ (aJ r.s 6) 10) 5) ⟨kI c (aJ (aJ r.s 6) 10) 5,r.left-1⟩=X at h1;have h2:=je g d (nJ c X.2.s 6) ⟨kI c X.2.s 6,X.2.left⟩;simp only[]at h2⊢;omega
section
variable(g:ku)(hg:0≤g.aK/\g.aK≤3/\0≤g.aF/\g.aF≤4)
include hg
def Room(d:Nat)(r:JH)(n:Int):Prop:=Rd r.s n/\n+na d≤700000000/\r.s.code.length≤1000000/\ -100000≤r.left-(2^(d+1):Nat)/\r.left≤100000
theorem pL:∀(d:Nat) (dp:Int) (c:Bool) (r:JH) (n:Int),dp=d->Room d r n->d≤1000->
 aE prog 170 [.c (.op (gg r g)),B c,I dp] [some [.op (gg (bY g d c r).2 g)],none,none] (.a 3 (aD (bY g d c r).1))
 |0,dp,c,⟨s,left⟩,n,hdp,⟨hs,hn,hc,hl,hu⟩,hd=>by
  have h0:=nT 0;simp only[]at hs hc hl hu;have lf:=uk g hg (left-1) s (hs.mono (by omega)) hc c;have e1:bY g 0 c ⟨s,left⟩=((cI g c s).1,⟨(cI g c s).2,left-1⟩):=rfl;rw[e1];generalize cI g c s=X at lf⊢;obtain⟨⟨k1,n1,Aw⟩,s1⟩:=X;simp only[gg]at lf⊢;refine cX func170 (h:=?_)
  repeat'((conv=>whnf);first
   |refine aI.mk ?_ ?_
   |((apply bX;constructor)<;>intro h<;>(try simp only[aa]at h)<;>(try first|omega|contradiction))|(show ay _ 194 _ _ _ _;refine ay.gen [true,false] _ _ _ rfl lf rfl rfl _ rfl ?_)|(show Arith _ _ _;refine Arith.fit (bu (by omega) (by omega)) ?_))
  all_goals first|rfl|exact⟨rfl,trivial⟩|(exfalso;simp at*;omega)
 |d+1,dp,c,⟨s,left⟩,n,hdp,⟨hs,hn,hc,hl,hu⟩,hd=>by
  have h0:=nT d;have h1:=pU d;have hp:=two_pow_succ (d+1);have hq:2≤2^(d+1):=by have:=two_pow_succ d;have:0<2^d:=Nat.pow_pos (by omega);omega
  simp only[]at hs hc hl hu;have i6:lJ 6:=by unfold lJ;omega
  have i5:lJ 5:=by unfold lJ;omega
  have i10:lJ 10:=by unfold lJ;omega
  by_cases g1:left-1<1
  ·have lf:=uk g hg (left-1) s (hs.mono (by omega)) hc c;have e1:bY g (d+1) c ⟨s,left⟩=((cI g c s).1,⟨(cI g c s).2,left-1⟩):=by rw[bY,if_pos g1];rfl
   rw[e1];generalize cI g c s=X at lf⊢;obtain⟨⟨k1,n1,Aw⟩,s1⟩:=X;simp only[gg]at lf⊢;refine cX func170 (h:=?_)
   repeat'((conv=>whnf);first
    |refine aI.mk ?_ ?_
    |((apply bX;constructor)<;>intro h<;>(try simp only[aa]at h)<;>(try first|omega|contradiction))|(show ay _ 194 _ _ _ _;refine ay.gen [true,false] _ _ _ rfl lf rfl rfl _ rfl ?_)|(show Arith _ _ _;refine Arith.fit (bu (by omega) (by omega)) ?_))
   all_goals first|rfl|exact⟨rfl,trivial⟩|(exfalso;simp at*;omega)
  have p6:=jF s (hs.mono (by omega)) hc 6 i6;have V9:Rd (aJ s 6) (n+2):=hs.pick 6;have WB:(aJ s 6).code.length≤1000000:=by rw[dO];exact hc
  cases h6:ky s 6 with
  |true=>
   rw[h6]at p6;have lf:=uk g hg (left-1) (aJ s 6) (V9.mono (by omega)) WB c;have e1:bY g (d+1) c ⟨s,left⟩=((cI g c (aJ s 6)).1,⟨(cI g c (aJ s 6)).2,left-1⟩):=by rw[bY,if_neg g1,if_pos h6];rfl
   rw[e1];generalize cI g c (aJ s 6)=X at lf⊢;obtain⟨⟨k1,n1,Aw⟩,s1⟩:=X;simp only[gg]at lf⊢;refine cX func170 (h:=?_)
   repeat'((conv=>whnf);first
    |refine aI.mk ?_ ?_
    |((apply bX;constructor)<;>intro h<;>(try simp only[aa]at h)<;>(try first|omega|contradiction))|(show ay _ 76 _ _ _ _;refine ay.gen [true,false] _ _ _ rfl p6 rfl rfl _ rfl ?_)|(show ay _ 194 _ _ _ _;refine ay.gen [true,false] _ _ _ rfl lf rfl rfl _ rfl ?_)|(show Arith _ _ _;refine Arith.fit (bu (by omega) (by omega)) ?_))
   all_goals first|rfl|exact⟨rfl,trivial⟩|(exfalso;simp at*;omega)
  |false=>
   rw[h6]at p6;have pk:=dx (aJ s 6) (V9.mono (by omega)) WB 10 i10;have bk:=cV (aJ s 6) (n:=10) (by omega);have Ko:Rd (aJ (aJ s 6) 10) (n+4):=(V9.pick 10).mono (by omega);have Kt:(aJ (aJ s 6) 10).code.length≤1000000:=by rw[dO];exact WB
   rw[bY,if_neg g1,if_neg (by show¬ky s 6=true;rw[h6];simp)];simp only[];generalize cx (aJ s 6) 10=k at pk bk⊢;generalize aJ (aJ s 6) 10=sA at pk Ko Kt⊢;by_cases g2:k=0\/(c=true/\k<4)
   ·rw[if_pos g2];have ih:=pL d (dp-1) true ⟨sA,left-1⟩ (n+4) (by omega) ⟨Ko,by omega,Kt,by simp only[];omega,by simp only[];omega⟩ (by omega);generalize bY g d true ⟨sA,left-1⟩=X at ih⊢;obtain⟨⟨k1,n1,Aw⟩,⟨s1,l1⟩⟩:=X;simp only[gg]at ih⊢;refine BX ?_;cases c
    ·skip
     refine cX func170 (h:=?_)
     repeat'((conv=>whnf);first
       |refine aI.mk ?_ ?_
       |((apply bX;constructor)<;>intro h<;>(try simp only[aa]at h)<;>(try first|omega|contradiction))|(show ay _ 76 _ _ _ _;refine ay.gen [true,false] _ _ _ rfl p6 rfl rfl _ rfl ?_)|(show ay _ 53 _ _ _ _;refine ay.gen [true,false] _ _ _ rfl pk rfl rfl _ rfl ?_)|(show ay _ 170 _ _ _ _;refine ay.gen [true,false,false] _ _ _ rfl ih rfl rfl _ rfl ?_)|(show Arith _ _ _;refine Arith.fit (bu (by omega) (by omega)) ?_))
     all_goals first|rfl|exact⟨rfl,trivial⟩|(exfalso;simp at*;omega)
    ·skip
     refine cX func170 (h:=?_)
     repeat'((conv=>whnf);first
       |refine aI.mk ?_ ?_
       |((apply bX;constructor)<;>intro h<;>(try simp only[aa]at h)<;>(try first|omega|contradiction))|(show ay _ 76 _ _ _ _;refine ay.gen [true,false] _ _ _ rfl p6 rfl rfl _ rfl ?_)|(show ay _ 53 _ _ _ _;refine ay.gen [true,false] _ _ _ rfl pk rfl rfl _ rfl ?_)|(show ay _ 170 _ _ _ _;refine ay.gen [true,false,false] _ _ _ rfl ih rfl rfl _ rfl ?_)|(show Arith _ _ _;refine Arith.fit (bu (by omega) (by omega)) ?_))
     all_goals first|rfl|exact⟨rfl,trivial⟩|(exfalso;simp at*;omega)
   rw[if_neg g2];by_cases g3:k<4
   ·rw[if_pos g3];have ih:=pL d (dp-1) false ⟨sA,left-1⟩ (n+4) (by omega) ⟨Ko,by omega,Kt,by simp only[];omega,by simp only[];omega⟩ (by omega);generalize bY g d false ⟨sA,left-1⟩=X at ih⊢;obtain⟨⟨k1,n1,Aw⟩,⟨s1,l1⟩⟩:=X;simp only[gg]at ih⊢;refine BX ?_;cases c
    ·skip
     refine cX func170 (h:=?_)
     repeat'((conv=>whnf);first
       |refine aI.mk ?_ ?_
       |((apply bX;constructor)<;>intro h<;>(try simp only[aa]at h)<;>(try first|omega|contradiction))|(show ay _ 76 _ _ _ _;refine ay.gen [true,false] _ _ _ rfl p6 rfl rfl _ rfl ?_)|(show ay _ 53 _ _ _ _;refine ay.gen [true,false] _ _ _ rfl pk rfl rfl _ rfl ?_)|(show ay _ 170 _ _ _ _;refine ay.gen [true,false,false] _ _ _ rfl ih rfl rfl _ rfl ?_)|(show Arith _ _ _;refine Arith.fit (bu (by omega) (by omega)) ?_))
     all_goals first|rfl|exact⟨rfl,trivial⟩|(exfalso;simp at*;omega)
    ·skip
     refine cX func170 (h:=?_)
     repeat'((conv=>whnf);first
       |((apply bX;constructor)<;>intro h<;>(try simp only[aa]at h)<;>(try first|omega|contradiction))|(show ay _ 76 _ _ _ _;refine ay.gen [true,false] _ _ _ rfl p6 rfl rfl _ rfl ?_)|(show ay _ 53 _ _ _ _;refine ay.gen [true,false] _ _ _ rfl pk rfl rfl _ rfl ?_)|(show Arith _ _ _;refine Arith.fit (bu (by omega) (by omega)) ?_))
     all_goals first|rfl|exact⟨rfl,trivial⟩|(exfalso;simp at*;omega)
   rw[if_neg g3];cases c with
   |true=>
    simp only[nJ,kI,if_true];have ia:=pL d (dp-1) true ⟨sA,left-1⟩ (n+4) (by omega) ⟨Ko,by omega,Kt,by simp only[];omega,by simp only[];omega⟩ (by omega);have ra:=Rd.expr g d true ⟨sA,left-1⟩ Ko;have la:=je g d true ⟨sA,left-1⟩;have ca:=kF g d true ⟨sA,left-1⟩;generalize bY g d true ⟨sA,left-1⟩=X at ia ra la ca⊢;obtain⟨⟨k1,n1,Aw⟩,⟨s1,l1⟩⟩:=X;simp only[]at ra la ca ia⊢;have ib:=pL d (dp-1) true ⟨s1,l1⟩ (n+4+na d) (by omega) ⟨ra,by omega,by simp only[];rw[ca];exact Kt,by simp only[];omega,by simp only[];omega⟩ (by omega);generalize bY g d true ⟨s1,l1⟩=Y at ib⊢;obtain⟨⟨k2,n2,OQ⟩,⟨s2,l2⟩⟩:=Y;simp only[gg]at ia ib⊢
    by_cases g4:k<6
    ·rw[if_pos g4];have pr:=ob 6 (.mk k1 n1 Aw) (.mk k2 n2 OQ);refine cX func170 (h:=?_)
     repeat'((conv=>whnf);first
        |refine aI.mk ?_ ?_
        |((apply bX;constructor)<;>intro h<;>(try simp only[aa]at h)<;>(try first|omega|contradiction))|(show ay _ 76 _ _ _ _;refine ay.gen [true,false] _ _ _ rfl p6 rfl rfl _ rfl ?_)|(show ay _ 53 _ _ _ _;refine ay.gen [true,false] _ _ _ rfl pk rfl rfl _ rfl ?_)|(show ay _ 170 _ _ _ _;(first|refine ay.gen [true,false,false] _ _ _ rfl ia rfl rfl _ rfl ?_|refine ay.gen [true,false,false] _ _ _ rfl ib rfl rfl _ rfl ?_))|(show ay _ 195 _ _ _ _;refine ay.pure _ _ rfl pr rfl _ rfl ?_)|(show Arith _ _ _;refine Arith.fit (bu (by omega) (by omega)) ?_))
     all_goals first|rfl|exact⟨rfl,trivial⟩|(exfalso;simp at*;omega)
    ·rw[if_neg g4];have pr:=ob 7 (.mk k1 n1 Aw) (.mk k2 n2 OQ);refine cX func170 (h:=?_)
     repeat'((conv=>whnf);first
        |refine aI.mk ?_ ?_
        |((apply bX;constructor)<;>intro h<;>(try simp only[aa]at h)<;>(try first|omega|contradiction))|(show ay _ 76 _ _ _ _;refine ay.gen [true,false] _ _ _ rfl p6 rfl rfl _ rfl ?_)|(show ay _ 53 _ _ _ _;refine ay.gen [true,false] _ _ _ rfl pk rfl rfl _ rfl ?_)|(show ay _ 170 _ _ _ _;(first|refine ay.gen [true,false,false] _ _ _ rfl ia rfl rfl _ rfl ?_|refine ay.gen [true,false,false] _ _ _ rfl ib rfl rfl _ rfl ?_))|(show ay _ 195 _ _ _ _;refine ay.pure _ _ rfl pr rfl _ rfl ?_)|(show Arith _ _ _;refine Arith.fit (bu (by omega) (by omega)) ?_))
     all_goals first|rfl|exact⟨rfl,trivial⟩|(exfalso;simp at*;omega)
   |false=>
    simp only[nJ,kI,Bool.false_eq_true,if_false];have p5:=jF sA (Ko.mono (by omega)) Kt 5 i5;have V6:Rd (aJ sA 5) (n+6):=(Ko.pick 5).mono (by omega);have Vy:(aJ sA 5).code.length≤1000000:=by rw[dO];exact Kt
    generalize ky sA 5=b5 at p5⊢;generalize aJ sA 5=sB at p5 V6 Vy⊢;have ia:=pL d (dp-1) b5 ⟨sB,left-1⟩ (n+6) (by omega) ⟨V6,by omega,Vy,by simp only[];omega,by simp only[];omega⟩ (by omega);have ra:=Rd.expr g d b5 ⟨sB,left-1⟩ V6;have la:=je g d b5 ⟨sB,left-1⟩;have ca:=kF g d b5 ⟨sB,left-1⟩;generalize bY g d b5 ⟨sB,left-1⟩=X at ia ra la ca⊢;obtain⟨⟨k1,n1,Aw⟩,⟨s1,l1⟩⟩:=X;simp only[]at ra la ca ia⊢;have yF:s1.code.length≤1000000:=by rw[ca];exact Vy
    have p1:=jF s1 (ra.mono (by omega)) yF 6 i6;have rb:Rd (aJ s1 6) (n+8+na d):=(ra.pick 6).mono (by omega);have K7:(aJ s1 6).code.length≤1000000:=by rw[dO];exact yF
    generalize ky s1 6=b6 at p1⊢;generalize aJ s1 6=sC at p1 rb K7⊢;have ib:=pL d (dp-1) b6 ⟨sC,l1⟩ (n+8+na d) (by omega) ⟨rb,by omega,K7,by simp only[];omega,by simp only[];omega⟩ (by omega);generalize bY g d b6 ⟨sC,l1⟩=Y at ib⊢;obtain⟨⟨k2,n2,OQ⟩,⟨s2,l2⟩⟩:=Y;simp only[gg]at ia ib⊢;by_cases g4:k<6
    ·rw[if_pos g4];have pr:=ob 6 (.mk k1 n1 Aw) (.mk k2 n2 OQ);refine cX func170 (h:=?_)
     repeat'((conv=>whnf);first
        |refine aI.mk ?_ ?_
        |((apply bX;constructor)<;>intro h<;>(try simp only[aa]at h)<;>(try first|omega|contradiction))|(show ay _ 76 _ _ _ _;(first|refine ay.gen [true,false] _ _ _ rfl p6 rfl rfl _ rfl ?_|refine ay.gen [true,false] _ _ _ rfl p5 rfl rfl _ rfl ?_|refine ay.gen [true,false] _ _ _ rfl p1 rfl rfl _ rfl ?_))|(show ay _ 53 _ _ _ _;refine ay.gen [true,false] _ _ _ rfl pk rfl rfl _ rfl ?_)|(show ay _ 170 _ _ _ _;(first|refine ay.gen [true,false,false] _ _ _ rfl ia rfl rfl _ rfl ?_|refine ay.gen [true,false,false] _ _ _ rfl ib rfl rfl _ rfl ?_))|(show ay _ 195 _ _ _ _;refine ay.pure _ _ rfl pr rfl _ rfl ?_)|(show Arith _ _ _;refine Arith.fit (bu (by omega) (by omega)) ?_))
     all_goals first|rfl|exact⟨rfl,trivial⟩|(exfalso;simp at*;omega)
    ·rw[if_neg g4];have pr:=ob 7 (.mk k1 n1 Aw) (.mk k2 n2 OQ);refine cX func170 (h:=?_)
     repeat'((conv=>whnf);first
        |refine aI.mk ?_ ?_
        |((apply bX;constructor)<;>intro h<;>(try simp only[aa]at h)<;>(try first|omega|contradiction))|(show ay _ 76 _ _ _ _;(first|refine ay.gen [true,false] _ _ _ rfl p6 rfl rfl _ rfl ?_|refine ay.gen [true,false] _ _ _ rfl p5 rfl rfl _ rfl ?_|refine ay.gen [true,false] _ _ _ rfl p1 rfl rfl _ rfl ?_))|(show ay _ 53 _ _ _ _;refine ay.gen [true,false] _ _ _ rfl pk rfl rfl _ rfl ?_)|(show ay _ 170 _ _ _ _;(first|refine ay.gen [true,false,false] _ _ _ rfl ia rfl rfl _ rfl ?_|refine ay.gen [true,false,false] _ _ _ rfl ib rfl rfl _ rfl ?_))|(show ay _ 195 _ _ _ _;refine ay.pure _ _ rfl pr rfl _ rfl ?_)|(show Arith _ _ _;refine Arith.fit (bu (by omega) (by omega)) ?_))
     all_goals first|rfl|exact⟨rfl,trivial⟩|(exfalso;simp at*;omega)
end
abbrev Nj(b:UInt8):List CV:=[.val (.int .u8 (b.toNat:Int))]
abbrev RV(code:List UInt8):Src:=⟨code,0,0⟩
theorem Am(code:List UInt8):aE prog 35 [.c (.ro 1 (code.map Nj))] [] (.c (.op (dz (RV code)))):=by
 refine cX func35 (h:=?_)
 repeat'((conv=>whnf);first
  |refine aI.mk ?_ ?_)
 all_goals first|rfl|trivial
theorem OI(l:List Int)(hl:0<l.length/\l.length≤1000)(s:Src)(hs:Rd s 900000000)(hc:s.code.length≤1000000):aE prog 73 [.c (.op (dz s)), .c (.ro 1 (l.map eI))] [some [.op (dz (EN l s))],none] (I (wD l s)):=by
 have i:lJ (l.length:Int):=by unfold lJ;omega
 have p:=dx s hs hc l.length i;have b:=cV s (n:=l.length) (by omega);unfold EN wD;generalize cx s (l.length:Int)=k at p b⊢;generalize aJ s (l.length:Int)=s1 at p⊢;rw[<-List.length_map (f:=eI)]at p;refine cX func73 (h:=?_)
 repeat'((conv=>whnf);first
  |refine aI.mk ?_ ?_
  |(apply Fact.mk;intro hL;try simp only[aa,maxLen]at hL)|(show ay _ 53 _ _ _ _;refine ay.gen [true,false] _ _ _ rfl p rfl rfl _ rfl ?_)|(show Index _ _ _;first|(refine Index.mk _ (aN (l:=l) (d:=0) (i:=k.toNat) (by omega)) ?_)|fail)
  |refine nO ?_)
 all_goals first|rfl|exact⟨rfl,trivial⟩|(exfalso;simp at*;omega)
theorem L5(l:List Int)(hl:0<l.length/\l.length≤1000)(s:Src)(hs:Rd s 900000000)(hc:s.code.length≤1000000):aE prog 73 [.c (.op (dz s)), .c (.ows 2 1 (l.map eI))] [some [.op (dz (EN l s))],none] (I (wD l s)):=(OI l hl s hs hc).Tq (.same (.c .nil))
theorem MH(a b:Int):aS prog 77 [I a,I b] (I (if a>b then a else b)):=by
 refine cF func77 (h:=?_)
 repeat'((conv=>whnf);first
  |(apply bP.mk;first|(simp_all[dj,dh];done)|(simp_all[dj,dh];omega;done)|skip)
  |((apply bX;constructor)<;>intro h<;>(try simp only[aa]at h)<;>(try first|omega|contradiction)))
section
variable(g:ku)(hg:0≤g.aK/\g.aK≤3/\0≤g.aF/\g.aF≤4)(s:Src)(m:Int)(hs:Rd s m)(hq:m≤500000)(hc:s.code.length≤1000000)(A:Int)(hA:1≤A/\A≤8)(jC:aS prog 0 [.a 2 [J g.aK,J g.aF]] (I A))
include hg hs hq hc hA jC
end
section
variable(g:ku)(hg:0≤g.aK/\g.aK≤3/\0≤g.aF/\g.aF≤4)
include hg
end
def iz(l:List Int):List Int:=l.mergeSort fun x y=>decide (x≤y)
theorem uf(l:List Int):(iz l).Perm l:=List.mergeSort_perm l _
theorem sj(l:List Int):(iz l).length=l.length:=(uf l).length_eq
theorem En(l:List Int):(iz l).Pairwise (· ≤·):=by
 have:=List.pairwise_mergeSort (le:=fun x y:Int=>decide (x≤y)) (by intro a b c;simp;omega) (by intro a b;simp;omega) l;exact this.imp fun h=>of_decide_eq_true h
theorem HS{l m:List Int}(hm:m.Pairwise (· < ·))(hl:l.Nodup)(h:∀x,x∈l↔x∈m):iz l=m:=by
 have WK:m.Nodup:=hm.imp fun h=>by omega
 have hp:(iz l).Perm m:=(uf l).trans ((List.perm_ext_iff_of_nodup hl WK).2 h);exact List.Perm.eq_of_pairwise (le:=fun x y:Int=>x≤y) (fun a b _ _ h1 h2=>by omega) (En l) (hm.imp fun h=>by omega) hp
theorem DT(n:Nat)(p:Nat->Bool):(fF n p).Pairwise (· < ·):=by
 unfold fF;rw[List.pairwise_map];exact(List.pairwise_lt_range.filter p).imp fun h=>by omega
theorem px{n:Nat}{p:Nat->Bool}{x:Int}:x∈fF n p↔∃i:Nat,i<n/\p i=true/\(i:Int)=x:=by
 unfold fF;simp only[List.mem_map,List.mem_filter,List.mem_range];constructor
 ·rintro⟨i,⟨h1,h2⟩,h3⟩;exact⟨i,h1,h2,h3⟩
 ·rintro⟨i,h1,h2,h3⟩;exact⟨i,⟨h1,h2⟩,h3⟩
theorem HH{l:List Int}{p:Nat->Bool}(hl:l.Nodup)(hr:∀x∈l,0≤x/\x≤99)(hp:∀i:Nat,i<100->(p i=true↔(i:Int)∈l)):iz l=fF 100 p:=by
 refine HS (DT _ _) hl fun x=>?_
 rw[px];constructor
 ·intro hx;have:=hr x hx;refine⟨x.toNat,by omega,(hp _ (by omega)).2 ?_,by omega⟩;rwa[show((x.toNat:Nat):Int)=x by omega]
 ·rintro⟨i,h1,h2,rfl⟩;exact(hp i h1).1 h2
def jZ(l:List aT)(r:Bool):List Int:=(l.filter (·.bT==r)).map (·.id)
theorem lX{l:List aT}{r:Bool}{x:Int}:x∈jZ l r↔0≤bf l r x:=by
 unfold jZ bf;rw[lZ];simp only[List.mem_map,List.mem_filter,ef,ab,beq_iff_eq];constructor
 ·rintro⟨y,⟨h1,h2⟩,h3⟩;exact⟨y,h1,h2,h3⟩
 ·rintro⟨y,h1,h2,h3⟩;exact⟨y,⟨h1,h2⟩,h3⟩
theorem zJ{l:List aT}{i:Nat}(h:i<l.length)(r:Bool):jZ (l.take (i+1)) r=jZ (l.take i) r++(if l[i].bT=r then[l[i].id]else[]):=by
 unfold jZ;rw[List.take_add_one,List.getElem?_eq_getElem h,List.filter_append,au];by_cases hr:l[i].bT=r<;>simp[hr]
theorem xu{t a:Int}{l:List aT}(hg:cS t a l=true){i:Nat}(hi:i<l.length):cU t a l[i]=true/\bf (l.take i) l[i].bT l[i].id<0/\iO (l.take i) l[i].entry.bI=true:=by
 have:=FP hg hi;unfold gy at this;rw[getD_eq hi]at this;simpa only[ab,decide_eq_true_eq]using this
theorem SD{t a:Int}{l:List aT}(hg:cS t a l=true)(n:Nat):cS t a (l.take n)=true:=by
 unfold cS nS;rw[aj];intro i hi;have hi:i<(l.take n).length:=by simpa using hi
 have h1:i<l.length:=by rw[aq]at hi;omega
 have h2:i<n:=by rw[aq]at hi;omega
 have h3:=xu hg h1;unfold gy;rw[getD_eq hi,List.getElem_take,List.take_take,Nat.min_eq_left (by omega)];simp[h3.1,h3.2.1,h3.2.2]
theorem MI{t a:Int}{l:List aT}(hg:cS t a l=true)(r:Bool):(jZ l r).Nodup:=by
 have key:∀i,i≤l.length->(jZ (l.take i) r).Nodup:=by
  intro i
  induction i with
  |zero=>intro _;simp[jZ]
  |succ i ih=>
   intro hi;have h1:=xu hg (show i<l.length by omega);rw[zJ (by omega)];by_cases hr:l[i].bT=r
   ·rw[if_pos hr];refine List.nodup_append.2 ⟨ih (by omega),by simp,fun x hx y hy=>?_⟩;have hy:=List.mem_singleton.1 hy;subst hy;rintro rfl;have:=lX.1 hx;rw[hr]at h1;omega
   ·rw[if_neg hr,List.append_nil];exact ih (by omega)
 have:=key l.length (aw _);rwa[List.take_length]at this
theorem pB{t a:Int}{l:List aT}(hg:cS t a l=true)(r:Bool):∀x∈jZ l r,0≤x/\x≤99:=by
 intro x hx;unfold jZ at hx;obtain⟨y,hy,rfl⟩:=List.mem_map.1 hx;obtain⟨i,hi,rfl⟩:=List.mem_iff_getElem.1 (List.mem_filter.1 hy).1;have h1:=(xu hg hi).1;unfold cU at h1;simp only[ab]at h1;exact bQ h1.1
theorem KE{t a:Int}{l:List aT}(hg:cS t a l=true)(r:Bool):iz (jZ l r)=fF 100 fun i=>decide (0≤bf l r i):=
 HH (MI hg r) (pB hg r) fun i _=>by rw[decide_eq_true_iff,lX]
theorem jv{a:aB}(h:GA a){i:Nat}(hi:i<a.az.length):cS a.sig.aK a.sig.aF (a.az.getD i ck).notes=true/\(a.az.getD i ck).notes.length≤20:=by
 have h4:=aj.1 h.2.2.2.1 _ (ag hi);rw[getD_eq hi];unfold cO at h4;simp only[ab,decide_eq_true_eq]at h4;exact⟨h4.2.2.2,by omega⟩
theorem Qc{w:World}{ok:Nat->Prop}:∀{l:List Int} {xs:List Value} {f:List Nat},Den w ok (l.map eI).flatten xs f->xs=l.map (Value.int .i64)
 |[],_,_,h=>by cases h;rfl
 |a::l,xs,f,h=>by
  cases h with
  |val _ ht=>
   rw[List.map_cons];exact congrArg _ (Qc ht)
theorem I8{w:World}{ok:Nat->Prop}:∀l:List Int,Den w ok (l.map eI).flatten (l.map (Value.int .i64)) []
 |[]=> .nil
 |a::l=> .val rfl (I8 l)
theorem K9(l:List Int)(hl:l.length≤1048576):aE prog 103 [.c (.ows 2 1 (l.map eI))] [some [.ows 2 1 ((iz l).map eI)]] (.tup []):=by
 refine⟨⟨_,func103,rfl,rfl⟩,?_⟩;intro w ok vs fs cH zp gB yN;cases zp with
 |cons h ht=>
  cases ht;have hd:=Pr rfl h;cases hd with
  |ows bw hr ho ht=>
   cases ht;rw[Qc bw]at ho;have hlen:(l.map eI).length=l.length:=aa _;rw[hlen]at ho;have oT:∀r∈(iz l).map eI,r.length=1:=by
        intro r hr;obtain⟨x,_,rfl⟩:=List.mem_map.1 hr;rfl
   rcases ho.2 with⟨hv,h0⟩|⟨g,cap,cur,hv,_,hb,hn,hm,hs,wi⟩
   ·subst hv;obtain rfl:=List.eq_nil_of_length_eq_zero h0;refine(AnyG.slices_Sort_int_none LX none 0 w).mono ?_;rintro e w' ⟨rfl,rfl⟩;refine⟨_,[],[],rfl,⟨rfl,rfl,rfl,aw _,fun _ _ _=>rfl⟩,by simp,by simp, .tup .nil,?_⟩;have VU:iz []=[]:=List.mergeSort_nil;rw[VU]at oT⊢;have h1:Den w' (zc ok ((Value.slice none 0 0).ownBlock.toList++[]++[]) ([]++[]) w' w') [.ows 2 1 (([]:List Int).map eI)] (Value.slice none 0 0).cells.toList ((Value.slice none 0 0).ownBlock.toList++[]):=
       .ows (xs:=[]) (I8 []) oT (World.ownsRow_nil _ _ _ _) .nil
    exact .some (v:= .slice none 0 0) h1 (fun _ h=>by cases h) .nil
   ·subst hv;have abM:cur.toList.take l.length=l.map (Value.int .i64):=by rw[<-wi,Nat.mul_one]
    have hg:g<w.heap.size:=(Array.getElem?_eq_some_iff.1 hb).1;refine(AnyG.slices_Sort_int LX g 0 cap l w (holds_of_blockI hb abM) hg (by omega)).mono ?_;rintro e w' ⟨rfl,n,os,rfl⟩;have Fb:=grownBy_sortedI (w:=w) (g:=g) (n:=n) (os:=os) (iz l).toArray;have how:=ownsRow_sortedI (w:=w) (base:=0) (n:=n) (os:=os) (ss:=l) (ts:=iz l) (sj l) (ah _) hb hn hm hs;refine⟨_,[],[g],rfl,⟨Fb.os,Fb.tape,Fb.output,Fb.size,fun b hb jr=>Fb.block b hb ?_⟩,by simp,?_, .tup .nil,?_⟩
    ·intro e;obtain rfl:=Option.some.inj e;exact jr (by simp[Value.ownBlock])
    ·intro b fX;obtain rfl:=List.mem_singleton.1 fX;exact⟨.inl (by simp[Value.ownBlock]),Nat.lt_of_lt_of_le hg Fb.size⟩
    ·rw[<-sj l]at how⊢;refine .some (g:=[g]) (f:=[]) (.ows (xs:=(iz l).map (Value.int .i64)) (f:=[]) (I8 _) oT ?_ .nil) (fun _ h=>by cases h) .nil;rw[aa];exact how
theorem LG(l:List aT)(r:Bool):(jZ l r).length≤l.length:=by
 have:=List.length_filter_le (·.bT==r) l;simpa[jZ]using this
theorem Gm(l:List aT)(r:Bool)(hl:l.length≤20):aE prog 56 [.c (.ro 7 (l.map bG)),B r] [] (.c (.ows 2 1 ((iz (jZ l r)).map eI))):=by
 have hn:=fun i=>LG (l.take i) r
 refine cX func56 (h:=?_)
 repeat'((conv=>whnf);first
  |refine aI.mk ?_ ?_|(show aZ 3 _ _ _ _ _ _;refine qJ (Nat × List Int) [1,9,10] (fun⟨i,R⟩=>[(5, .lw 1),(11,I i)]) (fun⟨i,R⟩=>[(1, .row none 2 1 (R.map eI))]) (fun⟨i,R⟩=>i≤l.length/\R=jZ (l.take i) r) (fun⟨i,R⟩=>l.length-i) (0,[]) (by exact⟨ah _,rfl⟩) (fun A ha=>?_);obtain⟨i,R⟩:=A;have ha:i≤l.length/\R=jZ (l.take i) r:=ha;have hb:=hn i;rw[aq,<-ha.2]at hb)
  |refine nx ((i+1,R++[l[i].id]):Nat × List Int) (by(have hi:i<l.length:=(by omega);refine⟨hi,?_⟩;show R++_=_;have h1:l[i].bT=r:=(by simpa using h);rw[zJ hi,if_pos h1,ha.2]))
  |refine nx ((i+1,R):Nat × List Int) (by(have hi:i<l.length:=(by omega);refine⟨hi,?_⟩;show R=_;have h1:¬l[i].bT=r:=(by simpa using h);rw[zJ hi,if_neg h1,List.append_nil,ha.2]))
  |(apply Fact.mk;intro hL;try simp only[aa,maxLen]at hL)
  |((apply bX;constructor)<;>intro h<;>(try simp only[aa]at h)<;>(try first|omega|contradiction))|(show ay _ 103 _ _ _ _;refine cG [true] rfl (K9 R (by omega)) ?_)
  |refine aR ?_|(show Index _ _ _;first|(refine Index.mk _ (bZ (i:=i) (by omega)) ?_)|fail)|(show bh _ _;refine bh.mk (by first|((simp only[aa,List.length_cons,List.length_nil,maxLen];constructor<;>omega))|fail) ?_)
  |refine nO ?_)
 all_goals first|rfl|trivial|(have h9:=ha.2;rw[ar (by omega)]at h9;rw[h9];done)
theorem WQ(l:List aT)(r:Bool):∀i,(fF i fun i=>decide (0≤bf l r i)).length≤i:=fun i=>jI i _
theorem sw(l:List aT)(r:Bool):aE prog 58 [.c (.ro 7 (l.map bG)),B r] [] (.c (.ows 2 1 ((fF 100 fun i=>decide (0≤bf l r i)).map eI))):=by
 refine cX func58 (h:=?_)
 repeat'((conv=>whnf);first
  |refine aI.mk ?_ ?_|(show aZ 3 _ _ _ _ _ _;refine qJ (Nat × List Int) [0,1] (fun⟨i,R⟩=>[(5, .lw 1),(6,I (i:Nat))]) (fun⟨i,R⟩=>[(1, .row none 2 1 (R.map eI))]) (fun⟨i,R⟩=>i≤100/\R=fF i (fun i=>decide (0≤bf l r i))) (fun⟨i,R⟩=>100-i) (0,[]) (by exact⟨ah _,rfl⟩) (fun A ha=>?_);obtain⟨i,R⟩:=A;have ha:i≤100/\R=fF i (fun i=>decide (0≤bf l r i)):=ha;have hb:=WQ l r i;rw[<-ha.2]at hb)
  |refine nx ((i+1,R++[(i:Int)]):Nat × List Int) (by(refine⟨by show i+1≤_;omega,?_⟩;show R++_=_;rw[pq (decide_eq_true h),ha.2]))
  |refine nx ((i+1,R):Nat × List Int) (by(refine⟨by show i+1≤_;omega,?_⟩;show R=_;rw[oK (decide_eq_false h),ha.2]))
  |(apply Fact.mk;intro hL;try simp only[aa,maxLen]at hL)
  |((apply bX;constructor)<;>intro h<;>(try simp only[aa]at h)<;>(try first|omega|contradiction))|(show ay _ 60 _ _ _ _;refine cP rfl (jd l r _) ?_)
  |refine aR ?_|(show bh _ _;refine bh.mk (by first|((simp only[aa,List.length_cons,List.length_nil,maxLen];constructor<;>omega))|fail) ?_))
 all_goals first|rfl|trivial|(have e:i=100:=(by omega);have h9:=ha.2;rw[e]at h9;rw[h9];done)
theorem kZ{a:aB}{s:Int}(h:bW a s=true):0≤s/\s.toNat<a.az.length:=by
 have:=bQ h;omega
section
variable(a:aB)(s:Int)(hl:bS a≤1048576)
include hl
theorem HJ(h:sW a s 0=0):aE prog 20 [qH a,I s] [] (uV (iz (jZ (a.az.getD s.toNat ck).notes false)) 0):=by
 have hg:=tG h;have hs:=kZ hg.2.1;have hn:=(jv hg.1 hs.2).2;have hk:=mQ a s 0 hl;rw[h]at hk;refine cX func20 (h:=?_)
 repeat'((conv=>whnf);first
  |refine aI.mk ?_ ?_
  |((apply bX;constructor)<;>intro h<;>(try simp only[aa]at h)<;>(try first|omega|contradiction))|(show ay _ 55 _ _ _ _;refine cP rfl (hk) ?_)|(show ay _ 56 _ _ _ _;refine cG [] rfl (Gm (a.az.getD s.toNat ck).notes false hn) ?_)|(show Index _ _ _;first|(refine Index.mk _ (aN (d:=ck) (i:=s.toNat) (by omega)) ?_)|fail)
  |refine nO ?_)
 all_goals first|rfl|trivial
theorem yr(h:sW a s 0=0):aE prog 22 [qH a,I s] [] (uV (iz (jZ (a.az.getD s.toNat ck).notes false)) 0):=by
 have hg:=tG h;have hs:=kZ hg.2.1;have hn:=(jv hg.1 hs.2).1;have hi:=sw (a.az.getD s.toNat ck).notes false;rw[<-KE hn]at hi;have hk:=r6 a s 0 hl;rw[h]at hk;refine cX func22 (h:=?_)
 repeat'((conv=>whnf);first
  |refine aI.mk ?_ ?_
  |((apply bX;constructor)<;>intro h<;>(try simp only[aa]at h)<;>(try first|omega|contradiction))|(show ay _ 57 _ _ _ _;refine cP rfl (hk) ?_)|(show ay _ 58 _ _ _ _;refine cG [] rfl (hi) ?_)|(show Index _ _ _;first|(refine Index.mk _ (aN (d:=ck) (i:=s.toNat) (by omega)) ?_)|fail)
  |refine nO ?_)
 all_goals first|rfl|trivial
end
section
variable(a:aB)(s:Int)(hl:bS a≤1048576)
include hl
theorem Bx(h:sW a s 0=0):aE prog 21 [qH a,I s] [] (uV (iz (jZ (a.az.getD s.toNat ck).notes true)) 0):=by
 have hg:=tG h;have hs:=kZ hg.2.1;have hn:=(jv hg.1 hs.2).2;have hk:=mQ a s 0 hl;rw[h]at hk;refine cX func21 (h:=?_)
 repeat'((conv=>whnf);first
  |refine aI.mk ?_ ?_
  |((apply bX;constructor)<;>intro h<;>(try simp only[aa]at h)<;>(try first|omega|contradiction))|(show ay _ 55 _ _ _ _;refine cP rfl (hk) ?_)|(show ay _ 56 _ _ _ _;refine cG [] rfl (Gm (a.az.getD s.toNat ck).notes true hn) ?_)|(show Index _ _ _;first|(refine Index.mk _ (aN (d:=ck) (i:=s.toNat) (by omega)) ?_)|fail)
  |refine nO ?_)
 all_goals first|rfl|trivial
theorem vg(h:sW a s 0=0):aE prog 23 [qH a,I s] [] (uV (iz (jZ (a.az.getD s.toNat ck).notes true)) 0):=by
 have hg:=tG h;have hs:=kZ hg.2.1;have hn:=(jv hg.1 hs.2).1;have hi:=sw (a.az.getD s.toNat ck).notes true;rw[<-KE hn]at hi;have hk:=r6 a s 0 hl;rw[h]at hk;refine cX func23 (h:=?_)
 repeat'((conv=>whnf);first
  |refine aI.mk ?_ ?_
  |((apply bX;constructor)<;>intro h<;>(try simp only[aa]at h)<;>(try first|omega|contradiction))|(show ay _ 57 _ _ _ _;refine cP rfl (hk) ?_)|(show ay _ 58 _ _ _ _;refine cG [] rfl (hi) ?_)|(show Index _ _ _;first|(refine Index.mk _ (aN (d:=ck) (i:=s.toNat) (by omega)) ?_)|fail)
  |refine nO ?_)
 all_goals first|rfl|trivial
end
def Th(i:Nat):ByteArray:=if i<10 then⟨#[UInt8.ofNat (48+i)]⟩else⟨#[UInt8.ofNat (48+i/10),UInt8.ofNat (48+i % 10)]⟩
theorem Nk(i:Nat):(Th i).size≤2:=by
 unfold Th;split
 ·show 1≤2;omega
 ·show 2≤2;omega
abbrev b1(x:UInt8):ByteArray:=⟨#[x]⟩
def WL(k n:Int)(l:List ByteArray):ByteArray:=
 if k=1 then b1 48 else if k=2 then b1 49 else if k=3 then b1 116++Th n.toNat else if k=4 then b1 97++Th n.toNat
 else if k=5 then b1 126++l.getD 0 .empty else if k=8 then l.getD 0 .empty++b1 42
 else if k=6 then b1 40++l.getD 0 .empty++⟨#[32,43,32]⟩++l.getD 1 .empty++b1 41
 else b1 40++l.getD 0 .empty++b1 32++l.getD 1 .empty++b1 41
mutual
def IS:aA->ByteArray
 | .mk k n kids=>WL k n (FV kids)
def FV:List aA->List ByteArray
 |[]=>[]
 |x::xs=>IS x::FV xs
end
mutual
def QG:aA->Bool
 | .mk k n kids=>(ee 1 8 k&&decide ((kids.length:Int)=dt k))&&((!(decide (k=3)||decide (k=4))||ee 0 99 n)&&ON kids)
def ON:List aA->Bool
 |[]=>true
 |x::xs=>QG x&&ON xs
end
theorem PB(x:UInt8):(b1 x).size=1:=rfl
section
variable(Y:aA->Prop)(hY:∀x,Y x->QG x=true->(IS x).size≤1000000000->aS prog 0 [.c (.rp 3 (aD x))] (.c (.val (.string (IS x)))))
include hY
end
end Go.Proofs.YtgbggaddpbghfaaGreat
