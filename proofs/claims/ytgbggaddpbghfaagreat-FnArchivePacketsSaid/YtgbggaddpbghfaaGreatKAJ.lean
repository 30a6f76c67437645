/- Contracts of the draws of expressions. No conditions but bounds of size. -/
import Derived.Test.YtgbggaddpbghfaaGreatKAI
namespace Go.Proofs.YtgbggaddpbghfaaGreat
open Go Go.KA Go.Proofs
set_option maxHeartbeats 16000000
set_option maxRecDepth 100000
theorem mz(k:Int)(a b:ae):ah Tryz.prog 195 [I k, .a 3 (ag a), .a 3 (ag b)] [] (.a 3 (ag (sw k a b))):=by
 obtain⟨a1,a2,a3⟩:=a
 obtain⟨b1,b2,b3⟩:=b
 have h:ah Tryz.prog 195 [I k, .a 3 (ag (.mk a1 a2 a3)), .a 3 (ag (.mk b1 b2 b3))] [] (.a 3 [J k,J 0, .ows 66 3 [ag (.mk a1 a2 a3),ag (.mk b1 b2 b3)]]):=by
  refine cX Tryz.func195 (h:= ?_)
  repeat'((conv=>whnf);first
   |refine aq.mk ?_ ?_)
  all_goals first|rfl|trivial
 exact h.soft (.v (.a (.same (.same (.ro .nil)))))
theorem y3{P:Program}{f:Nat}{args:List SV}{outs:List (Option (List CV))}{k n:Int}{x:ae}(h:ah P f args outs (.a 3 [J k,J n, .ows 66 3 [ag x]])):ah P f args outs (.a 3 (ag (.mk k n [x]))):=
 h.soft (.v (.a (.same (.same (.ro .nil)))))
theorem xY(g:jd)(c:Bool)(s:Src):(bS g c s).2.code=s.code:=by
 unfold bS fN gg
 split
 ·split
  ·split
   ·split<;>simp[dr]
   ·simp[dr]
  ·simp[dr]
 ·split
  ·split<;>simp[dr]
  ·simp[dr]
theorem G2(c:Bool)(s:Src)(n:Int):(jh c s n).code=s.code:=by
 unfold jh
 split
 ·rfl
 ·exact dr s n
theorem jk(g:jd):∀(d:Nat) (c:Bool) (r:Eo),(bo g d c r).2.s.code=r.s.code
 |0,c,r=>xY g c r.s
 |d+1,c,r=>by
  unfold bo
  split
  ·exact xY g c r.s
  ·split
   ·exact(xY g c _).trans (dr _ _)
   ·simp only
    split
    ·rw[jk];simp[dr]
    ·split
     ·rw[jk];simp[dr]
     ·rw[jk,G2,jk,G2,dr,dr]
theorem gV(g:jd):∀(d:Nat) (c:Bool) (r:Eo),(bo g d c r).2.left≤r.left∧r.left+1≤(bo g d c r).2.left+(2^(d+1):Nat)
 |0,c,r=>by show r.left-1≤r.left∧r.left+1≤r.left-1+(2:Nat);omega
 |d+1,c,r=>by
  have hp:=two_pow_succ (d+1)
  have h0:2≤2^(d+1):=by have:=two_pow_succ d;have:0<2^d:=Nat.pow_pos (by omega);omega
  unfold bo
  split
  ·show r.left-1≤r.left∧r.left+1≤r.left-1+(2^(d+1+1):Nat);omega
  ·split
   ·show r.left-1≤r.left∧r.left+1≤r.left-1+(2^(d+1+1):Nat);omega
   ·simp only
    split
    ·have:=gV g d true ⟨ar (ar r.s 6) 10,r.left-1⟩
     simp only[] at this⊢
     omega
    ·split
     ·have:=gV g d false ⟨ar (ar r.s 6) 10,r.left-1⟩
      simp only[] at this⊢
      omega
     ·have h1:=gV g d (lG c (ar (ar r.s 6) 10) 5) ⟨jh c (ar (ar r.s 6) 10) 5,r.left-1⟩
      simp only[] at h1
      generalize bo g d (lG c (ar (ar r.s 6) 10) 5) ⟨jh c (ar (ar r.s 6) 10) 5,r.left-1⟩=X at h1
      have h2:=gV g d (lG c X.2.s 6) ⟨jh c X.2.s 6,X.2.left⟩
      simp only[] at h2⊢
      omega
section
variable(g:jd)(hg:0≤g.au∧g.au≤3∧0≤g.ai∧g.ai≤4)
include hg
def Room(d:Nat)(r:Eo)(n:Int):Prop:=Rd r.s n∧n+lV d≤700000000∧r.s.code.length≤1000000∧ -100000≤r.left-(2^(d+1):Nat)∧r.left≤100000
theorem nM:∀(d:Nat) (dp:Int) (c:Bool) (r:Eo) (n:Int),dp=d→Room d r n→d≤1000→
 ah Tryz.prog 170 [.c (.op (fg r g)),B c,I dp] [some [.op (fg (bo g d c r).2 g)],none,none] (.a 3 (ag (bo g d c r).1))
 |0,dp,c,⟨s,left⟩,n,hdp,⟨hs,hn,hc,hl,hu⟩,hd=>by
  have h0:=lb 0
  simp only[] at hs hc hl hu
  have lf:=qY g hg (left-1) s (hs.mono (by omega)) hc c
  have e1:bo g 0 c ⟨s,left⟩=((bS g c s).1,⟨(bS g c s).2,left-1⟩):=rfl
  rw[e1]
  generalize bS g c s=X at lf⊢
  obtain⟨⟨k1,n1,ks1⟩,s1⟩:=X
  simp only[fg] at lf⊢
  refine cX Tryz.func170 (h:= ?_)
  repeat'((conv=>whnf);first
   |refine aq.mk ?_ ?_
   |((first|apply bA|apply bB|apply bC|apply bD|apply bE|apply bF)<;>intro h<;>(try simp only[List.length_map] at h)<;>(try omega)<;>(try contradiction))|(guard_target=aa _ 194 _ _ _ _;refine aa.gen [true,false] _ _ _ rfl lf rfl rfl _ rfl ?_)|(guard_target=Arith _ _ _;refine Arith.fit (aP (by omega) (by omega)) ?_))
  all_goals first|rfl|exact⟨rfl,trivial⟩|(exfalso;simp at*;omega)
 |d+1,dp,c,⟨s,left⟩,n,hdp,⟨hs,hn,hc,hl,hu⟩,hd=>by
  have h0:=lb d
  have h1:=nY d
  have hp:=two_pow_succ (d+1)
  have hq:2≤2^(d+1):=by have:=two_pow_succ d;have:0<2^d:=Nat.pow_pos (by omega);omega
  simp only[] at hs hc hl hu
  have i6:jI 6:=by unfold jI;omega
  have i5:jI 5:=by unfold jI;omega
  have i10:jI 10:=by unfold jI;omega
  by_cases g1:left-1<1
  ·have lf:=qY g hg (left-1) s (hs.mono (by omega)) hc c
   have e1:bo g (d+1) c ⟨s,left⟩=((bS g c s).1,⟨(bS g c s).2,left-1⟩):=by rw[bo,if_pos g1];rfl
   rw[e1]
   generalize bS g c s=X at lf⊢
   obtain⟨⟨k1,n1,ks1⟩,s1⟩:=X
   simp only[fg] at lf⊢
   refine cX Tryz.func170 (h:= ?_)
   repeat'((conv=>whnf);first
    |refine aq.mk ?_ ?_
    |((first|apply bA|apply bB|apply bC|apply bD|apply bE|apply bF)<;>intro h<;>(try simp only[List.length_map] at h)<;>(try omega)<;>(try contradiction))|(guard_target=aa _ 194 _ _ _ _;refine aa.gen [true,false] _ _ _ rfl lf rfl rfl _ rfl ?_)|(guard_target=Arith _ _ _;refine Arith.fit (aP (by omega) (by omega)) ?_))
   all_goals first|rfl|exact⟨rfl,trivial⟩|(exfalso;simp at*;omega)
  have p6:=iA s (hs.mono (by omega)) hc 6 i6
  have hs6:Rd (ar s 6) (n+2):=hs.pick 6
  have hc6:(ar s 6).code.length≤1000000:=by rw[dr];exact hc
  cases h6:jf s 6 with
  |true=>
   rw[h6] at p6
   have lf:=qY g hg (left-1) (ar s 6) (hs6.mono (by omega)) hc6 c
   have e1:bo g (d+1) c ⟨s,left⟩=((bS g c (ar s 6)).1,⟨(bS g c (ar s 6)).2,left-1⟩):=by rw[bo,if_neg g1,if_pos h6];rfl
   rw[e1]
   generalize bS g c (ar s 6)=X at lf⊢
   obtain⟨⟨k1,n1,ks1⟩,s1⟩:=X
   simp only[fg] at lf⊢
   refine cX Tryz.func170 (h:= ?_)
   repeat'((conv=>whnf);first
    |refine aq.mk ?_ ?_
    |((first|apply bA|apply bB|apply bC|apply bD|apply bE|apply bF)<;>intro h<;>(try simp only[List.length_map] at h)<;>(try omega)<;>(try contradiction))|(guard_target=aa _ 76 _ _ _ _;refine aa.gen [true,false] _ _ _ rfl p6 rfl rfl _ rfl ?_)|(guard_target=aa _ 194 _ _ _ _;refine aa.gen [true,false] _ _ _ rfl lf rfl rfl _ rfl ?_)|(guard_target=Arith _ _ _;refine Arith.fit (aP (by omega) (by omega)) ?_))
   all_goals first|rfl|exact⟨rfl,trivial⟩|(exfalso;simp at*;omega)
  |false=>
   rw[h6] at p6
   have pk:=cV (ar s 6) (hs6.mono (by omega)) hc6 10 i10
   have bk:=ch (ar s 6) (n:=10) (by omega)
   have hsA:Rd (ar (ar s 6) 10) (n+4):=(hs6.pick 10).mono (by omega)
   have hcA:(ar (ar s 6) 10).code.length≤1000000:=by rw[dr];exact hc6
   rw[bo,if_neg g1,if_neg (by show¬jf s 6=true;rw[h6];simp)]
   simp only[]
   generalize bK (ar s 6) 10=k at pk bk⊢
   generalize ar (ar s 6) 10=sA at pk hsA hcA⊢
   by_cases g2:k=0∨(c=true∧k<4)
   ·rw[if_pos g2]
    have ih:=nM d (dp-1) true ⟨sA,left-1⟩ (n+4) (by omega) ⟨hsA,by omega,hcA,by simp only[];omega,by simp only[];omega⟩ (by omega)
    generalize bo g d true ⟨sA,left-1⟩=X at ih⊢
    obtain⟨⟨k1,n1,ks1⟩,⟨s1,l1⟩⟩:=X
    simp only[fg] at ih⊢
    refine y3 ?_
    cases c
    ·skip
     refine cX Tryz.func170 (h:= ?_)
     repeat'((conv=>whnf);first
       |refine aq.mk ?_ ?_
       |((first|apply bA|apply bB|apply bC|apply bD|apply bE|apply bF)<;>intro h<;>(try simp only[List.length_map] at h)<;>(try omega)<;>(try contradiction))|(guard_target=aa _ 76 _ _ _ _;refine aa.gen [true,false] _ _ _ rfl p6 rfl rfl _ rfl ?_)|(guard_target=aa _ 53 _ _ _ _;refine aa.gen [true,false] _ _ _ rfl pk rfl rfl _ rfl ?_)|(guard_target=aa _ 170 _ _ _ _;refine aa.gen [true,false,false] _ _ _ rfl ih rfl rfl _ rfl ?_)|(guard_target=Arith _ _ _;refine Arith.fit (aP (by omega) (by omega)) ?_))
     all_goals first|rfl|exact⟨rfl,trivial⟩|(exfalso;simp at*;omega)
    ·skip
     refine cX Tryz.func170 (h:= ?_)
     repeat'((conv=>whnf);first
       |refine aq.mk ?_ ?_
       |((first|apply bA|apply bB|apply bC|apply bD|apply bE|apply bF)<;>intro h<;>(try simp only[List.length_map] at h)<;>(try omega)<;>(try contradiction))|(guard_target=aa _ 76 _ _ _ _;refine aa.gen [true,false] _ _ _ rfl p6 rfl rfl _ rfl ?_)|(guard_target=aa _ 53 _ _ _ _;refine aa.gen [true,false] _ _ _ rfl pk rfl rfl _ rfl ?_)|(guard_target=aa _ 170 _ _ _ _;refine aa.gen [true,false,false] _ _ _ rfl ih rfl rfl _ rfl ?_)|(guard_target=Arith _ _ _;refine Arith.fit (aP (by omega) (by omega)) ?_))
     all_goals first|rfl|exact⟨rfl,trivial⟩|(exfalso;simp at*;omega)
   rw[if_neg g2]
   by_cases g3:k<4
   ·rw[if_pos g3]
    have ih:=nM d (dp-1) false ⟨sA,left-1⟩ (n+4) (by omega) ⟨hsA,by omega,hcA,by simp only[];omega,by simp only[];omega⟩ (by omega)
    generalize bo g d false ⟨sA,left-1⟩=X at ih⊢
    obtain⟨⟨k1,n1,ks1⟩,⟨s1,l1⟩⟩:=X
    simp only[fg] at ih⊢
    refine y3 ?_
    cases c
    ·skip
     refine cX Tryz.func170 (h:= ?_)
     repeat'((conv=>whnf);first
       |refine aq.mk ?_ ?_
       |((first|apply bA|apply bB|apply bC|apply bD|apply bE|apply bF)<;>intro h<;>(try simp only[List.length_map] at h)<;>(try omega)<;>(try contradiction))|(guard_target=aa _ 76 _ _ _ _;refine aa.gen [true,false] _ _ _ rfl p6 rfl rfl _ rfl ?_)|(guard_target=aa _ 53 _ _ _ _;refine aa.gen [true,false] _ _ _ rfl pk rfl rfl _ rfl ?_)|(guard_target=aa _ 170 _ _ _ _;refine aa.gen [true,false,false] _ _ _ rfl ih rfl rfl _ rfl ?_)|(guard_target=Arith _ _ _;refine Arith.fit (aP (by omega) (by omega)) ?_))
     all_goals first|rfl|exact⟨rfl,trivial⟩|(exfalso;simp at*;omega)
    ·skip
     refine cX Tryz.func170 (h:= ?_)
     repeat'((conv=>whnf);first
       |((first|apply bA|apply bB|apply bC|apply bD|apply bE|apply bF)<;>intro h<;>(try simp only[List.length_map] at h)<;>(try omega)<;>(try contradiction))|(guard_target=aa _ 76 _ _ _ _;refine aa.gen [true,false] _ _ _ rfl p6 rfl rfl _ rfl ?_)|(guard_target=aa _ 53 _ _ _ _;refine aa.gen [true,false] _ _ _ rfl pk rfl rfl _ rfl ?_)|(guard_target=Arith _ _ _;refine Arith.fit (aP (by omega) (by omega)) ?_))
     all_goals first|rfl|exact⟨rfl,trivial⟩|(exfalso;simp at*;omega)
   rw[if_neg g3]
   cases c with
   |true=>
    simp only[lG,jh,if_true]
    have ia:=nM d (dp-1) true ⟨sA,left-1⟩ (n+4) (by omega) ⟨hsA,by omega,hcA,by simp only[];omega,by simp only[];omega⟩ (by omega)
    have ra:=Rd.expr g d true ⟨sA,left-1⟩ hsA
    have la:=gV g d true ⟨sA,left-1⟩
    have ca:=jk g d true ⟨sA,left-1⟩
    generalize bo g d true ⟨sA,left-1⟩=X at ia ra la ca⊢
    obtain⟨⟨k1,n1,ks1⟩,⟨s1,l1⟩⟩:=X
    simp only[] at ra la ca ia⊢
    have ib:=nM d (dp-1) true ⟨s1,l1⟩ (n+4+lV d) (by omega) ⟨ra,by omega,by simp only[];rw[ca];exact hcA,by simp only[];omega,by simp only[];omega⟩ (by omega)
    generalize bo g d true ⟨s1,l1⟩=Y at ib⊢
    obtain⟨⟨k2,n2,ks2⟩,⟨s2,l2⟩⟩:=Y
    simp only[fg] at ia ib⊢
    by_cases g4:k<6
    ·rw[if_pos g4]
     have pr:=mz 6 (.mk k1 n1 ks1) (.mk k2 n2 ks2)
     refine cX Tryz.func170 (h:= ?_)
     repeat'((conv=>whnf);first
        |refine aq.mk ?_ ?_
        |((first|apply bA|apply bB|apply bC|apply bD|apply bE|apply bF)<;>intro h<;>(try simp only[List.length_map] at h)<;>(try omega)<;>(try contradiction))|(guard_target=aa _ 76 _ _ _ _;refine aa.gen [true,false] _ _ _ rfl p6 rfl rfl _ rfl ?_)|(guard_target=aa _ 53 _ _ _ _;refine aa.gen [true,false] _ _ _ rfl pk rfl rfl _ rfl ?_)|(guard_target=aa _ 170 _ _ _ _;(first|refine aa.gen [true,false,false] _ _ _ rfl ia rfl rfl _ rfl ?_|refine aa.gen [true,false,false] _ _ _ rfl ib rfl rfl _ rfl ?_))|(guard_target=aa _ 195 _ _ _ _;refine aa.pure _ _ rfl pr rfl _ rfl ?_)|(guard_target=Arith _ _ _;refine Arith.fit (aP (by omega) (by omega)) ?_))
     all_goals first|rfl|exact⟨rfl,trivial⟩|(exfalso;simp at*;omega)
    ·rw[if_neg g4]
     have pr:=mz 7 (.mk k1 n1 ks1) (.mk k2 n2 ks2)
     refine cX Tryz.func170 (h:= ?_)
     repeat'((conv=>whnf);first
        |refine aq.mk ?_ ?_
        |((first|apply bA|apply bB|apply bC|apply bD|apply bE|apply bF)<;>intro h<;>(try simp only[List.length_map] at h)<;>(try omega)<;>(try contradiction))|(guard_target=aa _ 76 _ _ _ _;refine aa.gen [true,false] _ _ _ rfl p6 rfl rfl _ rfl ?_)|(guard_target=aa _ 53 _ _ _ _;refine aa.gen [true,false] _ _ _ rfl pk rfl rfl _ rfl ?_)|(guard_target=aa _ 170 _ _ _ _;(first|refine aa.gen [true,false,false] _ _ _ rfl ia rfl rfl _ rfl ?_|refine aa.gen [true,false,false] _ _ _ rfl ib rfl rfl _ rfl ?_))|(guard_target=aa _ 195 _ _ _ _;refine aa.pure _ _ rfl pr rfl _ rfl ?_)|(guard_target=Arith _ _ _;refine Arith.fit (aP (by omega) (by omega)) ?_))
     all_goals first|rfl|exact⟨rfl,trivial⟩|(exfalso;simp at*;omega)
   |false=>
    simp only[lG,jh,Bool.false_eq_true,if_false]
    have p5:=iA sA (hsA.mono (by omega)) hcA 5 i5
    have hs5:Rd (ar sA 5) (n+6):=(hsA.pick 5).mono (by omega)
    have hc5:(ar sA 5).code.length≤1000000:=by rw[dr];exact hcA
    generalize jf sA 5=b5 at p5⊢
    generalize ar sA 5=sB at p5 hs5 hc5⊢
    have ia:=nM d (dp-1) b5 ⟨sB,left-1⟩ (n+6) (by omega) ⟨hs5,by omega,hc5,by simp only[];omega,by simp only[];omega⟩ (by omega)
    have ra:=Rd.expr g d b5 ⟨sB,left-1⟩ hs5
    have la:=gV g d b5 ⟨sB,left-1⟩
    have ca:=jk g d b5 ⟨sB,left-1⟩
    generalize bo g d b5 ⟨sB,left-1⟩=X at ia ra la ca⊢
    obtain⟨⟨k1,n1,ks1⟩,⟨s1,l1⟩⟩:=X
    simp only[] at ra la ca ia⊢
    have hc1:s1.code.length≤1000000:=by rw[ca];exact hc5
    have p1:=iA s1 (ra.mono (by omega)) hc1 6 i6
    have rb:Rd (ar s1 6) (n+8+lV d):=(ra.pick 6).mono (by omega)
    have hcb:(ar s1 6).code.length≤1000000:=by rw[dr];exact hc1
    generalize jf s1 6=b6 at p1⊢
    generalize ar s1 6=sC at p1 rb hcb⊢
    have ib:=nM d (dp-1) b6 ⟨sC,l1⟩ (n+8+lV d) (by omega) ⟨rb,by omega,hcb,by simp only[];omega,by simp only[];omega⟩ (by omega)
    generalize bo g d b6 ⟨sC,l1⟩=Y at ib⊢
    obtain⟨⟨k2,n2,ks2⟩,⟨s2,l2⟩⟩:=Y
    simp only[fg] at ia ib⊢
    by_cases g4:k<6
    ·rw[if_pos g4]
     have pr:=mz 6 (.mk k1 n1 ks1) (.mk k2 n2 ks2)
     refine cX Tryz.func170 (h:= ?_)
     repeat'((conv=>whnf);first
        |refine aq.mk ?_ ?_
        |((first|apply bA|apply bB|apply bC|apply bD|apply bE|apply bF)<;>intro h<;>(try simp only[List.length_map] at h)<;>(try omega)<;>(try contradiction))|(guard_target=aa _ 76 _ _ _ _;(first|refine aa.gen [true,false] _ _ _ rfl p6 rfl rfl _ rfl ?_|refine aa.gen [true,false] _ _ _ rfl p5 rfl rfl _ rfl ?_|refine aa.gen [true,false] _ _ _ rfl p1 rfl rfl _ rfl ?_))|(guard_target=aa _ 53 _ _ _ _;refine aa.gen [true,false] _ _ _ rfl pk rfl rfl _ rfl ?_)|(guard_target=aa _ 170 _ _ _ _;(first|refine aa.gen [true,false,false] _ _ _ rfl ia rfl rfl _ rfl ?_|refine aa.gen [true,false,false] _ _ _ rfl ib rfl rfl _ rfl ?_))|(guard_target=aa _ 195 _ _ _ _;refine aa.pure _ _ rfl pr rfl _ rfl ?_)|(guard_target=Arith _ _ _;refine Arith.fit (aP (by omega) (by omega)) ?_))
     all_goals first|rfl|exact⟨rfl,trivial⟩|(exfalso;simp at*;omega)
    ·rw[if_neg g4]
     have pr:=mz 7 (.mk k1 n1 ks1) (.mk k2 n2 ks2)
     refine cX Tryz.func170 (h:= ?_)
     repeat'((conv=>whnf);first
        |refine aq.mk ?_ ?_
        |((first|apply bA|apply bB|apply bC|apply bD|apply bE|apply bF)<;>intro h<;>(try simp only[List.length_map] at h)<;>(try omega)<;>(try contradiction))|(guard_target=aa _ 76 _ _ _ _;(first|refine aa.gen [true,false] _ _ _ rfl p6 rfl rfl _ rfl ?_|refine aa.gen [true,false] _ _ _ rfl p5 rfl rfl _ rfl ?_|refine aa.gen [true,false] _ _ _ rfl p1 rfl rfl _ rfl ?_))|(guard_target=aa _ 53 _ _ _ _;refine aa.gen [true,false] _ _ _ rfl pk rfl rfl _ rfl ?_)|(guard_target=aa _ 170 _ _ _ _;(first|refine aa.gen [true,false,false] _ _ _ rfl ia rfl rfl _ rfl ?_|refine aa.gen [true,false,false] _ _ _ rfl ib rfl rfl _ rfl ?_))|(guard_target=aa _ 195 _ _ _ _;refine aa.pure _ _ rfl pr rfl _ rfl ?_)|(guard_target=Arith _ _ _;refine Arith.fit (aP (by omega) (by omega)) ?_))
     all_goals first|rfl|exact⟨rfl,trivial⟩|(exfalso;simp at*;omega)
end
end Go.Proofs.YtgbggaddpbghfaaGreat
namespace Go.Proofs.YtgbggaddpbghfaaGreat
open Go Go.KA Go.Proofs
set_option maxHeartbeats 16000000
set_option maxRecDepth 100000
end Go.Proofs.YtgbggaddpbghfaaGreat
namespace Go.Proofs.YtgbggaddpbghfaaGreat
open Go Go.KA Go.Proofs
set_option maxHeartbeats 16000000
set_option maxRecDepth 100000
abbrev Ja(b:UInt8):List CV:=[.val (.int .u8 (b.toNat:Int))]
abbrev H7(code:List UInt8):Src:=⟨code,0,0⟩
theorem wh(code:List UInt8):ah Tryz.prog 35 [.c (.ro 1 (code.map Ja))] [] (.c (.op (c8 (H7 code)))):=by
 refine cX Tryz.func35 (h:= ?_)
 repeat'((conv=>whnf);first
  |refine aq.mk ?_ ?_)
 all_goals first|rfl|trivial
theorem Ju(l:List Int)(hl:0<l.length∧l.length≤1000)(s:Src)(hs:Rd s 900000000)(hc:s.code.length≤1000000):ah Tryz.prog 73 [.c (.op (c8 s)), .c (.ro 1 (l.map eI))] [some [.op (c8 (AT l s))],none] (I (tG l s)):=by
 have i:jI (l.length:Int):=by unfold jI;omega
 have p:=cV s hs hc l.length i
 have b:=ch s (n:=l.length) (by omega)
 unfold AT tG
 generalize bK s (l.length:Int)=k at p b⊢
 generalize ar s (l.length:Int)=s1 at p⊢
 rw[←List.length_map (f:=eI)] at p
 refine cX Tryz.func73 (h:= ?_)
 repeat'((conv=>whnf);first
  |refine aq.mk ?_ ?_
  |(apply Fact.mk;intro hL;try simp only[List.length_map,maxLen] at hL)|(guard_target=aa _ 53 _ _ _ _;refine aa.gen [true,false] _ _ _ rfl p rfl rfl _ rfl ?_)|(guard_target=Index _ _ _;first|(refine Index.mk _ (aF (l:=l) (d:=0) (i:=k.toNat) (by omega)) ?_)|fail)
  |refine nO ?_)
 all_goals first|rfl|exact⟨rfl,trivial⟩|(exfalso;simp at*;omega)
end Go.Proofs.YtgbggaddpbghfaaGreat
namespace Go.Proofs.YtgbggaddpbghfaaGreat
open Go Go.KA Go.Proofs
set_option maxHeartbeats 16000000
set_option maxRecDepth 100000
theorem IA(l:List Int)(hl:0<l.length∧l.length≤1000)(s:Src)(hs:Rd s 900000000)(hc:s.code.length≤1000000):ah Tryz.prog 73 [.c (.op (c8 s)), .c (.ows 2 1 (l.map eI))] [some [.op (c8 (AT l s))],none] (I (tG l s)):=(Ju l hl s hs hc).Fc (.same (.c .nil))
theorem ID(a b:Int):aD Tryz.prog 77 [I a,I b] (I (if a>b then a else b)):=by
 refine cF Tryz.func77 (h:= ?_)
 repeat'((conv=>whnf);first
  |(apply bh.mk;first|(simp_all[cO,cM];done)|(simp_all[cO,cM];omega;done)|skip)
  |((first|apply bA|apply bB|apply bC|apply bD|apply bE|apply bF)<;>intro h<;>(try simp only[List.length_map] at h)<;>(try omega)<;>(try contradiction)))
section
variable(g:jd)(hg:0≤g.au∧g.au≤3∧0≤g.ai∧g.ai≤4)(s:Src)(m:Int)(hs:Rd s m)(hq:m≤500000)(hc:s.code.length≤1000000)(A:Int)(hA:1≤A∧A≤8)(hat:aD Tryz.prog 0 [.a 2 [J g.au,J g.ai]] (I A))
include hg hs hq hc hA hat
end
end Go.Proofs.YtgbggaddpbghfaaGreat
namespace Go.Proofs.YtgbggaddpbghfaaGreat
open Go Go.KA Go.Proofs
set_option maxHeartbeats 16000000
set_option maxRecDepth 100000
section
variable(g:jd)(hg:0≤g.au∧g.au≤3∧0≤g.ai∧g.ai≤4)
include hg
end
end Go.Proofs.YtgbggaddpbghfaaGreat
namespace Go.Proofs.YtgbggaddpbghfaaGreat
open Go Go.KA Go.Proofs
set_option maxHeartbeats 16000000
set_option maxRecDepth 100000
def HY(l:List aM)(r:Bool):List Int:=(l.filter (·.bU==r)).map (·.id)
theorem vM{l:List aM}{r:Bool}{x:Int}:x∈HY l r↔0≤bz l r x:=by
 unfold HY bz
 rw[ob]
 simp only[List.mem_map,List.mem_filter,gY,Bool.and_eq_true,beq_iff_eq]
 constructor
 ·rintro⟨y,⟨h1,h2⟩,h3⟩;exact⟨y,h1,h2,h3⟩
 ·rintro⟨y,h1,h2,h3⟩;exact⟨y,⟨h1,h2⟩,h3⟩
theorem Kw{t a:Int}{l:List aM}(hg:ed t a l=true){i:Nat}(hi:i<l.length):cJ t a l[i]=true∧bz (l.take i) l[i].bU l[i].id<0∧gG (l.take i) l[i].entry.bj=true:=by
 have:=Db hg hi
 unfold fK at this
 rw[getD_eq hi] at this
 simpa only[Bool.and_eq_true,decide_eq_true_eq] using this
theorem zM{t a:Int}{l:List aM}(hg:ed t a l=true)(r:Bool):∀x∈HY l r,0≤x∧x≤99:=by
 intro x hx
 unfold HY at hx
 obtain⟨y,hy,rfl⟩:=List.mem_map.1 hx
 obtain⟨i,hi,rfl⟩:=List.mem_iff_getElem.1 (List.mem_filter.1 hy).1
 have h1:=(Kw hg hi).1
 unfold cJ at h1
 simp only[Bool.and_eq_true] at h1
 exact bX h1.1
end Go.Proofs.YtgbggaddpbghfaaGreat
namespace Go.Proofs.YtgbggaddpbghfaaGreat
open Go Go.KA Go.Proofs
set_option maxHeartbeats 16000000
set_option maxRecDepth 100000
theorem Ox(l:List aM)(r:Bool):∀i,(pM i fun i=>decide (0≤bz l r i)).length≤i:=fun i=>xl i _
theorem yK(l:List aM)(r:Bool):ah Tryz.prog 58 [.c (.ro 7 (l.map bg)),B r] [] (.c (.ows 2 1 ((pM 100 fun i=>decide (0≤bz l r i)).map eI))):=by
 refine cX Tryz.func58 (h:= ?_)
 repeat'((conv=>whnf);first
  |refine aq.mk ?_ ?_|(guard_target=~ aK 3 _ _ _ _ _ _;refine sM (Nat × List Int) [0,1] (fun⟨i,R⟩=>[(5, .lw 1),(6,I (i:Nat))]) (fun⟨i,R⟩=>[(1, .row none 2 1 (R.map eI))]) (fun⟨i,R⟩=>i≤100∧R=pM i (fun i=>decide (0≤bz l r i))) (fun⟨i,R⟩=>100-i) (0,[]) (by exact⟨Nat.zero_le _,rfl⟩) (fun A ha=> ?_);obtain⟨i,R⟩:=A;have ha:i≤100∧R=pM i (fun i=>decide (0≤bz l r i)):=ha;have hb:=Ox l r i;rw[←ha.2] at hb)
  |refine nx ((i+1,R++[(i:Int)]):Nat × List Int) (by(refine⟨by show i+1≤_;omega, ?_⟩;show R++_=_;rw[JH (decide_eq_true h),ha.2]))
  |refine nx ((i+1,R):Nat × List Int) (by(refine⟨by show i+1≤_;omega, ?_⟩;show R=_;rw[MA (decide_eq_false h),ha.2]))
  |(apply Fact.mk;intro hL;try simp only[List.length_map,maxLen] at hL)
  |((first|apply bA|apply bB|apply bC|apply bD|apply bE|apply bF)<;>intro h<;>(try simp only[List.length_map] at h)<;>(try omega)<;>(try contradiction))|(guard_target=aa _ 60 _ _ _ _;refine cP rfl (gQ l r _) ?_)
  |refine aR ?_|(guard_target=aV _ _;refine aV.mk (by first|((simp only[List.length_map,List.length_cons,List.length_nil,maxLen];constructor<;>omega))|fail) ?_))
 all_goals first|rfl|trivial|(have e:i=100:=(by omega);have h9:=ha.2;rw[e] at h9;rw[h9];done)
theorem CR{a:af}{s:Int}(h:bY a s=true):0≤s∧s.toNat<a.ab.length:=by
 have:=bX h
 omega
section
variable(a:af)(s:Int)(hl:b8 a≤1048576)
include hl
end
section
variable(a:af)(s:Int)(hl:b8 a≤1048576)
include hl
end
end Go.Proofs.YtgbggaddpbghfaaGreat
namespace Go.Proofs.YtgbggaddpbghfaaGreat
open Go Go.KA Go.Proofs
set_option maxHeartbeats 16000000
set_option maxRecDepth 100000
def M4(i:Nat):ByteArray:=if i<10 then⟨#[UInt8.ofNat (48+i)]⟩ else⟨#[UInt8.ofNat (48+i/10),UInt8.ofNat (48+i % 10)]⟩
theorem Ii(i:Nat):(M4 i).size≤2:=by
 unfold M4
 split
 ·show 1≤2;omega
 ·show 2≤2;omega
end Go.Proofs.YtgbggaddpbghfaaGreat
namespace Go.Proofs.YtgbggaddpbghfaaGreat
open Go Go.KA Go.Proofs
set_option maxHeartbeats 16000000
set_option maxRecDepth 100000
abbrev b1(x:UInt8):ByteArray:=⟨#[x]⟩
def N2(k n:Int)(l:List ByteArray):ByteArray:=
 if k=1 then b1 48 else if k=2 then b1 49 else if k=3 then b1 116++M4 n.toNat else if k=4 then b1 97++M4 n.toNat
 else if k=5 then b1 126++l.getD 0 .empty else if k=8 then l.getD 0 .empty++b1 42
 else if k=6 then b1 40++l.getD 0 .empty++⟨#[32,43,32]⟩++l.getD 1 .empty++b1 41
 else b1 40++l.getD 0 .empty++b1 32++l.getD 1 .empty++b1 41
mutual
def FY:ae→ByteArray
 | .mk k n kids=>N2 k n (Cb kids)
def Cb:List ae→List ByteArray
 |[]=>[]
 |x::xs=>FY x::Cb xs
end
mutual
def LI:ae→Bool
 | .mk k n kids=>(dJ 1 8 k&&decide ((kids.length:Int)=cR k))&&((!(decide (k=3)||decide (k=4))||dJ 0 99 n)&&Kg kids)
def Kg:List ae→Bool
 |[]=>true
 |x::xs=>LI x&&Kg xs
end
theorem Kx(x:UInt8):(b1 x).size=1:=rfl
section
variable(Y:ae→Prop)(hY:∀x,Y x→LI x=true→(FY x).size≤1000000000→aD Tryz.prog 0 [.c (.rp 3 (ag x))] (.c (.val (.string (FY x)))))
include hY
end
end Go.Proofs.YtgbggaddpbghfaaGreat
namespace Go.Proofs.YtgbggaddpbghfaaGreat
open Go Go.KA Go.Proofs
set_option maxHeartbeats 16000000
set_option maxRecDepth 100000
def Mf(l:List ByteArray):Nat:=(l.map ByteArray.size).sum
theorem MZ:∀l:List ByteArray,(l.getD 0 .empty).size+(l.getD 1 .empty).size≤Mf l
 |[]=>Nat.le_refl _
 |[x]=>by simp[Mf]
 |x::y::l=>by simp[Mf]<;>omega
theorem Iv(k n:Int)(l:List ByteArray):(N2 k n l).size≤7+Mf l:=by
 have h:=MZ l
 have h2:=Ii n.toNat
 have sz3:(ByteArray.mk #[32,43,32]).size=3:=rfl
 unfold N2
 repeat' split
 all_goals(simp only[ByteArray.size_append,Kx,sz3];omega)
mutual
theorem zf:∀(e:ae) (n:Int),0≤b9 e n→((FY e).size:Int)≤7*(n-b9 e n)
 | .mk k m ks,n,h=>by
   simp only[b9] at h⊢
   have h1:=x6 ks (n-1) h
   have h2:=Iv k m (Cb ks)
   simp only[FY]
   omega
theorem x6:∀(l:List ae) (n:Int),0≤dh l n→(Mf (Cb l):Int)≤7*(n-dh l n)
 |[],n,h=>by simp[Mf,Cb,dh]
 |x::xs,n,h=>by
  simp only[dh] at h⊢
  by_cases hn:n<0
  ·rw[if_pos hn] at h;omega
  ·rw[if_neg hn] at h⊢
   by_cases h0:b9 x n<0
   ·rw[nh h0] at h;omega
   ·have h1:=zf x n (by omega)
    have h2:=x6 xs (b9 x n) h
    have h3:Mf (Cb (x::xs))=(FY x).size+Mf (Cb xs):=by simp[Cb,Mf]
    omega
end
mutual
theorem Cg{t a:Int}(ht:t≤3)(ha:a≤4):∀(e:ae),dK t a e=true→LI e=true
 | .mk k n ks,h=>by
   rw[dK] at h
   rw[LI]
   simp only[Bool.and_eq_true,beq_iff_eq] at h
   obtain⟨h1,h2⟩:=h
   have hk:dJ 1 8 k=true∧Kg ks=true∧(!(decide (k=3)||decide (k=4))||dJ 0 99 n)=true:=by
    have hl:(0:Int)≤ks.length:=by omega
    by_cases h3:k=3
    ·subst h3
     have:ks=[]:=List.eq_nil_of_length_eq_zero (by have:cR 3=0:=rfl;omega)
     subst this
     simp only[dJ,beq_self_eq_true,if_true,Bool.and_eq_true,decide_eq_true_eq] at h2
     refine⟨rfl,rfl, ?_⟩
     simp only[dJ,Bool.or_eq_true,Bool.and_eq_true]
     exact .inr ⟨decide_eq_true (by omega),decide_eq_true (by omega)⟩
    ·by_cases h4:k=4
     ·subst h4
      have:ks=[]:=List.eq_nil_of_length_eq_zero (by have:cR 4=0:=rfl;omega)
      subst this
      have h2:dJ 0 (a-1) n=true:=h2
      simp only[dJ,Bool.and_eq_true,decide_eq_true_eq] at h2
      refine⟨rfl,rfl, ?_⟩
      simp only[dJ,Bool.or_eq_true,Bool.and_eq_true]
      exact .inr ⟨decide_eq_true (by omega),decide_eq_true (by omega)⟩
     ·rw[if_neg h3,if_neg h4] at h2
      simp only[Bool.and_eq_true] at h2
      refine⟨?_,yJ ht ha ks h2.2.2, ?_⟩
      ·have h5:0≤cR k:=by omega
       simp only[dJ,Bool.and_eq_true]
       unfold cR at h5
       constructor<;>refine decide_eq_true ?_<;>(repeat' split at h5)<;>simp at* <;>omega
      ·simp[h3,h4]
   rw[hk.1,hk.2.1,hk.2.2]
   simp[h1]
theorem yJ{t a:Int}(ht:t≤3)(ha:a≤4):∀(l:List ae),gE t a l=true→Kg l=true
 |[],_=>rfl
 |x::xs,h=>by
  simp only[gE,Bool.and_eq_true] at h
  simp only[Kg,Bool.and_eq_true]
  exact⟨Cg ht ha x h.1,yJ ht ha xs h.2⟩
end
abbrev P9(e:ae):Prop:=LI e=true∧(FY e).size≤1400
theorem CZ{t a:Int}(hs:bO t a=true){e:ae}(h:aY t a e=true):P9 e:=by
 simp only[aY,Bool.and_eq_true,decide_eq_true_eq] at h
 simp only[bO,dJ,Bool.and_eq_true,decide_eq_true_eq] at hs
 have h1:=zf e 200 h.1
 exact⟨Cg (by omega) (by omega) e h.2.2,by omega⟩
end Go.Proofs.YtgbggaddpbghfaaGreat
namespace Go.Proofs.YtgbggaddpbghfaaGreat
open Go Go.KA Go.Proofs
set_option maxHeartbeats 16000000
set_option maxRecDepth 100000
def xm(e:dD):bm:=e.proof.ao.getD (e.proof.ao.length-1) c0
def nI(e:dD):bT:=⟨(xm e).left,(xm e).right⟩
theorem KV{α:Type}{f:α→List CV}{l:List α}(d:α)(h:0<l.length):(l.map f)[(((l.map f).length:Int)-1).toNat]? =some (f (l.getD (l.length-1) d)):=by
 have e:(((l.map f).length:Int)-1).toNat=l.length-1:=by rw[List.length_map];omega
 rw[e]
 exact aF (by omega)
theorem qJ(c:bm):aD Tryz.prog 140 [.c (.rp 9 (aH c))] (.a 6 (aU ⟨c.left,c.right⟩)):=by
 refine cF Tryz.func140 (h:= ?_)
 repeat'((conv=>whnf);first
  |(apply bh.mk;first|(rfl;done)|skip)
  |refine nB ?_)
theorem uQ(e:dD)(h:0<e.proof.ao.length)(hl:e.proof.ao.length≤1000000):aD Tryz.prog 136 [.c (.rp 5 (kz e))] (.a 6 (aU (nI e))):=by
 refine cF Tryz.func136 (h:= ?_)
 repeat'((conv=>whnf);first
  |(apply bh.mk;first|(rfl;done)|skip)|(guard_target=aa _ 140 _ _ _ _;refine cP rfl (qJ (xm e)) ?_)
  |refine aR ?_|(guard_target=Index _ _ _;first|(refine Index.mk _ (KV c0 h) ?_)|fail)
  |refine nB ?_
  |refine nO ?_)
abbrev QJ(q:bT):Prop:=P9 q.left∧P9 q.right
structure QL(n:aM):Prop where
 id:0≤n.id∧n.id<100
 bj:n.bU=false→∀r∈n.entry.bj,0≤r∧r<100
 len:n.bU=false→n.entry.bj.length≤4
 ao:n.bU=false→0<n.entry.proof.ao.length∧n.entry.proof.ao.length≤40
 line:n.bU=false→QJ (nI n.entry)
theorem OK{t a:Int}{n:aM}(h:cJ t a n=true):QL n:=by
 unfold cJ at h
 simp only[dJ,Bool.and_eq_true,decide_eq_true_eq] at h
 obtain⟨⟨h1,h2⟩,h3⟩:=h
 refine⟨by omega,fun hr r hm=> ?_,fun hr=> ?_,fun hr=> ?_,fun hr=> ?_⟩
 all_goals
  rw[hr] at h3
  simp only[Bool.false_eq_true,if_false,Bool.and_eq_true,dz,decide_eq_true_eq,List.all_eq_true] at h3
  obtain⟨_,g1,_,g3,g4,_,g6,_⟩:=h3
 ·have:=bX (g3 r hm);omega
 ·omega
 ·simp only[dy,Bool.and_eq_true,decide_eq_true_eq] at g4
  omega
 ·simp only[dy,Bool.and_eq_true,decide_eq_true_eq,List.all_eq_true] at g4
  have hl:n.entry.proof.ao.length-1<n.entry.proof.ao.length:=by omega
  have hc:=g4.2.2 (xm n.entry) (by
   unfold xm
   rw[getD_eq hl]
   exact List.getElem_mem hl)
  simp only[cq,Bool.and_eq_true] at hc
  exact⟨CZ g4.1 hc.1,CZ g4.1 hc.2.1⟩
end Go.Proofs.YtgbggaddpbghfaaGreat
namespace Go.Proofs.YtgbggaddpbghfaaGreat
open Go Go.KA Go.Proofs
end Go.Proofs.YtgbggaddpbghfaaGreat
namespace Go.Proofs.YtgbggaddpbghfaaGreat
open Go Go.KA Go.Proofs
set_option maxHeartbeats 4000000
set_option maxRecDepth 100000
end Go.Proofs.YtgbggaddpbghfaaGreat
namespace Go.Proofs.YtgbggaddpbghfaaGreat
open Go Go.KA Go.Proofs
set_option maxHeartbeats 16000000
set_option maxRecDepth 100000
abbrev Qz:ae:= .mk 0 0 []
theorem kh{l:List ae}{i:Nat}(h:i<l.length):(l.map ag)[i]? =some (aI (l.getD i Qz)):=by
 have h2:(l.map ag)[i]? =some (ag (l.getD i Qz)):=aF h
 rw[a9] at h2
 exact h2
end Go.Proofs.YtgbggaddpbghfaaGreat
namespace Go.Proofs.YtgbggaddpbghfaaGreat
open Go Go.KA Go.Proofs
set_option maxHeartbeats 16000000
set_option maxRecDepth 100000
inductive Tree(t a:Int):ae→Prop
 |zero:Tree t a (.mk 1 0 [])
 |one:Tree t a (.mk 2 0 [])
 |test {n} (h0:0≤n) (h1:n<t):Tree t a (.mk 3 n [])
 |act {n} (h0:0≤n) (h1:n<a):Tree t a (.mk 4 n [])
 |not {x} (hc:cQ x=true) (h:Tree t a x):Tree t a (.mk 5 0 [x])
 |sum {x y} (hx:Tree t a x) (hy:Tree t a y):Tree t a (.mk 6 0 [x,y])
 |dot {x y} (hx:Tree t a x) (hy:Tree t a y):Tree t a (.mk 7 0 [x,y])
 |star {x} (hx:Tree t a x):Tree t a (.mk 8 0 [x])
theorem Tree.dK{t a:Int}{e:ae}(h:Tree t a e):dK t a e=true:=by
 induction h with
 |zero=>rfl
 |one=>rfl
 |test h0 h1=>simp[Go.Proofs.YtgbggaddpbghfaaGreat.dK,cR,dJ];omega
 |act h0 h1=>simp[Go.Proofs.YtgbggaddpbghfaaGreat.dK,cR,dJ];omega
 |not hc h ih=>simp[Go.Proofs.YtgbggaddpbghfaaGreat.dK,gE,cR,na,hc,ih]
 |sum hx hy ih1 ih2=>simp[Go.Proofs.YtgbggaddpbghfaaGreat.dK,gE,cR,ih1,ih2]
 |dot hx hy ih1 ih2=>simp[Go.Proofs.YtgbggaddpbghfaaGreat.dK,gE,cR,ih1,ih2]
 |star hx ih=>simp[Go.Proofs.YtgbggaddpbghfaaGreat.dK,gE,cR,ih]
theorem gD{t a:Int}:∀(e:ae),dK t a e=true→Tree t a e
 | .mk k n ks,h=>by
   rw[gk] at h
   simp only[ae.kind,ae.num,ae.kids,Bool.and_eq_true,beq_iff_eq] at h
   obtain⟨h1,h2⟩:=h
   have len0:(ks.length:Int)=0→ks=[]:=fun h=>List.eq_nil_of_length_eq_zero (by omega)
   have len1:(ks.length:Int)=1→∃x,ks=[x]:=fun h=>by
    match ks,h with
    |[x],_=>exact⟨x,rfl⟩
    |[],h=>simp at h
    |_::_::_,h=>simp at h;omega
   have len2:(ks.length:Int)=2→∃x y,ks=[x,y]:=fun h=>by
    match ks,h with
    |[x,y],_=>exact⟨x,y,rfl⟩
    |[],h=>simp at h
    |[_],h=>simp at h
    |_::_::_::_,h=>simp at h;omega
   have hk:k=1∨k=2∨k=3∨k=4∨k=5∨k=6∨k=7∨k=8:=by
    have h5:0≤cR k:=by omega
    unfold cR at h5
    (repeat' split at h5)<;>simp at* <;>omega
   rcases hk with rfl|rfl|rfl|rfl|rfl|rfl|rfl|rfl
   ·obtain rfl:=len0 (by rw[h1];rfl)
    simp at h2
    subst h2
    exact .zero
   ·obtain rfl:=len0 (by rw[h1];rfl)
    simp at h2
    subst h2
    exact .one
   ·obtain rfl:=len0 (by rw[h1];rfl)
    simp[dJ] at h2
    exact .test h2.1 (by omega)
   ·obtain rfl:=len0 (by rw[h1];rfl)
    simp[dJ] at h2
    exact .act h2.1 (by omega)
   ·obtain⟨x,rfl⟩:=len1 (by rw[h1];rfl)
    simp at h2
    obtain⟨rfl,h3,h4⟩:=h2
    exact .not h3 (gD x h4)
   ·obtain⟨x,y,rfl⟩:=len2 (by rw[h1];rfl)
    simp at h2
    obtain⟨rfl,h3,h4⟩:=h2
    exact .sum (gD x h3) (gD y h4)
   ·obtain⟨x,y,rfl⟩:=len2 (by rw[h1];rfl)
    simp at h2
    obtain⟨rfl,h3,h4⟩:=h2
    exact .dot (gD x h3) (gD y h4)
   ·obtain⟨x,rfl⟩:=len1 (by rw[h1];rfl)
    simp at h2
    obtain⟨rfl,h4⟩:=h2
    exact .star (gD x h4)
abbrev gZ(e:ae):Nat:=aj e+1
theorem rl:∀l m:List ae,aJ (l++m)=aJ l+aJ m
 |[],m=>by simp[aJ]
 |x::l,m=>by simp only[List.cons_append,aJ,rl l m];omega
theorem ti{l:List ae}{i:Nat}(h:i<l.length):aJ (l.take (i+1))=aJ (l.take i)+gZ l[i]:=by
 rw[List.take_add_one,List.getElem?_eq_getElem h,rl]
 simp[aJ,gZ]
theorem xw(l:List ae)(i:Nat):aJ (l.take i)≤aJ l:=by
 have h:=rl (l.take i) (l.drop i)
 rw[List.take_append_drop] at h
 omega
theorem Mh{l:List ae}{x:ae}(h:x∈l):gZ x≤aJ l:=by
 induction l with
 |nil=>cases h
 |cons y l ih=>
  rcases List.mem_cons.1 h with rfl|h
  ·simp only[aJ,gZ];omega
  ·have:=ih h;simp only[aJ];omega
theorem wb(e:ae):gZ e=aJ e.kids+1:=by cases e;rfl
theorem vK{e x:ae}(h:x∈e.kids):gZ x<gZ e:=by
 have:=Mh h
 rw[wb e]
 omega
end Go.Proofs.YtgbggaddpbghfaaGreat
namespace Go.Proofs.YtgbggaddpbghfaaGreat
open Go Go.KA Go.Proofs
set_option maxHeartbeats 16000000
set_option maxRecDepth 100000
theorem nC(x y:ae):aD Tryz.prog 51 [.c (.rp 3 (aI x)), .c (.rp 3 (aI y))] (B (eqv x y)):=by
 have:=nL x y
 rwa[a9,a9] at this
theorem qZ(x:ae)(hb:aj x≤1048576):ah Tryz.prog 137 [.c (.rp 3 (aI x))] [] (.a 3 (aI x)):=by
 have:=Io x hb
 rwa[a9] at this
theorem kN(x:ae):aD Tryz.prog 214 [.c (.rp 3 (aI x))] (B (cQ x)):=by
 have:=iN x
 rwa[a9] at this
section
variable(e:ae)(acc:List ae)(hz:acc.length≤1000000)
include hz
end
section
variable{t a:Int}(ht:t≤3)(ha2:a≤4)
include ht ha2
end
end Go.Proofs.YtgbggaddpbghfaaGreat
namespace Go.Proofs.YtgbggaddpbghfaaGreat
open Go Go.KA Go.Proofs
set_option maxHeartbeats 16000000
set_option maxRecDepth 100000
section
variable{t a:Int}(ht:t≤3)(ha2:a≤4)
include ht ha2
end
end Go.Proofs.YtgbggaddpbghfaaGreat
namespace Go.Proofs.YtgbggaddpbghfaaGreat
open Go Go.KA Go.Proofs
set_option maxHeartbeats 16000000
set_option maxRecDepth 100000
theorem Cc(e:ae)(hn:gZ e≤1000000)(hx:∀x∈e.kids,aD Tryz.prog 193 [.c (.rp 3 (ag x))] (I (gZ x:Nat))):aD Tryz.prog 193 [.c (.rp 3 (aI e))] (I (gZ e:Nat)):=by
 have hb:∀i,aJ (e.kids.take i)+1≤1000000:=fun i=>by
  have:=xw e.kids i
  have:=wb e
  omega
 have hl:e.kids.length≤aJ e.kids:=by
  generalize e.kids=l
  induction l with
  |nil=>simp
  |cons x l ih=>simp only[aJ,List.length_cons];omega
 have hk:=wb e
 refine cF Tryz.func193 (h:= ?_)
 repeat'((conv=>whnf);first
  |(apply bh.mk;first|((rw[ha.2,List.take_of_length_le (by omega),←hk];rfl);done)|skip)|(guard_target=~ aK 3 _ _ _ _ _ _;refine lp (Int × Nat) [0] (fun⟨n,i⟩=>[(3,I n),(4,I (i:Nat))]) (fun⟨n,i⟩=>i≤e.kids.length∧n=(aJ (e.kids.take i)+1:Nat)) (fun⟨n,i⟩=>e.kids.length-i) (1,0) (by exact⟨Nat.zero_le _,by simp[aJ]⟩) (fun A ha=> ?_);obtain⟨n,i⟩:=A;have ha:i≤e.kids.length∧n=(aJ (e.kids.take i)+1:Nat):=ha;have hbi:=hb i;have hnx:=xw e.kids (i+1))
  |refine nx ((n+(gZ (e.kids[i]'(by omega)):Int),i+1):Int × Nat) (by exact⟨by show i+1≤_;omega,by show n+_=_;rw[ti (by omega),ha.2];omega⟩)
  |(apply Fact.mk;intro hL;try simp only[List.length_map,maxLen] at hL)
  |((first|apply bA|apply bB|apply bC|apply bD|apply bE|apply bF)<;>intro h<;>(try simp only[List.length_map] at h)<;>(try omega)<;>(try contradiction))|(guard_target=aa _ 193 _ _ _ _;refine cP rfl (hx _ (List.getElem_mem (show i<e.kids.length by omega))) ?_)|(guard_target=Arith _ _ _;refine Arith.fit (aP (by(have h9:=ti (l:=e.kids) (i:=i) (by omega);have h8:=hb (i+1);omega)) (by(have h9:=ti (l:=e.kids) (i:=i) (by omega);have h8:=hb (i+1);omega))) ?_)|(guard_target=Index _ _ _;first|(refine Index.mk _ (bw (l:=e.kids) (i:=i) (by omega)) ?_)|fail)
  |refine nO ?_)
 all_goals first|rfl|trivial
theorem xj(e:ae)(hn:gZ e≤1000000):aD Tryz.prog 193 [.c (.rp 3 (ag e))] (I (gZ e:Nat)):=by
 rw[a9]
 exact Cc e hn fun x _hx=>xj x (by have:=vK _hx;omega)
 termination_by SizeOf.sizeOf e
 decreasing_by
  have:=List.sizeOf_lt_of_mem _hx
  cases e
  simp only[ae.mk.sizeOf_spec]
  show SizeOf.sizeOf x<_
  simp only[ae.kids] at this
  omega
theorem Aq(e:ae)(hn:gZ e≤1000000):aD Tryz.prog 193 [.c (.rp 3 (aI e))] (I (gZ e:Nat)):=by
 have:=xj e hn
 rwa[a9] at this
section
variable{t a:Int}(ht:t≤3)(ha2:a≤4)
include ht
include ha2
end
end Go.Proofs.YtgbggaddpbghfaaGreat
