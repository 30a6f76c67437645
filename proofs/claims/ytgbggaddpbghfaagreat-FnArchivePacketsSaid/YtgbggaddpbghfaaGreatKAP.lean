/- Contracts of the draws of expressions, which own their memory. No conditions but bounds of size. -/
import Derived.Test.YtgbggaddpbghfaaGreatKAO
namespace Go.Proofs.YtgbggaddpbghfaaGreat
open Go Go.KA Go.Proofs
set_option maxHeartbeats 16000000
set_option maxRecDepth 100000
theorem xd{P:Program}{f:Nat}{args:List SV}{outs:List (Option (List CV))}{k n:Int}{x:ae}(h:ah P f args outs (.a 3 [J k,J n, .own 66 3 [bN x]])):ah P f args outs (.a 3 (bN (.mk k n [x]))):=by
 have e:bN (.mk k n [x])=[J k,J n, .own 66 3 [bN x]]:=by
  show[J k,J n,CV.own 66 3 [ay x]]=_
  rw[dt]
 rw[e]
 exact h
theorem kS(k:Int)(a b:ae):ah Tryz.prog 195 [I k, .m ((bN a).map .c), .m ((bN b).map .c)] [] (.a 3 (bN (sw k a b))):=by
 have e:bN (sw k a b)=[J k,J 0, .own 66 3 [bN a,bN b]]:=by
  show[J k,J 0,CV.own 66 3 [ay a,ay b]]=_
  rw[dt,dt]
 rw[e]
 refine cX Tryz.func195 (h:= ?_)
 repeat'((conv=>whnf);first
  |refine aq.mk ?_ ?_)
 all_goals first|rfl|trivial
section
variable(g:jd)(hg:0≤g.au∧g.au≤3∧0≤g.ai∧g.ai≤4)
include hg
theorem oD(left:Int)(s:Src)(hs:Rd s 800000000)(hc:s.code.length≤1000000)(c:Bool):
 ah Tryz.prog 194 [.c (.op (fg ⟨s,left⟩ g)),B c] [some [.op (fg ⟨(bS g c s).2,left⟩ g)],none] (.a 3 (bN (bS g c s).1)):=by
 have ht:jI g.au:=by unfold jI;omega
 have ha:jI g.ai:=by unfold jI;omega
 have i2:jI 2:=by unfold jI;omega
 have i3:jI 3:=by unfold jI;omega
 have i4:jI 4:=by unfold jI;omega
 obtain⟨gt,ga⟩:=g
 simp only[] at hg ht ha
 have p3:=iA s (hs.mono (by omega)) hc 3 i3
 have hs3:Rd (ar s 3) 800000002:=hs.pick 3
 have hc3:(ar s 3).code.length≤1000000:=by rw[dr];exact hc
 cases c with
 |true=>
  by_cases g2:gt>0
  ·have p4:=iA s (hs.mono (by omega)) hc 4 i4
   have hs4:Rd (ar s 4) 800000004:=(hs.pick 4).mono (by omega)
   have hc4:(ar s 4).code.length≤1000000:=by rw[dr];exact hc
   cases h4:jf s 4 with
   |false=>
    rw[h4] at p4
    have q:=cV (ar s 4) (hs4.mono (by omega)) hc4 gt ht
    have e:bS ⟨gt,ga⟩ true s=(.mk 3 (bK (ar s 4) gt) [],ar (ar s 4) gt):=by simp[bS,fN,gg,g2,h4]
    rw[e]
    simp only[fg]
    refine dX ?_
    refine cX Tryz.func194 (h:= ?_)
    repeat'((conv=>whnf);first
     |refine aq.mk ?_ ?_
     |((first|apply bA|apply bB|apply bC|apply bD|apply bE|apply bF)<;>intro h<;>(try simp only[List.length_map] at h)<;>(try omega)<;>(try contradiction))|(guard_target=aa _ 76 _ _ _ _;refine aa.gen [true,false] _ _ _ rfl p4 rfl rfl _ rfl ?_)|(guard_target=aa _ 53 _ _ _ _;refine aa.gen [true,false] _ _ _ rfl q rfl rfl _ rfl ?_)
     |refine nB ?_)
    all_goals first|rfl|exact⟨rfl,trivial⟩|(exfalso;simp at*;omega)
   |true=>
    rw[h4] at p4
    have q:=cV (ar s 4) (hs4.mono (by omega)) hc4 2 i2
    have qb:=ch (ar s 4) (n:=2) (by omega)
    have e:bS ⟨gt,ga⟩ true s=(.mk (1+bK (ar s 4) 2) 0 [],ar (ar s 4) 2):=by simp[bS,fN,gg,g2,h4]
    rw[e]
    simp only[fg]
    refine dX ?_
    refine cX Tryz.func194 (h:= ?_)
    repeat'((conv=>whnf);first
     |refine aq.mk ?_ ?_
     |((first|apply bA|apply bB|apply bC|apply bD|apply bE|apply bF)<;>intro h<;>(try simp only[List.length_map] at h)<;>(try omega)<;>(try contradiction))|(guard_target=aa _ 76 _ _ _ _;refine aa.gen [true,false] _ _ _ rfl p4 rfl rfl _ rfl ?_)|(guard_target=aa _ 53 _ _ _ _;refine aa.gen [true,false] _ _ _ rfl q rfl rfl _ rfl ?_)|(guard_target=Arith _ _ _;refine Arith.fit (aP (by omega) (by omega)) ?_))
    all_goals first|rfl|exact⟨rfl,trivial⟩|(exfalso;simp at*;omega)
  ·have q:=cV s (hs.mono (by omega)) hc 2 i2
   have qb:=ch s (n:=2) (by omega)
   have e:bS ⟨gt,ga⟩ true s=(.mk (1+bK s 2) 0 [],ar s 2):=by simp[bS,fN,gg,g2]
   rw[e]
   simp only[fg]
   refine dX ?_
   refine cX Tryz.func194 (h:= ?_)
   repeat'((conv=>whnf);first
        |refine aq.mk ?_ ?_
        |((first|apply bA|apply bB|apply bC|apply bD|apply bE|apply bF)<;>intro h<;>(try simp only[List.length_map] at h)<;>(try omega)<;>(try contradiction))|(guard_target=aa _ 53 _ _ _ _;refine aa.gen [true,false] _ _ _ rfl q rfl rfl _ rfl ?_)|(guard_target=Arith _ _ _;refine Arith.fit (aP (by omega) (by omega)) ?_))
   all_goals first|rfl|exact⟨rfl,trivial⟩|(exfalso;simp at*;omega)
 |false=>
  by_cases g1:ga>0
  ·cases h3:jf s 3 with
   |false=>
    rw[h3] at p3
    have q:=cV (ar s 3) (hs3.mono (by omega)) hc3 ga ha
    have e:bS ⟨gt,ga⟩ false s=(.mk 4 (bK (ar s 3) ga) [],ar (ar s 3) ga):=by simp[bS,g1,h3]
    rw[e]
    simp only[fg]
    refine dX ?_
    refine cX Tryz.func194 (h:= ?_)
    repeat'((conv=>whnf);first
       |refine aq.mk ?_ ?_
       |((first|apply bA|apply bB|apply bC|apply bD|apply bE|apply bF)<;>intro h<;>(try simp only[List.length_map] at h)<;>(try omega)<;>(try contradiction))|(guard_target=aa _ 76 _ _ _ _;refine aa.gen [true,false] _ _ _ rfl p3 rfl rfl _ rfl ?_)|(guard_target=aa _ 53 _ _ _ _;refine aa.gen [true,false] _ _ _ rfl q rfl rfl _ rfl ?_)
       |refine nB ?_)
    all_goals first|rfl|exact⟨rfl,trivial⟩|(exfalso;simp at*;omega)
   |true=>
    rw[h3] at p3
    by_cases g2:gt>0
    ·have p4:=iA (ar s 3) (hs3.mono (by omega)) hc3 4 i4
     have hs4:Rd (ar (ar s 3) 4) 800000004:=(hs3.pick 4).mono (by omega)
     have hc4:(ar (ar s 3) 4).code.length≤1000000:=by rw[dr];exact hc3
     cases h4:jf (ar s 3) 4 with
     |false=>
      rw[h4] at p4
      have q:=cV (ar (ar s 3) 4) (hs4.mono (by omega)) hc4 gt ht
      have e:bS ⟨gt,ga⟩ false s=(.mk 3 (bK (ar (ar s 3) 4) gt) [],ar (ar (ar s 3) 4) gt):=by simp[bS,fN,gg,g2,h4,g1,h3]
      rw[e]
      simp only[fg]
      refine dX ?_
      refine cX Tryz.func194 (h:= ?_)
      repeat'((conv=>whnf);first
       |refine aq.mk ?_ ?_
       |((first|apply bA|apply bB|apply bC|apply bD|apply bE|apply bF)<;>intro h<;>(try simp only[List.length_map] at h)<;>(try omega)<;>(try contradiction))|(guard_target=aa _ 76 _ _ _ _;(first|refine aa.gen [true,false] _ _ _ rfl p3 rfl rfl _ rfl ?_|refine aa.gen [true,false] _ _ _ rfl p4 rfl rfl _ rfl ?_))|(guard_target=aa _ 53 _ _ _ _;refine aa.gen [true,false] _ _ _ rfl q rfl rfl _ rfl ?_)
       |refine nB ?_)
      all_goals first|rfl|exact⟨rfl,trivial⟩|(exfalso;simp at*;omega)
     |true=>
      rw[h4] at p4
      have q:=cV (ar (ar s 3) 4) (hs4.mono (by omega)) hc4 2 i2
      have qb:=ch (ar (ar s 3) 4) (n:=2) (by omega)
      have e:bS ⟨gt,ga⟩ false s=(.mk (1+bK (ar (ar s 3) 4) 2) 0 [],ar (ar (ar s 3) 4) 2):=by simp[bS,fN,gg,g2,h4,g1,h3]
      rw[e]
      simp only[fg]
      refine dX ?_
      refine cX Tryz.func194 (h:= ?_)
      repeat'((conv=>whnf);first
       |refine aq.mk ?_ ?_
       |((first|apply bA|apply bB|apply bC|apply bD|apply bE|apply bF)<;>intro h<;>(try simp only[List.length_map] at h)<;>(try omega)<;>(try contradiction))|(guard_target=aa _ 76 _ _ _ _;(first|refine aa.gen [true,false] _ _ _ rfl p3 rfl rfl _ rfl ?_|refine aa.gen [true,false] _ _ _ rfl p4 rfl rfl _ rfl ?_))|(guard_target=aa _ 53 _ _ _ _;refine aa.gen [true,false] _ _ _ rfl q rfl rfl _ rfl ?_)|(guard_target=Arith _ _ _;refine Arith.fit (aP (by omega) (by omega)) ?_))
      all_goals first|rfl|exact⟨rfl,trivial⟩|(exfalso;simp at*;omega)
    ·have q:=cV (ar s 3) (hs3.mono (by omega)) hc3 2 i2
     have qb:=ch (ar s 3) (n:=2) (by omega)
     have e:bS ⟨gt,ga⟩ false s=(.mk (1+bK (ar s 3) 2) 0 [],ar (ar s 3) 2):=by simp[bS,fN,gg,g2,g1,h3]
     rw[e]
     simp only[fg]
     refine dX ?_
     refine cX Tryz.func194 (h:= ?_)
     repeat'((conv=>whnf);first
         |refine aq.mk ?_ ?_
         |((first|apply bA|apply bB|apply bC|apply bD|apply bE|apply bF)<;>intro h<;>(try simp only[List.length_map] at h)<;>(try omega)<;>(try contradiction))|(guard_target=aa _ 76 _ _ _ _;refine aa.gen [true,false] _ _ _ rfl p3 rfl rfl _ rfl ?_)|(guard_target=aa _ 53 _ _ _ _;refine aa.gen [true,false] _ _ _ rfl q rfl rfl _ rfl ?_)|(guard_target=Arith _ _ _;refine Arith.fit (aP (by omega) (by omega)) ?_))
     all_goals first|rfl|exact⟨rfl,trivial⟩|(exfalso;simp at*;omega)
  ·clear p3 hs3 hc3
   by_cases g2:gt>0
   ·have p4:=iA s (hs.mono (by omega)) hc 4 i4
    have hs4:Rd (ar s 4) 800000004:=(hs.pick 4).mono (by omega)
    have hc4:(ar s 4).code.length≤1000000:=by rw[dr];exact hc
    cases h4:jf s 4 with
    |false=>
     rw[h4] at p4
     have q:=cV (ar s 4) (hs4.mono (by omega)) hc4 gt ht
     have e:bS ⟨gt,ga⟩ false s=(.mk 3 (bK (ar s 4) gt) [],ar (ar s 4) gt):=by simp[bS,fN,gg,g2,h4,g1]
     rw[e]
     simp only[fg]
     refine dX ?_
     refine cX Tryz.func194 (h:= ?_)
     repeat'((conv=>whnf);first
         |refine aq.mk ?_ ?_
         |((first|apply bA|apply bB|apply bC|apply bD|apply bE|apply bF)<;>intro h<;>(try simp only[List.length_map] at h)<;>(try omega)<;>(try contradiction))|(guard_target=aa _ 76 _ _ _ _;refine aa.gen [true,false] _ _ _ rfl p4 rfl rfl _ rfl ?_)|(guard_target=aa _ 53 _ _ _ _;refine aa.gen [true,false] _ _ _ rfl q rfl rfl _ rfl ?_)
         |refine nB ?_)
     all_goals first|rfl|exact⟨rfl,trivial⟩|(exfalso;simp at*;omega)
    |true=>
     rw[h4] at p4
     have q:=cV (ar s 4) (hs4.mono (by omega)) hc4 2 i2
     have qb:=ch (ar s 4) (n:=2) (by omega)
     have e:bS ⟨gt,ga⟩ false s=(.mk (1+bK (ar s 4) 2) 0 [],ar (ar s 4) 2):=by simp[bS,fN,gg,g2,h4,g1]
     rw[e]
     simp only[fg]
     refine dX ?_
     refine cX Tryz.func194 (h:= ?_)
     repeat'((conv=>whnf);first
         |refine aq.mk ?_ ?_
         |((first|apply bA|apply bB|apply bC|apply bD|apply bE|apply bF)<;>intro h<;>(try simp only[List.length_map] at h)<;>(try omega)<;>(try contradiction))|(guard_target=aa _ 76 _ _ _ _;refine aa.gen [true,false] _ _ _ rfl p4 rfl rfl _ rfl ?_)|(guard_target=aa _ 53 _ _ _ _;refine aa.gen [true,false] _ _ _ rfl q rfl rfl _ rfl ?_)|(guard_target=Arith _ _ _;refine Arith.fit (aP (by omega) (by omega)) ?_))
     all_goals first|rfl|exact⟨rfl,trivial⟩|(exfalso;simp at*;omega)
   ·have q:=cV s (hs.mono (by omega)) hc 2 i2
    have qb:=ch s (n:=2) (by omega)
    have e:bS ⟨gt,ga⟩ false s=(.mk (1+bK s 2) 0 [],ar s 2):=by simp[bS,fN,gg,g2,g1]
    rw[e]
    simp only[fg]
    refine dX ?_
    refine cX Tryz.func194 (h:= ?_)
    repeat'((conv=>whnf);first
       |refine aq.mk ?_ ?_
       |((first|apply bA|apply bB|apply bC|apply bD|apply bE|apply bF)<;>intro h<;>(try simp only[List.length_map] at h)<;>(try omega)<;>(try contradiction))|(guard_target=aa _ 53 _ _ _ _;refine aa.gen [true,false] _ _ _ rfl q rfl rfl _ rfl ?_)|(guard_target=Arith _ _ _;refine Arith.fit (aP (by omega) (by omega)) ?_))
    all_goals first|rfl|exact⟨rfl,trivial⟩|(exfalso;simp at*;omega)
end
section
variable(g:jd)(hg:0≤g.au∧g.au≤3∧0≤g.ai∧g.ai≤4)
include hg
theorem lO:∀(d:Nat) (dp:Int) (c:Bool) (r:Eo) (n:Int),dp=d→Room d r n→d≤1000→
 ah Tryz.prog 170 [.c (.op (fg r g)),B c,I dp] [some [.op (fg (bo g d c r).2 g)],none,none] (.a 3 (bN (bo g d c r).1))
 |0,dp,c,⟨s,left⟩,n,hdp,⟨hs,hn,hc,hl,hu⟩,hd=>by
  have h0:=lb 0
  simp only[] at hs hc hl hu
  have lf:=oD g hg (left-1) s (hs.mono (by omega)) hc c
  have e1:bo g 0 c ⟨s,left⟩=((bS g c s).1,⟨(bS g c s).2,left-1⟩):=rfl
  rw[e1]
  generalize bS g c s=X at lf⊢
  obtain⟨⟨k1,n1,ks1⟩,s1⟩:=X
  simp only[fg] at lf⊢
  refine cX Tryz.func170 (h:= ?_)
  repeat'((conv=>whnf);first
   |refine aq.mk ?_ ?_
   |((first|apply bA|apply bB|apply bC|apply bD|apply bE|apply bF)<;>intro h<;>(try simp only[List.length_map] at h)<;>(try omega)<;>(try contradiction))|(guard_target=aa _ 194 _ _ _ _;refine aa.gen [true,false] _ _ _ rfl lf rfl rfl _ rfl ?_)|(guard_target=Arith _ _ _;refine Arith.fit (aP (by omega) (by omega)) ?_))
  all_goals first|rfl|exact⟨rfl,trivial⟩|(exfalso;simp at*;omega)
 |d+1,dp,c,⟨s,left⟩,n,hdp,⟨hs,hn,hc,hl,hu⟩,hd=>by
  have h0:=lb d
  have h1:=nY d
  have hp:=two_pow_succ (d+1)
  have hq:2≤2^(d+1):=by have:=two_pow_succ d;have:0<2^d:=Nat.pow_pos (by omega);omega
  simp only[] at hs hc hl hu
  have i6:jI 6:=by unfold jI;omega
  have i5:jI 5:=by unfold jI;omega
  have i10:jI 10:=by unfold jI;omega
  by_cases g1:left-1<1
  ·have lf:=oD g hg (left-1) s (hs.mono (by omega)) hc c
   have e1:bo g (d+1) c ⟨s,left⟩=((bS g c s).1,⟨(bS g c s).2,left-1⟩):=by rw[bo,if_pos g1];rfl
   rw[e1]
   generalize bS g c s=X at lf⊢
   obtain⟨⟨k1,n1,ks1⟩,s1⟩:=X
   simp only[fg] at lf⊢
   refine cX Tryz.func170 (h:= ?_)
   repeat'((conv=>whnf);first
    |refine aq.mk ?_ ?_
    |((first|apply bA|apply bB|apply bC|apply bD|apply bE|apply bF)<;>intro h<;>(try simp only[List.length_map] at h)<;>(try omega)<;>(try contradiction))|(guard_target=aa _ 194 _ _ _ _;refine aa.gen [true,false] _ _ _ rfl lf rfl rfl _ rfl ?_)|(guard_target=Arith _ _ _;refine Arith.fit (aP (by omega) (by omega)) ?_))
   all_goals first|rfl|exact⟨rfl,trivial⟩|(exfalso;simp at*;omega)
  have p6:=iA s (hs.mono (by omega)) hc 6 i6
  have hs6:Rd (ar s 6) (n+2):=hs.pick 6
  have hc6:(ar s 6).code.length≤1000000:=by rw[dr];exact hc
  cases h6:jf s 6 with
  |true=>
   rw[h6] at p6
   have lf:=oD g hg (left-1) (ar s 6) (hs6.mono (by omega)) hc6 c
   have e1:bo g (d+1) c ⟨s,left⟩=((bS g c (ar s 6)).1,⟨(bS g c (ar s 6)).2,left-1⟩):=by rw[bo,if_neg g1,if_pos h6];rfl
   rw[e1]
   generalize bS g c (ar s 6)=X at lf⊢
   obtain⟨⟨k1,n1,ks1⟩,s1⟩:=X
   simp only[fg] at lf⊢
   refine cX Tryz.func170 (h:= ?_)
   repeat'((conv=>whnf);first
    |refine aq.mk ?_ ?_
    |((first|apply bA|apply bB|apply bC|apply bD|apply bE|apply bF)<;>intro h<;>(try simp only[List.length_map] at h)<;>(try omega)<;>(try contradiction))|(guard_target=aa _ 76 _ _ _ _;refine aa.gen [true,false] _ _ _ rfl p6 rfl rfl _ rfl ?_)|(guard_target=aa _ 194 _ _ _ _;refine aa.gen [true,false] _ _ _ rfl lf rfl rfl _ rfl ?_)|(guard_target=Arith _ _ _;refine Arith.fit (aP (by omega) (by omega)) ?_))
   all_goals first|rfl|exact⟨rfl,trivial⟩|(exfalso;simp at*;omega)
  |false=>
   rw[h6] at p6
   have pk:=cV (ar s 6) (hs6.mono (by omega)) hc6 10 i10
   have bk:=ch (ar s 6) (n:=10) (by omega)
   have hsA:Rd (ar (ar s 6) 10) (n+4):=(hs6.pick 10).mono (by omega)
   have hcA:(ar (ar s 6) 10).code.length≤1000000:=by rw[dr];exact hc6
   rw[bo,if_neg g1,if_neg (by show¬jf s 6=true;rw[h6];simp)]
   simp only[]
   generalize bK (ar s 6) 10=k at pk bk⊢
   generalize ar (ar s 6) 10=sA at pk hsA hcA⊢
   by_cases g2:k=0∨(c=true∧k<4)
   ·rw[if_pos g2]
    have ih:=lO d (dp-1) true ⟨sA,left-1⟩ (n+4) (by omega) ⟨hsA,by omega,hcA,by simp only[];omega,by simp only[];omega⟩ (by omega)
    generalize bo g d true ⟨sA,left-1⟩=X at ih⊢
    obtain⟨⟨k1,n1,ks1⟩,⟨s1,l1⟩⟩:=X
    simp only[fg] at ih⊢
    refine xd ?_
    cases c
    ·skip
     refine cX Tryz.func170 (h:= ?_)
     repeat'((conv=>whnf);first
       |refine aq.mk ?_ ?_
       |((first|apply bA|apply bB|apply bC|apply bD|apply bE|apply bF)<;>intro h<;>(try simp only[List.length_map] at h)<;>(try omega)<;>(try contradiction))|(guard_target=aa _ 76 _ _ _ _;refine aa.gen [true,false] _ _ _ rfl p6 rfl rfl _ rfl ?_)|(guard_target=aa _ 53 _ _ _ _;refine aa.gen [true,false] _ _ _ rfl pk rfl rfl _ rfl ?_)|(guard_target=aa _ 170 _ _ _ _;refine aa.gen [true,false,false] _ _ _ rfl ih rfl rfl _ rfl ?_)|(guard_target=Arith _ _ _;refine Arith.fit (aP (by omega) (by omega)) ?_))
     all_goals first|rfl|exact⟨rfl,trivial⟩|(exfalso;simp at*;omega)
    ·skip
     refine cX Tryz.func170 (h:= ?_)
     repeat'((conv=>whnf);first
       |refine aq.mk ?_ ?_
       |((first|apply bA|apply bB|apply bC|apply bD|apply bE|apply bF)<;>intro h<;>(try simp only[List.length_map] at h)<;>(try omega)<;>(try contradiction))|(guard_target=aa _ 76 _ _ _ _;refine aa.gen [true,false] _ _ _ rfl p6 rfl rfl _ rfl ?_)|(guard_target=aa _ 53 _ _ _ _;refine aa.gen [true,false] _ _ _ rfl pk rfl rfl _ rfl ?_)|(guard_target=aa _ 170 _ _ _ _;refine aa.gen [true,false,false] _ _ _ rfl ih rfl rfl _ rfl ?_)|(guard_target=Arith _ _ _;refine Arith.fit (aP (by omega) (by omega)) ?_))
     all_goals first|rfl|exact⟨rfl,trivial⟩|(exfalso;simp at*;omega)
   rw[if_neg g2]
   by_cases g3:k<4
   ·rw[if_pos g3]
    have ih:=lO d (dp-1) false ⟨sA,left-1⟩ (n+4) (by omega) ⟨hsA,by omega,hcA,by simp only[];omega,by simp only[];omega⟩ (by omega)
    generalize bo g d false ⟨sA,left-1⟩=X at ih⊢
    obtain⟨⟨k1,n1,ks1⟩,⟨s1,l1⟩⟩:=X
    simp only[fg] at ih⊢
    refine xd ?_
    cases c
    ·skip
     refine cX Tryz.func170 (h:= ?_)
     repeat'((conv=>whnf);first
       |refine aq.mk ?_ ?_
       |((first|apply bA|apply bB|apply bC|apply bD|apply bE|apply bF)<;>intro h<;>(try simp only[List.length_map] at h)<;>(try omega)<;>(try contradiction))|(guard_target=aa _ 76 _ _ _ _;refine aa.gen [true,false] _ _ _ rfl p6 rfl rfl _ rfl ?_)|(guard_target=aa _ 53 _ _ _ _;refine aa.gen [true,false] _ _ _ rfl pk rfl rfl _ rfl ?_)|(guard_target=aa _ 170 _ _ _ _;refine aa.gen [true,false,false] _ _ _ rfl ih rfl rfl _ rfl ?_)|(guard_target=Arith _ _ _;refine Arith.fit (aP (by omega) (by omega)) ?_))
     all_goals first|rfl|exact⟨rfl,trivial⟩|(exfalso;simp at*;omega)
    ·skip
     refine cX Tryz.func170 (h:= ?_)
     repeat'((conv=>whnf);first
       |((first|apply bA|apply bB|apply bC|apply bD|apply bE|apply bF)<;>intro h<;>(try simp only[List.length_map] at h)<;>(try omega)<;>(try contradiction))|(guard_target=aa _ 76 _ _ _ _;refine aa.gen [true,false] _ _ _ rfl p6 rfl rfl _ rfl ?_)|(guard_target=aa _ 53 _ _ _ _;refine aa.gen [true,false] _ _ _ rfl pk rfl rfl _ rfl ?_)|(guard_target=Arith _ _ _;refine Arith.fit (aP (by omega) (by omega)) ?_))
     all_goals first|rfl|exact⟨rfl,trivial⟩|(exfalso;simp at*;omega)
   rw[if_neg g3]
   cases c with
   |true=>
    simp only[lG,jh,if_true]
    have ia:=lO d (dp-1) true ⟨sA,left-1⟩ (n+4) (by omega) ⟨hsA,by omega,hcA,by simp only[];omega,by simp only[];omega⟩ (by omega)
    have ra:=Rd.expr g d true ⟨sA,left-1⟩ hsA
    have la:=gV g d true ⟨sA,left-1⟩
    have ca:=jk g d true ⟨sA,left-1⟩
    generalize bo g d true ⟨sA,left-1⟩=X at ia ra la ca⊢
    obtain⟨⟨k1,n1,ks1⟩,⟨s1,l1⟩⟩:=X
    simp only[] at ra la ca ia⊢
    have ib:=lO d (dp-1) true ⟨s1,l1⟩ (n+4+lV d) (by omega) ⟨ra,by omega,by simp only[];rw[ca];exact hcA,by simp only[];omega,by simp only[];omega⟩ (by omega)
    generalize bo g d true ⟨s1,l1⟩=Y at ib⊢
    obtain⟨⟨k2,n2,ks2⟩,⟨s2,l2⟩⟩:=Y
    simp only[fg] at ia ib⊢
    by_cases g4:k<6
    ·rw[if_pos g4]
     have pr:=kS 6 (.mk k1 n1 ks1) (.mk k2 n2 ks2)
     refine cX Tryz.func170 (h:= ?_)
     repeat'((conv=>whnf);first
        |refine aq.mk ?_ ?_
        |((first|apply bA|apply bB|apply bC|apply bD|apply bE|apply bF)<;>intro h<;>(try simp only[List.length_map] at h)<;>(try omega)<;>(try contradiction))|(guard_target=aa _ 76 _ _ _ _;refine aa.gen [true,false] _ _ _ rfl p6 rfl rfl _ rfl ?_)|(guard_target=aa _ 53 _ _ _ _;refine aa.gen [true,false] _ _ _ rfl pk rfl rfl _ rfl ?_)|(guard_target=aa _ 170 _ _ _ _;(first|refine aa.gen [true,false,false] _ _ _ rfl ia rfl rfl _ rfl ?_|refine aa.gen [true,false,false] _ _ _ rfl ib rfl rfl _ rfl ?_))|(guard_target=aa _ 195 _ _ _ _;refine aa.gen [false,true,true] _ _ _ rfl pr rfl rfl _ rfl ?_)|(guard_target=Arith _ _ _;refine Arith.fit (aP (by omega) (by omega)) ?_))
     all_goals first|rfl|exact⟨rfl,trivial⟩|(exfalso;simp at*;omega)
    ·rw[if_neg g4]
     have pr:=kS 7 (.mk k1 n1 ks1) (.mk k2 n2 ks2)
     refine cX Tryz.func170 (h:= ?_)
     repeat'((conv=>whnf);first
        |refine aq.mk ?_ ?_
        |((first|apply bA|apply bB|apply bC|apply bD|apply bE|apply bF)<;>intro h<;>(try simp only[List.length_map] at h)<;>(try omega)<;>(try contradiction))|(guard_target=aa _ 76 _ _ _ _;refine aa.gen [true,false] _ _ _ rfl p6 rfl rfl _ rfl ?_)|(guard_target=aa _ 53 _ _ _ _;refine aa.gen [true,false] _ _ _ rfl pk rfl rfl _ rfl ?_)|(guard_target=aa _ 170 _ _ _ _;(first|refine aa.gen [true,false,false] _ _ _ rfl ia rfl rfl _ rfl ?_|refine aa.gen [true,false,false] _ _ _ rfl ib rfl rfl _ rfl ?_))|(guard_target=aa _ 195 _ _ _ _;refine aa.gen [false,true,true] _ _ _ rfl pr rfl rfl _ rfl ?_)|(guard_target=Arith _ _ _;refine Arith.fit (aP (by omega) (by omega)) ?_))
     all_goals first|rfl|exact⟨rfl,trivial⟩|(exfalso;simp at*;omega)
   |false=>
    simp only[lG,jh,Bool.false_eq_true,if_false]
    have p5:=iA sA (hsA.mono (by omega)) hcA 5 i5
    have hs5:Rd (ar sA 5) (n+6):=(hsA.pick 5).mono (by omega)
    have hc5:(ar sA 5).code.length≤1000000:=by rw[dr];exact hcA
    generalize jf sA 5=b5 at p5⊢
    generalize ar sA 5=sB at p5 hs5 hc5⊢
    have ia:=lO d (dp-1) b5 ⟨sB,left-1⟩ (n+6) (by omega) ⟨hs5,by omega,hc5,by simp only[];omega,by simp only[];omega⟩ (by omega)
    have ra:=Rd.expr g d b5 ⟨sB,left-1⟩ hs5
    have la:=gV g d b5 ⟨sB,left-1⟩
    have ca:=jk g d b5 ⟨sB,left-1⟩
    generalize bo g d b5 ⟨sB,left-1⟩=X at ia ra la ca⊢
    obtain⟨⟨k1,n1,ks1⟩,⟨s1,l1⟩⟩:=X
    simp only[] at ra la ca ia⊢
    have hc1:s1.code.length≤1000000:=by rw[ca];exact hc5
    have p1:=iA s1 (ra.mono (by omega)) hc1 6 i6
    have rb:Rd (ar s1 6) (n+8+lV d):=(ra.pick 6).mono (by omega)
    have hcb:(ar s1 6).code.length≤1000000:=by rw[dr];exact hc1
    generalize jf s1 6=b6 at p1⊢
    generalize ar s1 6=sC at p1 rb hcb⊢
    have ib:=lO d (dp-1) b6 ⟨sC,l1⟩ (n+8+lV d) (by omega) ⟨rb,by omega,hcb,by simp only[];omega,by simp only[];omega⟩ (by omega)
    generalize bo g d b6 ⟨sC,l1⟩=Y at ib⊢
    obtain⟨⟨k2,n2,ks2⟩,⟨s2,l2⟩⟩:=Y
    simp only[fg] at ia ib⊢
    by_cases g4:k<6
    ·rw[if_pos g4]
     have pr:=kS 6 (.mk k1 n1 ks1) (.mk k2 n2 ks2)
     refine cX Tryz.func170 (h:= ?_)
     repeat'((conv=>whnf);first
        |refine aq.mk ?_ ?_
        |((first|apply bA|apply bB|apply bC|apply bD|apply bE|apply bF)<;>intro h<;>(try simp only[List.length_map] at h)<;>(try omega)<;>(try contradiction))|(guard_target=aa _ 76 _ _ _ _;(first|refine aa.gen [true,false] _ _ _ rfl p6 rfl rfl _ rfl ?_|refine aa.gen [true,false] _ _ _ rfl p5 rfl rfl _ rfl ?_|refine aa.gen [true,false] _ _ _ rfl p1 rfl rfl _ rfl ?_))|(guard_target=aa _ 53 _ _ _ _;refine aa.gen [true,false] _ _ _ rfl pk rfl rfl _ rfl ?_)|(guard_target=aa _ 170 _ _ _ _;(first|refine aa.gen [true,false,false] _ _ _ rfl ia rfl rfl _ rfl ?_|refine aa.gen [true,false,false] _ _ _ rfl ib rfl rfl _ rfl ?_))|(guard_target=aa _ 195 _ _ _ _;refine aa.gen [false,true,true] _ _ _ rfl pr rfl rfl _ rfl ?_)|(guard_target=Arith _ _ _;refine Arith.fit (aP (by omega) (by omega)) ?_))
     all_goals first|rfl|exact⟨rfl,trivial⟩|(exfalso;simp at*;omega)
    ·rw[if_neg g4]
     have pr:=kS 7 (.mk k1 n1 ks1) (.mk k2 n2 ks2)
     refine cX Tryz.func170 (h:= ?_)
     repeat'((conv=>whnf);first
        |refine aq.mk ?_ ?_
        |((first|apply bA|apply bB|apply bC|apply bD|apply bE|apply bF)<;>intro h<;>(try simp only[List.length_map] at h)<;>(try omega)<;>(try contradiction))|(guard_target=aa _ 76 _ _ _ _;(first|refine aa.gen [true,false] _ _ _ rfl p6 rfl rfl _ rfl ?_|refine aa.gen [true,false] _ _ _ rfl p5 rfl rfl _ rfl ?_|refine aa.gen [true,false] _ _ _ rfl p1 rfl rfl _ rfl ?_))|(guard_target=aa _ 53 _ _ _ _;refine aa.gen [true,false] _ _ _ rfl pk rfl rfl _ rfl ?_)|(guard_target=aa _ 170 _ _ _ _;(first|refine aa.gen [true,false,false] _ _ _ rfl ia rfl rfl _ rfl ?_|refine aa.gen [true,false,false] _ _ _ rfl ib rfl rfl _ rfl ?_))|(guard_target=aa _ 195 _ _ _ _;refine aa.gen [false,true,true] _ _ _ rfl pr rfl rfl _ rfl ?_)|(guard_target=Arith _ _ _;refine Arith.fit (aP (by omega) (by omega)) ?_))
     all_goals first|rfl|exact⟨rfl,trivial⟩|(exfalso;simp at*;omega)
end
theorem sD(g:jd)(hg:0≤g.au∧g.au≤3∧0≤g.ai∧g.ai≤4)(s:Src)(hs:Rd s 600000000)(hc:s.code.length≤1000000)(n:Int)(hn:0≤n∧n≤100):
 ah Tryz.prog 139 [.c (.op (c8 s)), .a 2 [J g.au,J g.ai],I n] [some [.op (c8 (bo g 6 false ⟨s,n⟩).2.s)],none,none] (.a 3 (bN (bo g 6 false ⟨s,n⟩).1)):=by
 have e:=wT
 have h:=lO g hg 6 6 false ⟨s,n⟩ 600000000 rfl ⟨hs,by omega,hc,by simp only[];omega,by simp only[];omega⟩ (by omega)
 obtain⟨gt,ga⟩:=g
 generalize bo ⟨gt,ga⟩ 6 false ⟨s,n⟩=X at h⊢
 obtain⟨⟨k1,n1,ks1⟩,⟨s1,l1⟩⟩:=X
 simp only[fg] at h⊢
 refine cX Tryz.func139 (h:= ?_)
 repeat'((conv=>whnf);first
  |refine aq.mk ?_ ?_|(guard_target=aa _ 170 _ _ _ _;refine aa.gen [true,false,false] _ _ _ rfl h rfl rfl _ rfl ?_))
 all_goals first|rfl|exact⟨rfl,trivial⟩
end Go.Proofs.YtgbggaddpbghfaaGreat
namespace Go.Proofs.YtgbggaddpbghfaaGreat
open Go Go.KA Go.Proofs
set_option maxHeartbeats 16000000
set_option maxRecDepth 100000
section
variable{t a k:Int}{cl:List (List CV)}{e L R X SL SR Zl Zr:ae}{path:List Int}{ts us:List (List CV)}{use fT fA cdl cdr:Int}{ub fb bb sl sr bk:Bool}{r:SV}
 (cu:ah Tryz.prog 196 [.c (.rp 3 [J t,J a, .ro 9 cl]),I k,I use] [] (.tup [.a 6 [J L.kind,J L.num, .ro 3 (L.kids.map ag),J R.kind,J R.num, .ro 3 (R.kids.map ag)],B ub]))
 (cf:aD Tryz.prog 187 [.c (.rp 6 [J L.kind,J L.num, .ro 3 (L.kids.map ag),J R.kind,J R.num, .ro 3 (R.kids.map ag)])] (.tup [I fT,I fA]))
 (ca:aD Tryz.prog 197 [.c (.rp 3 (aI e)), .c (.ro 1 (path.map eI))] (.tup [.c (.rp 3 (aI X)),B bb,B fb]))
 (c1:ah Tryz.prog 168 [.a 2 [J t,J a], .c (.rp 6 [J L.kind,J L.num, .ro 3 (L.kids.map ag),J R.kind,J R.num, .ro 3 (R.kids.map ag)]), .c (.ro 3 ts), .c (.ro 3 us)] [] (.tup [.a 3 (aI SL),B sl]))
 (c2:ah Tryz.prog 168 [.a 2 [J t,J a], .c (.rp 3 (aI R)), .c (.ro 3 ts), .c (.ro 3 us)] [] (.tup [.a 3 (aI SR),B sr]))
 (crl:ah Tryz.prog 198 [.a 2 [J t,J a], .c (.rp 3 (aI e)), .c (.ro 1 (path.map eI)), .c (.rp 3 (aI SL))] [] (.tup [.a 3 (bN Zl),I cdl]))
 (crr:ah Tryz.prog 198 [.a 2 [J t,J a], .c (.rp 3 (aI e)), .c (.ro 1 (path.map eI)), .c (.rp 3 (aI SR))] [] (.tup [.a 3 (bN Zr),I cdr]))
 (e1:ub=false→r= .tup [.a 3 [J 0,J 0, .ows 66 3 []],I 2])
 (e2:ub=true→¬((ts.length:Nat):Int)=fT→r= .tup [.a 3 [J 0,J 0, .ows 66 3 []],I 2])
 (e3:ub=true→((ts.length:Nat):Int)=fT→¬((us.length:Nat):Int)=fA→r= .tup [.a 3 [J 0,J 0, .ows 66 3 []],I 2])
 (e4:ub=true→((ts.length:Nat):Int)=fT→((us.length:Nat):Int)=fA→fb=false→r= .tup [.a 3 [J 0,J 0, .ows 66 3 []],I 2])
 (e5:ub=true→((ts.length:Nat):Int)=fT→((us.length:Nat):Int)=fA→fb=true→sl=false→r= .tup [.a 3 [J 0,J 0, .ows 66 3 []],I 3])
 (e6:ub=true→((ts.length:Nat):Int)=fT→((us.length:Nat):Int)=fA→fb=true→sl=true→sr=false→r= .tup [.a 3 [J 0,J 0, .ows 66 3 []],I 3])
 (e7:ub=true→((ts.length:Nat):Int)=fT→((us.length:Nat):Int)=fA→fb=true→sl=true→sr=true→eqv X (if bk=true then SR else SL)=false→r= .tup [.a 3 [J 0,J 0, .ows 66 3 []],I 6])
 (e8:ub=true→((ts.length:Nat):Int)=fT→((us.length:Nat):Int)=fA→fb=true→sl=true→sr=true→eqv X (if bk=true then SR else SL)=true→r=if bk=true then .tup [.a 3 (bN Zl),I cdl] else .tup [.a 3 (bN Zr),I cdr])
include cu cf ca c1 c2 crl crr e1 e2 e3 e4 e5 e6 e7 e8
theorem BL:ah Tryz.prog 172 [.c (.rp 3 [J t,J a, .ro 9 cl]),I k, .c (.rp 3 (aI e)), .c (.rp 5 [J use, .val (.bool bk), .ro 1 (path.map eI), .ro 3 ts, .ro 3 us])] [] r:=by
 have hbfalse:bk=false→ah Tryz.prog 172 [.c (.rp 3 [J t,J a, .ro 9 cl]),I k, .c (.rp 3 (aI e)), .c (.rp 5 [J use, .val (.bool bk), .ro 1 (path.map eI), .ro 3 ts, .ro 3 us])] [] r:=by
  rintro rfl
  have e7':=fun a b c d e f g=>e7 a b c d e f (show eqv X SL=false from fx g)
  have e8':=fun a b c d e f g=>e8 a b c d e f (show eqv X SL=true from lU g)
  refine cX Tryz.func172 (fun reg_=>match reg_ with|4=>true|18=>true|_=>false) (h:= ?_)
  repeat'((conv=>whnf);first
   |(guard_target=aq _ _;(have g0:=‹ub=false›);(obtain rfl:=e1 g0);exact aq.mk rfl trivial)|(guard_target=aq _ _;(have g0:=‹ub=true›);(have g1:=‹¬((ts.length:Nat):Int)=fT›);(obtain rfl:=e2 g0 g1);exact aq.mk rfl trivial)|(guard_target=aq _ _;(have g0:=‹ub=true›);(have g1:=‹((ts.length:Nat):Int)=fT›);(have g2:=‹¬((us.length:Nat):Int)=fA›);(obtain rfl:=e3 g0 g1 g2);exact aq.mk rfl trivial)|(guard_target=aq _ _;(have g0:=‹ub=true›);(have g1:=‹((ts.length:Nat):Int)=fT›);(have g2:=‹((us.length:Nat):Int)=fA›);(have g3:=‹fb=false›);(obtain rfl:=e4 g0 g1 g2 g3);exact aq.mk rfl trivial)|(guard_target=aq _ _;(have g0:=‹ub=true›);(have g1:=‹((ts.length:Nat):Int)=fT›);(have g2:=‹((us.length:Nat):Int)=fA›);(have g3:=‹fb=true›);(have g4:=‹sl=false›);(obtain rfl:=e5 g0 g1 g2 g3 g4);exact aq.mk rfl trivial)|(guard_target=aq _ _;(have g0:=‹ub=true›);(have g1:=‹((ts.length:Nat):Int)=fT›);(have g2:=‹((us.length:Nat):Int)=fA›);(have g3:=‹fb=true›);(have g4:=‹sl=true›);(have g5:=‹sr=false›);(obtain rfl:=e6 g0 g1 g2 g3 g4 g5);exact aq.mk rfl trivial)|(guard_target=aq _ _;(have g0:=‹ub=true›);(have g1:=‹((ts.length:Nat):Int)=fT›);(have g2:=‹((us.length:Nat):Int)=fA›);(have g3:=‹fb=true›);(have g4:=‹sl=true›);(have g5:=‹sr=true›);(have g6:=‹¬X=SL›);(obtain rfl:=e7' g0 g1 g2 g3 g4 g5 g6);exact aq.mk rfl trivial)|(guard_target=aq _ _;(have g0:=‹ub=true›);(have g1:=‹((ts.length:Nat):Int)=fT›);(have g2:=‹((us.length:Nat):Int)=fA›);(have g3:=‹fb=true›);(have g4:=‹sl=true›);(have g5:=‹sr=true›);(have g6:=‹X=SL›);(obtain rfl:=e8' g0 g1 g2 g3 g4 g5 g6);exact aq.mk rfl trivial)
   |(apply Fact.mk;intro hL;try simp only[List.length_map,maxLen] at hL)
   |((first|apply bA|apply bB|apply bC|apply bD|apply bE|apply bF)<;>intro h<;>(try simp only[List.length_map] at h)<;>(try omega)<;>(try contradiction))|(guard_target=aa _ 196 _ _ _ _;refine cG [] rfl (cu) ?_)|(guard_target=aa _ 187 _ _ _ _;refine cP rfl (cf) ?_)|(guard_target=aa _ 197 _ _ _ _;refine cP rfl (ca) ?_)|(guard_target=aa _ 168 _ _ _ _;refine cG [] rfl (c1) ?_)|(guard_target=aa _ 168 _ _ _ _;refine cG [] rfl (c2) ?_)|(guard_target=aa _ 198 _ _ _ _;refine cG [] rfl (crr) ?_)|(guard_target=aa _ 51 _ _ _ _;refine cP rfl (nC X SL) ?_)|(guard_target=Gh _ _ _ _ _;refine Gh.DU 4 _ rfl (Gh.go ?_))|(guard_target=Gh _ _ _ _ _;refine Gh.DU 8 _ rfl (Gh.go ?_))
   |refine nB ?_
   |apply iV.go)
  all_goals first|rfl|trivial
 have hbtrue:bk=true→ah Tryz.prog 172 [.c (.rp 3 [J t,J a, .ro 9 cl]),I k, .c (.rp 3 (aI e)), .c (.rp 5 [J use, .val (.bool bk), .ro 1 (path.map eI), .ro 3 ts, .ro 3 us])] [] r:=by
  rintro rfl
  have e7':=fun a b c d e f g=>e7 a b c d e f (show eqv X SR=false from fx g)
  have e8':=fun a b c d e f g=>e8 a b c d e f (show eqv X SR=true from lU g)
  refine cX Tryz.func172 (fun reg_=>match reg_ with|4=>true|18=>true|_=>false) (h:= ?_)
  repeat'((conv=>whnf);first
   |(guard_target=aq _ _;(have g0:=‹ub=false›);(obtain rfl:=e1 g0);exact aq.mk rfl trivial)|(guard_target=aq _ _;(have g0:=‹ub=true›);(have g1:=‹¬((ts.length:Nat):Int)=fT›);(obtain rfl:=e2 g0 g1);exact aq.mk rfl trivial)|(guard_target=aq _ _;(have g0:=‹ub=true›);(have g1:=‹((ts.length:Nat):Int)=fT›);(have g2:=‹¬((us.length:Nat):Int)=fA›);(obtain rfl:=e3 g0 g1 g2);exact aq.mk rfl trivial)|(guard_target=aq _ _;(have g0:=‹ub=true›);(have g1:=‹((ts.length:Nat):Int)=fT›);(have g2:=‹((us.length:Nat):Int)=fA›);(have g3:=‹fb=false›);(obtain rfl:=e4 g0 g1 g2 g3);exact aq.mk rfl trivial)|(guard_target=aq _ _;(have g0:=‹ub=true›);(have g1:=‹((ts.length:Nat):Int)=fT›);(have g2:=‹((us.length:Nat):Int)=fA›);(have g3:=‹fb=true›);(have g4:=‹sl=false›);(obtain rfl:=e5 g0 g1 g2 g3 g4);exact aq.mk rfl trivial)|(guard_target=aq _ _;(have g0:=‹ub=true›);(have g1:=‹((ts.length:Nat):Int)=fT›);(have g2:=‹((us.length:Nat):Int)=fA›);(have g3:=‹fb=true›);(have g4:=‹sl=true›);(have g5:=‹sr=false›);(obtain rfl:=e6 g0 g1 g2 g3 g4 g5);exact aq.mk rfl trivial)|(guard_target=aq _ _;(have g0:=‹ub=true›);(have g1:=‹((ts.length:Nat):Int)=fT›);(have g2:=‹((us.length:Nat):Int)=fA›);(have g3:=‹fb=true›);(have g4:=‹sl=true›);(have g5:=‹sr=true›);(have g6:=‹¬X=SR›);(obtain rfl:=e7' g0 g1 g2 g3 g4 g5 g6);exact aq.mk rfl trivial)|(guard_target=aq _ _;(have g0:=‹ub=true›);(have g1:=‹((ts.length:Nat):Int)=fT›);(have g2:=‹((us.length:Nat):Int)=fA›);(have g3:=‹fb=true›);(have g4:=‹sl=true›);(have g5:=‹sr=true›);(have g6:=‹X=SR›);(obtain rfl:=e8' g0 g1 g2 g3 g4 g5 g6);exact aq.mk rfl trivial)
   |(apply Fact.mk;intro hL;try simp only[List.length_map,maxLen] at hL)
   |((first|apply bA|apply bB|apply bC|apply bD|apply bE|apply bF)<;>intro h<;>(try simp only[List.length_map] at h)<;>(try omega)<;>(try contradiction))|(guard_target=aa _ 196 _ _ _ _;refine cG [] rfl (cu) ?_)|(guard_target=aa _ 187 _ _ _ _;refine cP rfl (cf) ?_)|(guard_target=aa _ 197 _ _ _ _;refine cP rfl (ca) ?_)|(guard_target=aa _ 168 _ _ _ _;refine cG [] rfl (c1) ?_)|(guard_target=aa _ 168 _ _ _ _;refine cG [] rfl (c2) ?_)|(guard_target=aa _ 198 _ _ _ _;refine cG [] rfl (crl) ?_)|(guard_target=aa _ 51 _ _ _ _;refine cP rfl (nC X SR) ?_)|(guard_target=Gh _ _ _ _ _;refine Gh.DU 4 _ rfl (Gh.go ?_))|(guard_target=Gh _ _ _ _ _;refine Gh.DU 8 _ rfl (Gh.go ?_))
   |refine nB ?_
   |apply iV.go)
  all_goals first|rfl|trivial
 cases bk with
 |false=>exact hbfalse rfl
 |true=>exact hbtrue rfl
end
theorem Br{t a k use:Int}{cl:List (List CV)}{e L R:ae}{path:List Int}{ts us:List (List CV)}{bk:Bool}
 (cu:ah Tryz.prog 196 [.c (.rp 3 [J t,J a, .ro 9 cl]),I k,I use] [] (.tup [.a 6 [J L.kind,J L.num, .ro 3 (L.kids.map ag),J R.kind,J R.num, .ro 3 (R.kids.map ag)],B false])):
 ah Tryz.prog 172 [.c (.rp 3 [J t,J a, .ro 9 cl]),I k, .c (.rp 3 (aI e)), .c (.rp 5 [J use, .val (.bool bk), .ro 1 (path.map eI), .ro 3 ts, .ro 3 us])] [] (.tup [.a 3 [J 0,J 0, .ows 66 3 []],I 2]):=by
 refine cX Tryz.func172 (h:= ?_)
 repeat'((conv=>whnf);first
  |refine aq.mk ?_ ?_
  |((first|apply bA|apply bB|apply bC|apply bD|apply bE|apply bF)<;>intro h<;>(try simp only[List.length_map] at h)<;>(try omega)<;>(try contradiction))|(guard_target=aa _ 196 _ _ _ _;refine cG [] rfl (cu) ?_))
 all_goals first|rfl|trivial
theorem rS(p:cx)(hs:bO p.sig.au p.sig.ai=true)(k:Int)(e:ae)(be:aj e≤200)(st:aB)(hu:(0≤st.use∧st.use≤23)∨(st.use<0∧ -1000000≤st.use∧k≤1000000))(hq:(jr iD p k st.use).2=true→yZ (jr iD p k st.use).1)
 (b1:∀x∈st.au,aj x≤200)(b2:∀x∈st.c9,aj x≤200):ah Tryz.prog 172 [.c (.rp 3 (cK p)),I k, .c (.rp 3 (aI e)), .c (.rp 5 (bP st))] [] (.tup [.a 3 (bN (fW iD p k e st).1),I (fW iD p k e st).2]):=by
 have soft:∀{f:Nat} {args:List SV} {n:Int},ah Tryz.prog f args [] (.tup [.a 3 [J 0,J 0, .ows 66 3 []],I n])→ah Tryz.prog f args [] (.tup [.a 3 (bN cL),I n]):=fun h=>
  yM h
 have cu:ah Tryz.prog 196 [.c (.rp 3 (cK p)),I k,I st.use] [] (.tup [.a 6 (aU (jr iD p k st.use).1),B (jr iD p k st.use).2]):=by
  rcases hu with⟨h0,h1⟩|⟨h0,h1,h2⟩
  ·exact K5 p k st.use h0 h1
  ·exact Lu p k st.use h0 h1 h2
 obtain⟨U,hU⟩:∃U,jr iD p k st.use=U:=⟨_,rfl⟩
 rw[hU] at cu hq
 obtain⟨⟨L,R⟩,ub⟩:=U
 have hA:fW iD p k e st=if ub=false then(cL,2)
  else if¬((st.au.length:Int)=kG ⟨L,R⟩) then(cL,2)
  else if¬((st.c9.length:Int)=om ⟨L,R⟩) then(cL,2)
  else if(nA e st.path false).2.2=false then(cL,2)
  else if(ie p.sig.au p.sig.ai L st.au st.c9).2=false∨(ie p.sig.au p.sig.ai R st.au st.c9).2=false then(cL,3)
  else if eqv (nA e st.path false).1 (if st.back=true then(ie p.sig.au p.sig.ai R st.au st.c9).1 else(ie p.sig.au p.sig.ai L st.au st.c9).1)=false then(cL,6)
  else m8 p.sig.au p.sig.ai e st.path (if st.back=true then(ie p.sig.au p.sig.ai L st.au st.c9).1 else(ie p.sig.au p.sig.ai R st.au st.c9).1):=by
  unfold fW
  simp only[hU]
 rw[hA]
 cases ub with
 |false=>
  rw[if_pos rfl]
  exact soft (Br (L:=L) (R:=R) cu)
 |true=>
  have hG:=hq rfl
  have lL:=kY (by decide) (by decide) hG.l
  have lR:=kY (by decide) (by decide) hG.r
  have bL:aj L≤200:=hG.bl
  have bR:aj R≤200:=hG.br
  have cf:=xA ⟨L,R⟩ lL lR
  have ca:=Jp e st.path (by omega)
  have c1:=(zT b1 b2 p.sig.au p.sig.ai hs L lL (by simp only[gZ];omega)).cut (.same (jG.cut (sz:=6) (k:=3) (cs:=[J L.kind,J L.num, .ro 3 (L.kids.map ag),J R.kind,J R.num, .ro 3 (R.kids.map ag)]) (by decide) (jG.refl _)))
  have c2:=zT b1 b2 p.sig.au p.sig.ai hs R lR (by simp only[gZ];omega)
  have h1:=(lY b1 b2 L 200).1
  have h2:=(lY b1 b2 R 200).1
  simp only[gZ] at h1 h2
  have crl:=lT p.sig.au p.sig.ai hs e (ie p.sig.au p.sig.ai L st.au st.c9).1 st.path (by omega) (by unfold ie;simp only[];omega)
  have crr:=lT p.sig.au p.sig.ai hs e (ie p.sig.au p.sig.ai R st.au st.c9).1 st.path (by omega) (by unfold ie;simp only[];omega)
  rw[if_neg (by decide)]
  generalize ie p.sig.au p.sig.ai L st.au st.c9=X1 at c1 crl⊢
  generalize ie p.sig.au p.sig.ai R st.au st.c9=X2 at c2 crr⊢
  generalize nA e st.path false=X3 at ca⊢
  generalize kG ⟨L,R⟩=fT at cf⊢
  generalize om ⟨L,R⟩=fA at cf⊢
  obtain⟨SL,sl⟩:=X1
  obtain⟨SR,sr⟩:=X2
  obtain⟨X,bb,fb⟩:=X3
  simp only[] at crl crr c1 c2 ca cf⊢
  have nf:∀{b:Bool},b=true→¬b=false:=fun h=>by rw[h];decide
  have core:=fun r=>BL (r:=r) (bk:=st.back) (use:=st.use) (k:=k) (cl:=p.ao.map aH) (ts:=st.au.map ag) (us:=st.c9.map ag) cu cf ca c1 c2 crl crr
  simp only[List.length_map] at core
  by_cases g1:((st.au.length:Nat):Int)=fT
  ·rw[if_neg (not_not_intro g1)]
   by_cases g2:((st.c9.length:Nat):Int)=fA
   ·rw[if_neg (not_not_intro g2)]
    cases fb with
    |false=>
     rw[if_pos rfl]
     exact soft (core _ (fun _=>rfl) (fun _ _=>rfl) (fun _ _ _=>rfl) (fun _ _ _ _=>rfl) (fun _ _ _ h=>by cases h) (fun _ _ _ h=>by cases h) (fun _ _ _ h=>by cases h) (fun _ _ _ h=>by cases h))
    |true=>
     rw[if_neg (by decide)]
     have bad:∀{q:Prop},(true=false)→q:=fun h=>by cases h
     cases sl with
     |false=>
      rw[if_pos (.inl rfl)]
      exact soft (core _ (fun h=>bad h) (fun _ h=>(h g1).elim) (fun _ _ h=>(h g2).elim) (fun _ _ _ h=>bad h) (fun _ _ _ _ _=>rfl) (fun _ _ _ _ h=>bad h.symm) (fun _ _ _ _ h=>bad h.symm) (fun _ _ _ _ h=>bad h.symm))
     |true=>
      cases sr with
      |false=>
       rw[if_pos (.inr rfl)]
       exact soft (core _ (fun h=>bad h) (fun _ h=>(h g1).elim) (fun _ _ h=>(h g2).elim) (fun _ _ _ h=>bad h) (fun _ _ _ _ h=>bad h) (fun _ _ _ _ _ _=>rfl) (fun _ _ _ _ _ h=>bad h.symm) (fun _ _ _ _ _ h=>bad h.symm))
      |true=>
       rw[if_neg (fun h=>h.elim bad bad)]
       cases hE:eqv X (if st.back=true then SR else SL) with
       |false=>
        rw[if_pos rfl]
        exact soft (core _ (fun h=>bad h) (fun _ h=>(h g1).elim) (fun _ _ h=>(h g2).elim) (fun _ _ _ h=>bad h) (fun _ _ _ _ h=>bad h) (fun _ _ _ _ _ h=>bad h) (fun _ _ _ _ _ _ _=>rfl) (fun _ _ _ _ _ _ h=>by rw[hE] at h;cases h))
       |true=>
        rw[if_neg (by decide)]
        refine core _ (fun h=>bad h) (fun _ h=>(h g1).elim) (fun _ _ h=>(h g2).elim) (fun _ _ _ h=>bad h) (fun _ _ _ _ h=>bad h) (fun _ _ _ _ _ h=>bad h) (fun _ _ _ _ _ _ h=>by rw[hE] at h;cases h) (fun _ _ _ _ _ _ _=> ?_)
        cases st.back<;>rfl
   ·rw[if_pos g2]
    exact soft (core _ (fun _=>rfl) (fun _ _=>rfl) (fun _ _ _=>rfl) (fun _ _ h=>(g2 h).elim) (fun _ _ h=>(g2 h).elim) (fun _ _ h=>(g2 h).elim) (fun _ _ h=>(g2 h).elim) (fun _ _ h=>(g2 h).elim))
  ·rw[if_pos g1]
   exact soft (core _ (fun _=>rfl) (fun _ _=>rfl) (fun _ h=>(g1 h).elim) (fun _ h=>(g1 h).elim) (fun _ h=>(g1 h).elim) (fun _ h=>(g1 h).elim) (fun _ h=>(g1 h).elim) (fun _ h=>(g1 h).elim))
end Go.Proofs.YtgbggaddpbghfaaGreat
