/- The drawing of worlds as a plain function of the bytes that are read. No conditions but those that each says. -/
import Derived.Test.YtgbggaddpbghfaaGreatKAH
namespace Go.Proofs.YtgbggaddpbghfaaGreat
open Go Go.KA
def Gf(f:Src→Src)(s:Src):Nat→Src
 |0=>s
 |i+1=>f (Gf f s i)
theorem Rd.iter{f:Src→Src}{k:Int}(hk:0≤k)(hf:∀s n,Rd s n→Rd (f s) (n+k)){s:Src}{n:Int}(h:Rd s n):∀i:Nat,Rd (Gf f s i) (n+k*i)
 |0=>by simpa[Gf] using h
 |i+1=>by
  have:=hf _ _ (Rd.iter hk hf h i)
  have e:n+k*((i+1:Nat):Int)=n+k*i+k:=by rw[Int.natCast_add,Int.mul_add];simp;omega
  rw[e]
  exact this
def tH(l:List Int)(s:Src):Int:=l.getD (bP s l.length).toNat 0
def AS(l:List Int)(s:Src):Src:=ar s l.length
def Kp(n:Int)(s:Src):Src:=if iZ s 10 then ar s 10 else ar (ar s 10) n
theorem Rd.cell{s:Src}{m:Int}(h:Rd s m)(n:Int):Rd (Kp n s) (m+4):=by
 unfold Kp
 split
 ·exact(h.pick 10).mono (by omega)
 ·exact((h.pick 10).pick n).mono (by omega)
def PK(n:Nat)(s:Src):Src:=Gf (Kp n) s n
theorem Rd.row{s:Src}{m:Int}(h:Rd s m)(n:Nat):Rd (PK n s) (m+4*n):=Rd.iter (by omega) (fun _ _ h=>h.cell n) h n
end Go.Proofs.YtgbggaddpbghfaaGreat
namespace Go.Proofs.YtgbggaddpbghfaaGreat
open Go Go.KA Go.Proofs
set_option maxHeartbeats 16000000
set_option maxRecDepth 100000
theorem NY{l:List UInt8}{i:Nat}(h:i<l.length):(l.map fun b=>[CV.val (.int .u8 (b.toNat:Int))])[i]? =some [.val (.int .u8 ((l.getD i 0).toNat:Int))]:=by
 rw[List.getElem?_map,List.getElem?_eq_getElem h,List.getD_eq_getElem?_getD,List.getElem?_eq_getElem h]
 rfl
theorem GQ(x:Int):IntKind.i64.wrap (Fk x)=Fk x:=aL (by have:=z0 x;omega) (by have:=z0 x;omega)
section
variable(s:Src)(hs:Rd s 1000000000)(hc:s.code.length≤1000000)
include hs hc
theorem GK:ai Tryz.prog 102 [.c (.op (da s))] [some [.op (da (mT s))]] (I (qW s)):=by
 obtain⟨code,pos,AQ⟩:=s
 have h1:=hs.1
 have h2:=hs.2
 simp only[] at h1 h2 hc
 have hbt:=(code.getD pos.toNat 0).toNat_lt
 have hlen:(code.map fun b=>[CV.val (.int .u8 (b.toNat:Int))]).length=code.length:=List.length_map _
 by_cases hp:pos<code.length
 ·have hb:Src.byte ⟨code,pos,AQ⟩=((code.getD pos.toNat 0).toNat:Int):=if_pos hp
  have hn:qW ⟨code,pos,AQ⟩=Src.byte ⟨code,pos,AQ⟩:=if_pos (show pos+1≤(code.length:Int) by omega)
  rw[hn]
  simp only[mT,da,Src.BE,hb]
  refine cX Tryz.func102 (h:= ?_)
  repeat'((conv=>whnf);first
   |refine ah.mk ?_ ?_
   |(apply Fact.mk;intro hL;try simp only[List.length_map,maxLen] at hL)
   |((first|apply bA|apply bB|apply bC|apply bD|apply bE|apply bF)<;>intro h<;>(try simp only[List.length_map] at h)<;>(try omega)<;>(try contradiction))|(guard_target=Arith .u64 _ _;refine Arith.wrap ?_)|(guard_target=Arith _ _ _;(first|refine Arith.fit (aL (by omega) (by omega)) ?_|refine Arith.fit (GQ _) ?_))|(guard_target=aQ _ _;refine aQ.mk (by omega) ?_)
   |refine aR ?_|(guard_target=Index _ _ _;first|refine Index.mk _ (NY (by omega)) ?_)
   |refine iX (k:= ?_)
   |refine nB ?_
   |apply ay.no
   |apply cj.go
   |refine nO ?_)
  all_goals first|rfl|exact⟨rfl,trivial⟩|(exfalso;simp at*;omega)
 ·have hb:Src.byte ⟨code,pos,AQ⟩=0:=if_neg hp
  have hn:qW ⟨code,pos,AQ⟩=Fk (Src.BE ⟨code,pos,AQ⟩):=if_neg (show¬pos+1≤(code.length:Int) by omega)
  rw[hn]
  simp only[mT,da,Src.BE,hb]
  refine cX Tryz.func102 (h:= ?_)
  repeat'((conv=>whnf);first
   |refine ah.mk ?_ ?_
   |(apply Fact.mk;intro hL;try simp only[List.length_map,maxLen] at hL)
   |((first|apply bA|apply bB|apply bC|apply bD|apply bE|apply bF)<;>intro h<;>(try simp only[List.length_map] at h)<;>(try omega)<;>(try contradiction))|(guard_target=Arith .u64 _ _;refine Arith.wrap ?_)|(guard_target=Arith _ _ _;(first|refine Arith.fit (aL (by omega) (by omega)) ?_|refine Arith.fit (GQ _) ?_))|(guard_target=aQ _ _;refine aQ.mk (by omega) ?_)
   |refine aR ?_
   |refine iX (k:= ?_)
   |refine nB ?_
   |apply ay.no
   |apply cj.go
   |refine nO ?_)
  all_goals first|rfl|exact⟨rfl,trivial⟩|(exfalso;simp at*;omega)
end
section
variable(s:Src)(hs:Rd s 900000000)(hc:s.code.length≤1000000)
include hs hc
theorem c7(n:Int)(hn:jE n):ai Tryz.prog 53 [.c (.op (da s)),I n] [some [.op (da (ar s n))],none] (I (bP s n)):=by
 have h1:=GK s (hs.mono (by omega)) hc
 have h2:=GK (mT s) (hs.next.mono (by omega)) hc
 have b1:=mY s
 have b2:=mY (mT s)
 unfold jE at hn
 unfold ar bP
 by_cases g1:n≤1
 ·rw[if_pos g1,if_pos g1]
  refine cX Tryz.func53 (h:= ?_)
  repeat'((conv=>whnf);first
   |refine ah.mk ?_ ?_
   |((first|apply bA|apply bB|apply bC|apply bD|apply bE|apply bF)<;>intro h<;>(try simp only[List.length_map] at h)<;>(try omega)<;>(try contradiction))
   |refine aR ?_
   |refine nO ?_)
  all_goals first|rfl|exact⟨rfl,trivial⟩|(exfalso;simp at*;omega)
 rw[if_neg g1,if_neg g1]
 by_cases g2:n>200
 ·rw[if_pos g2,if_pos g2]
  refine cX Tryz.func53 (h:= ?_)
  repeat'((conv=>whnf);first
   |refine ah.mk ?_ ?_
   |((first|apply bA|apply bB|apply bC|apply bD|apply bE|apply bF)<;>intro h<;>(try simp only[List.length_map] at h)<;>(try omega)<;>(try contradiction))|(guard_target=aa _ 102 _ _ _ _;(first|refine aa.gen [true] _ _ _ rfl h1 rfl rfl _ rfl ?_|refine aa.gen [true] _ _ _ rfl h2 rfl rfl _ rfl ?_))|(guard_target=Arith _ _ _;refine Arith.fit (aL (by omega) (by omega)) ?_)|(guard_target=aQ _ _;refine aQ.mk (by omega) ?_)
   |refine aR ?_
   |refine nO ?_)
  all_goals first|rfl|exact⟨rfl,trivial⟩|(exfalso;simp at*;omega)
 ·rw[if_neg g2,if_neg g2]
  refine cX Tryz.func53 (h:= ?_)
  repeat'((conv=>whnf);first
   |refine ah.mk ?_ ?_
   |((first|apply bA|apply bB|apply bC|apply bD|apply bE|apply bF)<;>intro h<;>(try simp only[List.length_map] at h)<;>(try omega)<;>(try contradiction))|(guard_target=aa _ 102 _ _ _ _;refine aa.gen [true] _ _ _ rfl h1 rfl rfl _ rfl ?_)|(guard_target=Arith _ _ _;refine Arith.fit (aL (by omega) (by omega)) ?_)|(guard_target=aQ _ _;refine aQ.mk (by omega) ?_)
   |refine aR ?_
   |refine nO ?_)
  all_goals first|rfl|exact⟨rfl,trivial⟩|(exfalso;simp at*;omega)
end
end Go.Proofs.YtgbggaddpbghfaaGreat
namespace Go.Proofs.YtgbggaddpbghfaaGreat
open Go Go.KA Go.Proofs
set_option maxHeartbeats 16000000
set_option maxRecDepth 100000
theorem MB(x:ae):mZ (bQ x)=af x:=by
 have:=eK x
 rwa[dw] at this
theorem Co(x:ae):xm (.a 3 (bQ x)) (.a 3 (af x)):=by
 rw[←MB]
 exact .v (.a (dc.mZ _))
theorem HI(x:ae)(hb:ao x≤1048576):ai Tryz.prog 137 [.c (.rp 3 (af x))] [] (.a 3 (af x)):=(er x hb).soft (Co x)
end Go.Proofs.YtgbggaddpbghfaaGreat
namespace Go.Proofs.YtgbggaddpbghfaaGreat
open Go Go.KA Go.Proofs
set_option maxHeartbeats 16000000
set_option maxRecDepth 100000
theorem du(s:Src)(n:Int):(ar s n).code=s.code:=by
 unfold ar
 split
 ·rfl
 ·split<;>rfl
theorem ir(s:Src)(hs:Rd s 900000000)(hc:s.code.length≤1000000)(n:Int)(hn:jE n):ai Tryz.prog 76 [.c (.op (da s)),I n] [some [.op (da (ar s n))],none] (B (iZ s n)):=by
 have h1:=c7 s hs hc n hn
 refine cX Tryz.func76 (h:= ?_)
 repeat'((conv=>whnf);first
  |refine ah.mk ?_ ?_|(guard_target=aa _ 53 _ _ _ _;refine aa.gen [true,false] _ _ _ rfl h1 rfl rfl _ rfl ?_)
  |refine nO ?_)
 all_goals first|rfl|exact⟨rfl,trivial⟩
theorem gp{P:Program}{f:Nat}{args:List SV}{outs:List (Option (List CV))}{k n:Int}(h:ai P f args outs (.a 3 [J k,J n, .ows 66 3 []])):ai P f args outs (.a 3 (af (.mk k n []))):=
 h.soft (.v (.a (.same (.same (.ro .nil)))))
section
variable(g:ja)(hg:0≤g.au∧g.au≤3∧0≤g.aq∧g.aq≤4)
include hg
theorem qA(left:Int)(s:Src)(hs:Rd s 800000000)(hc:s.code.length≤1000000)(c:Bool):
 ai Tryz.prog 194 [.c (.op (eW ⟨s,left⟩ g)),B c] [some [.op (eW ⟨(bV g c s).2,left⟩ g)],none] (.a 3 (af (bV g c s).1)):=by
 have ht:jE g.au:=by unfold jE;omega
 have ha:jE g.aq:=by unfold jE;omega
 have i2:jE 2:=by unfold jE;omega
 have i3:jE 3:=by unfold jE;omega
 have i4:jE 4:=by unfold jE;omega
 obtain⟨gt,ga⟩:=g
 simp only[] at hg ht ha
 have p3:=ir s (hs.mono (by omega)) hc 3 i3
 have hs3:Rd (ar s 3) 800000002:=hs.pick 3
 have hc3:(ar s 3).code.length≤1000000:=by rw[du];exact hc
 cases c with
 |true=>
  by_cases g2:gt>0
  ·have p4:=ir s (hs.mono (by omega)) hc 4 i4
   have hs4:Rd (ar s 4) 800000004:=(hs.pick 4).mono (by omega)
   have hc4:(ar s 4).code.length≤1000000:=by rw[du];exact hc
   cases h4:iZ s 4 with
   |false=>
    rw[h4] at p4
    have q:=c7 (ar s 4) (hs4.mono (by omega)) hc4 gt ht
    have e:bV ⟨gt,ga⟩ true s=(.mk 3 (bP (ar s 4) gt) [],ar (ar s 4) gt):=by simp[bV,fK,gi,g2,h4]
    rw[e]
    simp only[eW]
    refine gp ?_
    refine cX Tryz.func194 (h:= ?_)
    repeat'((conv=>whnf);first
     |refine ah.mk ?_ ?_
     |((first|apply bA|apply bB|apply bC|apply bD|apply bE|apply bF)<;>intro h<;>(try simp only[List.length_map] at h)<;>(try omega)<;>(try contradiction))|(guard_target=aa _ 76 _ _ _ _;refine aa.gen [true,false] _ _ _ rfl p4 rfl rfl _ rfl ?_)|(guard_target=aa _ 53 _ _ _ _;refine aa.gen [true,false] _ _ _ rfl q rfl rfl _ rfl ?_)|(guard_target=Arith _ _ _;refine Arith.fit (aL (by omega) (by omega)) ?_)
     |refine aR ?_
     |refine iX (k:= ?_)
     |refine nB ?_
     |apply cj.go
     |refine nO ?_)
    all_goals first|rfl|exact⟨rfl,trivial⟩|(exfalso;simp at*;omega)
   |true=>
    rw[h4] at p4
    have q:=c7 (ar s 4) (hs4.mono (by omega)) hc4 2 i2
    have qb:=cH (ar s 4) (n:=2) (by omega)
    have e:bV ⟨gt,ga⟩ true s=(.mk (1+bP (ar s 4) 2) 0 [],ar (ar s 4) 2):=by simp[bV,fK,gi,g2,h4]
    rw[e]
    simp only[eW]
    refine gp ?_
    refine cX Tryz.func194 (h:= ?_)
    repeat'((conv=>whnf);first
     |refine ah.mk ?_ ?_
     |((first|apply bA|apply bB|apply bC|apply bD|apply bE|apply bF)<;>intro h<;>(try simp only[List.length_map] at h)<;>(try omega)<;>(try contradiction))|(guard_target=aa _ 76 _ _ _ _;refine aa.gen [true,false] _ _ _ rfl p4 rfl rfl _ rfl ?_)|(guard_target=aa _ 53 _ _ _ _;refine aa.gen [true,false] _ _ _ rfl q rfl rfl _ rfl ?_)|(guard_target=Arith _ _ _;refine Arith.fit (aL (by omega) (by omega)) ?_)
     |refine aR ?_
     |refine iX (k:= ?_)
     |refine nB ?_
     |apply cj.go
     |refine nO ?_)
    all_goals first|rfl|exact⟨rfl,trivial⟩|(exfalso;simp at*;omega)
  ·have q:=c7 s (hs.mono (by omega)) hc 2 i2
   have qb:=cH s (n:=2) (by omega)
   have e:bV ⟨gt,ga⟩ true s=(.mk (1+bP s 2) 0 [],ar s 2):=by simp[bV,fK,gi,g2]
   rw[e]
   simp only[eW]
   refine gp ?_
   refine cX Tryz.func194 (h:= ?_)
   repeat'((conv=>whnf);first
        |refine ah.mk ?_ ?_
        |((first|apply bA|apply bB|apply bC|apply bD|apply bE|apply bF)<;>intro h<;>(try simp only[List.length_map] at h)<;>(try omega)<;>(try contradiction))|(guard_target=aa _ 53 _ _ _ _;refine aa.gen [true,false] _ _ _ rfl q rfl rfl _ rfl ?_)|(guard_target=Arith _ _ _;refine Arith.fit (aL (by omega) (by omega)) ?_)
        |refine aR ?_
        |refine iX (k:= ?_)
        |refine nB ?_
        |apply cj.go
        |refine nO ?_)
   all_goals first|rfl|exact⟨rfl,trivial⟩|(exfalso;simp at*;omega)
 |false=>
  by_cases g1:ga>0
  ·cases h3:iZ s 3 with
   |false=>
    rw[h3] at p3
    have q:=c7 (ar s 3) (hs3.mono (by omega)) hc3 ga ha
    have e:bV ⟨gt,ga⟩ false s=(.mk 4 (bP (ar s 3) ga) [],ar (ar s 3) ga):=by simp[bV,g1,h3]
    rw[e]
    simp only[eW]
    refine gp ?_
    refine cX Tryz.func194 (h:= ?_)
    repeat'((conv=>whnf);first
       |refine ah.mk ?_ ?_
       |((first|apply bA|apply bB|apply bC|apply bD|apply bE|apply bF)<;>intro h<;>(try simp only[List.length_map] at h)<;>(try omega)<;>(try contradiction))|(guard_target=aa _ 76 _ _ _ _;refine aa.gen [true,false] _ _ _ rfl p3 rfl rfl _ rfl ?_)|(guard_target=aa _ 53 _ _ _ _;refine aa.gen [true,false] _ _ _ rfl q rfl rfl _ rfl ?_)|(guard_target=Arith _ _ _;refine Arith.fit (aL (by omega) (by omega)) ?_)
       |refine aR ?_
       |refine iX (k:= ?_)
       |refine nB ?_
       |apply cj.go
       |refine nO ?_)
    all_goals first|rfl|exact⟨rfl,trivial⟩|(exfalso;simp at*;omega)
   |true=>
    rw[h3] at p3
    by_cases g2:gt>0
    ·have p4:=ir (ar s 3) (hs3.mono (by omega)) hc3 4 i4
     have hs4:Rd (ar (ar s 3) 4) 800000004:=(hs3.pick 4).mono (by omega)
     have hc4:(ar (ar s 3) 4).code.length≤1000000:=by rw[du];exact hc3
     cases h4:iZ (ar s 3) 4 with
     |false=>
      rw[h4] at p4
      have q:=c7 (ar (ar s 3) 4) (hs4.mono (by omega)) hc4 gt ht
      have e:bV ⟨gt,ga⟩ false s=(.mk 3 (bP (ar (ar s 3) 4) gt) [],ar (ar (ar s 3) 4) gt):=by simp[bV,fK,gi,g2,h4,g1,h3]
      rw[e]
      simp only[eW]
      refine gp ?_
      refine cX Tryz.func194 (h:= ?_)
      repeat'((conv=>whnf);first
       |refine ah.mk ?_ ?_
       |((first|apply bA|apply bB|apply bC|apply bD|apply bE|apply bF)<;>intro h<;>(try simp only[List.length_map] at h)<;>(try omega)<;>(try contradiction))|(guard_target=aa _ 76 _ _ _ _;(first|refine aa.gen [true,false] _ _ _ rfl p3 rfl rfl _ rfl ?_|refine aa.gen [true,false] _ _ _ rfl p4 rfl rfl _ rfl ?_))|(guard_target=aa _ 53 _ _ _ _;refine aa.gen [true,false] _ _ _ rfl q rfl rfl _ rfl ?_)|(guard_target=Arith _ _ _;refine Arith.fit (aL (by omega) (by omega)) ?_)
       |refine aR ?_
       |refine iX (k:= ?_)
       |refine nB ?_
       |apply cj.go
       |refine nO ?_)
      all_goals first|rfl|exact⟨rfl,trivial⟩|(exfalso;simp at*;omega)
     |true=>
      rw[h4] at p4
      have q:=c7 (ar (ar s 3) 4) (hs4.mono (by omega)) hc4 2 i2
      have qb:=cH (ar (ar s 3) 4) (n:=2) (by omega)
      have e:bV ⟨gt,ga⟩ false s=(.mk (1+bP (ar (ar s 3) 4) 2) 0 [],ar (ar (ar s 3) 4) 2):=by simp[bV,fK,gi,g2,h4,g1,h3]
      rw[e]
      simp only[eW]
      refine gp ?_
      refine cX Tryz.func194 (h:= ?_)
      repeat'((conv=>whnf);first
       |refine ah.mk ?_ ?_
       |((first|apply bA|apply bB|apply bC|apply bD|apply bE|apply bF)<;>intro h<;>(try simp only[List.length_map] at h)<;>(try omega)<;>(try contradiction))|(guard_target=aa _ 76 _ _ _ _;(first|refine aa.gen [true,false] _ _ _ rfl p3 rfl rfl _ rfl ?_|refine aa.gen [true,false] _ _ _ rfl p4 rfl rfl _ rfl ?_))|(guard_target=aa _ 53 _ _ _ _;refine aa.gen [true,false] _ _ _ rfl q rfl rfl _ rfl ?_)|(guard_target=Arith _ _ _;refine Arith.fit (aL (by omega) (by omega)) ?_)
       |refine aR ?_
       |refine iX (k:= ?_)
       |refine nB ?_
       |apply cj.go
       |refine nO ?_)
      all_goals first|rfl|exact⟨rfl,trivial⟩|(exfalso;simp at*;omega)
    ·have q:=c7 (ar s 3) (hs3.mono (by omega)) hc3 2 i2
     have qb:=cH (ar s 3) (n:=2) (by omega)
     have e:bV ⟨gt,ga⟩ false s=(.mk (1+bP (ar s 3) 2) 0 [],ar (ar s 3) 2):=by simp[bV,fK,gi,g2,g1,h3]
     rw[e]
     simp only[eW]
     refine gp ?_
     refine cX Tryz.func194 (h:= ?_)
     repeat'((conv=>whnf);first
         |refine ah.mk ?_ ?_
         |((first|apply bA|apply bB|apply bC|apply bD|apply bE|apply bF)<;>intro h<;>(try simp only[List.length_map] at h)<;>(try omega)<;>(try contradiction))|(guard_target=aa _ 76 _ _ _ _;refine aa.gen [true,false] _ _ _ rfl p3 rfl rfl _ rfl ?_)|(guard_target=aa _ 53 _ _ _ _;refine aa.gen [true,false] _ _ _ rfl q rfl rfl _ rfl ?_)|(guard_target=Arith _ _ _;refine Arith.fit (aL (by omega) (by omega)) ?_)
         |refine aR ?_
         |refine iX (k:= ?_)
         |refine nB ?_
         |apply cj.go
         |refine nO ?_)
     all_goals first|rfl|exact⟨rfl,trivial⟩|(exfalso;simp at*;omega)
  ·clear p3 hs3 hc3
   by_cases g2:gt>0
   ·have p4:=ir s (hs.mono (by omega)) hc 4 i4
    have hs4:Rd (ar s 4) 800000004:=(hs.pick 4).mono (by omega)
    have hc4:(ar s 4).code.length≤1000000:=by rw[du];exact hc
    cases h4:iZ s 4 with
    |false=>
     rw[h4] at p4
     have q:=c7 (ar s 4) (hs4.mono (by omega)) hc4 gt ht
     have e:bV ⟨gt,ga⟩ false s=(.mk 3 (bP (ar s 4) gt) [],ar (ar s 4) gt):=by simp[bV,fK,gi,g2,h4,g1]
     rw[e]
     simp only[eW]
     refine gp ?_
     refine cX Tryz.func194 (h:= ?_)
     repeat'((conv=>whnf);first
         |refine ah.mk ?_ ?_
         |((first|apply bA|apply bB|apply bC|apply bD|apply bE|apply bF)<;>intro h<;>(try simp only[List.length_map] at h)<;>(try omega)<;>(try contradiction))|(guard_target=aa _ 76 _ _ _ _;refine aa.gen [true,false] _ _ _ rfl p4 rfl rfl _ rfl ?_)|(guard_target=aa _ 53 _ _ _ _;refine aa.gen [true,false] _ _ _ rfl q rfl rfl _ rfl ?_)|(guard_target=Arith _ _ _;refine Arith.fit (aL (by omega) (by omega)) ?_)
         |refine aR ?_
         |refine iX (k:= ?_)
         |refine nB ?_
         |apply cj.go
         |refine nO ?_)
     all_goals first|rfl|exact⟨rfl,trivial⟩|(exfalso;simp at*;omega)
    |true=>
     rw[h4] at p4
     have q:=c7 (ar s 4) (hs4.mono (by omega)) hc4 2 i2
     have qb:=cH (ar s 4) (n:=2) (by omega)
     have e:bV ⟨gt,ga⟩ false s=(.mk (1+bP (ar s 4) 2) 0 [],ar (ar s 4) 2):=by simp[bV,fK,gi,g2,h4,g1]
     rw[e]
     simp only[eW]
     refine gp ?_
     refine cX Tryz.func194 (h:= ?_)
     repeat'((conv=>whnf);first
         |refine ah.mk ?_ ?_
         |((first|apply bA|apply bB|apply bC|apply bD|apply bE|apply bF)<;>intro h<;>(try simp only[List.length_map] at h)<;>(try omega)<;>(try contradiction))|(guard_target=aa _ 76 _ _ _ _;refine aa.gen [true,false] _ _ _ rfl p4 rfl rfl _ rfl ?_)|(guard_target=aa _ 53 _ _ _ _;refine aa.gen [true,false] _ _ _ rfl q rfl rfl _ rfl ?_)|(guard_target=Arith _ _ _;refine Arith.fit (aL (by omega) (by omega)) ?_)
         |refine aR ?_
         |refine iX (k:= ?_)
         |refine nB ?_
         |apply cj.go
         |refine nO ?_)
     all_goals first|rfl|exact⟨rfl,trivial⟩|(exfalso;simp at*;omega)
   ·have q:=c7 s (hs.mono (by omega)) hc 2 i2
    have qb:=cH s (n:=2) (by omega)
    have e:bV ⟨gt,ga⟩ false s=(.mk (1+bP s 2) 0 [],ar s 2):=by simp[bV,fK,gi,g2,g1]
    rw[e]
    simp only[eW]
    refine gp ?_
    refine cX Tryz.func194 (h:= ?_)
    repeat'((conv=>whnf);first
       |refine ah.mk ?_ ?_
       |((first|apply bA|apply bB|apply bC|apply bD|apply bE|apply bF)<;>intro h<;>(try simp only[List.length_map] at h)<;>(try omega)<;>(try contradiction))|(guard_target=aa _ 53 _ _ _ _;refine aa.gen [true,false] _ _ _ rfl q rfl rfl _ rfl ?_)|(guard_target=Arith _ _ _;refine Arith.fit (aL (by omega) (by omega)) ?_)
       |refine aR ?_
       |refine iX (k:= ?_)
       |refine nB ?_
       |apply cj.go
       |refine nO ?_)
    all_goals first|rfl|exact⟨rfl,trivial⟩|(exfalso;simp at*;omega)
end
end Go.Proofs.YtgbggaddpbghfaaGreat
namespace Go.Proofs.YtgbggaddpbghfaaGreat
open Go Go.KA Go.Proofs
set_option maxHeartbeats 16000000
set_option maxRecDepth 100000
theorem mg(k:Int)(a b:ae):ai Tryz.prog 195 [I k, .a 3 (af a), .a 3 (af b)] [] (.a 3 (af (sM k a b))):=by
 obtain⟨a1,a2,a3⟩:=a
 obtain⟨b1,b2,b3⟩:=b
 have h:ai Tryz.prog 195 [I k, .a 3 (af (.mk a1 a2 a3)), .a 3 (af (.mk b1 b2 b3))] [] (.a 3 [J k,J 0, .ows 66 3 [af (.mk a1 a2 a3),af (.mk b1 b2 b3)]]):=by
  refine cX Tryz.func195 (h:= ?_)
  repeat'((conv=>whnf);first
   |refine ah.mk ?_ ?_
   |refine iX (k:= ?_)
   |refine nO ?_)
  all_goals first|rfl|trivial
 exact h.soft (.v (.a (.same (.same (.ro .nil)))))
theorem y5{P:Program}{f:Nat}{args:List SV}{outs:List (Option (List CV))}{k n:Int}{x:ae}(h:ai P f args outs (.a 3 [J k,J n, .ows 66 3 [af x]])):ai P f args outs (.a 3 (af (.mk k n [x]))):=
 h.soft (.v (.a (.same (.same (.ro .nil)))))
theorem wz(g:ja)(c:Bool)(s:Src):(bV g c s).2.code=s.code:=by
 unfold bV fK gi
 split
 ·split
  ·split
   ·split<;>simp[du]
   ·simp[du]
  ·simp[du]
 ·split
  ·split<;>simp[du]
  ·simp[du]
theorem GJ(c:Bool)(s:Src)(n:Int):(jk c s n).code=s.code:=by
 unfold jk
 split
 ·rfl
 ·exact du s n
theorem jv(g:ja):∀(d:Nat) (c:Bool) (r:FH),(bx g d c r).2.s.code=r.s.code
 |0,c,r=>wz g c r.s
 |d+1,c,r=>by
  unfold bx
  split
  ·exact wz g c r.s
  ·split
   ·exact(wz g c _).trans (du _ _)
   ·simp only
    split
    ·rw[jv];simp[du]
    ·split
     ·rw[jv];simp[du]
     ·rw[jv,GJ,jv,GJ,du,du]
theorem gM(g:ja):∀(d:Nat) (c:Bool) (r:FH),(bx g d c r).2.left≤r.left∧r.left+1≤(bx g d c r).2.left+(2^(d+1):Nat)
 |0,c,r=>by show r.left-1≤r.left∧r.left+1≤r.left-1+(2:Nat);omega
 |d+1,c,r=>by
  have hp:=two_pow_succ (d+1)
  have h0:2≤2^(d+1):=by have:=two_pow_succ d;have:0<2^d:=Nat.pow_pos (by omega);omega
  unfold bx
  split
  ·show r.left-1≤r.left∧r.left+1≤r.left-1+(2^(d+1+1):Nat);omega
  ·split
   ·show r.left-1≤r.left∧r.left+1≤r.left-1+(2^(d+1+1):Nat);omega
   ·simp only
    split
    ·have:=gM g d true ⟨ar (ar r.s 6) 10,r.left-1⟩
     simp only[] at this⊢
     omega
    ·split
     ·have:=gM g d false ⟨ar (ar r.s 6) 10,r.left-1⟩
      simp only[] at this⊢
      omega
     ·have h1:=gM g d (kU c (ar (ar r.s 6) 10) 5) ⟨jk c (ar (ar r.s 6) 10) 5,r.left-1⟩
      simp only[] at h1
      generalize bx g d (kU c (ar (ar r.s 6) 10) 5) ⟨jk c (ar (ar r.s 6) 10) 5,r.left-1⟩=X at h1
      have h2:=gM g d (kU c X.2.s 6) ⟨jk c X.2.s 6,X.2.left⟩
      simp only[] at h2⊢
      omega
section
variable(g:ja)(hg:0≤g.au∧g.au≤3∧0≤g.aq∧g.aq≤4)
include hg
def Room(d:Nat)(r:FH)(n:Int):Prop:=Rd r.s n∧n+kR d≤700000000∧r.s.code.length≤1000000∧ -100000≤r.left-(2^(d+1):Nat)∧r.left≤100000
theorem nY:∀(d:Nat) (dp:Int) (c:Bool) (r:FH) (n:Int),dp=d→Room d r n→d≤1000→
 ai Tryz.prog 170 [.c (.op (eW r g)),B c,I dp] [some [.op (eW (bx g d c r).2 g)],none,none] (.a 3 (af (bx g d c r).1))
 |0,dp,c,⟨s,left⟩,n,hdp,⟨hs,hn,hc,hl,hu⟩,hd=>by
  have h0:=lz 0
  simp only[] at hs hc hl hu
  have lf:=qA g hg (left-1) s (hs.mono (by omega)) hc c
  have e1:bx g 0 c ⟨s,left⟩=((bV g c s).1,⟨(bV g c s).2,left-1⟩):=rfl
  rw[e1]
  generalize bV g c s=X at lf⊢
  obtain⟨⟨k1,n1,ks1⟩,s1⟩:=X
  simp only[eW] at lf⊢
  refine cX Tryz.func170 (h:= ?_)
  repeat'((conv=>whnf);first
   |refine ah.mk ?_ ?_
   |((first|apply bA|apply bB|apply bC|apply bD|apply bE|apply bF)<;>intro h<;>(try simp only[List.length_map] at h)<;>(try omega)<;>(try contradiction))|(guard_target=aa _ 194 _ _ _ _;refine aa.gen [true,false] _ _ _ rfl lf rfl rfl _ rfl ?_)|(guard_target=Arith _ _ _;refine Arith.fit (aL (by omega) (by omega)) ?_)
   |refine aR ?_
   |refine iX (k:= ?_)
   |refine nO ?_)
  all_goals first|rfl|exact⟨rfl,trivial⟩|(exfalso;simp at*;omega)
 |d+1,dp,c,⟨s,left⟩,n,hdp,⟨hs,hn,hc,hl,hu⟩,hd=>by
  have h0:=lz d
  have h1:=nC d
  have hp:=two_pow_succ (d+1)
  have hq:2≤2^(d+1):=by have:=two_pow_succ d;have:0<2^d:=Nat.pow_pos (by omega);omega
  simp only[] at hs hc hl hu
  have i6:jE 6:=by unfold jE;omega
  have i5:jE 5:=by unfold jE;omega
  have i10:jE 10:=by unfold jE;omega
  by_cases g1:left-1<1
  ·have lf:=qA g hg (left-1) s (hs.mono (by omega)) hc c
   have e1:bx g (d+1) c ⟨s,left⟩=((bV g c s).1,⟨(bV g c s).2,left-1⟩):=by rw[bx,if_pos g1];rfl
   rw[e1]
   generalize bV g c s=X at lf⊢
   obtain⟨⟨k1,n1,ks1⟩,s1⟩:=X
   simp only[eW] at lf⊢
   refine cX Tryz.func170 (h:= ?_)
   repeat'((conv=>whnf);first
    |refine ah.mk ?_ ?_
    |((first|apply bA|apply bB|apply bC|apply bD|apply bE|apply bF)<;>intro h<;>(try simp only[List.length_map] at h)<;>(try omega)<;>(try contradiction))|(guard_target=aa _ 194 _ _ _ _;refine aa.gen [true,false] _ _ _ rfl lf rfl rfl _ rfl ?_)|(guard_target=Arith _ _ _;refine Arith.fit (aL (by omega) (by omega)) ?_)
    |refine aR ?_
    |refine iX (k:= ?_)
    |refine nO ?_)
   all_goals first|rfl|exact⟨rfl,trivial⟩|(exfalso;simp at*;omega)
  have p6:=ir s (hs.mono (by omega)) hc 6 i6
  have hs6:Rd (ar s 6) (n+2):=hs.pick 6
  have hc6:(ar s 6).code.length≤1000000:=by rw[du];exact hc
  cases h6:iZ s 6 with
  |true=>
   rw[h6] at p6
   have lf:=qA g hg (left-1) (ar s 6) (hs6.mono (by omega)) hc6 c
   have e1:bx g (d+1) c ⟨s,left⟩=((bV g c (ar s 6)).1,⟨(bV g c (ar s 6)).2,left-1⟩):=by rw[bx,if_neg g1,if_pos h6];rfl
   rw[e1]
   generalize bV g c (ar s 6)=X at lf⊢
   obtain⟨⟨k1,n1,ks1⟩,s1⟩:=X
   simp only[eW] at lf⊢
   refine cX Tryz.func170 (h:= ?_)
   repeat'((conv=>whnf);first
    |refine ah.mk ?_ ?_
    |((first|apply bA|apply bB|apply bC|apply bD|apply bE|apply bF)<;>intro h<;>(try simp only[List.length_map] at h)<;>(try omega)<;>(try contradiction))|(guard_target=aa _ 76 _ _ _ _;refine aa.gen [true,false] _ _ _ rfl p6 rfl rfl _ rfl ?_)|(guard_target=aa _ 194 _ _ _ _;refine aa.gen [true,false] _ _ _ rfl lf rfl rfl _ rfl ?_)|(guard_target=Arith _ _ _;refine Arith.fit (aL (by omega) (by omega)) ?_)
    |refine aR ?_
    |refine iX (k:= ?_)
    |refine nO ?_)
   all_goals first|rfl|exact⟨rfl,trivial⟩|(exfalso;simp at*;omega)
  |false=>
   rw[h6] at p6
   have pk:=c7 (ar s 6) (hs6.mono (by omega)) hc6 10 i10
   have bk:=cH (ar s 6) (n:=10) (by omega)
   have hsA:Rd (ar (ar s 6) 10) (n+4):=(hs6.pick 10).mono (by omega)
   have hcA:(ar (ar s 6) 10).code.length≤1000000:=by rw[du];exact hc6
   rw[bx,if_neg g1,if_neg (by show¬iZ s 6=true;rw[h6];simp)]
   simp only[]
   generalize bP (ar s 6) 10=k at pk bk⊢
   generalize ar (ar s 6) 10=sA at pk hsA hcA⊢
   by_cases g2:k=0∨(c=true∧k<4)
   ·rw[if_pos g2]
    have ih:=nY d (dp-1) true ⟨sA,left-1⟩ (n+4) (by omega) ⟨hsA,by omega,hcA,by simp only[];omega,by simp only[];omega⟩ (by omega)
    generalize bx g d true ⟨sA,left-1⟩=X at ih⊢
    obtain⟨⟨k1,n1,ks1⟩,⟨s1,l1⟩⟩:=X
    simp only[eW] at ih⊢
    refine y5 ?_
    cases c
    ·skip
     refine cX Tryz.func170 (h:= ?_)
     repeat'((conv=>whnf);first
       |refine ah.mk ?_ ?_
       |((first|apply bA|apply bB|apply bC|apply bD|apply bE|apply bF)<;>intro h<;>(try simp only[List.length_map] at h)<;>(try omega)<;>(try contradiction))|(guard_target=aa _ 76 _ _ _ _;refine aa.gen [true,false] _ _ _ rfl p6 rfl rfl _ rfl ?_)|(guard_target=aa _ 53 _ _ _ _;refine aa.gen [true,false] _ _ _ rfl pk rfl rfl _ rfl ?_)|(guard_target=aa _ 170 _ _ _ _;refine aa.gen [true,false,false] _ _ _ rfl ih rfl rfl _ rfl ?_)|(guard_target=Arith _ _ _;refine Arith.fit (aL (by omega) (by omega)) ?_)
       |refine aR ?_
       |refine iX (k:= ?_)
       |refine nO ?_)
     all_goals first|rfl|exact⟨rfl,trivial⟩|(exfalso;simp at*;omega)
    ·skip
     refine cX Tryz.func170 (h:= ?_)
     repeat'((conv=>whnf);first
       |refine ah.mk ?_ ?_
       |((first|apply bA|apply bB|apply bC|apply bD|apply bE|apply bF)<;>intro h<;>(try simp only[List.length_map] at h)<;>(try omega)<;>(try contradiction))|(guard_target=aa _ 76 _ _ _ _;refine aa.gen [true,false] _ _ _ rfl p6 rfl rfl _ rfl ?_)|(guard_target=aa _ 53 _ _ _ _;refine aa.gen [true,false] _ _ _ rfl pk rfl rfl _ rfl ?_)|(guard_target=aa _ 170 _ _ _ _;refine aa.gen [true,false,false] _ _ _ rfl ih rfl rfl _ rfl ?_)|(guard_target=Arith _ _ _;refine Arith.fit (aL (by omega) (by omega)) ?_)
       |refine aR ?_
       |refine iX (k:= ?_)
       |refine nO ?_)
     all_goals first|rfl|exact⟨rfl,trivial⟩|(exfalso;simp at*;omega)
   rw[if_neg g2]
   by_cases g3:k<4
   ·rw[if_pos g3]
    have ih:=nY d (dp-1) false ⟨sA,left-1⟩ (n+4) (by omega) ⟨hsA,by omega,hcA,by simp only[];omega,by simp only[];omega⟩ (by omega)
    generalize bx g d false ⟨sA,left-1⟩=X at ih⊢
    obtain⟨⟨k1,n1,ks1⟩,⟨s1,l1⟩⟩:=X
    simp only[eW] at ih⊢
    refine y5 ?_
    cases c
    ·skip
     refine cX Tryz.func170 (h:= ?_)
     repeat'((conv=>whnf);first
       |refine ah.mk ?_ ?_
       |((first|apply bA|apply bB|apply bC|apply bD|apply bE|apply bF)<;>intro h<;>(try simp only[List.length_map] at h)<;>(try omega)<;>(try contradiction))|(guard_target=aa _ 76 _ _ _ _;refine aa.gen [true,false] _ _ _ rfl p6 rfl rfl _ rfl ?_)|(guard_target=aa _ 53 _ _ _ _;refine aa.gen [true,false] _ _ _ rfl pk rfl rfl _ rfl ?_)|(guard_target=aa _ 170 _ _ _ _;refine aa.gen [true,false,false] _ _ _ rfl ih rfl rfl _ rfl ?_)|(guard_target=Arith _ _ _;refine Arith.fit (aL (by omega) (by omega)) ?_)
       |refine aR ?_
       |refine iX (k:= ?_)
       |refine nO ?_)
     all_goals first|rfl|exact⟨rfl,trivial⟩|(exfalso;simp at*;omega)
    ·skip
     refine cX Tryz.func170 (h:= ?_)
     repeat'((conv=>whnf);first
       |refine ah.mk ?_ ?_
       |((first|apply bA|apply bB|apply bC|apply bD|apply bE|apply bF)<;>intro h<;>(try simp only[List.length_map] at h)<;>(try omega)<;>(try contradiction))|(guard_target=aa _ 76 _ _ _ _;refine aa.gen [true,false] _ _ _ rfl p6 rfl rfl _ rfl ?_)|(guard_target=aa _ 53 _ _ _ _;refine aa.gen [true,false] _ _ _ rfl pk rfl rfl _ rfl ?_)|(guard_target=aa _ 170 _ _ _ _;refine aa.gen [true,false,false] _ _ _ rfl ih rfl rfl _ rfl ?_)|(guard_target=Arith _ _ _;refine Arith.fit (aL (by omega) (by omega)) ?_)
       |refine aR ?_
       |refine iX (k:= ?_)
       |refine nO ?_)
     all_goals first|rfl|exact⟨rfl,trivial⟩|(exfalso;simp at*;omega)
   rw[if_neg g3]
   cases c with
   |true=>
    simp only[kU,jk,if_true]
    have ia:=nY d (dp-1) true ⟨sA,left-1⟩ (n+4) (by omega) ⟨hsA,by omega,hcA,by simp only[];omega,by simp only[];omega⟩ (by omega)
    have ra:=Rd.expr g d true ⟨sA,left-1⟩ hsA
    have la:=gM g d true ⟨sA,left-1⟩
    have ca:=jv g d true ⟨sA,left-1⟩
    generalize bx g d true ⟨sA,left-1⟩=X at ia ra la ca⊢
    obtain⟨⟨k1,n1,ks1⟩,⟨s1,l1⟩⟩:=X
    simp only[] at ra la ca ia⊢
    have ib:=nY d (dp-1) true ⟨s1,l1⟩ (n+4+kR d) (by omega) ⟨ra,by omega,by simp only[];rw[ca];exact hcA,by simp only[];omega,by simp only[];omega⟩ (by omega)
    generalize bx g d true ⟨s1,l1⟩=Y at ib⊢
    obtain⟨⟨k2,n2,ks2⟩,⟨s2,l2⟩⟩:=Y
    simp only[eW] at ia ib⊢
    by_cases g4:k<6
    ·rw[if_pos g4]
     have pr:=mg 6 (.mk k1 n1 ks1) (.mk k2 n2 ks2)
     refine cX Tryz.func170 (h:= ?_)
     repeat'((conv=>whnf);first
        |refine ah.mk ?_ ?_
        |((first|apply bA|apply bB|apply bC|apply bD|apply bE|apply bF)<;>intro h<;>(try simp only[List.length_map] at h)<;>(try omega)<;>(try contradiction))|(guard_target=aa _ 76 _ _ _ _;refine aa.gen [true,false] _ _ _ rfl p6 rfl rfl _ rfl ?_)|(guard_target=aa _ 53 _ _ _ _;refine aa.gen [true,false] _ _ _ rfl pk rfl rfl _ rfl ?_)|(guard_target=aa _ 170 _ _ _ _;(first|refine aa.gen [true,false,false] _ _ _ rfl ia rfl rfl _ rfl ?_|refine aa.gen [true,false,false] _ _ _ rfl ib rfl rfl _ rfl ?_))|(guard_target=aa _ 195 _ _ _ _;refine aa.pure _ _ rfl pr rfl _ rfl ?_)|(guard_target=Arith _ _ _;refine Arith.fit (aL (by omega) (by omega)) ?_)
        |refine aR ?_
        |refine iX (k:= ?_)
        |refine nO ?_)
     all_goals first|rfl|exact⟨rfl,trivial⟩|(exfalso;simp at*;omega)
    ·rw[if_neg g4]
     have pr:=mg 7 (.mk k1 n1 ks1) (.mk k2 n2 ks2)
     refine cX Tryz.func170 (h:= ?_)
     repeat'((conv=>whnf);first
        |refine ah.mk ?_ ?_
        |((first|apply bA|apply bB|apply bC|apply bD|apply bE|apply bF)<;>intro h<;>(try simp only[List.length_map] at h)<;>(try omega)<;>(try contradiction))|(guard_target=aa _ 76 _ _ _ _;refine aa.gen [true,false] _ _ _ rfl p6 rfl rfl _ rfl ?_)|(guard_target=aa _ 53 _ _ _ _;refine aa.gen [true,false] _ _ _ rfl pk rfl rfl _ rfl ?_)|(guard_target=aa _ 170 _ _ _ _;(first|refine aa.gen [true,false,false] _ _ _ rfl ia rfl rfl _ rfl ?_|refine aa.gen [true,false,false] _ _ _ rfl ib rfl rfl _ rfl ?_))|(guard_target=aa _ 195 _ _ _ _;refine aa.pure _ _ rfl pr rfl _ rfl ?_)|(guard_target=Arith _ _ _;refine Arith.fit (aL (by omega) (by omega)) ?_)
        |refine aR ?_
        |refine iX (k:= ?_)
        |refine nO ?_)
     all_goals first|rfl|exact⟨rfl,trivial⟩|(exfalso;simp at*;omega)
   |false=>
    simp only[kU,jk,Bool.false_eq_true,if_false]
    have p5:=ir sA (hsA.mono (by omega)) hcA 5 i5
    have hs5:Rd (ar sA 5) (n+6):=(hsA.pick 5).mono (by omega)
    have hc5:(ar sA 5).code.length≤1000000:=by rw[du];exact hcA
    generalize iZ sA 5=b5 at p5⊢
    generalize ar sA 5=sB at p5 hs5 hc5⊢
    have ia:=nY d (dp-1) b5 ⟨sB,left-1⟩ (n+6) (by omega) ⟨hs5,by omega,hc5,by simp only[];omega,by simp only[];omega⟩ (by omega)
    have ra:=Rd.expr g d b5 ⟨sB,left-1⟩ hs5
    have la:=gM g d b5 ⟨sB,left-1⟩
    have ca:=jv g d b5 ⟨sB,left-1⟩
    generalize bx g d b5 ⟨sB,left-1⟩=X at ia ra la ca⊢
    obtain⟨⟨k1,n1,ks1⟩,⟨s1,l1⟩⟩:=X
    simp only[] at ra la ca ia⊢
    have hc1:s1.code.length≤1000000:=by rw[ca];exact hc5
    have p1:=ir s1 (ra.mono (by omega)) hc1 6 i6
    have rb:Rd (ar s1 6) (n+8+kR d):=(ra.pick 6).mono (by omega)
    have hcb:(ar s1 6).code.length≤1000000:=by rw[du];exact hc1
    generalize iZ s1 6=b6 at p1⊢
    generalize ar s1 6=sC at p1 rb hcb⊢
    have ib:=nY d (dp-1) b6 ⟨sC,l1⟩ (n+8+kR d) (by omega) ⟨rb,by omega,hcb,by simp only[];omega,by simp only[];omega⟩ (by omega)
    generalize bx g d b6 ⟨sC,l1⟩=Y at ib⊢
    obtain⟨⟨k2,n2,ks2⟩,⟨s2,l2⟩⟩:=Y
    simp only[eW] at ia ib⊢
    by_cases g4:k<6
    ·rw[if_pos g4]
     have pr:=mg 6 (.mk k1 n1 ks1) (.mk k2 n2 ks2)
     refine cX Tryz.func170 (h:= ?_)
     repeat'((conv=>whnf);first
        |refine ah.mk ?_ ?_
        |((first|apply bA|apply bB|apply bC|apply bD|apply bE|apply bF)<;>intro h<;>(try simp only[List.length_map] at h)<;>(try omega)<;>(try contradiction))|(guard_target=aa _ 76 _ _ _ _;(first|refine aa.gen [true,false] _ _ _ rfl p6 rfl rfl _ rfl ?_|refine aa.gen [true,false] _ _ _ rfl p5 rfl rfl _ rfl ?_|refine aa.gen [true,false] _ _ _ rfl p1 rfl rfl _ rfl ?_))|(guard_target=aa _ 53 _ _ _ _;refine aa.gen [true,false] _ _ _ rfl pk rfl rfl _ rfl ?_)|(guard_target=aa _ 170 _ _ _ _;(first|refine aa.gen [true,false,false] _ _ _ rfl ia rfl rfl _ rfl ?_|refine aa.gen [true,false,false] _ _ _ rfl ib rfl rfl _ rfl ?_))|(guard_target=aa _ 195 _ _ _ _;refine aa.pure _ _ rfl pr rfl _ rfl ?_)|(guard_target=Arith _ _ _;refine Arith.fit (aL (by omega) (by omega)) ?_)
        |refine aR ?_
        |refine iX (k:= ?_)
        |refine nO ?_)
     all_goals first|rfl|exact⟨rfl,trivial⟩|(exfalso;simp at*;omega)
    ·rw[if_neg g4]
     have pr:=mg 7 (.mk k1 n1 ks1) (.mk k2 n2 ks2)
     refine cX Tryz.func170 (h:= ?_)
     repeat'((conv=>whnf);first
        |refine ah.mk ?_ ?_
        |((first|apply bA|apply bB|apply bC|apply bD|apply bE|apply bF)<;>intro h<;>(try simp only[List.length_map] at h)<;>(try omega)<;>(try contradiction))|(guard_target=aa _ 76 _ _ _ _;(first|refine aa.gen [true,false] _ _ _ rfl p6 rfl rfl _ rfl ?_|refine aa.gen [true,false] _ _ _ rfl p5 rfl rfl _ rfl ?_|refine aa.gen [true,false] _ _ _ rfl p1 rfl rfl _ rfl ?_))|(guard_target=aa _ 53 _ _ _ _;refine aa.gen [true,false] _ _ _ rfl pk rfl rfl _ rfl ?_)|(guard_target=aa _ 170 _ _ _ _;(first|refine aa.gen [true,false,false] _ _ _ rfl ia rfl rfl _ rfl ?_|refine aa.gen [true,false,false] _ _ _ rfl ib rfl rfl _ rfl ?_))|(guard_target=aa _ 195 _ _ _ _;refine aa.pure _ _ rfl pr rfl _ rfl ?_)|(guard_target=Arith _ _ _;refine Arith.fit (aL (by omega) (by omega)) ?_)
        |refine aR ?_
        |refine iX (k:= ?_)
        |refine nO ?_)
     all_goals first|rfl|exact⟨rfl,trivial⟩|(exfalso;simp at*;omega)
end
end Go.Proofs.YtgbggaddpbghfaaGreat
namespace Go.Proofs.YtgbggaddpbghfaaGreat
open Go Go.KA Go.Proofs
set_option maxHeartbeats 16000000
set_option maxRecDepth 100000
end Go.Proofs.YtgbggaddpbghfaaGreat
namespace Go.Proofs.YtgbggaddpbghfaaGreat
open Go Go.KA Go.Proofs
set_option maxHeartbeats 16000000
set_option maxRecDepth 100000
abbrev Hc(b:UInt8):List CV:=[.val (.int .u8 (b.toNat:Int))]
abbrev Lz(code:List UInt8):Src:=⟨code,0,0⟩
theorem wb(code:List UInt8):ai Tryz.prog 35 [.c (.ro 1 (code.map Hc))] [] (.c (.op (da (Lz code)))):=by
 refine cX Tryz.func35 (h:= ?_)
 repeat'((conv=>whnf);first
  |refine ah.mk ?_ ?_
  |refine nO ?_)
 all_goals first|rfl|trivial
theorem JK(l:List Int)(hl:0<l.length∧l.length≤1000)(s:Src)(hs:Rd s 900000000)(hc:s.code.length≤1000000):ai Tryz.prog 73 [.c (.op (da s)), .c (.ro 1 (l.map eI))] [some [.op (da (AS l s))],none] (I (tH l s)):=by
 have i:jE (l.length:Int):=by unfold jE;omega
 have p:=c7 s hs hc l.length i
 have b:=cH s (n:=l.length) (by omega)
 unfold AS tH
 generalize bP s (l.length:Int)=k at p b⊢
 generalize ar s (l.length:Int)=s1 at p⊢
 rw[←List.length_map (f:=eI)] at p
 refine cX Tryz.func73 (h:= ?_)
 repeat'((conv=>whnf);first
  |refine ah.mk ?_ ?_
  |(apply Fact.mk;intro hL;try simp only[List.length_map,maxLen] at hL)|(guard_target=aa _ 53 _ _ _ _;refine aa.gen [true,false] _ _ _ rfl p rfl rfl _ rfl ?_)|(guard_target=Index _ _ _;first|refine Index.mk _ (aF (l:=l) (d:=0) (i:=k.toNat) (by omega)) ?_)
  |refine iX (k:= ?_)
  |apply ay.no
  |refine nO ?_)
 all_goals first|rfl|exact⟨rfl,trivial⟩|(exfalso;simp at*;omega)
end Go.Proofs.YtgbggaddpbghfaaGreat
namespace Go.Proofs.YtgbggaddpbghfaaGreat
open Go Go.KA Go.Proofs
set_option maxHeartbeats 16000000
set_option maxRecDepth 100000
theorem HH(l:List Int)(hl:0<l.length∧l.length≤1000)(s:Src)(hs:Rd s 900000000)(hc:s.code.length≤1000000):ai Tryz.prog 73 [.c (.op (da s)), .c (.ows 2 1 (l.map eI))] [some [.op (da (AS l s))],none] (I (tH l s)):=(JK l hl s hs hc).Lq (.same (.c .nil))
theorem Is(a b:Int):aE Tryz.prog 77 [I a,I b] (I (if a>b then a else b)):=by
 refine cF Tryz.func77 (h:= ?_)
 repeat'((conv=>whnf);first
  |(apply bo.mk;first|(rfl;done)|(simp_all[aN,aM];done)|(simp_all[aN,aM];omega;done)|(simp_all[aN,aM];intros;omega;done)|(simp_all[-List.all_eq_true, -List.all_eq_false,aN,aM];done)|(simp_all[-List.all_eq_true, -List.all_eq_false,aN,aM];omega;done)|skip)
  |((first|apply bA|apply bB|apply bC|apply bD|apply bE|apply bF)<;>intro h<;>(try simp only[List.length_map] at h)<;>(try omega)<;>(try contradiction))
  |refine nO ?_)
section
variable(g:ja)(hg:0≤g.au∧g.au≤3∧0≤g.aq∧g.aq≤4)(s:Src)(m:Int)(hs:Rd s m)(hq:m≤500000)(hc:s.code.length≤1000000)(A:Int)(hA:1≤A∧A≤8)(hat:aE Tryz.prog 0 [.a 2 [J g.au,J g.aq]] (I A))
include hg hs hq hc hA hat
end
end Go.Proofs.YtgbggaddpbghfaaGreat
namespace Go.Proofs.YtgbggaddpbghfaaGreat
open Go Go.KA Go.Proofs
set_option maxHeartbeats 16000000
set_option maxRecDepth 100000
section
variable(g:ja)(hg:0≤g.au∧g.au≤3∧0≤g.aq∧g.aq≤4)
include hg
end
end Go.Proofs.YtgbggaddpbghfaaGreat
namespace Go.Proofs.YtgbggaddpbghfaaGreat
open Go Go.KA Go.Proofs
set_option maxHeartbeats 16000000
set_option maxRecDepth 100000
def G3(l:List aS)(r:Bool):List Int:=(l.filter (·.bZ==r)).map (·.id)
theorem vu{l:List aS}{r:Bool}{x:Int}:x∈G3 l r↔0≤bK l r x:=by
 unfold G3 bK
 rw[nN]
 simp only[List.mem_map,List.mem_filter,fe,Bool.and_eq_true,beq_iff_eq]
 constructor
 ·rintro⟨y,⟨h1,h2⟩,h3⟩;exact⟨y,h1,h2,h3⟩
 ·rintro⟨y,h1,h2,h3⟩;exact⟨y,⟨h1,h2⟩,h3⟩
theorem Ld{t a:Int}{l:List aS}(hg:dW t a l=true){i:Nat}(hi:i<l.length):bI t a l[i]=true∧bK (l.take i) l[i].bZ l[i].id<0∧gz (l.take i) l[i].entry.bu=true:=by
 have:=Cc hg hi
 unfold fx at this
 rw[getD_eq hi] at this
 simpa only[Bool.and_eq_true,decide_eq_true_eq] using this
theorem y7{t a:Int}{l:List aS}(hg:dW t a l=true)(r:Bool):∀x∈G3 l r,0≤x∧x≤99:=by
 intro x hx
 unfold G3 at hx
 obtain⟨y,hy,rfl⟩:=List.mem_map.1 hx
 obtain⟨i,hi,rfl⟩:=List.mem_iff_getElem.1 (List.mem_filter.1 hy).1
 have h1:=(Ld hg hi).1
 unfold bI at h1
 simp only[Bool.and_eq_true] at h1
 exact bW h1.1
end Go.Proofs.YtgbggaddpbghfaaGreat
namespace Go.Proofs.YtgbggaddpbghfaaGreat
open Go Go.KA Go.Proofs
set_option maxHeartbeats 16000000
set_option maxRecDepth 100000
theorem Og(l:List aS)(r:Bool):∀i,(oO i fun i=>decide (0≤bK l r i)).length≤i:=fun i=>wM i _
theorem yJ(l:List aS)(r:Bool):ai Tryz.prog 58 [.c (.ro 7 (l.map bj)),B r] [] (.c (.ows 2 1 ((oO 100 fun i=>decide (0≤bK l r i)).map eI))):=by
 refine cX Tryz.func58 (h:= ?_)
 repeat'((conv=>whnf);first
  |refine ah.mk ?_ ?_|(guard_target=~ aP 3 _ _ _ _ _ _;refine tJ (Nat × List Int) [0,1] (fun⟨i,R⟩=>[(5, .lw 1),(6,I (i:Nat))]) (fun⟨i,R⟩=>[(1, .row none 2 1 (R.map eI))]) (fun⟨i,R⟩=>i≤100∧R=oO i (fun i=>decide (0≤bK l r i))) (fun⟨i,R⟩=>100-i) (0,[]) (by exact⟨Nat.zero_le _,rfl⟩) (fun A ha=> ?_);obtain⟨i,R⟩:=A;have ha:i≤100∧R=oO i (fun i=>decide (0≤bK l r i)):=ha;have hb:=Og l r i;rw[←ha.2] at hb)
  |refine nx ((i+1,R++[(i:Int)]):Nat × List Int) (by(refine⟨by show i+1≤_;omega, ?_⟩;show R++_=_;rw[Jm (decide_eq_true h),ha.2]))
  |refine nx ((i+1,R):Nat × List Int) (by(refine⟨by show i+1≤_;omega, ?_⟩;show R=_;rw[Mz (decide_eq_false h),ha.2]))
  |(apply Fact.mk;intro hL;try simp only[List.length_map,maxLen] at hL)
  |((first|apply bA|apply bB|apply bC|apply bD|apply bE|apply bF)<;>intro h<;>(try simp only[List.length_map] at h)<;>(try omega)<;>(try contradiction))|(guard_target=aa _ 60 _ _ _ _;refine cP rfl (gR l r _) ?_)
  |refine aR ?_|(guard_target=aQ _ _;refine aQ.mk (by first|((simp only[List.length_map,List.length_cons,List.length_nil,maxLen];constructor<;>omega))|fail) ?_)
  |refine nO ?_)
 all_goals first|rfl|trivial|(have e:i=100:=(by omega);have h9:=ha.2;rw[e] at h9;rw[h9];done)
theorem Bz{a:ag}{s:Int}(h:b8 a s=true):0≤s∧s.toNat<a.ab.length:=by
 have:=bW h
 omega
section
variable(a:ag)(s:Int)(hl:cq a≤1048576)
include hl
end
section
variable(a:ag)(s:Int)(hl:cq a≤1048576)
include hl
end
end Go.Proofs.YtgbggaddpbghfaaGreat
namespace Go.Proofs.YtgbggaddpbghfaaGreat
open Go Go.KA Go.Proofs
set_option maxHeartbeats 16000000
set_option maxRecDepth 100000
def L6(i:Nat):ByteArray:=if i<10 then⟨#[UInt8.ofNat (48+i)]⟩ else⟨#[UInt8.ofNat (48+i/10),UInt8.ofNat (48+i % 10)]⟩
theorem Ij(i:Nat):(L6 i).size≤2:=by
 unfold L6
 split
 ·show 1≤2;omega
 ·show 2≤2;omega
end Go.Proofs.YtgbggaddpbghfaaGreat
namespace Go.Proofs.YtgbggaddpbghfaaGreat
open Go Go.KA Go.Proofs
set_option maxHeartbeats 16000000
set_option maxRecDepth 100000
abbrev b1(x:UInt8):ByteArray:=⟨#[x]⟩
def N4(k n:Int)(l:List ByteArray):ByteArray:=
 if k=1 then b1 48 else if k=2 then b1 49 else if k=3 then b1 116++L6 n.toNat else if k=4 then b1 97++L6 n.toNat
 else if k=5 then b1 126++l.getD 0 .empty else if k=8 then l.getD 0 .empty++b1 42
 else if k=6 then b1 40++l.getD 0 .empty++⟨#[32,43,32]⟩++l.getD 1 .empty++b1 41
 else b1 40++l.getD 0 .empty++b1 32++l.getD 1 .empty++b1 41
mutual
def E3:ae→ByteArray
 | .mk k n kids=>N4 k n (Dd kids)
def Dd:List ae→List ByteArray
 |[]=>[]
 |x::xs=>E3 x::Dd xs
end
mutual
def IM:ae→Bool
 | .mk k n kids=>(dH 1 8 k&&decide ((kids.length:Int)=cT k))&&((!(decide (k=3)||decide (k=4))||dH 0 99 n)&&Ko kids)
def Ko:List ae→Bool
 |[]=>true
 |x::xs=>IM x&&Ko xs
end
theorem Jz(x:UInt8):(b1 x).size=1:=rfl
section
variable(Y:ae→Prop)(hY:∀x,Y x→IM x=true→(E3 x).size≤1000000000→aE Tryz.prog 0 [.c (.rp 3 (af x))] (.c (.val (.string (E3 x)))))
include hY
end
end Go.Proofs.YtgbggaddpbghfaaGreat
