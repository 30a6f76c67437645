/- Contract of the reference's RunArchive; the law answers true. No conditions but the size. -/
import Derived.Test.YtgbggaddpbghfaaGreatKAH
namespace Go.Proofs.YtgbggaddpbghfaaGreat
open Go Go.KA Go.Proofs
set_option maxHeartbeats 16000000
set_option maxRecDepth 100000
abbrev IX(p:af × Int × Int):SV:= .tup [.a 4 (az p.1),I p.2.1,I p.2.2]
theorem Bc{P:Program}{f:Nat}{args:List SV}{outs:List (Option (List CV))}{c d:Int}(h:ah P f args outs (.tup [.a 4 [J 0,J 0, .ows 47 3 [], .ows 89 8 []],I c,I d])):ah P f args outs (IX (zA,c,d)):=
 ah.soft h (.tup (.cons (.a (.same (.same (.ro (.ro .nil))))) (.cons .same (.cons .same .nil))))
section
variable(a:af)(l:List aS)(hx:b8 a≤1048576)(hl:eK cN l≤1048576)
include hx hl
theorem Ay(hg:dI a=false):ah Tryz.prog 19 [.a 4 (az a), .c (.ro 9 (l.map aT))] [] (IX (zA,0,1)):=by
 have _:=hl
 have hv:=sI a hx
 rw[hg] at hv
 refine Bc ?_
 refine cX Tryz.func19 (h:= ?_)
 repeat'((conv=>whnf);first
  |refine aq.mk ?_ ?_
  |((first|apply bA|apply bB|apply bC|apply bD|apply bE|apply bF)<;>intro h<;>(try simp only[List.length_map] at h)<;>(try omega)<;>(try contradiction))|(guard_target=aa _ 39 _ _ _ _;refine cP rfl (hv) ?_))
 all_goals first|rfl|trivial|exact⟨rfl,trivial⟩|(exfalso;omega)
theorem AM(hg:dI a=true)(hb:km a l=false):ah Tryz.prog 19 [.a 4 (az a), .c (.ro 9 (l.map aT))] [] (IX (zA,0,1)):=by
 have hv:=sI a hx
 rw[hg] at hv
 have hln:=dB cN l
 have hbe:=fun i (hi:i<l.length)=>(show b7 (l.getD i qE).proof≤1048576 by have:=pO hl hi;simp only[cN] at this;omega)
 refine Bc ?_
 refine cX Tryz.func19 (fun reg_=>match reg_ with|8=>true|_=>false) (h:= ?_)
 repeat'((conv=>whnf);first
  |refine aq.mk ?_ ?_|(guard_target=~ aK 4 _ _ _ _ _ _;refine lp (Nat) [1,2,4] (fun i=>[(7,I i)]) (fun i=>i≤l.length∧(l.take i).all (cH a.sig.au a.sig.ai)=true) (fun i=>l.length-i) 0 (by exact⟨Nat.zero_le _,rfl⟩) (fun i ha=> ?_))
  |refine nx (i+1:Nat) (by(refine eZ (by omega) ha ?_;have h8:=h;rw[getD_eq (by omega)] at h8;exact h8))
  |(apply Fact.mk;intro hL;try simp only[List.length_map,maxLen] at hL)
  |((first|apply bA|apply bB|apply bC|apply bD|apply bE|apply bF)<;>intro h<;>(try simp only[List.length_map] at h)<;>(try omega)<;>(try contradiction))|(guard_target=aa _ 39 _ _ _ _;refine cP rfl (hv) ?_)|(guard_target=aa _ 40 _ _ _ _;refine cP rfl (pT a (l.getD i qE) (hbe i (by omega))) ?_)|(guard_target=Gh _ _ _ _ _;exfalso;have h9:=ha.2;rw[List.take_of_length_le (by omega)] at h9;rw[show l.all _=false from hb] at h9;exact absurd h9 (by decide))
  |refine aR ?_|(guard_target=Index _ _ _;first|(refine Index.mk _ (aF (d:=qE) (i:=i) (by omega)) ?_)|fail)
  |refine nO ?_)
 all_goals first|rfl|trivial|exact⟨rfl,trivial⟩|(exfalso;omega)
theorem Bp(hg:dI a=true)(hb:km a l=true)(h3:(300:Int)<l.length):ah Tryz.prog 19 [.a 4 (az a), .c (.ro 9 (l.map aT))] [] (IX (zA,0,2)):=by
 have hv:=sI a hx
 rw[hg] at hv
 have hln:=dB cN l
 have hev:∀i,i<l.length→aD Tryz.prog 40 [.c (.rp 4 (az a)), .c (.rp 9 (aT (l.getD i qE)))] (B true):=fun i hi=>by
  have h:=pT a (l.getD i qE) (by have:=pO hl hi;simp only[cN] at this;omega)
  rwa[qc hb hi] at h
 refine Bc ?_
 refine cX Tryz.func19 (h:= ?_)
 repeat'((conv=>whnf);first
  |refine aq.mk ?_ ?_|(guard_target=~ aK 4 _ _ _ _ _ _;refine lp (Nat) [1,2,4] (fun i=>[(7,I i)]) (fun i=>i≤l.length) (fun i=>l.length-i) 0 (by exact Nat.zero_le _) (fun i ha=> ?_))
  |refine nx (i+1:Nat) (by(show i+1≤_;omega))
  |(apply Fact.mk;intro hL;try simp only[List.length_map,maxLen] at hL)
  |((first|apply bA|apply bB|apply bC|apply bD|apply bE|apply bF)<;>intro h<;>(try simp only[List.length_map] at h)<;>(try omega)<;>(try contradiction))|(guard_target=aa _ 39 _ _ _ _;refine cP rfl (hv) ?_)|(guard_target=aa _ 40 _ _ _ _;refine cP rfl (hev i (by omega)) ?_)
  |refine aR ?_|(guard_target=Index _ _ _;first|(refine Index.mk _ (aF (d:=qE) (i:=i) (by omega)) ?_)|fail)
  |refine nO ?_)
 all_goals first|rfl|trivial|exact⟨rfl,trivial⟩|(exfalso;omega)
theorem Bi(hg:dI a=true)(hb:km a l=true)(h3:¬(300:Int)<l.length):ah Tryz.prog 19 [.a 4 (az a), .c (.ro 9 (l.map aT))] [] (IX ((kJ a l).1,(kJ a l).2,0)):=by
 have hv:=sI a hx
 rw[hg] at hv
 have hev:∀i,i<l.length→aD Tryz.prog 40 [.c (.rp 4 (az a)), .c (.rp 9 (aT (l.getD i qE)))] (B true):=fun i hi=>by
  have h:=pT a (l.getD i qE) (by have:=pO hl hi;simp only[cN] at this;omega)
  rwa[qc hb hi] at h
 have hE:=fun i (hi:i<l.length)=>EA.of (qc hb hi) (pO hl hi)
 have hwa:WA a:= .of ((mW a).1 hg) hx
 have hrun:=Ie a l hwa (by omega) hE
 refine cX Tryz.func19 (h:= ?_)
 repeat'((conv=>whnf);first
  |refine aq.mk ?_ ?_|(guard_target=~ aK 4 _ _ _ _ _ _;refine lp (Nat) [1,2,4] (fun i=>[(7,I i)]) (fun i=>i≤l.length) (fun i=>l.length-i) 0 (by exact Nat.zero_le _) (fun i ha=> ?_))
  |refine nx (i+1:Nat) (by(show i+1≤_;omega))
  |(apply Fact.mk;intro hL;try simp only[List.length_map,maxLen] at hL)
  |((first|apply bA|apply bB|apply bC|apply bD|apply bE|apply bF)<;>intro h<;>(try simp only[List.length_map] at h)<;>(try omega)<;>(try contradiction))|(guard_target=aa _ 39 _ _ _ _;refine cP rfl (hv) ?_)|(guard_target=aa _ 40 _ _ _ _;refine cP rfl (hev i (by omega)) ?_)|(guard_target=aa _ 54 _ _ _ _;refine cG [true,false] rfl (hrun) ?_)
  |refine aR ?_|(guard_target=Index _ _ _;first|(refine Index.mk _ (aF (d:=qE) (i:=i) (by omega)) ?_)|fail)
  |refine nO ?_)
 all_goals first|rfl|trivial|exact⟨rfl,trivial⟩|(exfalso;omega)
theorem sY:ah Tryz.prog 19 [.a 4 (az a), .c (.ro 9 (l.map aT))] [] (IX (Ik a l)):=by
 unfold Ik
 cases hg:dI a with
 |false=>exact Ay a l hx hl hg
 |true=>
  cases hb:km a l with
  |false=>exact AM a l hx hl hg hb
  |true=>
   rw[if_neg (by decide)]
   by_cases h3:(300:Int)<l.length
   ·rw[if_pos h3]
    exact Bp a l hx hl hg hb h3
   ·rw[if_neg h3]
    exact Bi a l hx hl hg hb h3
theorem yf:ah Tryz.prog 18 [.a 4 (az a), .c (.ro 9 (l.map aT))] [] (JN (Ik a l)):=by
 unfold Ik
 cases hg:dI a with
 |false=>exact vw a l hx hl hg
 |true=>
  cases hb:km a l with
  |false=>exact vG a l hx hl hg hb
  |true=>
   rw[if_neg (by decide)]
   by_cases h3:(300:Int)<l.length
   ·rw[if_pos h3]
    exact vq a l hx hl hg hb h3
   ·rw[if_neg h3]
    exact vu a l hx hl hg hb h3
end
end Go.Proofs.YtgbggaddpbghfaaGreat
namespace Go.Proofs.YtgbggaddpbghfaaGreat
open Go Go.KA
structure Src where
 code:List UInt8
 pos:Int
 Ax:Int
def c8(s:Src):List CV:=[.ro 1 (s.code.map fun b=>[.val (.int .u8 (b.toNat:Int))]), .val (.int .i64 s.pos), .val (.int .u64 s.Ax)]
def Src.byte(s:Src):Int:=if s.pos<s.code.length then((s.code.getD s.pos.toNat 0).toNat:Int) else 0
def Src.DX(s:Src):Int:=IntKind.u64.wrap (IntKind.u64.wrap (IntKind.u64.wrap (s.Ax*6364136223846793005)+IntKind.u64.wrap s.byte)+1442695040888963407)
def m5(s:Src):Src:=⟨s.code,s.pos+1,s.DX⟩
def Ew(x:Int):Int:=IntKind.u64.wrap ((BitVec.ofInt IntKind.u64.bits (x.fdiv (2^40)) &&& BitVec.ofInt IntKind.u64.bits 255).toNat)
def s7(s:Src):Int:=if s.pos+1≤s.code.length then s.byte else Ew s.DX
theorem Be(x:Int):0≤Ew x∧Ew x≤255:=by
 unfold Ew
 have h:(BitVec.ofInt IntKind.u64.bits (x.fdiv (2^40)) &&& BitVec.ofInt IntKind.u64.bits 255).toNat≤255:=by
  rw[BitVec.toNat_and]
  exact Nat.le_trans Nat.and_le_right (by decide)
 generalize(BitVec.ofInt IntKind.u64.bits (x.fdiv (2^40)) &&& BitVec.ofInt IntKind.u64.bits 255).toNat=n at h
 simp only[IntKind.wrap,IntKind.bits,IntKind.signed,Bool.false_and]
 have:(n:Int) % 2^64=n:=by omega
 simp only[this]
 simp
 omega
theorem M9(s:Src):0≤s.byte∧s.byte≤255:=by
 unfold Src.byte
 split
 ·have:=(s.code.getD s.pos.toNat 0).toNat_lt
  omega
 ·omega
theorem nj(s:Src):0≤s7 s∧s7 s≤255:=by
 unfold s7
 split
 ·exact M9 s
 ·exact Be _
def Rd(s:Src)(n:Int):Prop:=0≤s.pos∧s.pos≤n
theorem Rd.next{s:Src}{n:Int}(h:Rd s n):Rd (m5 s) (n+1):=by
 unfold Rd m5 at*
 simp only
 omega
theorem Rd.mono{s:Src}{n m:Int}(h:Rd s n)(hm:n≤m):Rd s m:=by
 unfold Rd at*
 omega
def bK(s:Src)(n:Int):Int:=if n≤1 then 0 else if n>200 then(s7 s*256+s7 (m5 s)).tmod n else(s7 s).tmod n
def ar(s:Src)(n:Int):Src:=if n≤1 then s else if n>200 then m5 (m5 s) else m5 s
theorem ch(s:Src){n:Int}(h:0<n):0≤bK s n∧bK s n<n:=by
 have h1:=nj s
 have h2:=nj (m5 s)
 unfold bK
 split
 ·omega
 ·split
  ·exact⟨Int.tmod_nonneg _ (by omega),Int.tmod_lt_of_pos _ h⟩
  ·exact⟨Int.tmod_nonneg _ (by omega),Int.tmod_lt_of_pos _ h⟩
theorem La(s:Src)(n:Int):0≤bK s n:=by
 have h1:=nj s
 have h2:=nj (m5 s)
 unfold bK
 split
 ·omega
 ·split
  ·exact Int.tmod_nonneg _ (by omega)
  ·exact Int.tmod_nonneg _ (by omega)
theorem Rd.pick{s:Src}{n:Int}(h:Rd s n)(k:Int):Rd (ar s k) (n+2):=by
 unfold ar
 split
 ·exact h.mono (by omega)
 ·split
  ·exact h.next.next.mono (by omega)
  ·exact h.next.mono (by omega)
def jf(s:Src)(n:Int):Bool:=bK s n==0
def HQ(s:Src):Src:=ar (ar (ar s 2) 2) 12
def Gz(s:Src):jd × Src:=
 let t:=1+bK s 2
 let a:=1+bK (ar s 2) 2
 let k:=bK (ar (ar s 2) 2) 12
 if k=0 then(⟨bK (HQ s) 4,a⟩,ar (HQ s) 4)
 else if k=1 then(⟨t,bK (HQ s) 5⟩,ar (HQ s) 5)
 else(⟨t,a⟩,HQ s)
theorem Rd.sig{s:Src}{n:Int}(h:Rd s n):Rd (Gz s).2 (n+8):=by
 have h0:Rd (HQ s) (n+6):=(((h.pick 2).pick 2).pick 12).mono (by omega)
 unfold Gz
 simp only
 split
 ·exact(h0.pick 4).mono (by omega)
 ·split
  ·exact(h0.pick 5).mono (by omega)
  ·exact h0.mono (by omega)
structure Eo where
 s:Src
 left:Int
def fg(r:Eo)(g:jd):List CV:=[.op (c8 r.s), .val (.int .i64 g.au), .val (.int .i64 g.ai), .val (.int .i64 r.left)]
def gg(s:Src):ae × Src:=(.mk (1+bK s 2) 0 [],ar s 2)
def fN(g:jd)(s:Src):ae × Src:=
 if g.au>0 then
    if jf s 4 then gg (ar s 4) else(.mk 3 (bK (ar s 4) g.au) [],ar (ar s 4) g.au)
 else gg s
def bS(g:jd)(c:Bool)(s:Src):ae × Src:=
 if c=false∧g.ai>0 then
    if jf s 3 then fN g (ar s 3) else(.mk 4 (bK (ar s 3) g.ai) [],ar (ar s 3) g.ai)
 else fN g s
def sw(k:Int)(a b:ae):ae:= .mk k 0 [a,b]
def lG(c:Bool)(s:Src)(n:Int):Bool:=if c then true else jf s n
def jh(c:Bool)(s:Src)(n:Int):Src:=if c then s else ar s n
def JR(g:jd)(c:Bool)(r:Eo)(s:Src):ae × Eo:=((bS g c s).1,⟨(bS g c s).2,r.left-1⟩)
def bo(g:jd):Nat→Bool→Eo→ae × Eo
 |0,c,r=>JR g c r r.s
 |d+1,c,r=>
  if r.left-1<1 then JR g c r r.s
  else if jf r.s 6 then JR g c r (ar r.s 6)
  else
   let k:=bK (ar r.s 6) 10
   let r1:Eo:=⟨ar (ar r.s 6) 10,r.left-1⟩
   if k=0∨(c=true∧k<4) then(.mk 5 0 [(bo g d true r1).1],(bo g d true r1).2)
   else if k<4 then(.mk 8 0 [(bo g d false r1).1],(bo g d false r1).2)
   else
    let a:=bo g d (lG c r1.s 5) ⟨jh c r1.s 5,r1.left⟩
    let b:=bo g d (lG c a.2.s 6) ⟨jh c a.2.s 6,a.2.left⟩
    (sw (if k<6 then 6 else 7) a.1 b.1,b.2)
theorem Rd.half{s:Src}{n:Int}(h:Rd s n)(c:Bool)(k:Int):Rd (jh c s k) (n+2):=by
 unfold jh
 split
 ·exact h.mono (by omega)
 ·exact h.pick k
theorem Rd.Ke{s:Src}{n:Int}(h:Rd s n):Rd (gg s).2 (n+2):=h.pick 2
theorem Rd.Kp{s:Src}{n:Int}(h:Rd s n)(g:jd):Rd (fN g s).2 (n+4):=by
 unfold fN
 split
 ·split
  ·exact((h.pick 4).Ke).mono (by omega)
  ·exact((h.pick 4).pick g.au).mono (by omega)
 ·exact h.Ke.mono (by omega)
theorem Rd.Fl{s:Src}{n:Int}(h:Rd s n)(g:jd)(c:Bool):Rd (bS g c s).2 (n+6):=by
 unfold bS
 split
 ·split
  ·exact((h.pick 3).Kp g).mono (by omega)
  ·exact((h.pick 3).pick g.ai).mono (by omega)
 ·exact(h.Kp g).mono (by omega)
def lV(d:Nat):Int:=20*3^d
theorem nY(d:Nat):lV (d+1)=3*lV d:=by unfold lV;rw[Int.pow_succ];omega
theorem lb:∀d:Nat,20≤lV d
 |0=>by decide
 |d+1=>by have:=lb d;rw[nY];omega
theorem Rd.expr(g:jd):∀(d:Nat) (c:Bool) (r:Eo) {n:Int},Rd r.s n→Rd (bo g d c r).2.s (n+lV d)
 |0,c,r,n,h=>by
  have:=lb 0
  exact(h.Fl g c).mono (by omega)
 |d+1,c,r,n,h=>by
  have h1:=lb d
  have h2:=nY d
  have hp:=(h.pick 6).pick 10
  unfold bo
  split
  ·exact(h.Fl g c).mono (by omega)
  ·split
   ·exact((h.pick 6).Fl g c).mono (by omega)
   ·simp only
    split
    ·exact(Rd.expr g d true ⟨_,_⟩ hp).mono (by omega)
    ·split
     ·exact(Rd.expr g d false ⟨_,_⟩ hp).mono (by omega)
     ·have ha:=Rd.expr g d (lG c (ar (ar r.s 6) 10) 5) ⟨jh c (ar (ar r.s 6) 10) 5,r.left-1⟩ (hp.half c 5)
      exact(Rd.expr g d _ ⟨_,_⟩ (ha.half c 6)).mono (by omega)
def NI(g:jd)(s:Src):ae:= .mk 3 (bK s g.au) []
def NK(g:jd)(s:Src):ae × Src:=
 if g.au>0 then
    if jf s 3 then((bo g 3 true ⟨ar s 3,5⟩).1,(bo g 3 true ⟨ar s 3,5⟩).2.s)
    else if jf (ar (ar s 3) g.au) 3 then(.mk 5 0 [NI g (ar s 3)],ar (ar (ar s 3) g.au) 3)
    else(NI g (ar s 3),ar (ar (ar s 3) g.au) 3)
 else((bo g 3 true ⟨s,5⟩).1,(bo g 3 true ⟨s,5⟩).2.s)
theorem Rd.cond{s:Src}{n:Int}(h:Rd s n)(g:jd):Rd (NK g s).2 (n+600):=by
 have e:lV 3=540:=rfl
 unfold NK
 split
 ·split
  ·exact(Rd.expr g 3 true ⟨_,_⟩ (h.pick 3)).mono (by omega)
  ·split
   ·exact(((h.pick 3).pick g.au).pick 3).mono (by omega)
   ·exact(((h.pick 3).pick g.au).pick 3).mono (by omega)
 ·exact(Rd.expr g 3 true ⟨_,_⟩ h).mono (by omega)
theorem two_pow_succ(d:Nat):2^(d+1)=2*2^d:=by rw[Nat.pow_succ];omega
theorem ui(g:jd)(c:Bool)(s:Src):aj (bS g c s).1=0:=by
 have h0:∀s,aj (gg s).1=0:=fun s=>rfl
 have h1:∀s,aj (fN g s).1=0:=by
  intro s
  unfold fN
  split
  ·split
   ·exact h0 _
   ·rfl
  ·exact h0 _
 unfold bS
 split
 ·split
  ·exact h1 _
  ·rfl
 ·exact h1 _
theorem nz(g:jd):∀(d:Nat) (c:Bool) (r:Eo),aj (bo g d c r).1+2≤2^(d+1)
 |0,c,r=>by
  have:=ui g c r.s
  show aj (bS g c r.s).1+2≤2
  omega
 |d+1,c,r=>by
  have hp:=two_pow_succ (d+1)
  have h0:2≤2^(d+1):=by have:=two_pow_succ d;have:0<2^d:=Nat.pow_pos (by omega);omega
  unfold bo
  split
  ·have:=ui g c r.s
   show aj (bS g c r.s).1+2≤_
   omega
  ·split
   ·have:=ui g c (ar r.s 6)
    show aj (bS g c (ar r.s 6)).1+2≤_
    omega
   ·simp only
    split
    ·have:=nz g d true ⟨ar (ar r.s 6) 10,r.left-1⟩
     simp only[aj,aJ]
     omega
    ·split
     ·have:=nz g d false ⟨ar (ar r.s 6) 10,r.left-1⟩
      simp only[aj,aJ]
      omega
     ·simp only[sw,aj,aJ]
      have h1:=nz g d (lG c (ar (ar r.s 6) 10) 5) ⟨jh c (ar (ar r.s 6) 10) 5,r.left-1⟩
      have h2:=nz g d (lG c (bo g d (lG c (ar (ar r.s 6) 10) 5) ⟨jh c (ar (ar r.s 6) 10) 5,r.left-1⟩).2.s 6) ⟨jh c (bo g d (lG c (ar (ar r.s 6) 10) 5) ⟨jh c (ar (ar r.s 6) 10) 5,r.left-1⟩).2.s 6,(bo g d (lG c (ar (ar r.s 6) 10) 5) ⟨jh c (ar (ar r.s 6) 10) 5,r.left-1⟩).2.left⟩
      omega
end Go.Proofs.YtgbggaddpbghfaaGreat
namespace Go.Proofs.YtgbggaddpbghfaaGreat
open Go Go.KA
def Hd(f:Src→Src)(s:Src):Nat→Src
 |0=>s
 |i+1=>f (Hd f s i)
theorem Rd.iter{f:Src→Src}{k:Int}(hk:0≤k)(hf:∀s n,Rd s n→Rd (f s) (n+k)){s:Src}{n:Int}(h:Rd s n):∀i:Nat,Rd (Hd f s i) (n+k*i)
 |0=>by simpa[Hd] using h
 |i+1=>by
  have:=hf _ _ (Rd.iter hk hf h i)
  have e:n+k*((i+1:Nat):Int)=n+k*i+k:=by rw[Int.natCast_add,Int.mul_add];simp;omega
  rw[e]
  exact this
def tG(l:List Int)(s:Src):Int:=l.getD (bK s l.length).toNat 0
def AT(l:List Int)(s:Src):Src:=ar s l.length
def LM(n:Int)(s:Src):Src:=if jf s 10 then ar s 10 else ar (ar s 10) n
theorem Rd.cell{s:Src}{m:Int}(h:Rd s m)(n:Int):Rd (LM n s) (m+4):=by
 unfold LM
 split
 ·exact(h.pick 10).mono (by omega)
 ·exact((h.pick 10).pick n).mono (by omega)
def Qu(n:Nat)(s:Src):Src:=Hd (LM n) s n
theorem Rd.row{s:Src}{m:Int}(h:Rd s m)(n:Nat):Rd (Qu n s) (m+4*n):=Rd.iter (by omega) (fun _ _ h=>h.cell n) h n
end Go.Proofs.YtgbggaddpbghfaaGreat
namespace Go.Proofs.YtgbggaddpbghfaaGreat
open Go Go.KA Go.Proofs
set_option maxHeartbeats 16000000
set_option maxRecDepth 100000
theorem N5{l:List UInt8}{i:Nat}(h:i<l.length):(l.map fun b=>[CV.val (.int .u8 (b.toNat:Int))])[i]? =some [.val (.int .u8 ((l.getD i 0).toNat:Int))]:=by
 rw[List.getElem?_map,List.getElem?_eq_getElem h,List.getD_eq_getElem?_getD,List.getElem?_eq_getElem h]
 rfl
theorem GD(x:Int):IntKind.i64.wrap (Ew x)=Ew x:=aP (by have:=Be x;omega) (by have:=Be x;omega)
section
variable(s:Src)(hs:Rd s 1000000000)(hc:s.code.length≤1000000)
include hs hc
theorem G9:ah Tryz.prog 102 [.c (.op (c8 s))] [some [.op (c8 (m5 s))]] (I (s7 s)):=by
 obtain⟨code,pos,Ax⟩:=s
 have h1:=hs.1
 have h2:=hs.2
 simp only[] at h1 h2 hc
 have hbt:=(code.getD pos.toNat 0).toNat_lt
 have hlen:(code.map fun b=>[CV.val (.int .u8 (b.toNat:Int))]).length=code.length:=List.length_map _
 by_cases hp:pos<code.length
 ·have hb:Src.byte ⟨code,pos,Ax⟩=((code.getD pos.toNat 0).toNat:Int):=if_pos hp
  have hn:s7 ⟨code,pos,Ax⟩=Src.byte ⟨code,pos,Ax⟩:=if_pos (show pos+1≤(code.length:Int) by omega)
  rw[hn]
  simp only[m5,c8,Src.DX,hb]
  refine cX Tryz.func102 (h:= ?_)
  repeat'((conv=>whnf);first
   |refine aq.mk ?_ ?_
   |((first|apply bA|apply bB|apply bC|apply bD|apply bE|apply bF)<;>intro h<;>(try simp only[List.length_map] at h)<;>(try omega)<;>(try contradiction))|(guard_target=Arith .u64 _ _;refine Arith.wrap ?_)|(guard_target=Arith _ _ _;(first|refine Arith.fit (aP (by omega) (by omega)) ?_|refine Arith.fit (GD _) ?_))|(guard_target=aV _ _;refine aV.mk (by omega) ?_)|(guard_target=Index _ _ _;first|(refine Index.mk _ (N5 (by omega)) ?_)|fail)
   |refine nB ?_)
  all_goals first|rfl|exact⟨rfl,trivial⟩|(exfalso;simp at*;omega)
 ·have hb:Src.byte ⟨code,pos,Ax⟩=0:=if_neg hp
  have hn:s7 ⟨code,pos,Ax⟩=Ew (Src.DX ⟨code,pos,Ax⟩):=if_neg (show¬pos+1≤(code.length:Int) by omega)
  rw[hn]
  simp only[m5,c8,Src.DX,hb]
  refine cX Tryz.func102 (h:= ?_)
  repeat'((conv=>whnf);first
   |refine aq.mk ?_ ?_
   |((first|apply bA|apply bB|apply bC|apply bD|apply bE|apply bF)<;>intro h<;>(try simp only[List.length_map] at h)<;>(try omega)<;>(try contradiction))|(guard_target=Arith .u64 _ _;refine Arith.wrap ?_)|(guard_target=Arith _ _ _;(first|refine Arith.fit (aP (by omega) (by omega)) ?_|refine Arith.fit (GD _) ?_))|(guard_target=aV _ _;refine aV.mk (by omega) ?_)
   |refine nB ?_)
  all_goals first|rfl|exact⟨rfl,trivial⟩|(exfalso;simp at*;omega)
end
section
variable(s:Src)(hs:Rd s 900000000)(hc:s.code.length≤1000000)
include hs hc
theorem cV(n:Int)(hn:jI n):ah Tryz.prog 53 [.c (.op (c8 s)),I n] [some [.op (c8 (ar s n))],none] (I (bK s n)):=by
 have h1:=G9 s (hs.mono (by omega)) hc
 have h2:=G9 (m5 s) (hs.next.mono (by omega)) hc
 have b1:=nj s
 have b2:=nj (m5 s)
 unfold jI at hn
 unfold ar bK
 by_cases g1:n≤1
 ·rw[if_pos g1,if_pos g1]
  refine cX Tryz.func53 (h:= ?_)
  repeat'((conv=>whnf);first
   |refine aq.mk ?_ ?_
   |((first|apply bA|apply bB|apply bC|apply bD|apply bE|apply bF)<;>intro h<;>(try simp only[List.length_map] at h)<;>(try omega)<;>(try contradiction)))
  all_goals first|rfl|exact⟨rfl,trivial⟩|(exfalso;simp at*;omega)
 rw[if_neg g1,if_neg g1]
 by_cases g2:n>200
 ·rw[if_pos g2,if_pos g2]
  refine cX Tryz.func53 (h:= ?_)
  repeat'((conv=>whnf);first
   |refine aq.mk ?_ ?_
   |((first|apply bA|apply bB|apply bC|apply bD|apply bE|apply bF)<;>intro h<;>(try simp only[List.length_map] at h)<;>(try omega)<;>(try contradiction))|(guard_target=aa _ 102 _ _ _ _;(first|refine aa.gen [true] _ _ _ rfl h1 rfl rfl _ rfl ?_|refine aa.gen [true] _ _ _ rfl h2 rfl rfl _ rfl ?_))|(guard_target=Arith _ _ _;refine Arith.fit (aP (by omega) (by omega)) ?_)|(guard_target=aV _ _;refine aV.mk (by omega) ?_))
  all_goals first|rfl|exact⟨rfl,trivial⟩|(exfalso;simp at*;omega)
 ·rw[if_neg g2,if_neg g2]
  refine cX Tryz.func53 (h:= ?_)
  repeat'((conv=>whnf);first
   |refine aq.mk ?_ ?_
   |((first|apply bA|apply bB|apply bC|apply bD|apply bE|apply bF)<;>intro h<;>(try simp only[List.length_map] at h)<;>(try omega)<;>(try contradiction))|(guard_target=aa _ 102 _ _ _ _;refine aa.gen [true] _ _ _ rfl h1 rfl rfl _ rfl ?_)|(guard_target=aV _ _;refine aV.mk (by omega) ?_))
  all_goals first|rfl|exact⟨rfl,trivial⟩|(exfalso;simp at*;omega)
end
end Go.Proofs.YtgbggaddpbghfaaGreat
namespace Go.Proofs.YtgbggaddpbghfaaGreat
open Go Go.KA Go.Proofs
set_option maxHeartbeats 16000000
set_option maxRecDepth 100000
theorem MN(x:ae):nr (bN x)=ag x:=by
 have:=eM x
 rwa[dt] at this
theorem Dg(x:ae):wV (.a 3 (bN x)) (.a 3 (ag x)):=by
 rw[←MN]
 exact .v (.a (dj.nr _))
theorem Io(x:ae)(hb:aj x≤1048576):ah Tryz.prog 137 [.c (.rp 3 (ag x))] [] (.a 3 (ag x)):=(eu x hb).soft (Dg x)
end Go.Proofs.YtgbggaddpbghfaaGreat
namespace Go.Proofs.YtgbggaddpbghfaaGreat
open Go Go.KA Go.Proofs
set_option maxHeartbeats 16000000
set_option maxRecDepth 100000
theorem dr(s:Src)(n:Int):(ar s n).code=s.code:=by
 unfold ar
 split
 ·rfl
 ·split<;>rfl
theorem iA(s:Src)(hs:Rd s 900000000)(hc:s.code.length≤1000000)(n:Int)(hn:jI n):ah Tryz.prog 76 [.c (.op (c8 s)),I n] [some [.op (c8 (ar s n))],none] (B (jf s n)):=by
 have h1:=cV s hs hc n hn
 refine cX Tryz.func76 (h:= ?_)
 repeat'((conv=>whnf);first
  |refine aq.mk ?_ ?_|(guard_target=aa _ 53 _ _ _ _;refine aa.gen [true,false] _ _ _ rfl h1 rfl rfl _ rfl ?_))
 all_goals first|rfl|exact⟨rfl,trivial⟩
theorem gq{P:Program}{f:Nat}{args:List SV}{outs:List (Option (List CV))}{k n:Int}(h:ah P f args outs (.a 3 [J k,J n, .ows 66 3 []])):ah P f args outs (.a 3 (ag (.mk k n []))):=
 h.soft (.v (.a (.same (.same (.ro .nil)))))
section
variable(g:jd)(hg:0≤g.au∧g.au≤3∧0≤g.ai∧g.ai≤4)
include hg
theorem qY(left:Int)(s:Src)(hs:Rd s 800000000)(hc:s.code.length≤1000000)(c:Bool):
 ah Tryz.prog 194 [.c (.op (fg ⟨s,left⟩ g)),B c] [some [.op (fg ⟨(bS g c s).2,left⟩ g)],none] (.a 3 (ag (bS g c s).1)):=by
 have ht:jI g.au:=by unfold jI;omega
 have ha:jI g.ai:=by unfold jI;omega
 have i2:jI 2:=by unfold jI;omega
 have i3:jI 3:=by unfold jI;omega
 have i4:jI 4:=by unfold jI;omega
 obtain⟨gt,ga⟩:=g
 simp only[] at hg ht ha
 have p3:=iA s (hs.mono (by omega)) hc 3 i3
 have hs3:Rd (ar s 3) 800000002:=hs.pick 3
 have hc3:(ar s 3).code.length≤1000000:=by rw[dr];exact hc
 cases c with
 |true=>
  by_cases g2:gt>0
  ·have p4:=iA s (hs.mono (by omega)) hc 4 i4
   have hs4:Rd (ar s 4) 800000004:=(hs.pick 4).mono (by omega)
   have hc4:(ar s 4).code.length≤1000000:=by rw[dr];exact hc
   cases h4:jf s 4 with
   |false=>
    rw[h4] at p4
    have q:=cV (ar s 4) (hs4.mono (by omega)) hc4 gt ht
    have e:bS ⟨gt,ga⟩ true s=(.mk 3 (bK (ar s 4) gt) [],ar (ar s 4) gt):=by simp[bS,fN,gg,g2,h4]
    rw[e]
    simp only[fg]
    refine gq ?_
    refine cX Tryz.func194 (h:= ?_)
    repeat'((conv=>whnf);first
     |refine aq.mk ?_ ?_
     |((first|apply bA|apply bB|apply bC|apply bD|apply bE|apply bF)<;>intro h<;>(try simp only[List.length_map] at h)<;>(try omega)<;>(try contradiction))|(guard_target=aa _ 76 _ _ _ _;refine aa.gen [true,false] _ _ _ rfl p4 rfl rfl _ rfl ?_)|(guard_target=aa _ 53 _ _ _ _;refine aa.gen [true,false] _ _ _ rfl q rfl rfl _ rfl ?_)
     |refine nB ?_)
    all_goals first|rfl|exact⟨rfl,trivial⟩|(exfalso;simp at*;omega)
   |true=>
    rw[h4] at p4
    have q:=cV (ar s 4) (hs4.mono (by omega)) hc4 2 i2
    have qb:=ch (ar s 4) (n:=2) (by omega)
    have e:bS ⟨gt,ga⟩ true s=(.mk (1+bK (ar s 4) 2) 0 [],ar (ar s 4) 2):=by simp[bS,fN,gg,g2,h4]
    rw[e]
    simp only[fg]
    refine gq ?_
    refine cX Tryz.func194 (h:= ?_)
    repeat'((conv=>whnf);first
     |refine aq.mk ?_ ?_
     |((first|apply bA|apply bB|apply bC|apply bD|apply bE|apply bF)<;>intro h<;>(try simp only[List.length_map] at h)<;>(try omega)<;>(try contradiction))|(guard_target=aa _ 76 _ _ _ _;refine aa.gen [true,false] _ _ _ rfl p4 rfl rfl _ rfl ?_)|(guard_target=aa _ 53 _ _ _ _;refine aa.gen [true,false] _ _ _ rfl q rfl rfl _ rfl ?_)|(guard_target=Arith _ _ _;refine Arith.fit (aP (by omega) (by omega)) ?_))
    all_goals first|rfl|exact⟨rfl,trivial⟩|(exfalso;simp at*;omega)
  ·have q:=cV s (hs.mono (by omega)) hc 2 i2
   have qb:=ch s (n:=2) (by omega)
   have e:bS ⟨gt,ga⟩ true s=(.mk (1+bK s 2) 0 [],ar s 2):=by simp[bS,fN,gg,g2]
   rw[e]
   simp only[fg]
   refine gq ?_
   refine cX Tryz.func194 (h:= ?_)
   repeat'((conv=>whnf);first
        |refine aq.mk ?_ ?_
        |((first|apply bA|apply bB|apply bC|apply bD|apply bE|apply bF)<;>intro h<;>(try simp only[List.length_map] at h)<;>(try omega)<;>(try contradiction))|(guard_target=aa _ 53 _ _ _ _;refine aa.gen [true,false] _ _ _ rfl q rfl rfl _ rfl ?_)|(guard_target=Arith _ _ _;refine Arith.fit (aP (by omega) (by omega)) ?_))
   all_goals first|rfl|exact⟨rfl,trivial⟩|(exfalso;simp at*;omega)
 |false=>
  by_cases g1:ga>0
  ·cases h3:jf s 3 with
   |false=>
    rw[h3] at p3
    have q:=cV (ar s 3) (hs3.mono (by omega)) hc3 ga ha
    have e:bS ⟨gt,ga⟩ false s=(.mk 4 (bK (ar s 3) ga) [],ar (ar s 3) ga):=by simp[bS,g1,h3]
    rw[e]
    simp only[fg]
    refine gq ?_
    refine cX Tryz.func194 (h:= ?_)
    repeat'((conv=>whnf);first
       |refine aq.mk ?_ ?_
       |((first|apply bA|apply bB|apply bC|apply bD|apply bE|apply bF)<;>intro h<;>(try simp only[List.length_map] at h)<;>(try omega)<;>(try contradiction))|(guard_target=aa _ 76 _ _ _ _;refine aa.gen [true,false] _ _ _ rfl p3 rfl rfl _ rfl ?_)|(guard_target=aa _ 53 _ _ _ _;refine aa.gen [true,false] _ _ _ rfl q rfl rfl _ rfl ?_)
       |refine nB ?_)
    all_goals first|rfl|exact⟨rfl,trivial⟩|(exfalso;simp at*;omega)
   |true=>
    rw[h3] at p3
    by_cases g2:gt>0
    ·have p4:=iA (ar s 3) (hs3.mono (by omega)) hc3 4 i4
     have hs4:Rd (ar (ar s 3) 4) 800000004:=(hs3.pick 4).mono (by omega)
     have hc4:(ar (ar s 3) 4).code.length≤1000000:=by rw[dr];exact hc3
     cases h4:jf (ar s 3) 4 with
     |false=>
      rw[h4] at p4
      have q:=cV (ar (ar s 3) 4) (hs4.mono (by omega)) hc4 gt ht
      have e:bS ⟨gt,ga⟩ false s=(.mk 3 (bK (ar (ar s 3) 4) gt) [],ar (ar (ar s 3) 4) gt):=by simp[bS,fN,gg,g2,h4,g1,h3]
      rw[e]
      simp only[fg]
      refine gq ?_
      refine cX Tryz.func194 (h:= ?_)
      repeat'((conv=>whnf);first
       |refine aq.mk ?_ ?_
       |((first|apply bA|apply bB|apply bC|apply bD|apply bE|apply bF)<;>intro h<;>(try simp only[List.length_map] at h)<;>(try omega)<;>(try contradiction))|(guard_target=aa _ 76 _ _ _ _;(first|refine aa.gen [true,false] _ _ _ rfl p3 rfl rfl _ rfl ?_|refine aa.gen [true,false] _ _ _ rfl p4 rfl rfl _ rfl ?_))|(guard_target=aa _ 53 _ _ _ _;refine aa.gen [true,false] _ _ _ rfl q rfl rfl _ rfl ?_)
       |refine nB ?_)
      all_goals first|rfl|exact⟨rfl,trivial⟩|(exfalso;simp at*;omega)
     |true=>
      rw[h4] at p4
      have q:=cV (ar (ar s 3) 4) (hs4.mono (by omega)) hc4 2 i2
      have qb:=ch (ar (ar s 3) 4) (n:=2) (by omega)
      have e:bS ⟨gt,ga⟩ false s=(.mk (1+bK (ar (ar s 3) 4) 2) 0 [],ar (ar (ar s 3) 4) 2):=by simp[bS,fN,gg,g2,h4,g1,h3]
      rw[e]
      simp only[fg]
      refine gq ?_
      refine cX Tryz.func194 (h:= ?_)
      repeat'((conv=>whnf);first
       |refine aq.mk ?_ ?_
       |((first|apply bA|apply bB|apply bC|apply bD|apply bE|apply bF)<;>intro h<;>(try simp only[List.length_map] at h)<;>(try omega)<;>(try contradiction))|(guard_target=aa _ 76 _ _ _ _;(first|refine aa.gen [true,false] _ _ _ rfl p3 rfl rfl _ rfl ?_|refine aa.gen [true,false] _ _ _ rfl p4 rfl rfl _ rfl ?_))|(guard_target=aa _ 53 _ _ _ _;refine aa.gen [true,false] _ _ _ rfl q rfl rfl _ rfl ?_)|(guard_target=Arith _ _ _;refine Arith.fit (aP (by omega) (by omega)) ?_))
      all_goals first|rfl|exact⟨rfl,trivial⟩|(exfalso;simp at*;omega)
    ·have q:=cV (ar s 3) (hs3.mono (by omega)) hc3 2 i2
     have qb:=ch (ar s 3) (n:=2) (by omega)
     have e:bS ⟨gt,ga⟩ false s=(.mk (1+bK (ar s 3) 2) 0 [],ar (ar s 3) 2):=by simp[bS,fN,gg,g2,g1,h3]
     rw[e]
     simp only[fg]
     refine gq ?_
     refine cX Tryz.func194 (h:= ?_)
     repeat'((conv=>whnf);first
         |refine aq.mk ?_ ?_
         |((first|apply bA|apply bB|apply bC|apply bD|apply bE|apply bF)<;>intro h<;>(try simp only[List.length_map] at h)<;>(try omega)<;>(try contradiction))|(guard_target=aa _ 76 _ _ _ _;refine aa.gen [true,false] _ _ _ rfl p3 rfl rfl _ rfl ?_)|(guard_target=aa _ 53 _ _ _ _;refine aa.gen [true,false] _ _ _ rfl q rfl rfl _ rfl ?_)|(guard_target=Arith _ _ _;refine Arith.fit (aP (by omega) (by omega)) ?_))
     all_goals first|rfl|exact⟨rfl,trivial⟩|(exfalso;simp at*;omega)
  ·clear p3 hs3 hc3
   by_cases g2:gt>0
   ·have p4:=iA s (hs.mono (by omega)) hc 4 i4
    have hs4:Rd (ar s 4) 800000004:=(hs.pick 4).mono (by omega)
    have hc4:(ar s 4).code.length≤1000000:=by rw[dr];exact hc
    cases h4:jf s 4 with
    |false=>
     rw[h4] at p4
     have q:=cV (ar s 4) (hs4.mono (by omega)) hc4 gt ht
     have e:bS ⟨gt,ga⟩ false s=(.mk 3 (bK (ar s 4) gt) [],ar (ar s 4) gt):=by simp[bS,fN,gg,g2,h4,g1]
     rw[e]
     simp only[fg]
     refine gq ?_
     refine cX Tryz.func194 (h:= ?_)
     repeat'((conv=>whnf);first
         |refine aq.mk ?_ ?_
         |((first|apply bA|apply bB|apply bC|apply bD|apply bE|apply bF)<;>intro h<;>(try simp only[List.length_map] at h)<;>(try omega)<;>(try contradiction))|(guard_target=aa _ 76 _ _ _ _;refine aa.gen [true,false] _ _ _ rfl p4 rfl rfl _ rfl ?_)|(guard_target=aa _ 53 _ _ _ _;refine aa.gen [true,false] _ _ _ rfl q rfl rfl _ rfl ?_)
         |refine nB ?_)
     all_goals first|rfl|exact⟨rfl,trivial⟩|(exfalso;simp at*;omega)
    |true=>
     rw[h4] at p4
     have q:=cV (ar s 4) (hs4.mono (by omega)) hc4 2 i2
     have qb:=ch (ar s 4) (n:=2) (by omega)
     have e:bS ⟨gt,ga⟩ false s=(.mk (1+bK (ar s 4) 2) 0 [],ar (ar s 4) 2):=by simp[bS,fN,gg,g2,h4,g1]
     rw[e]
     simp only[fg]
     refine gq ?_
     refine cX Tryz.func194 (h:= ?_)
     repeat'((conv=>whnf);first
         |refine aq.mk ?_ ?_
         |((first|apply bA|apply bB|apply bC|apply bD|apply bE|apply bF)<;>intro h<;>(try simp only[List.length_map] at h)<;>(try omega)<;>(try contradiction))|(guard_target=aa _ 76 _ _ _ _;refine aa.gen [true,false] _ _ _ rfl p4 rfl rfl _ rfl ?_)|(guard_target=aa _ 53 _ _ _ _;refine aa.gen [true,false] _ _ _ rfl q rfl rfl _ rfl ?_)|(guard_target=Arith _ _ _;refine Arith.fit (aP (by omega) (by omega)) ?_))
     all_goals first|rfl|exact⟨rfl,trivial⟩|(exfalso;simp at*;omega)
   ·have q:=cV s (hs.mono (by omega)) hc 2 i2
    have qb:=ch s (n:=2) (by omega)
    have e:bS ⟨gt,ga⟩ false s=(.mk (1+bK s 2) 0 [],ar s 2):=by simp[bS,fN,gg,g2,g1]
    rw[e]
    simp only[fg]
    refine gq ?_
    refine cX Tryz.func194 (h:= ?_)
    repeat'((conv=>whnf);first
       |refine aq.mk ?_ ?_
       |((first|apply bA|apply bB|apply bC|apply bD|apply bE|apply bF)<;>intro h<;>(try simp only[List.length_map] at h)<;>(try omega)<;>(try contradiction))|(guard_target=aa _ 53 _ _ _ _;refine aa.gen [true,false] _ _ _ rfl q rfl rfl _ rfl ?_)|(guard_target=Arith _ _ _;refine Arith.fit (aP (by omega) (by omega)) ?_))
    all_goals first|rfl|exact⟨rfl,trivial⟩|(exfalso;simp at*;omega)
end
end Go.Proofs.YtgbggaddpbghfaaGreat
