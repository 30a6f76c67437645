/- Contracts of the reference's visiting an expression's nodes for steps, and of all steps found, which own their memory. Conditions: valid equations, bounds of size. -/
import Derived.Test.YtgbggaddpbghfaaGreatKAN
namespace Go.Proofs.YtgbggaddpbghfaaGreat
open Go Go.KA Go.Proofs
set_option maxHeartbeats 16000000
set_option maxRecDepth 100000
section
variable{t a:Int}{ax:List bX}{e:ae}{k n:Int}{ks:List ae}{path:List Int}{s:ot}
 (hal:ax.length≤1000)(hpl:path.length≤1000000)(hsl:s.out.length≤300)
 (hf:∀u,u<ax.length→∀z:ot,z.out.length≤300→ai Tryz.prog 219 [.c (.op (sL t a ax e z)), .c (.ro 1 (path.map eI)), .c (.rp 3 (aI (.mk k n ks))),I (u:Nat),B false] [some [.op (sL t a ax e (rK z (vh t a e u false (ax.getD u Oz).left (ax.getD u Oz).right path (.mk k n ks))))]] (.tup []))
 (ht:∀u,u<ax.length→∀z:ot,z.out.length≤300→ai Tryz.prog 219 [.c (.op (sL t a ax e z)), .c (.ro 1 (path.map eI)), .c (.rp 3 (aI (.mk k n ks))),I (u:Nat),B true] [some [.op (sL t a ax e (rK z (vh t a e u true (ax.getD u Oz).right (ax.getD u Oz).left path (.mk k n ks))))]] (.tup []))
 (ih:∀i,i<ks.length→∀z:ot,z.out.length≤300→ai Tryz.prog 211 [.c (.op (sL t a ax e z)), .c (.ows 2 1 (path.map eI++[[J (i:Nat)]])), .c (.rp 3 (aI (ks.getD i cQ)))] [some [.op (sL t a ax e (jF t a ax e (ks.getD i cQ) (path++[(i:Int)]) z))]] (.tup []))
include hal hpl hsl hf ht ih
theorem BN:ai Tryz.prog 211 [.c (.op (sL t a ax e s)), .c (.ro 1 (path.map eI)), .c (.rp 3 (aI (.mk k n ks)))] [some [.op (sL t a ax e (jF t a ax e (.mk k n ks) path s))]] (.tup []):=by
 rw[jF]
 obtain⟨S1,hS1⟩:∃S,qT t a ax e path (.mk k n ks) ax.length 0 s=S:=⟨_,rfl⟩
 rw[hS1]
 obtain⟨S2,hS2⟩:∃S,eG t a ax e ks path 0 S1=S:=⟨_,rfl⟩
 rw[hS2]
 have e0:aI (.mk k n ks)=[J k,J n, .ro 3 (ks.map af)]:=rfl
 rw[e0] at hf ht⊢
 have cw:ai Tryz.prog 133 [.c (.ro 1 (path.map eI))] [] (.c (.ows 2 1 (path.map eI))):=iT path (by omega)
 refine cX Tryz.func211 (h:= ?_)
 repeat'((conv=>whnf);first
  |(guard_target=ah _ _;(have g:=‹y.bad=true›);(obtain rfl:S2=y:=hY.2.1.symm.trans (MF t a ax e g));exact ah.mk rfl ⟨rfl,trivial⟩)|(guard_target=ah _ _;(have g:=‹¬((j:Nat):Int)<(ks.length:Nat)›);(obtain rfl:S2=y:=hY.2.1.symm.trans (LV t a ax e (by omega)));exact ah.mk rfl ⟨rfl,trivial⟩)
  |refine ah.mk ?_ ?_|(guard_target=~ aP 1 _ _ _ _ _ _;refine lX (ot × Nat) [0,1,2] (fun⟨z,i⟩=>[(6,I (i:Nat))]) (fun⟨z,i⟩=>[(0, .aG none 156 5 (z.out.map aY)),(1, .cells [.c (J t), .c (J a), .c (.ro 6 (ax.map aV)), .c (.rp 3 (aI e)), .lw 0, .c (.val (.bool z.bad))])]) (fun⟨z,i⟩=>i≤ax.length∧qT t a ax e path (.mk k n ks) (ax.length-i) i z=S1∧z.out.length≤300) (fun⟨z,i⟩=>ax.length-i) (s,0) (by exact⟨Nat.zero_le _,hS1,hsl⟩) (fun A ha=> ?_);obtain⟨z,i⟩:=A;have ha:i≤ax.length∧qT t a ax e path (.mk k n ks) (ax.length-i) i z=S1∧z.out.length≤300:=ha;(have hZ:=ha))|(guard_target=~ aP 6 _ _ _ _ _ _;refine lX (ot × Nat) [0,1,2] (fun⟨y,j⟩=>[(7,I (j:Nat))]) (fun⟨y,j⟩=>[(0, .aG none 156 5 (y.out.map aY)),(1, .cells [.c (J t), .c (J a), .c (.ro 6 (ax.map aV)), .c (.rp 3 (aI e)), .lw 0, .c (.val (.bool y.bad))])]) (fun⟨y,j⟩=>j≤ks.length∧eG t a ax e (ks.drop j) path j y=S2∧y.out.length≤300) (fun⟨y,j⟩=>ks.length-j) (z,0) (by exact⟨Nat.zero_le _,(congrArg (eG t a ax e ks path 0) ((LR t a ax e ‹z.bad=true›).symm.trans hZ.2.1)).trans hS2,hZ.2.2⟩) (fun A ha=> ?_);obtain⟨y,j⟩:=A;have ha:j≤ks.length∧eG t a ax e (ks.drop j) path j y=S2∧y.out.length≤300:=ha;(have hY:=ha))|(guard_target=~ aP 6 _ _ _ _ _ _;refine lX (ot × Nat) [0,1,2] (fun⟨y,j⟩=>[(7,I (j:Nat))]) (fun⟨y,j⟩=>[(0, .aG none 156 5 (y.out.map aY)),(1, .cells [.c (J t), .c (J a), .c (.ro 6 (ax.map aV)), .c (.rp 3 (aI e)), .lw 0, .c (.val (.bool y.bad))])]) (fun⟨y,j⟩=>j≤ks.length∧eG t a ax e (ks.drop j) path j y=S2∧y.out.length≤300) (fun⟨y,j⟩=>ks.length-j) (z,0) (by exact⟨Nat.zero_le _,(congrArg (eG t a ax e ks path 0) ((LN t a ax e (by omega)).symm.trans hZ.2.1)).trans hS2,hZ.2.2⟩) (fun A ha=> ?_);obtain⟨y,j⟩:=A;have ha:j≤ks.length∧eG t a ax e (ks.drop j) path j y=S2∧y.out.length≤300:=ha;(have hY:=ha))
  |refine qJ ((KV t a ax e path (.mk k n ks) i z,i+1):ot × Nat) (by exact⟨by show i+1≤_;omega,(NM t a ax e (by omega) ‹z.bad=false›).symm.trans hZ.2.1,pe (pe hZ.2.2 _) _⟩)
  |refine qJ ((jF t a ax e (ks.getD j cQ) (path++[(j:Int)]) y,j+1):ot × Nat) (by exact⟨by show j+1≤_;omega,(NI t a ax e (by omega) ‹y.bad=false›).symm.trans hY.2.1,qO t a ax e _ _ _ hY.2.2⟩)
  |(apply Fact.mk;intro hL;try simp only[List.length_map,maxLen] at hL)
  |((first|apply bA|apply bB|apply bC|apply bD|apply bE|apply bF)<;>intro h<;>(try simp only[List.length_map] at h)<;>(try omega)<;>(try contradiction))|(guard_target=aa _ 219 _ _ _ _;refine cG [true,false,false,false,false] rfl (hf i (by omega) z hZ.2.2) ?_)|(guard_target=aa _ 219 _ _ _ _;refine cG [true,false,false,false,false] rfl (ht i (by omega) _ (pe hZ.2.2 _)) ?_)|(guard_target=aa _ 211 _ _ _ _;refine cG [true,true,false] rfl (ih j (by omega) y hY.2.2) ?_)|(guard_target=aa _ 133 _ _ _ _;refine cG [] rfl (cw) ?_)
  |refine aR ?_|(guard_target=Index _ _ _;first|refine Index.mk _ (km (l:=ks) (i:=j) (by omega)) ?_)
  |refine iX (k:= ?_)
  |refine nB ?_
  |apply ay.no
  |apply cj.go|(guard_target=aQ _ _;refine aQ.mk (by first|((simp only[List.length_map,List.length_cons,List.length_nil,maxLen];constructor<;>omega))|fail) ?_)
  |refine nO ?_)
 all_goals first|rfl|trivial
end
theorem yy{t a:Int}(hs:bT t a=true){ax:List bX}{e:ae}(hq:∀q∈ax,yB q)(hal:ax.length≤1000)(be:ao e≤200)(node:ae)(bn:ao node≤200)(path:List Int)(bp:path.length+gV node≤1000000)(s:ot)(bs:s.out.length≤300):
 ai Tryz.prog 211 [.c (.op (sL t a ax e s)), .c (.ro 1 (path.map eI)), .c (.rp 3 (aI node))] [some [.op (sL t a ax e (jF t a ax e node path s))]] (.tup []):=by
 have hg:∀u,u<ax.length→yB (ax.getD u Oz):=fun u hu=>hq _ (by rw[getD_eq hu];exact List.getElem_mem hu)
 have hx:∀u,u<ax.length→(ax.map aV)[((u:Nat):Int).toNat]? =some (aV (ax.getD u Oz)):=fun u hu=>aF (i:=u) hu
 obtain⟨k,n,ks,hnode⟩:∃k n ks,node= .mk k n ks:=by cases node;exact⟨_,_,_,rfl⟩
 rw[hnode] at bn bp⊢
 refine BN hal (by omega) bs (fun u hu z hz=>Em hs ax path z (hx u hu) (hg u hu).l (hg u hu).r (hg u hu).bl (hg u hu).br be bn (by omega) hz) (fun u hu z hz=>HY hs ax path z (hx u hu) (hg u hu).l (hg u hu).r (hg u hu).bl (hg u hu).br be bn (by omega) hz) fun i hi z hz=> ?_
 have hm:ks.getD i cQ∈ks:=by rw[getD_eq hi];exact List.getElem_mem hi
 have hk:=vA (e:= .mk k n ks) hm
 have h:=yy hs hq hal be (ks.getD i cQ) (by simp only[gV] at hk;omega) (path++[(i:Int)]) (by simp only[List.length_append,List.length_cons,List.length_nil];omega) z hz
 rw[List.map_append] at h
 exact h.Lq (.same (.c (.same .nil)))
termination_by SizeOf.sizeOf node
decreasing_by
 have:=List.sizeOf_lt_of_mem hm
 rw[hnode]
 simp only[ae.mk.sizeOf_spec]
 omega
theorem J8{t a:Int}(hs:bT t a=true)(e:ae)(be:ao e≤200):ai Tryz.prog 192 [.a 2 [J t,J a], .c (.rp 3 (aI e))] [] (.tup [.c (.own 156 5 ((kZ t a iw e).out.map aY)),B (!(kZ t a iw e).bad)]):=by
 have c1:ai Tryz.prog 210 [] [] (.c (.ro 6 (iw.map aV))):=Ik.soft (.v (.c (.ro .nil)))
 have c2:=yy hs (e:=e) C5 (by rw[vF];decide) be e be [] (by simp only[gV,List.length_nil];omega) ⟨[],false⟩ (by simp)
 have c3:=c2.Lq (.same (.c (x:= .ows 2 1 []) (.same .nil)))
 unfold kZ
 generalize jF t a iw e e [] ⟨[],false⟩=F at c3⊢
 generalize iw=Q at c1 c3
 refine cX Tryz.func192 (fun reg_=>match reg_ with|2=>true|_=>false) (h:= ?_)
 repeat'((conv=>whnf);first
  |refine ah.mk ?_ ?_
  |(apply Fact.mk;intro hL;try simp only[List.length_map,maxLen] at hL)|(guard_target=aa _ 210 _ _ _ _;refine cG [] rfl (c1) ?_)|(guard_target=aa _ 211 _ _ _ _;refine cG [true,true,false] rfl (c3) ?_)|(guard_target=Gh _ _ _ _ _;refine Gh.soft 3 gE.up (Gh.go ?_))
  |refine nB ?_
  |apply cj.go
  |refine nO ?_)
 all_goals first|rfl|trivial
end Go.Proofs.YtgbggaddpbghfaaGreat
namespace Go.Proofs.YtgbggaddpbghfaaGreat
open Go Go.KA Go.Proofs
set_option maxHeartbeats 16000000
set_option maxRecDepth 100000
theorem wS{P:Program}{f:Nat}{args:List SV}{outs:List (Option (List CV))}{k n:Int}{x:ae}(h:ai P f args outs (.a 3 [J k,J n, .own 66 3 [bQ x]])):ai P f args outs (.a 3 (bQ (.mk k n [x]))):=by
 have e:bQ (.mk k n [x])=[J k,J n, .own 66 3 [bQ x]]:=by
  show[J k,J n,CV.own 66 3 [az x]]=_
  rw[dw]
 rw[e]
 exact h
theorem kI(k:Int)(a b:ae):ai Tryz.prog 195 [I k, .m ((bQ a).map .c), .m ((bQ b).map .c)] [] (.a 3 (bQ (sM k a b))):=by
 have e:bQ (sM k a b)=[J k,J 0, .own 66 3 [bQ a,bQ b]]:=by
  show[J k,J 0,CV.own 66 3 [az a,az b]]=_
  rw[dw,dw]
 rw[e]
 refine cX Tryz.func195 (h:= ?_)
 repeat'((conv=>whnf);first
  |refine ah.mk ?_ ?_
  |refine iX (k:= ?_)
  |refine nO ?_)
 all_goals first|rfl|trivial
section
variable(g:ja)(hg:0≤g.au∧g.au≤3∧0≤g.aq∧g.aq≤4)
include hg
theorem oT(left:Int)(s:Src)(hs:Rd s 800000000)(hc:s.code.length≤1000000)(c:Bool):
 ai Tryz.prog 194 [.c (.op (eW ⟨s,left⟩ g)),B c] [some [.op (eW ⟨(bV g c s).2,left⟩ g)],none] (.a 3 (bQ (bV g c s).1)):=by
 have ht:jE g.au:=by unfold jE;omega
 have ha:jE g.aq:=by unfold jE;omega
 have i2:jE 2:=by unfold jE;omega
 have i3:jE 3:=by unfold jE;omega
 have i4:jE 4:=by unfold jE;omega
 obtain⟨gt,ga⟩:=g
 simp only[] at hg ht ha
 have p3:=ir s (hs.mono (by omega)) hc 3 i3
 have hs3:Rd (ar s 3) 800000002:=hs.pick 3
 have hc3:(ar s 3).code.length≤1000000:=by rw[du];exact hc
 cases c with
 |true=>
  by_cases g2:gt>0
  ·have p4:=ir s (hs.mono (by omega)) hc 4 i4
   have hs4:Rd (ar s 4) 800000004:=(hs.pick 4).mono (by omega)
   have hc4:(ar s 4).code.length≤1000000:=by rw[du];exact hc
   cases h4:iZ s 4 with
   |false=>
    rw[h4] at p4
    have q:=c7 (ar s 4) (hs4.mono (by omega)) hc4 gt ht
    have e:bV ⟨gt,ga⟩ true s=(.mk 3 (bP (ar s 4) gt) [],ar (ar s 4) gt):=by simp[bV,fK,gi,g2,h4]
    rw[e]
    simp only[eW]
    refine dS ?_
    refine cX Tryz.func194 (h:= ?_)
    repeat'((conv=>whnf);first
     |refine ah.mk ?_ ?_
     |((first|apply bA|apply bB|apply bC|apply bD|apply bE|apply bF)<;>intro h<;>(try simp only[List.length_map] at h)<;>(try omega)<;>(try contradiction))|(guard_target=aa _ 76 _ _ _ _;refine aa.gen [true,false] _ _ _ rfl p4 rfl rfl _ rfl ?_)|(guard_target=aa _ 53 _ _ _ _;refine aa.gen [true,false] _ _ _ rfl q rfl rfl _ rfl ?_)|(guard_target=Arith _ _ _;refine Arith.fit (aL (by omega) (by omega)) ?_)
     |refine aR ?_
     |refine iX (k:= ?_)
     |refine nB ?_
     |apply cj.go
     |refine nO ?_)
    all_goals first|rfl|exact⟨rfl,trivial⟩|(exfalso;simp at*;omega)
   |true=>
    rw[h4] at p4
    have q:=c7 (ar s 4) (hs4.mono (by omega)) hc4 2 i2
    have qb:=cH (ar s 4) (n:=2) (by omega)
    have e:bV ⟨gt,ga⟩ true s=(.mk (1+bP (ar s 4) 2) 0 [],ar (ar s 4) 2):=by simp[bV,fK,gi,g2,h4]
    rw[e]
    simp only[eW]
    refine dS ?_
    refine cX Tryz.func194 (h:= ?_)
    repeat'((conv=>whnf);first
     |refine ah.mk ?_ ?_
     |((first|apply bA|apply bB|apply bC|apply bD|apply bE|apply bF)<;>intro h<;>(try simp only[List.length_map] at h)<;>(try omega)<;>(try contradiction))|(guard_target=aa _ 76 _ _ _ _;refine aa.gen [true,false] _ _ _ rfl p4 rfl rfl _ rfl ?_)|(guard_target=aa _ 53 _ _ _ _;refine aa.gen [true,false] _ _ _ rfl q rfl rfl _ rfl ?_)|(guard_target=Arith _ _ _;refine Arith.fit (aL (by omega) (by omega)) ?_)
     |refine aR ?_
     |refine iX (k:= ?_)
     |refine nB ?_
     |apply cj.go
     |refine nO ?_)
    all_goals first|rfl|exact⟨rfl,trivial⟩|(exfalso;simp at*;omega)
  ·have q:=c7 s (hs.mono (by omega)) hc 2 i2
   have qb:=cH s (n:=2) (by omega)
   have e:bV ⟨gt,ga⟩ true s=(.mk (1+bP s 2) 0 [],ar s 2):=by simp[bV,fK,gi,g2]
   rw[e]
   simp only[eW]
   refine dS ?_
   refine cX Tryz.func194 (h:= ?_)
   repeat'((conv=>whnf);first
        |refine ah.mk ?_ ?_
        |((first|apply bA|apply bB|apply bC|apply bD|apply bE|apply bF)<;>intro h<;>(try simp only[List.length_map] at h)<;>(try omega)<;>(try contradiction))|(guard_target=aa _ 53 _ _ _ _;refine aa.gen [true,false] _ _ _ rfl q rfl rfl _ rfl ?_)|(guard_target=Arith _ _ _;refine Arith.fit (aL (by omega) (by omega)) ?_)
        |refine aR ?_
        |refine iX (k:= ?_)
        |refine nB ?_
        |apply cj.go
        |refine nO ?_)
   all_goals first|rfl|exact⟨rfl,trivial⟩|(exfalso;simp at*;omega)
 |false=>
  by_cases g1:ga>0
  ·cases h3:iZ s 3 with
   |false=>
    rw[h3] at p3
    have q:=c7 (ar s 3) (hs3.mono (by omega)) hc3 ga ha
    have e:bV ⟨gt,ga⟩ false s=(.mk 4 (bP (ar s 3) ga) [],ar (ar s 3) ga):=by simp[bV,g1,h3]
    rw[e]
    simp only[eW]
    refine dS ?_
    refine cX Tryz.func194 (h:= ?_)
    repeat'((conv=>whnf);first
       |refine ah.mk ?_ ?_
       |((first|apply bA|apply bB|apply bC|apply bD|apply bE|apply bF)<;>intro h<;>(try simp only[List.length_map] at h)<;>(try omega)<;>(try contradiction))|(guard_target=aa _ 76 _ _ _ _;refine aa.gen [true,false] _ _ _ rfl p3 rfl rfl _ rfl ?_)|(guard_target=aa _ 53 _ _ _ _;refine aa.gen [true,false] _ _ _ rfl q rfl rfl _ rfl ?_)|(guard_target=Arith _ _ _;refine Arith.fit (aL (by omega) (by omega)) ?_)
       |refine aR ?_
       |refine iX (k:= ?_)
       |refine nB ?_
       |apply cj.go
       |refine nO ?_)
    all_goals first|rfl|exact⟨rfl,trivial⟩|(exfalso;simp at*;omega)
   |true=>
    rw[h3] at p3
    by_cases g2:gt>0
    ·have p4:=ir (ar s 3) (hs3.mono (by omega)) hc3 4 i4
     have hs4:Rd (ar (ar s 3) 4) 800000004:=(hs3.pick 4).mono (by omega)
     have hc4:(ar (ar s 3) 4).code.length≤1000000:=by rw[du];exact hc3
     cases h4:iZ (ar s 3) 4 with
     |false=>
      rw[h4] at p4
      have q:=c7 (ar (ar s 3) 4) (hs4.mono (by omega)) hc4 gt ht
      have e:bV ⟨gt,ga⟩ false s=(.mk 3 (bP (ar (ar s 3) 4) gt) [],ar (ar (ar s 3) 4) gt):=by simp[bV,fK,gi,g2,h4,g1,h3]
      rw[e]
      simp only[eW]
      refine dS ?_
      refine cX Tryz.func194 (h:= ?_)
      repeat'((conv=>whnf);first
       |refine ah.mk ?_ ?_
       |((first|apply bA|apply bB|apply bC|apply bD|apply bE|apply bF)<;>intro h<;>(try simp only[List.length_map] at h)<;>(try omega)<;>(try contradiction))|(guard_target=aa _ 76 _ _ _ _;(first|refine aa.gen [true,false] _ _ _ rfl p3 rfl rfl _ rfl ?_|refine aa.gen [true,false] _ _ _ rfl p4 rfl rfl _ rfl ?_))|(guard_target=aa _ 53 _ _ _ _;refine aa.gen [true,false] _ _ _ rfl q rfl rfl _ rfl ?_)|(guard_target=Arith _ _ _;refine Arith.fit (aL (by omega) (by omega)) ?_)
       |refine aR ?_
       |refine iX (k:= ?_)
       |refine nB ?_
       |apply cj.go
       |refine nO ?_)
      all_goals first|rfl|exact⟨rfl,trivial⟩|(exfalso;simp at*;omega)
     |true=>
      rw[h4] at p4
      have q:=c7 (ar (ar s 3) 4) (hs4.mono (by omega)) hc4 2 i2
      have qb:=cH (ar (ar s 3) 4) (n:=2) (by omega)
      have e:bV ⟨gt,ga⟩ false s=(.mk (1+bP (ar (ar s 3) 4) 2) 0 [],ar (ar (ar s 3) 4) 2):=by simp[bV,fK,gi,g2,h4,g1,h3]
      rw[e]
      simp only[eW]
      refine dS ?_
      refine cX Tryz.func194 (h:= ?_)
      repeat'((conv=>whnf);first
       |refine ah.mk ?_ ?_
       |((first|apply bA|apply bB|apply bC|apply bD|apply bE|apply bF)<;>intro h<;>(try simp only[List.length_map] at h)<;>(try omega)<;>(try contradiction))|(guard_target=aa _ 76 _ _ _ _;(first|refine aa.gen [true,false] _ _ _ rfl p3 rfl rfl _ rfl ?_|refine aa.gen [true,false] _ _ _ rfl p4 rfl rfl _ rfl ?_))|(guard_target=aa _ 53 _ _ _ _;refine aa.gen [true,false] _ _ _ rfl q rfl rfl _ rfl ?_)|(guard_target=Arith _ _ _;refine Arith.fit (aL (by omega) (by omega)) ?_)
       |refine aR ?_
       |refine iX (k:= ?_)
       |refine nB ?_
       |apply cj.go
       |refine nO ?_)
      all_goals first|rfl|exact⟨rfl,trivial⟩|(exfalso;simp at*;omega)
    ·have q:=c7 (ar s 3) (hs3.mono (by omega)) hc3 2 i2
     have qb:=cH (ar s 3) (n:=2) (by omega)
     have e:bV ⟨gt,ga⟩ false s=(.mk (1+bP (ar s 3) 2) 0 [],ar (ar s 3) 2):=by simp[bV,fK,gi,g2,g1,h3]
     rw[e]
     simp only[eW]
     refine dS ?_
     refine cX Tryz.func194 (h:= ?_)
     repeat'((conv=>whnf);first
         |refine ah.mk ?_ ?_
         |((first|apply bA|apply bB|apply bC|apply bD|apply bE|apply bF)<;>intro h<;>(try simp only[List.length_map] at h)<;>(try omega)<;>(try contradiction))|(guard_target=aa _ 76 _ _ _ _;refine aa.gen [true,false] _ _ _ rfl p3 rfl rfl _ rfl ?_)|(guard_target=aa _ 53 _ _ _ _;refine aa.gen [true,false] _ _ _ rfl q rfl rfl _ rfl ?_)|(guard_target=Arith _ _ _;refine Arith.fit (aL (by omega) (by omega)) ?_)
         |refine aR ?_
         |refine iX (k:= ?_)
         |refine nB ?_
         |apply cj.go
         |refine nO ?_)
     all_goals first|rfl|exact⟨rfl,trivial⟩|(exfalso;simp at*;omega)
  ·clear p3 hs3 hc3
   by_cases g2:gt>0
   ·have p4:=ir s (hs.mono (by omega)) hc 4 i4
    have hs4:Rd (ar s 4) 800000004:=(hs.pick 4).mono (by omega)
    have hc4:(ar s 4).code.length≤1000000:=by rw[du];exact hc
    cases h4:iZ s 4 with
    |false=>
     rw[h4] at p4
     have q:=c7 (ar s 4) (hs4.mono (by omega)) hc4 gt ht
     have e:bV ⟨gt,ga⟩ false s=(.mk 3 (bP (ar s 4) gt) [],ar (ar s 4) gt):=by simp[bV,fK,gi,g2,h4,g1]
     rw[e]
     simp only[eW]
     refine dS ?_
     refine cX Tryz.func194 (h:= ?_)
     repeat'((conv=>whnf);first
         |refine ah.mk ?_ ?_
         |((first|apply bA|apply bB|apply bC|apply bD|apply bE|apply bF)<;>intro h<;>(try simp only[List.length_map] at h)<;>(try omega)<;>(try contradiction))|(guard_target=aa _ 76 _ _ _ _;refine aa.gen [true,false] _ _ _ rfl p4 rfl rfl _ rfl ?_)|(guard_target=aa _ 53 _ _ _ _;refine aa.gen [true,false] _ _ _ rfl q rfl rfl _ rfl ?_)|(guard_target=Arith _ _ _;refine Arith.fit (aL (by omega) (by omega)) ?_)
         |refine aR ?_
         |refine iX (k:= ?_)
         |refine nB ?_
         |apply cj.go
         |refine nO ?_)
     all_goals first|rfl|exact⟨rfl,trivial⟩|(exfalso;simp at*;omega)
    |true=>
     rw[h4] at p4
     have q:=c7 (ar s 4) (hs4.mono (by omega)) hc4 2 i2
     have qb:=cH (ar s 4) (n:=2) (by omega)
     have e:bV ⟨gt,ga⟩ false s=(.mk (1+bP (ar s 4) 2) 0 [],ar (ar s 4) 2):=by simp[bV,fK,gi,g2,h4,g1]
     rw[e]
     simp only[eW]
     refine dS ?_
     refine cX Tryz.func194 (h:= ?_)
     repeat'((conv=>whnf);first
         |refine ah.mk ?_ ?_
         |((first|apply bA|apply bB|apply bC|apply bD|apply bE|apply bF)<;>intro h<;>(try simp only[List.length_map] at h)<;>(try omega)<;>(try contradiction))|(guard_target=aa _ 76 _ _ _ _;refine aa.gen [true,false] _ _ _ rfl p4 rfl rfl _ rfl ?_)|(guard_target=aa _ 53 _ _ _ _;refine aa.gen [true,false] _ _ _ rfl q rfl rfl _ rfl ?_)|(guard_target=Arith _ _ _;refine Arith.fit (aL (by omega) (by omega)) ?_)
         |refine aR ?_
         |refine iX (k:= ?_)
         |refine nB ?_
         |apply cj.go
         |refine nO ?_)
     all_goals first|rfl|exact⟨rfl,trivial⟩|(exfalso;simp at*;omega)
   ·have q:=c7 s (hs.mono (by omega)) hc 2 i2
    have qb:=cH s (n:=2) (by omega)
    have e:bV ⟨gt,ga⟩ false s=(.mk (1+bP s 2) 0 [],ar s 2):=by simp[bV,fK,gi,g2,g1]
    rw[e]
    simp only[eW]
    refine dS ?_
    refine cX Tryz.func194 (h:= ?_)
    repeat'((conv=>whnf);first
       |refine ah.mk ?_ ?_
       |((first|apply bA|apply bB|apply bC|apply bD|apply bE|apply bF)<;>intro h<;>(try simp only[List.length_map] at h)<;>(try omega)<;>(try contradiction))|(guard_target=aa _ 53 _ _ _ _;refine aa.gen [true,false] _ _ _ rfl q rfl rfl _ rfl ?_)|(guard_target=Arith _ _ _;refine Arith.fit (aL (by omega) (by omega)) ?_)
       |refine aR ?_
       |refine iX (k:= ?_)
       |refine nB ?_
       |apply cj.go
       |refine nO ?_)
    all_goals first|rfl|exact⟨rfl,trivial⟩|(exfalso;simp at*;omega)
end
section
variable(g:ja)(hg:0≤g.au∧g.au≤3∧0≤g.aq∧g.aq≤4)
include hg
theorem lP:∀(d:Nat) (dp:Int) (c:Bool) (r:FH) (n:Int),dp=d→Room d r n→d≤1000→
 ai Tryz.prog 170 [.c (.op (eW r g)),B c,I dp] [some [.op (eW (bx g d c r).2 g)],none,none] (.a 3 (bQ (bx g d c r).1))
 |0,dp,c,⟨s,left⟩,n,hdp,⟨hs,hn,hc,hl,hu⟩,hd=>by
  have h0:=lz 0
  simp only[] at hs hc hl hu
  have lf:=oT g hg (left-1) s (hs.mono (by omega)) hc c
  have e1:bx g 0 c ⟨s,left⟩=((bV g c s).1,⟨(bV g c s).2,left-1⟩):=rfl
  rw[e1]
  generalize bV g c s=X at lf⊢
  obtain⟨⟨k1,n1,ks1⟩,s1⟩:=X
  simp only[eW] at lf⊢
  refine cX Tryz.func170 (h:= ?_)
  repeat'((conv=>whnf);first
   |refine ah.mk ?_ ?_
   |((first|apply bA|apply bB|apply bC|apply bD|apply bE|apply bF)<;>intro h<;>(try simp only[List.length_map] at h)<;>(try omega)<;>(try contradiction))|(guard_target=aa _ 194 _ _ _ _;refine aa.gen [true,false] _ _ _ rfl lf rfl rfl _ rfl ?_)|(guard_target=Arith _ _ _;refine Arith.fit (aL (by omega) (by omega)) ?_)
   |refine aR ?_
   |refine iX (k:= ?_)
   |refine nO ?_)
  all_goals first|rfl|exact⟨rfl,trivial⟩|(exfalso;simp at*;omega)
 |d+1,dp,c,⟨s,left⟩,n,hdp,⟨hs,hn,hc,hl,hu⟩,hd=>by
  have h0:=lz d
  have h1:=nC d
  have hp:=two_pow_succ (d+1)
  have hq:2≤2^(d+1):=by have:=two_pow_succ d;have:0<2^d:=Nat.pow_pos (by omega);omega
  simp only[] at hs hc hl hu
  have i6:jE 6:=by unfold jE;omega
  have i5:jE 5:=by unfold jE;omega
  have i10:jE 10:=by unfold jE;omega
  by_cases g1:left-1<1
  ·have lf:=oT g hg (left-1) s (hs.mono (by omega)) hc c
   have e1:bx g (d+1) c ⟨s,left⟩=((bV g c s).1,⟨(bV g c s).2,left-1⟩):=by rw[bx,if_pos g1];rfl
   rw[e1]
   generalize bV g c s=X at lf⊢
   obtain⟨⟨k1,n1,ks1⟩,s1⟩:=X
   simp only[eW] at lf⊢
   refine cX Tryz.func170 (h:= ?_)
   repeat'((conv=>whnf);first
    |refine ah.mk ?_ ?_
    |((first|apply bA|apply bB|apply bC|apply bD|apply bE|apply bF)<;>intro h<;>(try simp only[List.length_map] at h)<;>(try omega)<;>(try contradiction))|(guard_target=aa _ 194 _ _ _ _;refine aa.gen [true,false] _ _ _ rfl lf rfl rfl _ rfl ?_)|(guard_target=Arith _ _ _;refine Arith.fit (aL (by omega) (by omega)) ?_)
    |refine aR ?_
    |refine iX (k:= ?_)
    |refine nO ?_)
   all_goals first|rfl|exact⟨rfl,trivial⟩|(exfalso;simp at*;omega)
  have p6:=ir s (hs.mono (by omega)) hc 6 i6
  have hs6:Rd (ar s 6) (n+2):=hs.pick 6
  have hc6:(ar s 6).code.length≤1000000:=by rw[du];exact hc
  cases h6:iZ s 6 with
  |true=>
   rw[h6] at p6
   have lf:=oT g hg (left-1) (ar s 6) (hs6.mono (by omega)) hc6 c
   have e1:bx g (d+1) c ⟨s,left⟩=((bV g c (ar s 6)).1,⟨(bV g c (ar s 6)).2,left-1⟩):=by rw[bx,if_neg g1,if_pos h6];rfl
   rw[e1]
   generalize bV g c (ar s 6)=X at lf⊢
   obtain⟨⟨k1,n1,ks1⟩,s1⟩:=X
   simp only[eW] at lf⊢
   refine cX Tryz.func170 (h:= ?_)
   repeat'((conv=>whnf);first
    |refine ah.mk ?_ ?_
    |((first|apply bA|apply bB|apply bC|apply bD|apply bE|apply bF)<;>intro h<;>(try simp only[List.length_map] at h)<;>(try omega)<;>(try contradiction))|(guard_target=aa _ 76 _ _ _ _;refine aa.gen [true,false] _ _ _ rfl p6 rfl rfl _ rfl ?_)|(guard_target=aa _ 194 _ _ _ _;refine aa.gen [true,false] _ _ _ rfl lf rfl rfl _ rfl ?_)|(guard_target=Arith _ _ _;refine Arith.fit (aL (by omega) (by omega)) ?_)
    |refine aR ?_
    |refine iX (k:= ?_)
    |refine nO ?_)
   all_goals first|rfl|exact⟨rfl,trivial⟩|(exfalso;simp at*;omega)
  |false=>
   rw[h6] at p6
   have pk:=c7 (ar s 6) (hs6.mono (by omega)) hc6 10 i10
   have bk:=cH (ar s 6) (n:=10) (by omega)
   have hsA:Rd (ar (ar s 6) 10) (n+4):=(hs6.pick 10).mono (by omega)
   have hcA:(ar (ar s 6) 10).code.length≤1000000:=by rw[du];exact hc6
   rw[bx,if_neg g1,if_neg (by show¬iZ s 6=true;rw[h6];simp)]
   simp only[]
   generalize bP (ar s 6) 10=k at pk bk⊢
   generalize ar (ar s 6) 10=sA at pk hsA hcA⊢
   by_cases g2:k=0∨(c=true∧k<4)
   ·rw[if_pos g2]
    have ih:=lP d (dp-1) true ⟨sA,left-1⟩ (n+4) (by omega) ⟨hsA,by omega,hcA,by simp only[];omega,by simp only[];omega⟩ (by omega)
    generalize bx g d true ⟨sA,left-1⟩=X at ih⊢
    obtain⟨⟨k1,n1,ks1⟩,⟨s1,l1⟩⟩:=X
    simp only[eW] at ih⊢
    refine wS ?_
    cases c
    ·skip
     refine cX Tryz.func170 (h:= ?_)
     repeat'((conv=>whnf);first
       |refine ah.mk ?_ ?_
       |((first|apply bA|apply bB|apply bC|apply bD|apply bE|apply bF)<;>intro h<;>(try simp only[List.length_map] at h)<;>(try omega)<;>(try contradiction))|(guard_target=aa _ 76 _ _ _ _;refine aa.gen [true,false] _ _ _ rfl p6 rfl rfl _ rfl ?_)|(guard_target=aa _ 53 _ _ _ _;refine aa.gen [true,false] _ _ _ rfl pk rfl rfl _ rfl ?_)|(guard_target=aa _ 170 _ _ _ _;refine aa.gen [true,false,false] _ _ _ rfl ih rfl rfl _ rfl ?_)|(guard_target=Arith _ _ _;refine Arith.fit (aL (by omega) (by omega)) ?_)
       |refine aR ?_
       |refine iX (k:= ?_)
       |refine nO ?_)
     all_goals first|rfl|exact⟨rfl,trivial⟩|(exfalso;simp at*;omega)
    ·skip
     refine cX Tryz.func170 (h:= ?_)
     repeat'((conv=>whnf);first
       |refine ah.mk ?_ ?_
       |((first|apply bA|apply bB|apply bC|apply bD|apply bE|apply bF)<;>intro h<;>(try simp only[List.length_map] at h)<;>(try omega)<;>(try contradiction))|(guard_target=aa _ 76 _ _ _ _;refine aa.gen [true,false] _ _ _ rfl p6 rfl rfl _ rfl ?_)|(guard_target=aa _ 53 _ _ _ _;refine aa.gen [true,false] _ _ _ rfl pk rfl rfl _ rfl ?_)|(guard_target=aa _ 170 _ _ _ _;refine aa.gen [true,false,false] _ _ _ rfl ih rfl rfl _ rfl ?_)|(guard_target=Arith _ _ _;refine Arith.fit (aL (by omega) (by omega)) ?_)
       |refine aR ?_
       |refine iX (k:= ?_)
       |refine nO ?_)
     all_goals first|rfl|exact⟨rfl,trivial⟩|(exfalso;simp at*;omega)
   rw[if_neg g2]
   by_cases g3:k<4
   ·rw[if_pos g3]
    have ih:=lP d (dp-1) false ⟨sA,left-1⟩ (n+4) (by omega) ⟨hsA,by omega,hcA,by simp only[];omega,by simp only[];omega⟩ (by omega)
    generalize bx g d false ⟨sA,left-1⟩=X at ih⊢
    obtain⟨⟨k1,n1,ks1⟩,⟨s1,l1⟩⟩:=X
    simp only[eW] at ih⊢
    refine wS ?_
    cases c
    ·skip
     refine cX Tryz.func170 (h:= ?_)
     repeat'((conv=>whnf);first
       |refine ah.mk ?_ ?_
       |((first|apply bA|apply bB|apply bC|apply bD|apply bE|apply bF)<;>intro h<;>(try simp only[List.length_map] at h)<;>(try omega)<;>(try contradiction))|(guard_target=aa _ 76 _ _ _ _;refine aa.gen [true,false] _ _ _ rfl p6 rfl rfl _ rfl ?_)|(guard_target=aa _ 53 _ _ _ _;refine aa.gen [true,false] _ _ _ rfl pk rfl rfl _ rfl ?_)|(guard_target=aa _ 170 _ _ _ _;refine aa.gen [true,false,false] _ _ _ rfl ih rfl rfl _ rfl ?_)|(guard_target=Arith _ _ _;refine Arith.fit (aL (by omega) (by omega)) ?_)
       |refine aR ?_
       |refine iX (k:= ?_)
       |refine nO ?_)
     all_goals first|rfl|exact⟨rfl,trivial⟩|(exfalso;simp at*;omega)
    ·skip
     refine cX Tryz.func170 (h:= ?_)
     repeat'((conv=>whnf);first
       |refine ah.mk ?_ ?_
       |((first|apply bA|apply bB|apply bC|apply bD|apply bE|apply bF)<;>intro h<;>(try simp only[List.length_map] at h)<;>(try omega)<;>(try contradiction))|(guard_target=aa _ 76 _ _ _ _;refine aa.gen [true,false] _ _ _ rfl p6 rfl rfl _ rfl ?_)|(guard_target=aa _ 53 _ _ _ _;refine aa.gen [true,false] _ _ _ rfl pk rfl rfl _ rfl ?_)|(guard_target=aa _ 170 _ _ _ _;refine aa.gen [true,false,false] _ _ _ rfl ih rfl rfl _ rfl ?_)|(guard_target=Arith _ _ _;refine Arith.fit (aL (by omega) (by omega)) ?_)
       |refine aR ?_
       |refine iX (k:= ?_)
       |refine nO ?_)
     all_goals first|rfl|exact⟨rfl,trivial⟩|(exfalso;simp at*;omega)
   rw[if_neg g3]
   cases c with
   |true=>
    simp only[kU,jk,if_true]
    have ia:=lP d (dp-1) true ⟨sA,left-1⟩ (n+4) (by omega) ⟨hsA,by omega,hcA,by simp only[];omega,by simp only[];omega⟩ (by omega)
    have ra:=Rd.expr g d true ⟨sA,left-1⟩ hsA
    have la:=gM g d true ⟨sA,left-1⟩
    have ca:=jv g d true ⟨sA,left-1⟩
    generalize bx g d true ⟨sA,left-1⟩=X at ia ra la ca⊢
    obtain⟨⟨k1,n1,ks1⟩,⟨s1,l1⟩⟩:=X
    simp only[] at ra la ca ia⊢
    have ib:=lP d (dp-1) true ⟨s1,l1⟩ (n+4+kR d) (by omega) ⟨ra,by omega,by simp only[];rw[ca];exact hcA,by simp only[];omega,by simp only[];omega⟩ (by omega)
    generalize bx g d true ⟨s1,l1⟩=Y at ib⊢
    obtain⟨⟨k2,n2,ks2⟩,⟨s2,l2⟩⟩:=Y
    simp only[eW] at ia ib⊢
    by_cases g4:k<6
    ·rw[if_pos g4]
     have pr:=kI 6 (.mk k1 n1 ks1) (.mk k2 n2 ks2)
     refine cX Tryz.func170 (h:= ?_)
     repeat'((conv=>whnf);first
        |refine ah.mk ?_ ?_
        |((first|apply bA|apply bB|apply bC|apply bD|apply bE|apply bF)<;>intro h<;>(try simp only[List.length_map] at h)<;>(try omega)<;>(try contradiction))|(guard_target=aa _ 76 _ _ _ _;refine aa.gen [true,false] _ _ _ rfl p6 rfl rfl _ rfl ?_)|(guard_target=aa _ 53 _ _ _ _;refine aa.gen [true,false] _ _ _ rfl pk rfl rfl _ rfl ?_)|(guard_target=aa _ 170 _ _ _ _;(first|refine aa.gen [true,false,false] _ _ _ rfl ia rfl rfl _ rfl ?_|refine aa.gen [true,false,false] _ _ _ rfl ib rfl rfl _ rfl ?_))|(guard_target=aa _ 195 _ _ _ _;refine aa.gen [false,true,true] _ _ _ rfl pr rfl rfl _ rfl ?_)|(guard_target=Arith _ _ _;refine Arith.fit (aL (by omega) (by omega)) ?_)
        |refine aR ?_
        |refine iX (k:= ?_)
        |refine nO ?_)
     all_goals first|rfl|exact⟨rfl,trivial⟩|(exfalso;simp at*;omega)
    ·rw[if_neg g4]
     have pr:=kI 7 (.mk k1 n1 ks1) (.mk k2 n2 ks2)
     refine cX Tryz.func170 (h:= ?_)
     repeat'((conv=>whnf);first
        |refine ah.mk ?_ ?_
        |((first|apply bA|apply bB|apply bC|apply bD|apply bE|apply bF)<;>intro h<;>(try simp only[List.length_map] at h)<;>(try omega)<;>(try contradiction))|(guard_target=aa _ 76 _ _ _ _;refine aa.gen [true,false] _ _ _ rfl p6 rfl rfl _ rfl ?_)|(guard_target=aa _ 53 _ _ _ _;refine aa.gen [true,false] _ _ _ rfl pk rfl rfl _ rfl ?_)|(guard_target=aa _ 170 _ _ _ _;(first|refine aa.gen [true,false,false] _ _ _ rfl ia rfl rfl _ rfl ?_|refine aa.gen [true,false,false] _ _ _ rfl ib rfl rfl _ rfl ?_))|(guard_target=aa _ 195 _ _ _ _;refine aa.gen [false,true,true] _ _ _ rfl pr rfl rfl _ rfl ?_)|(guard_target=Arith _ _ _;refine Arith.fit (aL (by omega) (by omega)) ?_)
        |refine aR ?_
        |refine iX (k:= ?_)
        |refine nO ?_)
     all_goals first|rfl|exact⟨rfl,trivial⟩|(exfalso;simp at*;omega)
   |false=>
    simp only[kU,jk,Bool.false_eq_true,if_false]
    have p5:=ir sA (hsA.mono (by omega)) hcA 5 i5
    have hs5:Rd (ar sA 5) (n+6):=(hsA.pick 5).mono (by omega)
    have hc5:(ar sA 5).code.length≤1000000:=by rw[du];exact hcA
    generalize iZ sA 5=b5 at p5⊢
    generalize ar sA 5=sB at p5 hs5 hc5⊢
    have ia:=lP d (dp-1) b5 ⟨sB,left-1⟩ (n+6) (by omega) ⟨hs5,by omega,hc5,by simp only[];omega,by simp only[];omega⟩ (by omega)
    have ra:=Rd.expr g d b5 ⟨sB,left-1⟩ hs5
    have la:=gM g d b5 ⟨sB,left-1⟩
    have ca:=jv g d b5 ⟨sB,left-1⟩
    generalize bx g d b5 ⟨sB,left-1⟩=X at ia ra la ca⊢
    obtain⟨⟨k1,n1,ks1⟩,⟨s1,l1⟩⟩:=X
    simp only[] at ra la ca ia⊢
    have hc1:s1.code.length≤1000000:=by rw[ca];exact hc5
    have p1:=ir s1 (ra.mono (by omega)) hc1 6 i6
    have rb:Rd (ar s1 6) (n+8+kR d):=(ra.pick 6).mono (by omega)
    have hcb:(ar s1 6).code.length≤1000000:=by rw[du];exact hc1
    generalize iZ s1 6=b6 at p1⊢
    generalize ar s1 6=sC at p1 rb hcb⊢
    have ib:=lP d (dp-1) b6 ⟨sC,l1⟩ (n+8+kR d) (by omega) ⟨rb,by omega,hcb,by simp only[];omega,by simp only[];omega⟩ (by omega)
    generalize bx g d b6 ⟨sC,l1⟩=Y at ib⊢
    obtain⟨⟨k2,n2,ks2⟩,⟨s2,l2⟩⟩:=Y
    simp only[eW] at ia ib⊢
    by_cases g4:k<6
    ·rw[if_pos g4]
     have pr:=kI 6 (.mk k1 n1 ks1) (.mk k2 n2 ks2)
     refine cX Tryz.func170 (h:= ?_)
     repeat'((conv=>whnf);first
        |refine ah.mk ?_ ?_
        |((first|apply bA|apply bB|apply bC|apply bD|apply bE|apply bF)<;>intro h<;>(try simp only[List.length_map] at h)<;>(try omega)<;>(try contradiction))|(guard_target=aa _ 76 _ _ _ _;(first|refine aa.gen [true,false] _ _ _ rfl p6 rfl rfl _ rfl ?_|refine aa.gen [true,false] _ _ _ rfl p5 rfl rfl _ rfl ?_|refine aa.gen [true,false] _ _ _ rfl p1 rfl rfl _ rfl ?_))|(guard_target=aa _ 53 _ _ _ _;refine aa.gen [true,false] _ _ _ rfl pk rfl rfl _ rfl ?_)|(guard_target=aa _ 170 _ _ _ _;(first|refine aa.gen [true,false,false] _ _ _ rfl ia rfl rfl _ rfl ?_|refine aa.gen [true,false,false] _ _ _ rfl ib rfl rfl _ rfl ?_))|(guard_target=aa _ 195 _ _ _ _;refine aa.gen [false,true,true] _ _ _ rfl pr rfl rfl _ rfl ?_)|(guard_target=Arith _ _ _;refine Arith.fit (aL (by omega) (by omega)) ?_)
        |refine aR ?_
        |refine iX (k:= ?_)
        |refine nO ?_)
     all_goals first|rfl|exact⟨rfl,trivial⟩|(exfalso;simp at*;omega)
    ·rw[if_neg g4]
     have pr:=kI 7 (.mk k1 n1 ks1) (.mk k2 n2 ks2)
     refine cX Tryz.func170 (h:= ?_)
     repeat'((conv=>whnf);first
        |refine ah.mk ?_ ?_
        |((first|apply bA|apply bB|apply bC|apply bD|apply bE|apply bF)<;>intro h<;>(try simp only[List.length_map] at h)<;>(try omega)<;>(try contradiction))|(guard_target=aa _ 76 _ _ _ _;(first|refine aa.gen [true,false] _ _ _ rfl p6 rfl rfl _ rfl ?_|refine aa.gen [true,false] _ _ _ rfl p5 rfl rfl _ rfl ?_|refine aa.gen [true,false] _ _ _ rfl p1 rfl rfl _ rfl ?_))|(guard_target=aa _ 53 _ _ _ _;refine aa.gen [true,false] _ _ _ rfl pk rfl rfl _ rfl ?_)|(guard_target=aa _ 170 _ _ _ _;(first|refine aa.gen [true,false,false] _ _ _ rfl ia rfl rfl _ rfl ?_|refine aa.gen [true,false,false] _ _ _ rfl ib rfl rfl _ rfl ?_))|(guard_target=aa _ 195 _ _ _ _;refine aa.gen [false,true,true] _ _ _ rfl pr rfl rfl _ rfl ?_)|(guard_target=Arith _ _ _;refine Arith.fit (aL (by omega) (by omega)) ?_)
        |refine aR ?_
        |refine iX (k:= ?_)
        |refine nO ?_)
     all_goals first|rfl|exact⟨rfl,trivial⟩|(exfalso;simp at*;omega)
end
theorem sk(g:ja)(hg:0≤g.au∧g.au≤3∧0≤g.aq∧g.aq≤4)(s:Src)(hs:Rd s 600000000)(hc:s.code.length≤1000000)(n:Int)(hn:0≤n∧n≤100):
 ai Tryz.prog 139 [.c (.op (da s)), .a 2 [J g.au,J g.aq],I n] [some [.op (da (bx g 6 false ⟨s,n⟩).2.s)],none,none] (.a 3 (bQ (bx g 6 false ⟨s,n⟩).1)):=by
 have e:=v9
 have h:=lP g hg 6 6 false ⟨s,n⟩ 600000000 rfl ⟨hs,by omega,hc,by simp only[];omega,by simp only[];omega⟩ (by omega)
 obtain⟨gt,ga⟩:=g
 generalize bx ⟨gt,ga⟩ 6 false ⟨s,n⟩=X at h⊢
 obtain⟨⟨k1,n1,ks1⟩,⟨s1,l1⟩⟩:=X
 simp only[eW] at h⊢
 refine cX Tryz.func139 (h:= ?_)
 repeat'((conv=>whnf);first
  |refine ah.mk ?_ ?_|(guard_target=aa _ 170 _ _ _ _;refine aa.gen [true,false,false] _ _ _ rfl h rfl rfl _ rfl ?_)
  |refine iX (k:= ?_)
  |refine nO ?_)
 all_goals first|rfl|exact⟨rfl,trivial⟩
end Go.Proofs.YtgbggaddpbghfaaGreat
