/- Contracts of what learns an entry, and of the reference's revocation. Conditions: the archive's shape, the event's. -/
import Derived.Test.YtgbggaddpbghfaaGreatKAE
import Derived.WalkKit
import Derived.Deep.RegionLaw
import Derived.Lib.SliceRun
namespace Go.Proofs.YtgbggaddpbghfaaGreat
open Go Go.KA Go.Proofs
set_option maxHeartbeats 16000000
set_option maxRecDepth 100000
section
variable{a:ag}{e:bm}
theorem I5(h2:(sA a e.a).up=false):eD a e=(4,a):=by
 unfold eD
 rw[if_pos (by rw[h2];rfl)]
theorem KK(h2:(sA a e.a).up=true)(h3:gz (sA a e.a).notes e.bu=false):eD a e=(4,a):=by
 unfold eD
 rw[if_pos (by rw[h2,h3];rfl)]
theorem Ng(h2:(sA a e.a).up=true)(h3:gz (sA a e.a).notes e.bu=true)(h4:mD e.kW=false):eD a e=(8,a):=by
 unfold eD
 rw[if_neg (by rw[h2,h3];decide),if_pos h4]
theorem MG(h2:(sA a e.a).up=true)(h3:gz (sA a e.a).notes e.bu=true)(h4:mD e.kW=true)(h5:((sA a e.a).notes.length:Int)=20∨100≤jC a e.a∨nT a (jC a e.a)=true):eD a e=(3,a):=by
 unfold eD
 rw[if_neg (by rw[h2,h3];decide),if_neg (by rw[h4];decide),if_pos]
 rw[Bool.or_eq_true,Bool.or_eq_true,decide_eq_true_iff,decide_eq_true_iff]
 rcases h5 with h|h
 ·exact .inl (by omega)
 ·exact .inr h
theorem MK(h2:(sA a e.a).up=true)(h3:gz (sA a e.a).notes e.bu=true)(h4:mD e.kW=true)(h5:¬((sA a e.a).notes.length:Int)=20)(h6:¬100≤jC a e.a)(h7:nT a (jC a e.a)=false):eD a e=(0,iD a e.a (kj (sA a e.a) (wm a e))):=by
 unfold eD
 rw[if_neg (by rw[h2,h3];decide),if_neg (by rw[h4];decide),if_neg]
 rw[decide_eq_false (by omega:¬(sA a e.a).notes.length=20),decide_eq_false h6,h7]
 decide
end
theorem BJ{n i:Int}{x:aS}(h:x.bZ=false)(h2:x.id.tmod n=i):qK n i x=true:=by
 unfold qK
 rw[h,decide_eq_true h2]
 rfl
theorem Bw{n i:Int}{x:aS}(h:x.bZ=true):qK n i x=false:=by
 unfold qK
 rw[h]
 rfl
theorem Bq{n i:Int}{x:aS}(h2:¬x.id.tmod n=i):qK n i x=false:=by
 unfold qK
 rw[decide_eq_false h2,Bool.and_false]
theorem N7(a:ag)(e:bm)(hw:WA a)(he:EA e)(hp:e.a<(a.ab.length:Int)):ai Tryz.prog 82 [.c (.op (cy a)), .a 9 (bM e)] [some [.op (cy (eD a e).2)],none] (I (eD a e).1):=by
 have hpl:e.a.toNat<a.ab.length:=by have:=he.ra;omega
 have hra:=he.ra
 have h5:=hw.n5
 have h20:=(hw.sv _ hpl).1
 have hmul:∀c:Int,0≤c→c≤20→0≤(a.ab.length:Int)*c∧(a.ab.length:Int)*c≤100:=fun c h1 h2=>by
  constructor
  ·exact Int.mul_nonneg (by omega) h1
  ·have:=Int.mul_le_mul (show(a.ab.length:Int)≤5 by omega) h2 h1 (by omega)
   omega
 have hvo:=Fu e.kW (by have:=he.bl;omega)
 obtain⟨vb,hvb⟩:∃vb,vb=mD e.kW:=⟨_,rfl⟩
 rw[←hvb] at hvo
 have hbn:∀x y,bG ⟨false,x,⟨y,e.bu,e.proof⟩⟩≤1048576:=fun _ _=>by have:=he.bl;simp only[bG,nq];omega
 refine ID Tryz.func82 (fun reg_=>match reg_ with|2=>true|1000015=>true|14015=>true|17=>true|_=>false) (h:= ?_)
 repeat'((conv=>whnf);first
  |refine ah.mk ?_ ?_
  |(apply Fact.mk;intro hL;try simp only[List.length_map,maxLen] at hL)
  |((first|apply bA|apply bB|apply bC|apply bD|apply bE|apply bF)<;>intro h<;>(try simp only[List.length_map] at h)<;>(try omega)<;>(try contradiction))|(guard_target=Gh _ _ _ _ _;refine Gh.go ?_)
  |refine aR ?_|(guard_target=Index _ _ _;first|refine Index.mk _ (aF (d:=cO) hpl) ?_)
  |refine iX (k:= ?_)
  |refine nB ?_
  |apply ay.no|(guard_target=aQ _ _;refine aQ.mk (by first|((simp only[List.length_map];omega))|fail) ?_)
  |refine nO ?_)
 all_goals(conv=>whnf)
 all_goals try refine cj.opens 0 e.a.toNat 1 rfl (aF (d:=cO) hpl) rfl fun v=>cj.go ?_
 repeat'((conv=>whnf);first
  |(guard_target=~ ah (I 4=_) _;have hd:eD a e=(4,a):=(by first|exact I5 (by assumption)|exact KK (by assumption) (by assumption));rw[hd];exact ah.mk rfl ⟨rfl,trivial⟩)|(guard_target=~ ah (I 8=_) _;have hd:eD a e=(8,a):=Ng (by assumption) (by assumption) (by rw[←hvb];assumption);rw[hd];exact ah.mk rfl ⟨rfl,trivial⟩)
  |refine ah.mk ?_ ?_|(guard_target=~ aP 9 _ _ _ _ _ _;refine lp (Int × Nat) [0,3,5,6,45,46] (fun⟨c,i⟩=>[(7,I c),(47,I (i:Nat))]) (fun⟨c,i⟩=>i≤(a.ab.getD e.a.toNat cO).notes.length∧c=(((a.ab.getD e.a.toNat cO).notes.take i).countP (qK a.ab.length e.a):Nat)) (fun⟨c,i⟩=>(a.ab.getD e.a.toNat cO).notes.length-i) (0,0) (by exact⟨Nat.zero_le _,by simp⟩) (fun A ha=> ?_);obtain⟨c,i⟩:=A;have ha:i≤(a.ab.getD e.a.toNat cO).notes.length∧c=(((a.ab.getD e.a.toNat cO).notes.take i).countP (qK a.ab.length e.a):Nat):=ha;have hc9:=ha.2;have hle9:=z3 (p:=qK a.ab.length e.a) (l:=(a.ab.getD e.a.toNat cO).notes) (i:=i))
  |refine nx ((c+1,i+1):Int × Nat) (by exact⟨by show i+1≤_;omega,vw (by omega) (by rw[←getD_eq (d:=n0) (by omega)];refine BJ (by assumption) ?_;simpa only[List.length_set,List.length_map] using h) ha.2⟩)
  |refine nx ((c,i+1):Int × Nat) (by exact⟨by show i+1≤_;omega,Av (by omega) (by rw[←getD_eq (d:=n0) (by omega)];first|exact Bw h|(refine Bq ?_;simpa only[List.length_set,List.length_map] using h)) ha.2⟩)
  |(apply Fact.mk;intro hL;try simp only[List.length_map,maxLen] at hL)
  |((first|apply bA|apply bB|apply bC|apply bD|apply bE|apply bF)<;>intro h<;>(try simp only[List.length_map] at h)<;>(try omega)<;>(try contradiction))|(guard_target=aa _ 95 _ _ _ _;refine cP rfl (oN (a.ab.getD e.a.toNat cO).notes e.bu) ?_)|(guard_target=aa _ 114 _ _ _ _;refine cP rfl (hvo) ?_)|(guard_target=Gh _ _ _ _ _;refine Gh.iL 0 e.a.toNat 1 4 rfl (cB (by rw[List.length_map];exact hpl)) rfl rfl rfl (Gh.soft 0 (b':= .aG none 47 3 (a.ab.map bd)) (.aG (jP hpl rfl)) (Gh.go ?_)))|(guard_target=Gh _ _ _ _ _;refine Gh.go ?_)|(guard_target=Arith _ _ _;refine Arith.fit (aL (by(first|omega|(simp only[List.length_set,List.length_map];omega)|(simp only[List.length_set,List.length_map];have hm9:=hmul c (by omega) (by omega);omega))) (by(first|omega|(simp only[List.length_set,List.length_map];omega)|(simp only[List.length_set,List.length_map];have hm9:=hmul c (by omega) (by omega);omega)))) ?_)
  |refine aR ?_|(guard_target=Index _ _ _;first|refine Index.mk _ (cB (by rw[List.length_map];exact hpl)) ?_|refine Index.mk _ (aF (d:=n0) (i:=i) (by omega)) ?_)
  |refine iX (k:= ?_)
  |refine nB ?_|(guard_target=ay _ _ _;first|refine ay.row 4 rfl ?_|refine ay.aG 4 rfl ?_)
  |apply ay.no|(guard_target=aQ _ _;refine aQ.mk (by first|((simp only[List.length_set,List.length_map];omega))|fail) ?_)
  |refine nO ?_)
 all_goals(conv=>whnf)
 all_goals(have hid:e.a+((((a.ab.map bd).set e.a.toNat (aU (bd (a.ab.getD e.a.toNat cO)) 1 [CV.val v])).length:Nat):Int)*c=jC a e.a:=(by rw[List.length_set,List.length_map];have h9:=ha.2;rw[List.take_of_length_le (by omega)] at h9;rw[h9];rfl);refine cj.go ?_)
 repeat'((conv=>whnf);first
  |(guard_target=~ ah (I 3=_) _;have hd:eD a e=(3,a):=MG (by assumption) (by assumption) (by rw[←hvb];assumption) (by first|exact .inl (by assumption)|exact .inr (.inl (by rw[←hid];assumption))|exact .inr (.inr (by rw[←hid];exact decide_eq_true (by assumption))));rw[hd];exact ah.mk rfl ⟨rfl,trivial⟩)
  |refine ah.mk ?_ ?_
  |(apply Fact.mk;intro hL;try simp only[List.length_map,maxLen] at hL)
  |((first|apply bA|apply bB|apply bC|apply bD|apply bE|apply bF)<;>intro h<;>(try simp only[List.length_map] at h)<;>(try omega)<;>(try contradiction))|(guard_target=aa _ 48 _ _ _ _;refine cG [true] rfl (x5 a hw) ?_)|(guard_target=aa _ 59 _ _ _ _;refine cP rfl (sD (iq a) false _) ?_)|(guard_target=Gh _ _ _ _ _;refine Gh.go ?_)
  |refine aR ?_
  |refine iX (k:= ?_)
  |refine nB ?_
  |apply ay.no
  |refine nO ?_)
 all_goals(conv=>whnf)
 all_goals refine cj.opens 0 e.a.toNat 1 rfl (aF (d:=cO) hpl) rfl fun v=>cj.go ?_
 repeat'((conv=>whnf);first
  |(guard_target=~ ah (I 0=_) _;have hd:eD a e=(0,iD a e.a (kj (sA a e.a) (wm a e))):=MK (by assumption) (by assumption) (by rw[←hvb];assumption) (by assumption) (by rw[←hid];assumption) (by rw[←hid];exact decide_eq_false (by assumption));rw[hd];exact ah.mk rfl ⟨congrArg (FA a) (nJ (s:=kj (sA a e.a) (wm a e)) (by simp only[bd,List.map_append];unfold wm;rw[←hid];rfl)),trivial⟩)
  |refine ah.mk ?_ ?_
  |(apply Fact.mk;intro hL;try simp only[List.length_map,maxLen] at hL)
  |((first|apply bA|apply bB|apply bC|apply bD|apply bE|apply bF)<;>intro h<;>(try simp only[List.length_map] at h)<;>(try omega)<;>(try contradiction))|(guard_target=aa _ 78 _ _ _ _;refine cG [] rfl (mJ ⟨false,_,⟨_,e.bu,e.proof⟩⟩ (hbn _ _)) ?_)|(guard_target=Gh _ _ _ _ _;refine Gh.go ?_)
  |refine aR ?_|(guard_target=Index _ _ _;first|refine Index.mk _ (cB (by rw[List.length_map];exact hpl)) ?_)
  |refine iX (k:= ?_)
  |refine nB ?_|(guard_target=ay _ _ _;first|refine ay.row 4 rfl ?_|refine ay.aG 4 rfl ?_|refine ay.row 5 rfl ?_|refine ay.aG 5 rfl ?_|refine ay.row 6 rfl ?_|refine ay.aG 6 rfl ?_|refine ay.row 7 rfl ?_|refine ay.aG 7 rfl ?_|refine ay.row 8 rfl ?_|refine ay.aG 8 rfl ?_|refine ay.row 9 rfl ?_|refine ay.aG 9 rfl ?_|refine ay.row 10 rfl ?_|refine ay.aG 10 rfl ?_)
  |apply ay.no
  |apply cj.go|(guard_target=aQ _ _;refine aQ.mk (by first|((simp only[List.length_set,List.length_map];omega))|((simp only[List.length_cons,List.length_nil,List.length_map,maxLen];constructor<;>omega))|fail) ?_)
  |refine nO ?_)
 all_goals(try(conv=>whnf))
end Go.Proofs.YtgbggaddpbghfaaGreat
namespace Go.Proofs.YtgbggaddpbghfaaGreat
open Go Go.KA Go.Proofs
set_option maxHeartbeats 16000000
set_option maxRecDepth 100000
theorem Dv(l:List Int)(hl:l.length≤1048576):ai Tryz.prog 133 [.c (.ro 1 (l.map eI))] [] (.c (.ro 1 (l.map eI))):=(iT l hl).soft (.v (.c (.ro .nil)))
theorem DI(e:bm)(h:cC e.proof≤1048576):ai Tryz.prog 134 [.c (.rp 4 ((bM e).drop 5))] [] (.a 3 (cL e.proof)):=by
 have h1:dc (ph e.proof) (cL e.proof):=by rw[←LY];exact dc.mZ _
 exact((yS e.proof h).soft (.v (.a h1))).cut (.cut (k:=3) (by omega) .nil)
theorem zP(a:ag)(e:bm)(hw:WA a)(he:EA e)(hp:b8 a e.a=true):ai Tryz.prog 119 [.c (.op (cy a)), .c (.rp 9 (bM e))] [some [.op (cy (cK a e).2)],none] (I (cK a e).1):=by
 have hpl:e.a.toNat<a.ab.length:=by have:=bW hp;have:=hw.n5;omega
 have hra:=he.ra
 have h20:=(hw.sv _ hpl).1
 have hat:=iM a e.a
 rw[hp] at hat
 refine ID Tryz.func119 (fun reg_=>match reg_ with|4=>true|_=>false) (h:= ?_)
 repeat'((conv=>whnf);first
  |(guard_target=~ ah (I 2=_) _;have hd:cK a e=(2,a):=ML (by assumption);rw[hd];exact ah.mk rfl ⟨rfl,trivial⟩)
  |refine ah.mk ?_ ?_
  |(apply Fact.mk;intro hL;try simp only[List.length_map,maxLen] at hL)
  |((first|apply bA|apply bB|apply bC|apply bD|apply bE|apply bF)<;>intro h<;>(try simp only[List.length_map] at h)<;>(try omega)<;>(try contradiction))|(guard_target=aa _ 104 _ _ _ _;refine cP rfl (hat) ?_)|(guard_target=Gh _ _ _ _ _;refine Gh.go ?_)|(guard_target=Index _ _ _;first|refine Index.mk _ (aF (d:=cO) hpl) ?_)
  |refine iX (k:= ?_)
  |refine nB ?_
  |apply ay.no|(guard_target=aQ _ _;refine aQ.mk (by first|((simp only[List.length_map];omega))|fail) ?_)
  |refine nO ?_)
 all_goals(conv=>whnf)
 all_goals try refine cj.opens 0 e.a.toNat 1 rfl (aF (d:=cO) hpl) rfl fun v=>cj.go ?_
 repeat'((conv=>whnf);first
  |(guard_target=~ ah (I 4=_) _;have hd:cK a e=(4,a):=(by first|exact Kq (by assumption) (by assumption)|exact Jg (by assumption) (by assumption) (by assumption));rw[hd];exact ah.mk rfl ⟨congrArg (FA a) (mO hpl rfl),trivial⟩)|(guard_target=~ ah (I 3=_) _;have hd:cK a e=(3,a):=MI (by assumption) (by assumption) (by assumption) (show((a.ab.getD e.a.toNat cO).notes.length:Int)=20 by omega);rw[hd];exact ah.mk rfl ⟨congrArg (FA a) (mO hpl rfl),trivial⟩)|(guard_target=~ ah (I 0=_) _;have hd:cK a e=(0,iD a e.a (kj (sA a e.a) (ya e))):=M5 (by assumption) (by assumption) (by assumption) (show¬((a.ab.getD e.a.toNat cO).notes.length:Int)=20 by omega);rw[hd];exact ah.mk rfl ⟨congrArg (FA a) (nJ (s:=kj (sA a e.a) (ya e)) (congrArg (fun R=>[CV.val (.bool (sA a e.a).up),CV.ows 51 7 R,J (sA a e.a).saved]) (uu rfl))),trivial⟩)
  |refine ah.mk ?_ ?_
  |(apply Fact.mk;intro hL;try simp only[List.length_map,maxLen] at hL)
  |((first|apply bA|apply bB|apply bC|apply bD|apply bE|apply bF)<;>intro h<;>(try simp only[List.length_map] at h)<;>(try omega)<;>(try contradiction))|(guard_target=aa _ 60 _ _ _ _;refine cP rfl (gR (a.ab.getD e.a.toNat cO).notes true e.b) ?_)|(guard_target=Gh _ _ _ _ _;refine Gh.iL 0 e.a.toNat 1 3 rfl (cB (by rw[List.length_map];exact hpl)) rfl rfl rfl (Gh.go ?_))|(guard_target=Gh _ _ _ _ _;refine Gh.soft 0 (gE.aG (pI (i:=e.a.toNat) (.same (.ows (.same .nil))))) (Gh.go ?_))|(guard_target=Index _ _ _;first|refine Index.mk _ (cB (by rw[List.length_map];exact hpl)) ?_)
  |refine iX (k:= ?_)
  |refine nB ?_|(guard_target=ay _ _ _;first|refine ay.row 3 rfl ?_|refine ay.aG 3 rfl ?_|refine ay.row 4 rfl ?_|refine ay.aG 4 rfl ?_)
  |apply ay.no
  |apply cj.go|(guard_target=aQ _ _;refine aQ.mk (by first|((simp only[List.length_set,List.length_map];omega))|((simp only[List.length_cons,List.length_nil,List.length_map,maxLen];constructor<;>omega))|fail) ?_)
  |refine nO ?_)
 all_goals(try(conv=>whnf))
theorem HX(a:ag)(e:bm)(hw:WA a)(he:EA e)(hp:b8 a e.a=true):ai Tryz.prog 118 [.c (.op (cy a)), .c (.rp 9 (bM e))] [some [.op (cy (eD a e).2)],none] (I (eD a e).1):=by
 have hpl:e.a.toNat<a.ab.length:=by have:=bW hp;have:=hw.n5;omega
 have hra:=he.ra
 have h5:=hw.n5
 have h20:=(hw.sv _ hpl).1
 have hat:=iM a e.a
 rw[hp] at hat
 have hmul:∀c:Int,0≤c→c≤20→0≤(a.ab.length:Int)*c∧(a.ab.length:Int)*c≤100:=fun c h1 h2=>by
  constructor
  ·exact Int.mul_nonneg (by omega) h1
  ·have:=Int.mul_le_mul (show(a.ab.length:Int)≤5 by omega) h2 h1 (by omega)
   omega
 have hvo:=Cp e.kW (by have:=he.bl;omega)
 obtain⟨vb,hvb⟩:∃vb,vb=mD e.kW:=⟨_,rfl⟩
 rw[←hvb] at hvo
 have hrs:e.bu.length≤1048576∧cC e.proof≤1048576:=by have:=he.bl;omega
 refine ID Tryz.func118 (fun reg_=>match reg_ with|4=>true|1000015=>true|14015=>true|17=>true|_=>false) (h:= ?_)
 repeat'((conv=>whnf);first
  |refine ah.mk ?_ ?_
  |(apply Fact.mk;intro hL;try simp only[List.length_map,maxLen] at hL)
  |((first|apply bA|apply bB|apply bC|apply bD|apply bE|apply bF)<;>intro h<;>(try simp only[List.length_map] at h)<;>(try omega)<;>(try contradiction))|(guard_target=aa _ 104 _ _ _ _;refine cP rfl (hat) ?_)|(guard_target=Gh _ _ _ _ _;refine Gh.go ?_)
  |refine aR ?_|(guard_target=Index _ _ _;first|refine Index.mk _ (aF (d:=cO) hpl) ?_)
  |refine iX (k:= ?_)
  |refine nB ?_
  |apply ay.no|(guard_target=aQ _ _;refine aQ.mk (by first|((simp only[List.length_map];omega))|fail) ?_)
  |refine nO ?_)
 all_goals(conv=>whnf)
 all_goals try refine cj.opens 0 e.a.toNat 1 rfl (aF (d:=cO) hpl) rfl fun v=>cj.go ?_
 repeat'((conv=>whnf);first
  |(guard_target=~ ah (I 4=_) _;have hd:eD a e=(4,a):=(by first|exact I5 (by assumption)|exact KK (by assumption) (by assumption));rw[hd];exact ah.mk rfl ⟨rfl,trivial⟩)|(guard_target=~ ah (I 8=_) _;have hd:eD a e=(8,a):=Ng (by assumption) (by assumption) (by rw[←hvb];assumption);rw[hd];exact ah.mk rfl ⟨rfl,trivial⟩)
  |refine ah.mk ?_ ?_|(guard_target=~ aP 11 _ _ _ _ _ _;refine lp (Int × Nat) [0,1,5,6] (fun⟨d,i⟩=>[(7,I d),(8,I (i:Nat))]) (fun⟨d,i⟩=>i≤(a.ab.getD e.a.toNat cO).notes.length∧∃c:Int,c=(((a.ab.getD e.a.toNat cO).notes.take i).countP (qK a.ab.length e.a):Nat)∧d=e.a+(a.ab.length:Int)*c) (fun⟨d,i⟩=>(a.ab.getD e.a.toNat cO).notes.length-i) (e.a,0) (by exact⟨Nat.zero_le _,0,by simp,by omega⟩) (fun A ha=> ?_);obtain⟨d,i⟩:=A;have ha:i≤(a.ab.getD e.a.toNat cO).notes.length∧∃c:Int,c=(((a.ab.getD e.a.toNat cO).notes.take i).countP (qK a.ab.length e.a):Nat)∧d=e.a+(a.ab.length:Int)*c:=ha;have hle9:=z3 (p:=qK a.ab.length e.a) (l:=(a.ab.getD e.a.toNat cO).notes) (i:=i);obtain⟨hi9,c,hc9,hd9⟩:=ha;have hm9:=hmul c (by omega) (by omega))
  |(apply Fact.mk;intro hL;try simp only[List.length_map,maxLen] at hL)
  |((first|apply bA|apply bB|apply bC|apply bD|apply bE|apply bF)<;>intro h<;>(try simp only[List.length_map] at h)<;>(try omega)<;>(try contradiction))|(guard_target=aa _ 115 _ _ _ _;refine cP rfl (uk (a.ab.getD e.a.toNat cO).notes e.bu) ?_)|(guard_target=aa _ 146 _ _ _ _;refine cP rfl (hvo) ?_)|(guard_target=Gh _ _ _ _ _;refine Gh.go ⟨((d+((((a.ab.map bd).set e.a.toNat (aU (bd (a.ab.getD e.a.toNat cO)) 1 [CV.val v])).length:Nat):Int),i+1):Int × Nat),⟨by show i+1≤_;omega,c+1,vw (by omega) (by rw[←getD_eq (d:=n0) (by omega)];refine BJ (by assumption) ?_;simpa only[List.length_set,List.length_map] using h) hc9,by rw[hd9,Int.mul_add,Int.mul_one];simp only[List.length_set,List.length_map];omega⟩,(by show _-(i+1)<_-i;omega),(by repeat' first|exact trivial|exact rfl|constructor),(by repeat' first|exact trivial|exact rfl|constructor),(by repeat' first|exact trivial|exact rfl|constructor)⟩)|(guard_target=Gh _ _ _ _ _;refine Gh.go ⟨((d,i+1):Int × Nat),⟨by show i+1≤_;omega,c,Av (by omega) (by rw[←getD_eq (d:=n0) (by omega)];first|exact Bw h|(refine Bq ?_;simpa only[List.length_set,List.length_map] using h)) hc9,hd9⟩,(by show _-(i+1)<_-i;omega),(by repeat' first|exact trivial|exact rfl|constructor),(by repeat' first|exact trivial|exact rfl|constructor),(by repeat' first|exact trivial|exact rfl|constructor)⟩)|(guard_target=Gh _ _ _ _ _;refine Gh.iL 0 e.a.toNat 1 3 rfl (cB (by rw[List.length_map];exact hpl)) rfl rfl rfl (Gh.soft 0 (b':= .aG none 47 3 (a.ab.map bd)) (.aG (jP hpl rfl)) (Gh.go ?_)))|(guard_target=Gh _ _ _ _ _;refine Gh.go ?_)|(guard_target=Arith _ _ _;refine Arith.fit (aL (by(first|omega|(simp only[List.length_set,List.length_map];omega))) (by(first|omega|(simp only[List.length_set,List.length_map];omega)))) ?_)
  |refine aR ?_|(guard_target=Index _ _ _;first|refine Index.mk _ (cB (by rw[List.length_map];exact hpl)) ?_|refine Index.mk _ (aF (d:=n0) (i:=i) (by omega)) ?_)
  |refine iX (k:= ?_)
  |refine nB ?_|(guard_target=ay _ _ _;first|refine ay.row 3 rfl ?_|refine ay.aG 3 rfl ?_)
  |apply ay.no|(guard_target=aQ _ _;refine aQ.mk (by first|((simp only[List.length_set,List.length_map];omega))|fail) ?_)
  |refine nO ?_)
 all_goals(conv=>whnf)
 all_goals(have hid:d=jC a e.a:=(by rw[List.take_of_length_le (by omega)] at hc9;rw[hd9,hc9];rfl);refine cj.go ?_)
 repeat'((conv=>whnf);first
  |(guard_target=~ ah (I 3=_) _;have hd:eD a e=(3,a):=MG (by assumption) (by assumption) (by rw[←hvb];assumption) (by first|exact .inl (show((a.ab.getD e.a.toNat cO).notes.length:Int)=20 by omega)|exact .inr (.inl (by omega))|exact .inr (.inr (by rw[←hid];assumption))|exact .inr (.inr (by rw[←hid];exact decide_eq_true (by assumption))));rw[hd];exact ah.mk rfl ⟨rfl,trivial⟩)
  |refine ah.mk ?_ ?_
  |(apply Fact.mk;intro hL;try simp only[List.length_map,maxLen] at hL)
  |((first|apply bA|apply bB|apply bC|apply bD|apply bE|apply bF)<;>intro h<;>(try simp only[List.length_map] at h)<;>(try omega)<;>(try contradiction))|(guard_target=aa _ 147 _ _ _ _;refine cP rfl (xQ a hw d) ?_)|(guard_target=Gh _ _ _ _ _;refine Gh.go ?_)
  |refine aR ?_
  |refine iX (k:= ?_)
  |refine nB ?_
  |apply ay.no
  |refine nO ?_)
 all_goals(conv=>whnf)
 all_goals refine cj.opens 0 e.a.toNat 1 rfl (aF (d:=cO) hpl) rfl fun v=>cj.go ?_
 repeat'((conv=>whnf);first
  |(guard_target=~ ah (I 0=_) _;have hd:eD a e=(0,iD a e.a (kj (sA a e.a) (wm a e))):=MK (by assumption) (by assumption) (by rw[←hvb];assumption) (show¬((a.ab.getD e.a.toNat cO).notes.length:Int)=20 by omega) (by omega) (by rw[←hid];first|assumption|exact decide_eq_false (by assumption));rw[hd];exact ah.mk rfl ⟨congrArg (FA a) (nJ (s:=kj (sA a e.a) (wm a e)) (by simp only[bd,List.map_append];unfold wm;rw[←hid];rfl)),trivial⟩)
  |refine ah.mk ?_ ?_
  |(apply Fact.mk;intro hL;try simp only[List.length_map,maxLen] at hL)
  |((first|apply bA|apply bB|apply bC|apply bD|apply bE|apply bF)<;>intro h<;>(try simp only[List.length_map] at h)<;>(try omega)<;>(try contradiction))|(guard_target=aa _ 133 _ _ _ _;refine cG [] rfl (Dv e.bu hrs.1) ?_)|(guard_target=aa _ 134 _ _ _ _;refine cG [] rfl (DI e hrs.2) ?_)|(guard_target=Gh _ _ _ _ _;refine Gh.go ?_)
  |refine aR ?_|(guard_target=Index _ _ _;first|refine Index.mk _ (cB (by rw[List.length_map];exact hpl)) ?_)
  |refine iX (k:= ?_)
  |refine nB ?_|(guard_target=ay _ _ _;first|refine ay.row 3 rfl ?_|refine ay.aG 3 rfl ?_|refine ay.row 4 rfl ?_|refine ay.aG 4 rfl ?_|refine ay.row 5 rfl ?_|refine ay.aG 5 rfl ?_|refine ay.row 6 rfl ?_|refine ay.aG 6 rfl ?_|refine ay.row 7 rfl ?_|refine ay.aG 7 rfl ?_|refine ay.row 8 rfl ?_|refine ay.aG 8 rfl ?_|refine ay.row 9 rfl ?_|refine ay.aG 9 rfl ?_|refine ay.row 10 rfl ?_|refine ay.aG 10 rfl ?_)
  |apply ay.no
  |apply cj.go|(guard_target=aQ _ _;refine aQ.mk (by first|((simp only[List.length_set,List.length_map];omega))|((simp only[List.length_cons,List.length_nil,List.length_map,maxLen];constructor<;>omega))|fail) ?_)
  |refine nO ?_)
 all_goals(try(conv=>whnf))
end Go.Proofs.YtgbggaddpbghfaaGreat
namespace Go.Proofs.YtgbggaddpbghfaaGreat
open Go Go.KA Go.Proofs
set_option maxHeartbeats 16000000
set_option maxRecDepth 100000
mutual
theorem wE:∀e:ae,iV (az e)
 | .mk kind num kids=>by
   simp only[az,iV,im]
   exact⟨trivial,trivial,sS kids,trivial⟩
theorem sS:∀l:List ae,je (jX l)
 |[]=>trivial
 |x::xs=>⟨wE x,sS xs⟩
end
theorem g9{α:Type}{f:α→List CV}(h:∀x,iV (f x)):∀l:List α,je (l.map f)
 |[]=>trivial
 |x::xs=>⟨h x,g9 h xs⟩
theorem mm(l:List ae):je (l.map az):=g9 wE l
theorem wH(l:List Int):je (l.map eI):=g9 (f:=eI) (fun x=>(show im (J x)∧True from⟨trivial,trivial⟩)) l
theorem we(s:aB):iV (aY s):=by
 simp only[aY,iV,im]
 exact⟨trivial,trivial,wH _,mm _,mm _,trivial⟩
theorem Ch(c:bw):iV (eF c):=by
 simp only[eF,iV,im]
 exact⟨trivial,trivial,mm _,trivial,trivial,mm _,trivial,trivial,g9 we _,trivial⟩
theorem qq(n:aS):iV (dP n):=by
 simp only[dP,iV,im]
 exact⟨trivial,trivial,trivial,wH _,trivial,trivial,g9 Ch _,trivial⟩
theorem zC(n:aS):j8 (.a 7 (dP n)):=fun x hx=>ng.1 (qq n) x hx
theorem EM{l:List cJ}{r:List CV}{p:cJ}(h:mZ r=bh p):db (l.map bh++[r])=(l++[p]).map bh:=by
 have h1:=Je l
 rw[dN] at h1⊢
 rw[List.map_append,h1,List.map_append]
 refine congrArg _ ?_
 show[r.map kM]=[bh p]
 rw[←h,py]
theorem CH(t c:Int)(R S:List (List CV))(s:Int):aE Tryz.prog 81 [.a 4 [J t,J c, .ro 3 R, .ro 8 S],I s] (B (dH 0 ((R.length:Int)-1) s)):=by
 refine cF Tryz.func81 (h:= ?_)
 repeat'((conv=>whnf);first
  |(apply bo.mk;first|(rfl;done)|skip)
  |(apply Fact.mk;intro hL;try simp only[List.length_map,maxLen] at hL)|(guard_target=aa _ 45 _ _ _ _;refine cP rfl (eU _ _ _) ?_)
  |refine aR ?_
  |refine nO ?_)
theorem HV(t c:Int)(R S:List (List CV))(s:Int):aE Tryz.prog 104 [.c (.rp 4 [J t,J c, .ro 3 R, .ro 8 S]),I s] (B (dH 0 ((R.length:Int)-1) s)):=by
 refine cF Tryz.func104 (h:= ?_)
 repeat'((conv=>whnf);first
  |(apply bo.mk;first|(rfl;done)|skip)
  |(apply Fact.mk;intro hL;try simp only[List.length_map,maxLen] at hL)|(guard_target=aa _ 86 _ _ _ _;refine cP rfl (dE _ _ _) ?_)
  |refine aR ?_
  |refine nO ?_)
theorem Ap(a:ag)(i:Nat)(x:List CV)(s:Int):aE Tryz.prog 81 [.a 4 [J a.sig.au,J a.sig.aq, .ro 3 (db ((a.ab.map bd).set i x)), .ro 8 (a.aw.map bh)],I s] (B (b8 a s)):=by
 have h:=CH a.sig.au a.sig.aq (db ((a.ab.map bd).set i x)) (a.aw.map bh) s
 rwa[show(db ((a.ab.map bd).set i x)).length=a.ab.length by rw[dN];simp] at h
theorem xG(a:ag)(i:Nat)(x:List CV)(s:Int):aE Tryz.prog 104 [.c (.rp 4 [J a.sig.au,J a.sig.aq, .ro 3 (db ((a.ab.map bd).set i x)), .ro 8 (a.aw.map bh)]),I s] (B (b8 a s)):=by
 have h:=HV a.sig.au a.sig.aq (db ((a.ab.map bd).set i x)) (a.aw.map bh) s
 rwa[show(db ((a.ab.map bd).set i x)).length=a.ab.length by rw[dN];simp] at h
abbrev FB(a:ag)(R:List (List CV)):Option (List CV):=some [CV.op [J a.sig.au,J a.sig.aq,CV.own 47 3 (a.ab.map bd),CV.ows 89 8 R]]
section
variable{a:ag}{e:bm}
theorem Kk(h:b8 a e.b=false):dy a e=(2,a):=by
 unfold dy
 rw[if_pos (by rw[h];rfl)]
theorem II(h:b8 a e.b=true)(h2:e.a=e.b):dy a e=(2,a):=by
 unfold dy
 rw[if_pos (by rw[h,decide_eq_true h2];rfl)]
theorem K0(h:b8 a e.b=true)(h2:¬e.a=e.b)(h3:e.c≥((a.ab.getD e.a.toNat cO).notes.length:Int)):dy a e=(2,a):=by
 unfold dy
 rw[if_pos (by rw[h,decide_eq_false h2,decide_eq_true (show((sA a e.a).notes.length:Int)≤e.c from h3)];rfl)]
theorem FN(h:b8 a e.b=true)(h2:¬e.a=e.b)(h3:¬e.c≥((a.ab.getD e.a.toNat cO).notes.length:Int)):¬(!(b8 a e.b)||(decide (e.a=e.b)||decide (((sA a e.a).notes.length:Int)≤e.c)))=true:=by
 rw[h,decide_eq_false h2,decide_eq_false (show¬((sA a e.a).notes.length:Int)≤e.c from h3)]
 decide
theorem KF(h:b8 a e.b=true)(h2:¬e.a=e.b)(h3:¬e.c≥((a.ab.getD e.a.toNat cO).notes.length:Int))(h4:(a.ab.getD e.a.toNat cO).up=false):dy a e=(4,a):=by
 unfold dy
 rw[if_neg (FN h h2 h3),if_pos (by rw[show(sA a e.a).up=false from h4];rfl)]
theorem KY(h:b8 a e.b=true)(h2:¬e.a=e.b)(h3:¬e.c≥((a.ab.getD e.a.toNat cO).notes.length:Int))(h4:(a.ab.getD e.a.toNat cO).up=true)(h5:e.c≥(a.ab.getD e.a.toNat cO).saved):dy a e=(4,a):=by
 unfold dy
 rw[if_neg (FN h h2 h3),if_pos (by rw[show(sA a e.a).up=true from h4,decide_eq_true (show(sA a e.a).saved≤e.c from h5)];rfl)]
theorem M6(h4:(a.ab.getD e.a.toNat cO).up=true)(h5:¬e.c≥(a.ab.getD e.a.toNat cO).saved):¬(!(sA a e.a).up||decide ((sA a e.a).saved≤e.c))=true:=by
 rw[show(sA a e.a).up=true from h4,decide_eq_false (show¬(sA a e.a).saved≤e.c from h5)]
 decide
theorem Nf(h:b8 a e.b=true)(h2:¬e.a=e.b)(h3:¬e.c≥((a.ab.getD e.a.toNat cO).notes.length:Int))(h4:(a.ab.getD e.a.toNat cO).up=true)(h5:¬e.c≥(a.ab.getD e.a.toNat cO).saved)(h6:a.aw.length=12):dy a e=(3,a):=by
 unfold dy
 rw[if_neg (FN h h2 h3),if_neg (M6 h4 h5),if_pos h6]
theorem M7(h:b8 a e.b=true)(h2:¬e.a=e.b)(h3:¬e.c≥((a.ab.getD e.a.toNat cO).notes.length:Int))(h4:(a.ab.getD e.a.toNat cO).up=true)(h5:¬e.c≥(a.ab.getD e.a.toNat cO).saved)(h6:¬a.aw.length=12):dy a e=(0,⟨a.sig,a.ab,a.aw++[⟨e.b,(a.ab.getD e.a.toNat cO).notes.getD e.c.toNat n0⟩]⟩):=by
 unfold dy
 rw[if_neg (FN h h2 h3),if_neg (M6 h4 h5),if_neg h6]
end
theorem LH(a:ag)(e:bm)(hw:WA a)(he:EA e)(hp:e.a<(a.ab.length:Int)):ai Tryz.prog 84 [.c (.op (cy a)), .a 9 (bM e)] [some [.op (cy (dy a e).2)],none] (I (dy a e).1):=by
 have hpl:e.a.toNat<a.ab.length:=by have:=he.ra;omega
 have hra:=he.ra
 have hrc:=he.rc
 have h12:=hw.f12
 have h20:=(hw.sv _ hpl).1
 have hbn:∀k,k<(a.ab.getD e.a.toNat cO).notes.length→bG ((a.ab.getD e.a.toNat cO).notes.getD k n0)≤1048576:=fun k hk=>by rw[getD_eq hk];exact hw.bn _ hpl _ (List.getElem_mem hk)
 have hpl2:∀x,aE Tryz.prog 81 [.a 4 [J a.sig.au,J a.sig.aq, .ro 3 (db ((a.ab.map bd).set e.a.toNat x)), .ro 8 (a.aw.map bh)],I e.b] (B (b8 a e.b)):=fun x=>Ap a _ x _
 obtain⟨pb,hpb⟩:∃pb,pb=b8 a e.b:=⟨_,rfl⟩
 rw[←hpb] at hpl2
 refine ID Tryz.func84 (fun reg_=>match reg_ with|1=>true|_=>false) (h:= ?_)
 repeat'((conv=>whnf);first
  |refine ah.mk ?_ ?_
  |(apply Fact.mk;intro hL;try simp only[List.length_map,maxLen] at hL)
  |((first|apply bA|apply bB|apply bC|apply bD|apply bE|apply bF)<;>intro h<;>(try simp only[List.length_map] at h)<;>(try omega)<;>(try contradiction))|(guard_target=Gh _ _ _ _ _;refine Gh.go ?_)
  |refine iX (k:= ?_)
  |refine nB ?_
  |apply ay.no
  |refine nO ?_)
 all_goals(conv=>whnf)
 all_goals try refine cj.opens 0 e.a.toNat 1 rfl (aF (d:=cO) hpl) rfl fun v=>cj.go ?_
 repeat'((conv=>whnf);first
  |(guard_target=~ ah (I 2=_) _;have hd:dy a e=(2,a):=(by first|exact Kk (by rw[←hpb];assumption)|exact II (by rw[←hpb];assumption) (by assumption)|exact K0 (by rw[←hpb];assumption) (by assumption) (by assumption));rw[hd];exact ah.mk rfl ⟨rfl,trivial⟩)|(guard_target=~ ah (I 4=_) _;have hd:dy a e=(4,a):=(by first|exact KF (by rw[←hpb];assumption) (by assumption) (by assumption) (by assumption)|exact KY (by rw[←hpb];assumption) (by assumption) (by assumption) (by assumption) (by assumption));rw[hd];exact ah.mk rfl ⟨rfl,trivial⟩)|(guard_target=~ ah (I 3=_) _;have hd:dy a e=(3,a):=Nf (by rw[←hpb];assumption) (by assumption) (by assumption) (by assumption) (by assumption) (by omega);rw[hd];exact ah.mk rfl ⟨rfl,trivial⟩)|(guard_target=~ ah (I 0=_) _;have hd:=M7 (a:=a) (e:=e) (by rw[←hpb];assumption) (by assumption) (by assumption) (by assumption) (by assumption) (by omega);rw[hd];exact ah.mk rfl ⟨congrArg (FB a) (by rw[List.map_append];rfl),trivial⟩)
  |refine ah.mk ?_ ?_
  |(apply Fact.mk;intro hL;try simp only[List.length_map,maxLen] at hL)
  |((first|apply bA|apply bB|apply bC|apply bD|apply bE|apply bF)<;>intro h<;>(try simp only[List.length_map] at h)<;>(try omega)<;>(try contradiction))|(guard_target=aa _ 81 _ _ _ _;refine cP rfl (hpl2 _) ?_)|(guard_target=aa _ 78 _ _ _ _;refine cG [] rfl (mJ _ (hbn e.c.toNat (by omega))) ?_)|(guard_target=Gh _ _ _ _ _;refine Gh.iL 0 e.a.toNat 1 4 rfl (cB (by rw[List.length_map];exact hpl)) rfl rfl rfl (Gh.soft 0 (b':= .aG none 47 3 (a.ab.map bd)) (.aG (jP hpl rfl)) (Gh.go ?_)))|(guard_target=Index _ _ _;first|refine Index.mk _ (cB (by rw[List.length_map];exact hpl)) ?_|refine Index.mk _ (aF (d:=n0) (i:=e.c.toNat) (by omega)) ?_)
  |refine iX (k:= ?_)
  |refine nB ?_|(guard_target=ay _ _ _;first|refine ay.row 4 rfl ?_|refine ay.aG 4 rfl ?_)
  |apply ay.no
  |apply cj.go|(guard_target=aQ _ _;refine aQ.mk (by first|((simp only[List.length_set,List.length_map];omega))|((simp only[List.length_cons,List.length_nil,List.length_map,maxLen];constructor<;>omega))|fail) ?_)
  |refine nO ?_)
 all_goals(try(conv=>whnf))
theorem EL(a:ag)(e:bm)(hw:WA a)(he:EA e)(hp:b8 a e.a=true):ai Tryz.prog 120 [.c (.op (cy a)), .c (.rp 9 (bM e))] [some [.op (cy (dy a e).2)],none] (I (dy a e).1):=by
 have hpl:e.a.toNat<a.ab.length:=by have:=bW hp;have:=hw.n5;omega
 have hra:=he.ra
 have hrc:=he.rc
 have h12:=hw.f12
 have h20:=(hw.sv _ hpl).1
 have hbn:∀k,k<(a.ab.getD e.a.toNat cO).notes.length→bG ((a.ab.getD e.a.toNat cO).notes.getD k n0)≤1048576:=fun k hk=>by rw[getD_eq hk];exact hw.bn _ hpl _ (List.getElem_mem hk)
 have hpl1:∀x,aE Tryz.prog 104 [.c (.rp 4 [J a.sig.au,J a.sig.aq, .ro 3 (db ((a.ab.map bd).set e.a.toNat x)), .ro 8 (a.aw.map bh)]),I e.a] (B true):=fun x=>by
  have:=xG a e.a.toNat x e.a
  rwa[hp] at this
 have hpl2:∀x,aE Tryz.prog 104 [.c (.rp 4 [J a.sig.au,J a.sig.aq, .ro 3 (db ((a.ab.map bd).set e.a.toNat x)), .ro 8 (a.aw.map bh)]),I e.b] (B (b8 a e.b)):=fun x=>xG a _ x _
 obtain⟨pb,hpb⟩:∃pb,pb=b8 a e.b:=⟨_,rfl⟩
 rw[←hpb] at hpl2
 refine ID Tryz.func120 (fun reg_=>match reg_ with|1=>true|_=>false) (h:= ?_)
 repeat'((conv=>whnf);first
  |refine ah.mk ?_ ?_
  |(apply Fact.mk;intro hL;try simp only[List.length_map,maxLen] at hL)
  |((first|apply bA|apply bB|apply bC|apply bD|apply bE|apply bF)<;>intro h<;>(try simp only[List.length_map] at h)<;>(try omega)<;>(try contradiction))|(guard_target=Gh _ _ _ _ _;refine Gh.go ?_)
  |refine iX (k:= ?_)
  |refine nB ?_
  |apply ay.no
  |refine nO ?_)
 all_goals(conv=>whnf)
 all_goals try refine cj.opens 0 e.a.toNat 1 rfl (aF (d:=cO) hpl) rfl fun v=>cj.go ?_
 repeat'((conv=>whnf);first
  |(guard_target=~ ah (I 2=_) _;have hd:dy a e=(2,a):=(by first|exact Kk (by rw[←hpb];assumption)|exact II (by rw[←hpb];assumption) (by assumption)|exact K0 (by rw[←hpb];assumption) (by assumption) (by assumption));rw[hd];exact ah.mk rfl ⟨rfl,trivial⟩)|(guard_target=~ ah (I 4=_) _;have hd:dy a e=(4,a):=(by first|exact KF (by rw[←hpb];assumption) (by assumption) (by assumption) (by assumption)|exact KY (by rw[←hpb];assumption) (by assumption) (by assumption) (by assumption) (by assumption));rw[hd];exact ah.mk rfl ⟨rfl,trivial⟩)|(guard_target=~ ah (I 3=_) _;have hd:dy a e=(3,a):=Nf (by rw[←hpb];assumption) (by assumption) (by assumption) (by assumption) (by assumption) (by omega);rw[hd];exact ah.mk rfl ⟨rfl,trivial⟩)|(guard_target=~ ah (I 0=_) _;have hd:=M7 (a:=a) (e:=e) (by rw[←hpb];assumption) (by assumption) (by assumption) (by assumption) (by assumption) (by omega);rw[hd];exact ah.mk rfl ⟨congrArg (FB a) (EM (p:=⟨e.b,(a.ab.getD e.a.toNat cO).notes.getD e.c.toNat n0⟩) (rR ⟨e.b,(a.ab.getD e.a.toNat cO).notes.getD e.c.toNat n0⟩)),trivial⟩)
  |refine ah.mk ?_ ?_
  |(apply Fact.mk;intro hL;try simp only[List.length_map,maxLen] at hL)
  |((first|apply bA|apply bB|apply bC|apply bD|apply bE|apply bF)<;>intro h<;>(try simp only[List.length_map] at h)<;>(try omega)<;>(try contradiction))|(guard_target=aa _ 104 _ _ _ _;refine cP rfl (hpl1 _) ?_)|(guard_target=aa _ 104 _ _ _ _;refine cP rfl (hpl2 _) ?_)|(guard_target=aa _ 108 _ _ _ _;refine aa.own _ _ (Gl rfl (aF (d:=n0) (i:=e.c.toNat) (by omega))) (jT _ (hbn e.c.toNat (by omega))) (zC _) _ rfl ?_)|(guard_target=Gh _ _ _ _ _;refine Gh.iL 0 e.a.toNat 1 3 rfl (cB (by rw[List.length_map];exact hpl)) rfl rfl rfl (Gh.soft 0 (b':= .aG none 47 3 (a.ab.map bd)) (.aG (jP hpl rfl)) (Gh.soft 1 gE.row (Gh.go ?_))))|(guard_target=Gh _ _ _ _ _;refine Gh.iL 0 e.a.toNat 1 3 rfl (cB (by rw[List.length_map];exact hpl)) rfl rfl rfl (Gh.soft 0 (b':= .aG none 47 3 (a.ab.map bd)) (.aG (jP hpl rfl)) (Gh.go ?_)))|(guard_target=Index _ _ _;first|refine Index.mk _ (cB (by rw[List.length_map];exact hpl)) ?_|refine Index.mk _ (aF (d:=n0) (i:=e.c.toNat) (by omega)) ?_)
  |refine iX (k:= ?_)
  |refine nB ?_|(guard_target=ay _ _ _;first|refine ay.row 3 rfl ?_|refine ay.aG 3 rfl ?_)
  |apply ay.no
  |apply cj.go|(guard_target=aQ _ _;refine aQ.mk (by first|((simp only[List.length_set,List.length_map];omega))|((simp only[List.length_cons,List.length_nil,List.length_map,maxLen];constructor<;>omega))|fail) ?_)
  |refine nO ?_)
 all_goals(try(conv=>whnf))
end Go.Proofs.YtgbggaddpbghfaaGreat
namespace Go.Proofs.YtgbggaddpbghfaaGreat
open Go Go.KA Go.Proofs Go.RowKit
set_option maxHeartbeats 16000000
set_option maxRecDepth 1000000
theorem jU(b:Nat):∀(vs:List Value) (o:Nat) (w:World) (cur:Array Value) (ty:TypeId) (fz:Nat × Nat),w.heap[b]? =some (.cells cur ty fz)→o+vs.length≤cur.size→
 ∃cur',(w.setCells b o vs).heap[b]? =some (.cells cur' ty fz)∧cur'.toList=cur.toList.take o++vs++cur.toList.drop (o+vs.length)
 |[],o,w,cur,ty,fz,h,_=>⟨cur,h,by simp⟩
 |v::vs,o,w,cur,ty,fz,h,hl=>by
  have hl':o<cur.size:=by simp only[List.length_cons] at hl;omega
  have h1:(w.setCell ⟨b,o,none⟩ v).heap[b]? =some (.cells (cur.setIfInBounds o v) ty fz):=by
   simp[World.setCell,Array.getElem?_modify,h]
  obtain⟨cur',h2,h3⟩:=jU b vs (o+1) _ _ ty fz h1 (by simp only[List.length_cons] at hl;simp;omega)
  refine⟨cur',h2, ?_⟩
  rw[h3]
  have hlen:o<cur.toList.length:=by simpa using hl'
  have e1:(cur.setIfInBounds o v).toList=cur.toList.set o v:=by simp
  rw[e1,List.take_set,List.drop_set]
  rw[if_pos (by omega)]
  have e2:(cur.toList.take (o+1)).set o v=cur.toList.take o++[v]:=by
   rw[List.take_succ_eq_append_getElem hlen,List.set_append_right _ _ (by rw[List.length_take];omega),List.length_take]
   rw[show o-min o cur.toList.length=0 by omega]
   rfl
  rw[e2,List.length_cons,show o+1+vs.length=o+(vs.length+1) by omega]
  simp
theorem mF(b:Nat):∀(vs:List Value) (o:Nat) (w:World),(w.setCells b o vs).os=w.os∧(w.setCells b o vs).tape=w.tape∧(w.setCells b o vs).output=w.output∧(w.setCells b o vs).heap.size=w.heap.size∧∀k,k≠b→(w.setCells b o vs).heap[k]? =w.heap[k]?
 |[],o,w=>⟨rfl,rfl,rfl,rfl,fun _ _=>rfl⟩
 |v::vs,o,w=>by
  obtain⟨h1,h2,h3,h4,h5⟩:=mF b vs (o+1) (w.setCell ⟨b,o,none⟩ v)
  refine⟨h1,h2,h3,h4.trans (by simp[World.setCell]),fun k hk=>(h5 k hk).trans ?_⟩
  simp[World.setCell,Array.getElem?_modify,Ne.symm hk]
abbrev Z8:List Value:=[.int .i64 0, .bool false, .int .i64 0, .int .i64 0, .slice none 0 0, .int .i64 0, .int .i64 0, .slice none 0 0]
theorem CO(b n c i:Nat)(cur:Array Value)(w:World)(hb:w.heap[b]? =some (.cells cur 89 (0,0)))(hi:i<n)(hc:n≤c)(hm:c≤9223372036854775807)(hs:cur.size=c*8)(h1:∀v∈cur.toList.take (n*8),v.oneCell'=true):
 Calls Tryz.prog 80 #[.slice (some ⟨b,0,none⟩) n c, .int .i64 i, .int .i64 ((i:Int)+1)] w fun e w'=>e= .returned (.slice (some ⟨b,0,none⟩) (i+(n-(i+1))) c)∧
  w'=(w.drew.setCells b (0+i*8) ((cur.toList.take (n*8)).drop ((i+1)*8))).setCells b ((i+(n-(i+1)))*8) Z8:=by
 obtain⟨news,hnews⟩:∃news,news=(cur.toList.take (n*8)).drop ((i+1)*8):=⟨_,rfl⟩
 have hcell:∀j,j<n*8→w.cell? ⟨b,j,none⟩=cur.toList[j]? ∧(cur.toList[j]?).isSome=true:=fun j hj=>by
  have hj':j<cur.size:=by omega
  constructor
  ·simp[World.cell?,hb]
  ·simp[hj']
 have hfz:∀j,w.frozen? ⟨b,j,none⟩=false:=fun j=>by
  simp[World.frozen?,hb]
 have hlen:news.length=(n-(i+1))*8:=by
  rw[hnews,List.length_drop,List.length_take,Array.length_toList,Nat.min_eq_left (by omega),←Nat.sub_mul]
 have hget:∀j u,news[j]? =some u→cur.toList[(i+1)*8+j]? =some u:=fun j u hu=>by
  rw[hnews,List.getElem?_drop,List.getElem?_take] at hu
  split at hu
  ·exact hu
  ·cases hu
 obtain⟨A,hA,hsrc⟩:∃A:Addr,(if c=i+1 then some (⟨b,0,none⟩:Addr) else some ⟨b,(i+1)*8,none⟩)=some A∧Hid (∀t u,news[t]? =some u→w.drew.cell? (A.add t)=some u):=by
  by_cases h:c=i+1
  ·refine⟨⟨b,0,none⟩,by simp[h],fun t u hu=> ?_⟩
   have h0:news.length=0:=by rw[hlen];have:n-(i+1)=0:=by omega
                             rw[this]
   rw[List.length_eq_zero_iff.1 h0] at hu
   simp at hu
  ·refine⟨⟨b,(i+1)*8,none⟩,by simp[h],fun t u hu=> ?_⟩
   have ht:t<(n-(i+1))*8:=by
        have:=(List.getElem?_eq_some_iff.1 hu).1
        rwa[hlen] at this
   rw[Addr.add_lit]
   exact((hcell _ (by omega)).1).trans (hget t u hu)
 have s1:Hid (news.length=(n-(i+1))*8):=hlen
 have s2:Hid (∀u∈news,u.oneCell'=true):=by
  intro u hu
  rw[hnews] at hu
  exact h1 u (List.mem_of_mem_drop hu)
 have s3:Hid (∀t,t<news.length→(w.drew.cell? ⟨b,0+i*8+t,none⟩).isSome=true∧w.drew.frozen? ⟨b,0+i*8+t,none⟩=false):=by
  intro t ht
  rw[hlen] at ht
  rw[Nat.zero_add]
  exact⟨by show(w.cell? _).isSome=true;rw[(hcell _ (by omega)).1];exact(hcell _ (by omega)).2,hfz _⟩
 obtain⟨W1,hW1⟩:∃W1,W1=w.drew.setCells b (0+i*8) news:=⟨_,rfl⟩
 obtain⟨cur1,hc1,hl1⟩:=jU b news (0+i*8) w.drew cur 89 (0,0) hb (by rw[hlen,hs];omega)
 rw[←hW1] at hc1
 have hsz1:cur1.size=c*8:=by
  have:=congrArg List.length hl1
  simp only[List.length_append,List.length_take,List.length_drop,Array.length_toList] at this
  omega
 have hcl:∀ty,(Builtin.clear_ #[27] ty #[.slice (some ⟨b,(i+(n-(i+1)))*8,none⟩) (n-(i+(n-(i+1)))) (c-(i+(n-(i+1))))]).run Tryz.prog W1= .ok (.tuple #[]) (W1.setCells b ((i+(n-(i+1)))*8) Z8):=by
  intro ty
  have e1:n-(i+(n-(i+1)))=1:=by omega
  rw[e1]
  have hst:=run_storeCells_cells (P:=Tryz.prog) b ((i+(n-(i+1)))*8) Z8 0 W1 (fun j hj=>by
   have hj:j<8:=hj
   have:(i+(n-(i+1)))*8+0+j<cur1.size:=by rw[hsz1];omega
   simp[World.cell?,hc1];omega) (fun j hj=>by simp[World.frozen?,hc1]) (by intro v hv;simp only[Z8,List.mem_cons,List.not_mem_nil,or_false] at hv;rcases hv with rfl|rfl|rfl|rfl|rfl|rfl|rfl|rfl<;>rfl)
  simp only[Nat.add_zero] at hst
  have hz:(Builtin.zeroCells #[Value.int .i64 0, .bool false, .int .i64 0, .int .i64 0, .slice none 0 0, .int .i64 0, .int .i64 0, .slice none 0 0] 1).toList=Z8:=by first|(simp[Builtin.zeroCells];done)|decide|kernel_rfl|(simp[Builtin.zeroCells,Array.ofFn];rfl)
  simp[Builtin.clear_,run_underlying Tryz.underlying27,Tryz.zeroValue89,hz,hst,Value.cells]
 have hW:Hid (W1=w.drew.setCells b (0+i*8) news):=hW1
 have N:Aside (news=(cur.toList.take (n*8)).drop ((i+1)*8)):=hnews
 have X:Aside (W1=w.drew.setCells b (0+i*8) news):=hW1
 obtain⟨i0,hi0,hz0⟩:∃i0,Tryz.prog.info? 89=some i0∧i0.size=8:=by
  have:(Tryz.prog.info? 89).map (·.size)=some 8:=by kernel_rfl
  cases h:Tryz.prog.info? 89 with
  |none=>rw[h] at this;cases this
  |some i0=>rw[h] at this;exact⟨i0,rfl,by simpa using this⟩
 have hic:i≤c:=by omega
 have hp0:(0:Int)≤(i:Int)+1:=by omega
 have hp1:(i:Int)+1≤(n:Int):=by omega
 have hp2:((i:Int)+1).toNat=i+1:=by omega
 have hne:¬((i:Int)=(i:Int)+1):=by omega
 clear hW1 hcell hfz hget hl1 hnews hlen
 go_enter Tryz.func80,Tryz.ntmps80
 go_wp2_with fail
 go_region_law (refine step_append_room rfl (.tmp 22) (.tmp 25) 27 rfl 89 i0 8 Tryz.underlying27 hi0 hz0 b 0 i c (by simp[Act.eval,Act.put]) A (n-(i+1)) (c-(i+1)) news (by simp[Act.eval,Act.put]) s1.out hsrc.out s2.out (by omega) s3.out ?_;rw[←hW.out])
 go_wp2
 go_ret
 exact⟨rfl,by rw[←N.out,←X.out]⟩
theorem Nz{w:World}{ok:Nat→Prop}{x:CV}{v:Value}{f:List Nat}{ty sz:Nat}{rows:List (List CV)}(hx:x= .ows ty sz rows)(h:pT w ok (.c x) v f):Den w ok [x] [v] f:=by
 subst hx
 cases h with
 |v h=>
  cases h fun _=>none with
  |c h=>cases h with
   |c h=>exact h
 |o h=>exact h
theorem I7{w:World}{ok:Nat→Prop}{x v:Value}{f:List Nat}(h:pT w ok (.c (.val x)) v f):v=x∧f=[]:=by
 have key:∀{f},Den w ok [.val x] [v] f→v=x∧f=[]:=fun h=>by
  cases h with
  |val _ ht=>cases ht;exact⟨rfl,rfl⟩
 cases h with
 |v h=>
  cases h fun _=>none with
  |c h=>cases h with
   |c h=>exact key h
 |o h=>exact key h
theorem zG{α:Type}{sz:Nat}:∀{rows:List (List α)},(∀r∈rows,r.length=sz)→∀n:Nat,(rows.drop n).flatten=rows.flatten.drop (n*sz)
 |[],_,n=>by simp
 |r::rs,hr,0=>by simp
 |r::rs,hr,n+1=>by
  have h1:=hr r (by simp)
  rw[List.drop_succ_cons,List.flatten_cons,zG (fun r h=>hr r (by simp[h])) n,List.drop_append,List.drop_of_length_le (l:=r) (by rw[h1,Nat.succ_mul];omega),h1,Nat.succ_mul,Nat.add_sub_cancel]
  rfl
end Go.Proofs.YtgbggaddpbghfaaGreat
namespace Go.Proofs.YtgbggaddpbghfaaGreat
open Go Go.KA Go.Proofs Go.RowKit
set_option maxHeartbeats 200000
set_option maxRecDepth 100000
theorem Hr(l:List cJ)(i:Nat)(hi:i<l.length):ai Tryz.prog 80 [.c (.ows 89 8 (l.map bh)),I (i:Nat),I ((i:Int)+1)] [] (.c (.ows 89 8 ((l.take i++l.drop (i+1)).map bh))):=by
 refine⟨⟨_,Tryz.func80,rfl,rfl⟩, ?_⟩
 intro w ok vs fs hok hal hnd hfs
 cases hal with
 |cons h ht=>
 cases ht with
 |cons h2 ht=>
 cases ht with
 |cons h3 ht=>
 cases ht
 obtain⟨rfl,rfl⟩:=I7 h2
 obtain⟨rfl,rfl⟩:=I7 h3
 have hd:=Nz rfl h
 cases hd with
 | @ows _ _ _ _ _ _ xs v hin hr ho ht=>
 cases ht
 obtain⟨hlx,⟨_,h0⟩|⟨g,cap,cur,rfl,_,hb,hn,hm,hs,htk⟩⟩:=ho
 ·rw[List.length_map] at h0
  omega
 rw[List.length_map] at hlx hn htk
 have hN:(l.map bh).length=l.length:=List.length_map _
 rw[hN] at hfs hnd⊢
 have hg:g<w.heap.size:=(Array.getElem?_eq_some_iff.1 hb).1
 have hng:¬ok g:=(hfs g (by simp[Value.ownBlock])).2
 refine(CO g l.length cap i cur w hb hi hn hm hs (by rw[htk];exact hin.one)).mono ?_
 rintro e w' ⟨rfl,rfl⟩
 rw[htk]
 have hml:(l.length-(i+1))*8+(i+1)*8=l.length*8:=by rw[←Nat.add_mul];congr 1;omega
 have hnl:(xs.drop ((i+1)*8)).length=(l.length-(i+1))*8:=by rw[List.length_drop,hlx];omega
 obtain⟨c1,hc1,e1⟩:=jU g (xs.drop ((i+1)*8)) (0+i*8) w.drew cur 89 (0,0) hb (by rw[hnl,hs];omega)
 have hz1:c1.size=cap*8:=by
  have:=congrArg List.length e1
  simp only[List.length_append,List.length_take,List.length_drop,Array.length_toList] at this
  omega
 obtain⟨c2,hc2,e2⟩:=jU g Z8 ((i+(l.length-(i+1)))*8) _ c1 89 (0,0) hc1 (by rw[hz1];show _+8≤_;omega)
 have hz2:c2.size=cap*8:=by
  have:=congrArg List.length e2
  simp only[List.length_append,List.length_take,List.length_drop,Array.length_toList,hz1] at this
  have h8:Z8.length=8:=rfl
  omega
 obtain⟨o1,o2,o3,o4,o5⟩:=mF g (xs.drop ((i+1)*8)) (0+i*8) w.drew
 obtain⟨q1,q2,q3,q4,q5⟩:=mF g Z8 ((i+(l.length-(i+1)))*8) (w.drew.setCells g (0+i*8) (xs.drop ((i+1)*8)))
 have hsame:∀k,k≠g→((w.drew.setCells g (0+i*8) (xs.drop ((i+1)*8))).setCells g ((i+(l.length-(i+1)))*8) Z8).heap[k]? =w.heap[k]? :=fun k hk=>(q5 k hk).trans (o5 k hk)
 have hsize:((w.drew.setCells g (0+i*8) (xs.drop ((i+1)*8))).setCells g ((i+(l.length-(i+1)))*8) Z8).heap.size=w.heap.size:=q4.trans o4
 have hr':∀r∈l.map bh,r.length=8:=hr
 have hfl:((l.take i++l.drop (i+1)).map bh).flatten=(l.map bh).flatten.take (i*8)++(l.map bh).flatten.drop ((i+1)*8):=by
  rw[List.map_append,List.flatten_append,List.map_take,List.map_drop,tL hr',zG hr']
 have hll:(l.take i++l.drop (i+1)).length=i+(l.length-(i+1)):=by
  rw[List.length_append,List.length_take,List.length_drop]
  omega
 refine⟨_,[g],[],rfl,⟨q1.trans o1,q2.trans o2,q3.trans o3,by rw[hsize];exact Nat.le_refl _,fun k _ hk=>hsame k (fun e=>hk (by simp[e,Value.ownBlock]))⟩,by simp,fun k hk=> ?_, .v (.o ?_), .nil⟩
 ·have:k=g:=by simpa using hk
  subst this
  exact⟨.inl (by simp[Value.ownBlock]),by rw[hsize];exact hg⟩
 ·have hd:=((jz hin (i*8)).append (fH hin ((i+1)*8)))
  rw[←hfl] at hd
  refine Den.ows (xs:=xs.take (i*8)++xs.drop ((i+1)*8)) (f:=[]) (hd.mono (fun k hk=>hsame k (fun e=>hng (e▸hk))) (fun k hk=>⟨by rw[hsize];exact hok k hk, .inl hk,fun hm=>hng (by have:k=g:=by simpa using hm
                                                                                                                                                                                  exact this▸hk)⟩) (by simp)) (fun r hr1=> ?_) ?_ .nil
  ·obtain⟨p,_,rfl⟩:=List.mem_map.1 hr1
   rfl
  ·rw[List.length_map,hll]
   have hxl:(xs.take (i*8)++xs.drop ((i+1)*8)).length=(i+(l.length-(i+1)))*8:=by
        rw[List.length_append,hnl,List.length_take,hlx,Nat.min_eq_left (by omega),Nat.add_mul]
   refine⟨hxl, .inr ⟨g,cap,c2,rfl,Nat.zero_le _,hc2,by omega,hm,hz2, ?_⟩⟩
   have hcl:c1.toList.length=cap*8:=by simpa using hz1
   rw[e2,List.append_assoc,List.take_left' (by rw[List.length_take,hcl];omega),e1,Nat.zero_add,←hxl]
   have hci:cur.toList.take (i*8)=xs.take (i*8):=by
        rw[←htk,List.take_take,Nat.min_eq_left (by omega)]
   rw[hci,List.take_left' rfl]
end Go.Proofs.YtgbggaddpbghfaaGreat
