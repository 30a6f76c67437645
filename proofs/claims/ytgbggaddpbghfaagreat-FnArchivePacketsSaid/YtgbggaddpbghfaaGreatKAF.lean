/- Contracts of what learns an entry, and of the reference's revocation. Conditions: the archive's shape, the event's. -/
import Derived.Test.YtgbggaddpbghfaaGreatKAE
import Derived.WalkKit
import Derived.Deep.RegionLaw
import Derived.Lib.SliceRun
namespace Go.Proofs.YtgbggaddpbghfaaGreat
open Go Go.KA Go.Proofs
set_option maxHeartbeats 16000000
set_option maxRecDepth 100000
section
variable{a:af}{e:aS}
theorem Lf(h2:(sA a e.a).up=false):eJ a e=(4,a):=by
 unfold eJ
 rw[if_pos (by rw[h2];rfl)]
theorem JC(h2:(sA a e.a).up=true)(h3:gG (sA a e.a).notes e.bj=false):eJ a e=(4,a):=by
 unfold eJ
 rw[if_pos (by rw[h2,h3];rfl)]
theorem NN(h2:(sA a e.a).up=true)(h3:gG (sA a e.a).notes e.bj=true)(h4:mM e.mb=false):eJ a e=(8,a):=by
 unfold eJ
 rw[if_neg (by rw[h2,h3];decide),if_pos h4]
theorem NT(h2:(sA a e.a).up=true)(h3:gG (sA a e.a).notes e.bj=true)(h4:mM e.mb=true)(h5:((sA a e.a).notes.length:Int)=20∨100≤jL a e.a∨oe a (jL a e.a)=true):eJ a e=(3,a):=by
 unfold eJ
 rw[if_neg (by rw[h2,h3];decide),if_neg (by rw[h4];decide),if_pos]
 rw[Bool.or_eq_true,Bool.or_eq_true,decide_eq_true_iff,decide_eq_true_iff]
 rcases h5 with h|h
 ·exact .inl (by omega)
 ·exact .inr h
theorem NO(h2:(sA a e.a).up=true)(h3:gG (sA a e.a).notes e.bj=true)(h4:mM e.mb=true)(h5:¬((sA a e.a).notes.length:Int)=20)(h6:¬100≤jL a e.a)(h7:oe a (jL a e.a)=false):eJ a e=(0,iy a e.a (jB (sA a e.a) (wY a e))):=by
 unfold eJ
 rw[if_neg (by rw[h2,h3];decide),if_neg (by rw[h4];decide),if_neg]
 rw[decide_eq_false (by omega:¬(sA a e.a).notes.length=20),decide_eq_false h6,h7]
 decide
end
theorem Dt{n i:Int}{x:aM}(h:x.bU=false)(h2:x.id.tmod n=i):qT n i x=true:=by
 unfold qT
 rw[h,decide_eq_true h2]
 rfl
theorem Cn{n i:Int}{x:aM}(h:x.bU=true):qT n i x=false:=by
 unfold qT
 rw[h]
 rfl
theorem CM{n i:Int}{x:aM}(h2:¬x.id.tmod n=i):qT n i x=false:=by
 unfold qT
 rw[decide_eq_false h2,Bool.and_false]
theorem OR(a:af)(e:aS)(hw:WA a)(he:EA e)(hp:e.a<(a.ab.length:Int)):ah Tryz.prog 82 [.c (.op (cj a)), .a 9 (aT e)] [some [.op (cj (eJ a e).2)],none] (I (eJ a e).1):=by
 have hpl:e.a.toNat<a.ab.length:=by have:=he.ra;omega
 have hra:=he.ra
 have h5:=hw.n5
 have h20:=(hw.sv _ hpl).1
 have hmul:∀c:Int,0≤c→c≤20→0≤(a.ab.length:Int)*c∧(a.ab.length:Int)*c≤100:=fun c h1 h2=>by
  constructor
  ·exact Int.mul_nonneg (by omega) h1
  ·have:=Int.mul_le_mul (show(a.ab.length:Int)≤5 by omega) h2 h1 (by omega)
   omega
 have hvo:=EE e.mb (by have:=he.bl;omega)
 obtain⟨vb,hvb⟩:∃vb,vb=mM e.mb:=⟨_,rfl⟩
 rw[←hvb] at hvo
 have hbn:∀x y,bu ⟨false,x,⟨y,e.bj,e.proof⟩⟩≤1048576:=fun _ _=>by have:=he.bl;simp only[bu,nu];omega
 refine Jb Tryz.func82 (fun reg_=>match reg_ with|2=>true|1000015=>true|14015=>true|17=>true|_=>false) (h:= ?_)
 repeat'((conv=>whnf);first
  |(guard_target=Gh _ _ _ _ _;refine Gh.go ?_)
  |refine nB ?_|(guard_target=aV _ _;refine aV.mk (by first|((simp only[List.length_map];omega))|fail) ?_))
 all_goals(conv=>whnf)
 all_goals try refine iV.opens 0 e.a.toNat 1 rfl (aF (d:=db) hpl) rfl fun v=>iV.go ?_
 repeat'((conv=>whnf);first
  |(guard_target=~ aq (I 4=_) _;have hd:eJ a e=(4,a):=(by first|exact Lf (by assumption)|exact JC (by assumption) (by assumption));rw[hd];exact aq.mk rfl ⟨rfl,trivial⟩)|(guard_target=~ aq (I 8=_) _;have hd:eJ a e=(8,a):=NN (by assumption) (by assumption) (by rw[←hvb];assumption);rw[hd];exact aq.mk rfl ⟨rfl,trivial⟩)|(guard_target=~ aK 9 _ _ _ _ _ _;refine lp (Int × Nat) [0,3,5,6,45,46] (fun⟨c,i⟩=>[(7,I c),(47,I (i:Nat))]) (fun⟨c,i⟩=>i≤(a.ab.getD e.a.toNat db).notes.length∧c=(((a.ab.getD e.a.toNat db).notes.take i).countP (qT a.ab.length e.a):Nat)) (fun⟨c,i⟩=>(a.ab.getD e.a.toNat db).notes.length-i) (0,0) (by exact⟨Nat.zero_le _,by simp⟩) (fun A ha=> ?_);obtain⟨c,i⟩:=A;have ha:i≤(a.ab.getD e.a.toNat db).notes.length∧c=(((a.ab.getD e.a.toNat db).notes.take i).countP (qT a.ab.length e.a):Nat):=ha;have hc9:=ha.2;have hle9:=Bw (p:=qT a.ab.length e.a) (l:=(a.ab.getD e.a.toNat db).notes) (i:=i))
  |refine nx ((c+1,i+1):Int × Nat) (by exact⟨by show i+1≤_;omega,vT (by omega) (by rw[←getD_eq (d:=n0) (by omega)];refine Dt (by assumption) ?_;simpa only[List.length_set,List.length_map] using h) ha.2⟩)
  |refine nx ((c,i+1):Int × Nat) (by exact⟨by show i+1≤_;omega,A7 (by omega) (by rw[←getD_eq (d:=n0) (by omega)];first|exact Cn h|(refine CM ?_;simpa only[List.length_set,List.length_map] using h)) ha.2⟩)
  |(apply Fact.mk;intro hL;try simp only[List.length_map,maxLen] at hL)
  |((first|apply bA|apply bB|apply bC|apply bD|apply bE|apply bF)<;>intro h<;>(try simp only[List.length_map] at h)<;>(try omega)<;>(try contradiction))|(guard_target=aa _ 95 _ _ _ _;refine cP rfl (oW (a.ab.getD e.a.toNat db).notes e.bj) ?_)|(guard_target=aa _ 114 _ _ _ _;refine cP rfl (hvo) ?_)|(guard_target=Gh _ _ _ _ _;refine Gh.iO 0 e.a.toNat 1 4 rfl (cy (by rw[List.length_map];exact hpl)) rfl rfl rfl (Gh.soft 0 (b':= .aG none 47 3 (a.ab.map bI)) (.aG (jQ hpl rfl)) (Gh.go ?_)))|(guard_target=Arith _ _ _;refine Arith.fit (aP (by(first|omega|(simp only[List.length_set,List.length_map];omega)|(simp only[List.length_set,List.length_map];have hm9:=hmul c (by omega) (by omega);omega))) (by(first|omega|(simp only[List.length_set,List.length_map];omega)|(simp only[List.length_set,List.length_map];have hm9:=hmul c (by omega) (by omega);omega)))) ?_)|(guard_target=Index _ _ _;first|(refine Index.mk _ (cy (by rw[List.length_map];exact hpl)) ?_)|(refine Index.mk _ (aF (d:=n0) (i:=i) (by omega)) ?_)|fail)
  |refine nB ?_|(guard_target=bH _ _ _;first|refine bH.row 4 rfl ?_|refine bH.aG 4 rfl ?_)|(guard_target=aV _ _;refine aV.mk (by first|((simp only[List.length_set,List.length_map];omega))|fail) ?_))
 all_goals(conv=>whnf)
 all_goals(have hid:e.a+((((a.ab.map bI).set e.a.toNat (aN (bI (a.ab.getD e.a.toNat db)) 1 [CV.val v])).length:Nat):Int)*c=jL a e.a:=(by rw[List.length_set,List.length_map];have h9:=ha.2;rw[List.take_of_length_le (by omega)] at h9;rw[h9];rfl);refine iV.go ?_)
 repeat'((conv=>whnf);first
  |(guard_target=~ aq (I 3=_) _;have hd:eJ a e=(3,a):=NT (by assumption) (by assumption) (by rw[←hvb];assumption) (by first|exact .inl (by assumption)|exact .inr (.inl (by rw[←hid];assumption))|exact .inr (.inr (by rw[←hid];exact decide_eq_true (by assumption))));rw[hd];exact aq.mk rfl ⟨rfl,trivial⟩)
  |((first|apply bA|apply bB|apply bC|apply bD|apply bE|apply bF)<;>intro h<;>(try simp only[List.length_map] at h)<;>(try omega)<;>(try contradiction))|(guard_target=aa _ 48 _ _ _ _;refine cG [true] rfl (yj a hw) ?_)|(guard_target=aa _ 59 _ _ _ _;refine cP rfl (se (iz a) false _) ?_)|(guard_target=Gh _ _ _ _ _;refine Gh.go ?_))
 all_goals(conv=>whnf)
 all_goals refine iV.opens 0 e.a.toNat 1 rfl (aF (d:=db) hpl) rfl fun v=>iV.go ?_
 repeat'((conv=>whnf);first
  |(guard_target=~ aq (I 0=_) _;have hd:eJ a e=(0,iy a e.a (jB (sA a e.a) (wY a e))):=NO (by assumption) (by assumption) (by rw[←hvb];assumption) (by assumption) (by rw[←hid];assumption) (by rw[←hid];exact decide_eq_false (by assumption));rw[hd];exact aq.mk rfl ⟨congrArg (FA a) (nX (s:=jB (sA a e.a) (wY a e)) (by simp only[bI,List.map_append];unfold wY;rw[←hid];rfl)),trivial⟩)|(guard_target=aa _ 78 _ _ _ _;refine cG [] rfl (mL ⟨false,_,⟨_,e.bj,e.proof⟩⟩ (hbn _ _)) ?_)|(guard_target=Gh _ _ _ _ _;refine Gh.go ?_)|(guard_target=Index _ _ _;first|(refine Index.mk _ (cy (by rw[List.length_map];exact hpl)) ?_)|fail)
  |refine nB ?_|(guard_target=bH _ _ _;first|refine bH.row 4 rfl ?_|refine bH.aG 4 rfl ?_|refine bH.row 5 rfl ?_|refine bH.aG 5 rfl ?_|refine bH.row 6 rfl ?_|refine bH.aG 6 rfl ?_|refine bH.row 7 rfl ?_|refine bH.aG 7 rfl ?_|refine bH.row 8 rfl ?_|refine bH.aG 8 rfl ?_|refine bH.row 9 rfl ?_|refine bH.aG 9 rfl ?_|refine bH.row 10 rfl ?_|refine bH.aG 10 rfl ?_)|(guard_target=aV _ _;refine aV.mk (by first|((simp only[List.length_set,List.length_map];omega))|((simp only[List.length_cons,List.length_nil,List.length_map,maxLen];constructor<;>omega))|fail) ?_))
 all_goals(try(conv=>whnf))
end Go.Proofs.YtgbggaddpbghfaaGreat
namespace Go.Proofs.YtgbggaddpbghfaaGreat
open Go Go.KA Go.Proofs
set_option maxHeartbeats 16000000
set_option maxRecDepth 100000
theorem BO(l:List Int)(hl:l.length≤1048576):ah Tryz.prog 133 [.c (.ro 1 (l.map eI))] [] (.c (.ro 1 (l.map eI))):=(iS l hl).soft (.v (.c (.ro .nil)))
theorem BP(e:aS)(h:b7 e.proof≤1048576):ah Tryz.prog 134 [.c (.rp 4 ((aT e).drop 5))] [] (.a 3 (cK e.proof)):=by
 have h1:dj (oP e.proof) (cK e.proof):=by rw[←MC];exact dj.nr _
 exact((zP e.proof h).soft (.v (.a h1))).cut (.cut (k:=3) (by omega) .nil)
theorem A4(a:af)(e:aS)(hw:WA a)(he:EA e)(hp:bY a e.a=true):ah Tryz.prog 119 [.c (.op (cj a)), .c (.rp 9 (aT e))] [some [.op (cj (cD a e).2)],none] (I (cD a e).1):=by
 have hpl:e.a.toNat<a.ab.length:=by have:=bX hp;have:=hw.n5;omega
 have hra:=he.ra
 have h20:=(hw.sv _ hpl).1
 have hat:=iR a e.a
 rw[hp] at hat
 refine Jb Tryz.func119 (fun reg_=>match reg_ with|4=>true|_=>false) (h:= ?_)
 repeat'((conv=>whnf);first
  |(guard_target=~ aq (I 2=_) _;have hd:cD a e=(2,a):=NZ (by assumption);rw[hd];exact aq.mk rfl ⟨rfl,trivial⟩)
  |((first|apply bA|apply bB|apply bC|apply bD|apply bE|apply bF)<;>intro h<;>(try simp only[List.length_map] at h)<;>(try omega)<;>(try contradiction))|(guard_target=aa _ 104 _ _ _ _;refine cP rfl (hat) ?_)|(guard_target=Gh _ _ _ _ _;refine Gh.go ?_)
  |refine nB ?_|(guard_target=aV _ _;refine aV.mk (by first|((simp only[List.length_map];omega))|fail) ?_))
 all_goals(conv=>whnf)
 all_goals try refine iV.opens 0 e.a.toNat 1 rfl (aF (d:=db) hpl) rfl fun v=>iV.go ?_
 repeat'((conv=>whnf);first
  |(guard_target=~ aq (I 4=_) _;have hd:cD a e=(4,a):=(by first|exact Jw (by assumption) (by assumption)|exact Li (by assumption) (by assumption) (by assumption));rw[hd];exact aq.mk rfl ⟨congrArg (FA a) (mY hpl rfl),trivial⟩)|(guard_target=~ aq (I 3=_) _;have hd:cD a e=(3,a):=NP (by assumption) (by assumption) (by assumption) (show((a.ab.getD e.a.toNat db).notes.length:Int)=20 by omega);rw[hd];exact aq.mk rfl ⟨congrArg (FA a) (mY hpl rfl),trivial⟩)|(guard_target=~ aq (I 0=_) _;have hd:cD a e=(0,iy a e.a (jB (sA a e.a) (yr e))):=NJ (by assumption) (by assumption) (by assumption) (show¬((a.ab.getD e.a.toNat db).notes.length:Int)=20 by omega);rw[hd];exact aq.mk rfl ⟨congrArg (FA a) (nX (s:=jB (sA a e.a) (yr e)) (congrArg (fun R=>[CV.val (.bool (sA a e.a).up),CV.ows 51 7 R,J (sA a e.a).saved]) (uu rfl))),trivial⟩)
  |(apply Fact.mk;intro hL;try simp only[List.length_map,maxLen] at hL)
  |((first|apply bA|apply bB|apply bC|apply bD|apply bE|apply bF)<;>intro h<;>(try simp only[List.length_map] at h)<;>(try omega)<;>(try contradiction))|(guard_target=aa _ 60 _ _ _ _;refine cP rfl (gQ (a.ab.getD e.a.toNat db).notes true e.b) ?_)|(guard_target=Gh _ _ _ _ _;refine Gh.iO 0 e.a.toNat 1 3 rfl (cy (by rw[List.length_map];exact hpl)) rfl rfl rfl (Gh.go ?_))|(guard_target=Gh _ _ _ _ _;refine Gh.soft 0 (gH.aG (pY (i:=e.a.toNat) (.same (.ows (.same .nil))))) (Gh.go ?_))|(guard_target=Index _ _ _;first|(refine Index.mk _ (cy (by rw[List.length_map];exact hpl)) ?_)|fail)
  |refine nB ?_|(guard_target=bH _ _ _;first|refine bH.row 3 rfl ?_|refine bH.aG 3 rfl ?_|refine bH.row 4 rfl ?_|refine bH.aG 4 rfl ?_)|(guard_target=aV _ _;refine aV.mk (by first|((simp only[List.length_set,List.length_map];omega))|((simp only[List.length_cons,List.length_nil,List.length_map,maxLen];constructor<;>omega))|fail) ?_))
 all_goals(try(conv=>whnf))
theorem IJ(a:af)(e:aS)(hw:WA a)(he:EA e)(hp:bY a e.a=true):ah Tryz.prog 118 [.c (.op (cj a)), .c (.rp 9 (aT e))] [some [.op (cj (eJ a e).2)],none] (I (eJ a e).1):=by
 have hpl:e.a.toNat<a.ab.length:=by have:=bX hp;have:=hw.n5;omega
 have hra:=he.ra
 have h5:=hw.n5
 have h20:=(hw.sv _ hpl).1
 have hat:=iR a e.a
 rw[hp] at hat
 have hmul:∀c:Int,0≤c→c≤20→0≤(a.ab.length:Int)*c∧(a.ab.length:Int)*c≤100:=fun c h1 h2=>by
  constructor
  ·exact Int.mul_nonneg (by omega) h1
  ·have:=Int.mul_le_mul (show(a.ab.length:Int)≤5 by omega) h2 h1 (by omega)
   omega
 have hvo:=C4 e.mb (by have:=he.bl;omega)
 obtain⟨vb,hvb⟩:∃vb,vb=mM e.mb:=⟨_,rfl⟩
 rw[←hvb] at hvo
 have hrs:e.bj.length≤1048576∧b7 e.proof≤1048576:=by have:=he.bl;omega
 refine Jb Tryz.func118 (fun reg_=>match reg_ with|4=>true|1000015=>true|14015=>true|17=>true|_=>false) (h:= ?_)
 repeat'((conv=>whnf);first
  |((first|apply bA|apply bB|apply bC|apply bD|apply bE|apply bF)<;>intro h<;>(try simp only[List.length_map] at h)<;>(try omega)<;>(try contradiction))|(guard_target=aa _ 104 _ _ _ _;refine cP rfl (hat) ?_)|(guard_target=Gh _ _ _ _ _;refine Gh.go ?_)
  |refine nB ?_|(guard_target=aV _ _;refine aV.mk (by first|((simp only[List.length_map];omega))|fail) ?_))
 all_goals(conv=>whnf)
 all_goals try refine iV.opens 0 e.a.toNat 1 rfl (aF (d:=db) hpl) rfl fun v=>iV.go ?_
 repeat'((conv=>whnf);first
  |(guard_target=~ aq (I 4=_) _;have hd:eJ a e=(4,a):=(by first|exact Lf (by assumption)|exact JC (by assumption) (by assumption));rw[hd];exact aq.mk rfl ⟨rfl,trivial⟩)|(guard_target=~ aq (I 8=_) _;have hd:eJ a e=(8,a):=NN (by assumption) (by assumption) (by rw[←hvb];assumption);rw[hd];exact aq.mk rfl ⟨rfl,trivial⟩)|(guard_target=~ aK 11 _ _ _ _ _ _;refine lp (Int × Nat) [0,1,5,6] (fun⟨d,i⟩=>[(7,I d),(8,I (i:Nat))]) (fun⟨d,i⟩=>i≤(a.ab.getD e.a.toNat db).notes.length∧∃c:Int,c=(((a.ab.getD e.a.toNat db).notes.take i).countP (qT a.ab.length e.a):Nat)∧d=e.a+(a.ab.length:Int)*c) (fun⟨d,i⟩=>(a.ab.getD e.a.toNat db).notes.length-i) (e.a,0) (by exact⟨Nat.zero_le _,0,by simp,by omega⟩) (fun A ha=> ?_);obtain⟨d,i⟩:=A;have ha:i≤(a.ab.getD e.a.toNat db).notes.length∧∃c:Int,c=(((a.ab.getD e.a.toNat db).notes.take i).countP (qT a.ab.length e.a):Nat)∧d=e.a+(a.ab.length:Int)*c:=ha;have hle9:=Bw (p:=qT a.ab.length e.a) (l:=(a.ab.getD e.a.toNat db).notes) (i:=i);obtain⟨hi9,c,hc9,hd9⟩:=ha;have hm9:=hmul c (by omega) (by omega))
  |(apply Fact.mk;intro hL;try simp only[List.length_map,maxLen] at hL)
  |((first|apply bA|apply bB|apply bC|apply bD|apply bE|apply bF)<;>intro h<;>(try simp only[List.length_map] at h)<;>(try omega)<;>(try contradiction))|(guard_target=aa _ 115 _ _ _ _;refine cP rfl (ug (a.ab.getD e.a.toNat db).notes e.bj) ?_)|(guard_target=aa _ 146 _ _ _ _;refine cP rfl (hvo) ?_)|(guard_target=Gh _ _ _ _ _;refine Gh.go ⟨((d+((((a.ab.map bI).set e.a.toNat (aN (bI (a.ab.getD e.a.toNat db)) 1 [CV.val v])).length:Nat):Int),i+1):Int × Nat),⟨by show i+1≤_;omega,c+1,vT (by omega) (by rw[←getD_eq (d:=n0) (by omega)];refine Dt (by assumption) ?_;simpa only[List.length_set,List.length_map] using h) hc9,by rw[hd9,Int.mul_add,Int.mul_one];simp only[List.length_set,List.length_map];omega⟩,(by show _-(i+1)<_-i;omega),(by repeat' first|exact trivial|exact rfl|constructor),(by repeat' first|exact trivial|exact rfl|constructor),(by repeat' first|exact trivial|exact rfl|constructor)⟩)|(guard_target=Gh _ _ _ _ _;refine Gh.go ⟨((d,i+1):Int × Nat),⟨by show i+1≤_;omega,c,A7 (by omega) (by rw[←getD_eq (d:=n0) (by omega)];first|exact Cn h|(refine CM ?_;simpa only[List.length_set,List.length_map] using h)) hc9,hd9⟩,(by show _-(i+1)<_-i;omega),(by repeat' first|exact trivial|exact rfl|constructor),(by repeat' first|exact trivial|exact rfl|constructor),(by repeat' first|exact trivial|exact rfl|constructor)⟩)|(guard_target=Gh _ _ _ _ _;refine Gh.iO 0 e.a.toNat 1 3 rfl (cy (by rw[List.length_map];exact hpl)) rfl rfl rfl (Gh.soft 0 (b':= .aG none 47 3 (a.ab.map bI)) (.aG (jQ hpl rfl)) (Gh.go ?_)))|(guard_target=Arith _ _ _;refine Arith.fit (aP (by(first|omega|(simp only[List.length_set,List.length_map];omega))) (by(first|omega|(simp only[List.length_set,List.length_map];omega)))) ?_)|(guard_target=Index _ _ _;first|(refine Index.mk _ (cy (by rw[List.length_map];exact hpl)) ?_)|(refine Index.mk _ (aF (d:=n0) (i:=i) (by omega)) ?_)|fail)
  |refine nB ?_|(guard_target=bH _ _ _;first|refine bH.row 3 rfl ?_|refine bH.aG 3 rfl ?_)|(guard_target=aV _ _;refine aV.mk (by first|((simp only[List.length_set,List.length_map];omega))|fail) ?_))
 all_goals(conv=>whnf)
 all_goals(have hid:d=jL a e.a:=(by rw[List.take_of_length_le (by omega)] at hc9;rw[hd9,hc9];rfl);refine iV.go ?_)
 repeat'((conv=>whnf);first
  |(guard_target=~ aq (I 3=_) _;have hd:eJ a e=(3,a):=NT (by assumption) (by assumption) (by rw[←hvb];assumption) (by first|exact .inl (show((a.ab.getD e.a.toNat db).notes.length:Int)=20 by omega)|exact .inr (.inl (by omega))|exact .inr (.inr (by rw[←hid];assumption))|exact .inr (.inr (by rw[←hid];exact decide_eq_true (by assumption))));rw[hd];exact aq.mk rfl ⟨rfl,trivial⟩)
  |((first|apply bA|apply bB|apply bC|apply bD|apply bE|apply bF)<;>intro h<;>(try simp only[List.length_map] at h)<;>(try omega)<;>(try contradiction))|(guard_target=aa _ 147 _ _ _ _;refine cP rfl (x9 a hw d) ?_)|(guard_target=Gh _ _ _ _ _;refine Gh.go ?_))
 all_goals(conv=>whnf)
 all_goals refine iV.opens 0 e.a.toNat 1 rfl (aF (d:=db) hpl) rfl fun v=>iV.go ?_
 repeat'((conv=>whnf);first
  |(guard_target=~ aq (I 0=_) _;have hd:eJ a e=(0,iy a e.a (jB (sA a e.a) (wY a e))):=NO (by assumption) (by assumption) (by rw[←hvb];assumption) (show¬((a.ab.getD e.a.toNat db).notes.length:Int)=20 by omega) (by omega) (by rw[←hid];first|assumption|exact decide_eq_false (by assumption));rw[hd];exact aq.mk rfl ⟨congrArg (FA a) (nX (s:=jB (sA a e.a) (wY a e)) (by simp only[bI,List.map_append];unfold wY;rw[←hid];rfl)),trivial⟩)|(guard_target=aa _ 133 _ _ _ _;refine cG [] rfl (BO e.bj hrs.1) ?_)|(guard_target=aa _ 134 _ _ _ _;refine cG [] rfl (BP e hrs.2) ?_)|(guard_target=Gh _ _ _ _ _;refine Gh.go ?_)|(guard_target=Index _ _ _;first|(refine Index.mk _ (cy (by rw[List.length_map];exact hpl)) ?_)|fail)
  |refine nB ?_|(guard_target=bH _ _ _;first|refine bH.row 3 rfl ?_|refine bH.aG 3 rfl ?_|refine bH.row 4 rfl ?_|refine bH.aG 4 rfl ?_|refine bH.row 5 rfl ?_|refine bH.aG 5 rfl ?_|refine bH.row 6 rfl ?_|refine bH.aG 6 rfl ?_|refine bH.row 7 rfl ?_|refine bH.aG 7 rfl ?_|refine bH.row 8 rfl ?_|refine bH.aG 8 rfl ?_|refine bH.row 9 rfl ?_|refine bH.aG 9 rfl ?_|refine bH.row 10 rfl ?_|refine bH.aG 10 rfl ?_)|(guard_target=aV _ _;refine aV.mk (by first|((simp only[List.length_set,List.length_map];omega))|((simp only[List.length_cons,List.length_nil,List.length_map,maxLen];constructor<;>omega))|fail) ?_))
 all_goals(try(conv=>whnf))
end Go.Proofs.YtgbggaddpbghfaaGreat
namespace Go.Proofs.YtgbggaddpbghfaaGreat
open Go Go.KA Go.Proofs
set_option maxHeartbeats 16000000
set_option maxRecDepth 100000
mutual
theorem xx:∀e:ae,ja (ay e)
 | .mk kind num kids=>by
   simp only[ay,ja,im]
   exact⟨trivial,trivial,tg kids,trivial⟩
theorem tg:∀l:List ae,js (ku l)
 |[]=>trivial
 |x::xs=>⟨xx x,tg xs⟩
end
theorem ig{α:Type}{f:α→List CV}(h:∀x,ja (f x)):∀l:List α,js (l.map f)
 |[]=>trivial
 |x::xs=>⟨h x,ig h xs⟩
theorem mm(l:List ae):js (l.map ay):=ig xx l
theorem xq(l:List Int):js (l.map eI):=ig (f:=eI) (fun x=>(show im (J x)∧True from⟨trivial,trivial⟩)) l
theorem wO(s:aB):ja (aW s):=by
 simp only[aW,ja,im]
 exact⟨trivial,trivial,xq _,mm _,mm _,trivial⟩
theorem DI(c:bm):ja (eO c):=by
 simp only[eO,ja,im]
 exact⟨trivial,trivial,mm _,trivial,trivial,mm _,trivial,trivial,ig wO _,trivial⟩
theorem rB(n:aM):ja (dS n):=by
 simp only[dS,ja,im]
 exact⟨trivial,trivial,trivial,xq _,trivial,trivial,ig DI _,trivial⟩
theorem zO(n:aM):jJ (.a 7 (dS n)):=fun x hx=>nq.1 (rB n) x hx
theorem F8{l:List cB}{r:List CV}{p:cB}(h:nr r=aQ p):cW (l.map aQ++[r])=(l++[p]).map aQ:=by
 have h1:=J3 l
 rw[dO] at h1⊢
 rw[List.map_append,h1,List.map_append]
 refine congrArg _ ?_
 show[r.map l5]=[aQ p]
 rw[←h,qm]
theorem DK(t c:Int)(R S:List (List CV))(s:Int):aD Tryz.prog 81 [.a 4 [J t,J c, .ro 3 R, .ro 8 S],I s] (B (dJ 0 ((R.length:Int)-1) s)):=by
 refine cF Tryz.func81 (h:= ?_)
 repeat'((conv=>whnf);first
  |(apply bh.mk;first|(rfl;done)|skip)
  |(apply Fact.mk;intro hL;try simp only[List.length_map,maxLen] at hL)|(guard_target=aa _ 45 _ _ _ _;refine cP rfl (fa _ _ _) ?_)
  |refine aR ?_)
theorem IN(t c:Int)(R S:List (List CV))(s:Int):aD Tryz.prog 104 [.c (.rp 4 [J t,J c, .ro 3 R, .ro 8 S]),I s] (B (dJ 0 ((R.length:Int)-1) s)):=by
 refine cF Tryz.func104 (h:= ?_)
 repeat'((conv=>whnf);first
  |(apply bh.mk;first|(rfl;done)|skip)
  |(apply Fact.mk;intro hL;try simp only[List.length_map,maxLen] at hL)|(guard_target=aa _ 86 _ _ _ _;refine cP rfl (dH _ _ _) ?_)
  |refine aR ?_)
theorem AD(a:af)(i:Nat)(x:List CV)(s:Int):aD Tryz.prog 81 [.a 4 [J a.sig.au,J a.sig.ai, .ro 3 (cW ((a.ab.map bI).set i x)), .ro 8 (a.aw.map aQ)],I s] (B (bY a s)):=by
 have h:=DK a.sig.au a.sig.ai (cW ((a.ab.map bI).set i x)) (a.aw.map aQ) s
 rwa[show(cW ((a.ab.map bI).set i x)).length=a.ab.length by rw[dO];simp] at h
theorem xT(a:af)(i:Nat)(x:List CV)(s:Int):aD Tryz.prog 104 [.c (.rp 4 [J a.sig.au,J a.sig.ai, .ro 3 (cW ((a.ab.map bI).set i x)), .ro 8 (a.aw.map aQ)]),I s] (B (bY a s)):=by
 have h:=IN a.sig.au a.sig.ai (cW ((a.ab.map bI).set i x)) (a.aw.map aQ) s
 rwa[show(cW ((a.ab.map bI).set i x)).length=a.ab.length by rw[dO];simp] at h
abbrev FB(a:af)(R:List (List CV)):Option (List CV):=some [CV.op [J a.sig.au,J a.sig.ai,CV.own 47 3 (a.ab.map bI),CV.ows 89 8 R]]
section
variable{a:af}{e:aS}
theorem LA(h:bY a e.b=false):dv a e=(2,a):=by
 unfold dv
 rw[if_pos (by rw[h];rfl)]
theorem JO(h:bY a e.b=true)(h2:e.a=e.b):dv a e=(2,a):=by
 unfold dv
 rw[if_pos (by rw[h,decide_eq_true h2];rfl)]
theorem Ky(h:bY a e.b=true)(h2:¬e.a=e.b)(h3:e.c≥((a.ab.getD e.a.toNat db).notes.length:Int)):dv a e=(2,a):=by
 unfold dv
 rw[if_pos (by rw[h,decide_eq_false h2,decide_eq_true (show((sA a e.a).notes.length:Int)≤e.c from h3)];rfl)]
theorem He(h:bY a e.b=true)(h2:¬e.a=e.b)(h3:¬e.c≥((a.ab.getD e.a.toNat db).notes.length:Int)):¬(!(bY a e.b)||(decide (e.a=e.b)||decide (((sA a e.a).notes.length:Int)≤e.c)))=true:=by
 rw[h,decide_eq_false h2,decide_eq_false (show¬((sA a e.a).notes.length:Int)≤e.c from h3)]
 decide
theorem K3(h:bY a e.b=true)(h2:¬e.a=e.b)(h3:¬e.c≥((a.ab.getD e.a.toNat db).notes.length:Int))(h4:(a.ab.getD e.a.toNat db).up=false):dv a e=(4,a):=by
 unfold dv
 rw[if_neg (He h h2 h3),if_pos (by rw[show(sA a e.a).up=false from h4];rfl)]
theorem K1(h:bY a e.b=true)(h2:¬e.a=e.b)(h3:¬e.c≥((a.ab.getD e.a.toNat db).notes.length:Int))(h4:(a.ab.getD e.a.toNat db).up=true)(h5:e.c≥(a.ab.getD e.a.toNat db).saved):dv a e=(4,a):=by
 unfold dv
 rw[if_neg (He h h2 h3),if_pos (by rw[show(sA a e.a).up=true from h4,decide_eq_true (show(sA a e.a).saved≤e.c from h5)];rfl)]
theorem Nu(h4:(a.ab.getD e.a.toNat db).up=true)(h5:¬e.c≥(a.ab.getD e.a.toNat db).saved):¬(!(sA a e.a).up||decide ((sA a e.a).saved≤e.c))=true:=by
 rw[show(sA a e.a).up=true from h4,decide_eq_false (show¬(sA a e.a).saved≤e.c from h5)]
 decide
theorem NB(h:bY a e.b=true)(h2:¬e.a=e.b)(h3:¬e.c≥((a.ab.getD e.a.toNat db).notes.length:Int))(h4:(a.ab.getD e.a.toNat db).up=true)(h5:¬e.c≥(a.ab.getD e.a.toNat db).saved)(h6:a.aw.length=12):dv a e=(3,a):=by
 unfold dv
 rw[if_neg (He h h2 h3),if_neg (Nu h4 h5),if_pos h6]
theorem NF(h:bY a e.b=true)(h2:¬e.a=e.b)(h3:¬e.c≥((a.ab.getD e.a.toNat db).notes.length:Int))(h4:(a.ab.getD e.a.toNat db).up=true)(h5:¬e.c≥(a.ab.getD e.a.toNat db).saved)(h6:¬a.aw.length=12):dv a e=(0,⟨a.sig,a.ab,a.aw++[⟨e.b,(a.ab.getD e.a.toNat db).notes.getD e.c.toNat n0⟩]⟩):=by
 unfold dv
 rw[if_neg (He h h2 h3),if_neg (Nu h4 h5),if_neg h6]
end
theorem MG(a:af)(e:aS)(hw:WA a)(he:EA e)(hp:e.a<(a.ab.length:Int)):ah Tryz.prog 84 [.c (.op (cj a)), .a 9 (aT e)] [some [.op (cj (dv a e).2)],none] (I (dv a e).1):=by
 have hpl:e.a.toNat<a.ab.length:=by have:=he.ra;omega
 have hra:=he.ra
 have hrc:=he.rc
 have h12:=hw.f12
 have h20:=(hw.sv _ hpl).1
 have hbn:∀k,k<(a.ab.getD e.a.toNat db).notes.length→bu ((a.ab.getD e.a.toNat db).notes.getD k n0)≤1048576:=fun k hk=>by rw[getD_eq hk];exact hw.bn _ hpl _ (List.getElem_mem hk)
 have hpl2:∀x,aD Tryz.prog 81 [.a 4 [J a.sig.au,J a.sig.ai, .ro 3 (cW ((a.ab.map bI).set e.a.toNat x)), .ro 8 (a.aw.map aQ)],I e.b] (B (bY a e.b)):=fun x=>AD a _ x _
 obtain⟨pb,hpb⟩:∃pb,pb=bY a e.b:=⟨_,rfl⟩
 rw[←hpb] at hpl2
 refine Jb Tryz.func84 (fun reg_=>match reg_ with|1=>true|_=>false) (h:= ?_)
 repeat'((conv=>whnf);first
  |(guard_target=Gh _ _ _ _ _;refine Gh.go ?_))
 all_goals(conv=>whnf)
 all_goals try refine iV.opens 0 e.a.toNat 1 rfl (aF (d:=db) hpl) rfl fun v=>iV.go ?_
 repeat'((conv=>whnf);first
  |(guard_target=~ aq (I 2=_) _;have hd:dv a e=(2,a):=(by first|exact LA (by rw[←hpb];assumption)|exact JO (by rw[←hpb];assumption) (by assumption)|exact Ky (by rw[←hpb];assumption) (by assumption) (by assumption));rw[hd];exact aq.mk rfl ⟨rfl,trivial⟩)|(guard_target=~ aq (I 4=_) _;have hd:dv a e=(4,a):=(by first|exact K3 (by rw[←hpb];assumption) (by assumption) (by assumption) (by assumption)|exact K1 (by rw[←hpb];assumption) (by assumption) (by assumption) (by assumption) (by assumption));rw[hd];exact aq.mk rfl ⟨rfl,trivial⟩)|(guard_target=~ aq (I 3=_) _;have hd:dv a e=(3,a):=NB (by rw[←hpb];assumption) (by assumption) (by assumption) (by assumption) (by assumption) (by omega);rw[hd];exact aq.mk rfl ⟨rfl,trivial⟩)|(guard_target=~ aq (I 0=_) _;have hd:=NF (a:=a) (e:=e) (by rw[←hpb];assumption) (by assumption) (by assumption) (by assumption) (by assumption) (by omega);rw[hd];exact aq.mk rfl ⟨congrArg (FB a) (by rw[List.map_append];rfl),trivial⟩)
  |(apply Fact.mk;intro hL;try simp only[List.length_map,maxLen] at hL)
  |((first|apply bA|apply bB|apply bC|apply bD|apply bE|apply bF)<;>intro h<;>(try simp only[List.length_map] at h)<;>(try omega)<;>(try contradiction))|(guard_target=aa _ 81 _ _ _ _;refine cP rfl (hpl2 _) ?_)|(guard_target=aa _ 78 _ _ _ _;refine cG [] rfl (mL _ (hbn e.c.toNat (by omega))) ?_)|(guard_target=Gh _ _ _ _ _;refine Gh.iO 0 e.a.toNat 1 4 rfl (cy (by rw[List.length_map];exact hpl)) rfl rfl rfl (Gh.soft 0 (b':= .aG none 47 3 (a.ab.map bI)) (.aG (jQ hpl rfl)) (Gh.go ?_)))|(guard_target=Index _ _ _;first|(refine Index.mk _ (cy (by rw[List.length_map];exact hpl)) ?_)|(refine Index.mk _ (aF (d:=n0) (i:=e.c.toNat) (by omega)) ?_)|fail)
  |refine nB ?_|(guard_target=bH _ _ _;first|refine bH.row 4 rfl ?_|refine bH.aG 4 rfl ?_)|(guard_target=aV _ _;refine aV.mk (by first|((simp only[List.length_set,List.length_map];omega))|((simp only[List.length_cons,List.length_nil,List.length_map,maxLen];constructor<;>omega))|fail) ?_))
 all_goals(try(conv=>whnf))
theorem Fj(a:af)(e:aS)(hw:WA a)(he:EA e)(hp:bY a e.a=true):ah Tryz.prog 120 [.c (.op (cj a)), .c (.rp 9 (aT e))] [some [.op (cj (dv a e).2)],none] (I (dv a e).1):=by
 have hpl:e.a.toNat<a.ab.length:=by have:=bX hp;have:=hw.n5;omega
 have hra:=he.ra
 have hrc:=he.rc
 have h12:=hw.f12
 have h20:=(hw.sv _ hpl).1
 have hbn:∀k,k<(a.ab.getD e.a.toNat db).notes.length→bu ((a.ab.getD e.a.toNat db).notes.getD k n0)≤1048576:=fun k hk=>by rw[getD_eq hk];exact hw.bn _ hpl _ (List.getElem_mem hk)
 have hpl1:∀x,aD Tryz.prog 104 [.c (.rp 4 [J a.sig.au,J a.sig.ai, .ro 3 (cW ((a.ab.map bI).set e.a.toNat x)), .ro 8 (a.aw.map aQ)]),I e.a] (B true):=fun x=>by
  have:=xT a e.a.toNat x e.a
  rwa[hp] at this
 have hpl2:∀x,aD Tryz.prog 104 [.c (.rp 4 [J a.sig.au,J a.sig.ai, .ro 3 (cW ((a.ab.map bI).set e.a.toNat x)), .ro 8 (a.aw.map aQ)]),I e.b] (B (bY a e.b)):=fun x=>xT a _ x _
 obtain⟨pb,hpb⟩:∃pb,pb=bY a e.b:=⟨_,rfl⟩
 rw[←hpb] at hpl2
 refine Jb Tryz.func120 (fun reg_=>match reg_ with|1=>true|_=>false) (h:= ?_)
 repeat'((conv=>whnf);first
  |(guard_target=Gh _ _ _ _ _;refine Gh.go ?_))
 all_goals(conv=>whnf)
 all_goals try refine iV.opens 0 e.a.toNat 1 rfl (aF (d:=db) hpl) rfl fun v=>iV.go ?_
 repeat'((conv=>whnf);first
  |(guard_target=~ aq (I 2=_) _;have hd:dv a e=(2,a):=(by first|exact LA (by rw[←hpb];assumption)|exact JO (by rw[←hpb];assumption) (by assumption)|exact Ky (by rw[←hpb];assumption) (by assumption) (by assumption));rw[hd];exact aq.mk rfl ⟨rfl,trivial⟩)|(guard_target=~ aq (I 4=_) _;have hd:dv a e=(4,a):=(by first|exact K3 (by rw[←hpb];assumption) (by assumption) (by assumption) (by assumption)|exact K1 (by rw[←hpb];assumption) (by assumption) (by assumption) (by assumption) (by assumption));rw[hd];exact aq.mk rfl ⟨rfl,trivial⟩)|(guard_target=~ aq (I 3=_) _;have hd:dv a e=(3,a):=NB (by rw[←hpb];assumption) (by assumption) (by assumption) (by assumption) (by assumption) (by omega);rw[hd];exact aq.mk rfl ⟨rfl,trivial⟩)|(guard_target=~ aq (I 0=_) _;have hd:=NF (a:=a) (e:=e) (by rw[←hpb];assumption) (by assumption) (by assumption) (by assumption) (by assumption) (by omega);rw[hd];exact aq.mk rfl ⟨congrArg (FB a) (F8 (p:=⟨e.b,(a.ab.getD e.a.toNat db).notes.getD e.c.toNat n0⟩) (oL ⟨e.b,(a.ab.getD e.a.toNat db).notes.getD e.c.toNat n0⟩)),trivial⟩)
  |(apply Fact.mk;intro hL;try simp only[List.length_map,maxLen] at hL)
  |((first|apply bA|apply bB|apply bC|apply bD|apply bE|apply bF)<;>intro h<;>(try simp only[List.length_map] at h)<;>(try omega)<;>(try contradiction))|(guard_target=aa _ 104 _ _ _ _;refine cP rfl (hpl1 _) ?_)|(guard_target=aa _ 104 _ _ _ _;refine cP rfl (hpl2 _) ?_)|(guard_target=aa _ 108 _ _ _ _;refine aa.own _ _ (GX rfl (aF (d:=n0) (i:=e.c.toNat) (by omega))) (kf _ (hbn e.c.toNat (by omega))) (zO _) _ rfl ?_)|(guard_target=Gh _ _ _ _ _;refine Gh.iO 0 e.a.toNat 1 3 rfl (cy (by rw[List.length_map];exact hpl)) rfl rfl rfl (Gh.soft 0 (b':= .aG none 47 3 (a.ab.map bI)) (.aG (jQ hpl rfl)) (Gh.soft 1 gH.row (Gh.go ?_))))|(guard_target=Gh _ _ _ _ _;refine Gh.iO 0 e.a.toNat 1 3 rfl (cy (by rw[List.length_map];exact hpl)) rfl rfl rfl (Gh.soft 0 (b':= .aG none 47 3 (a.ab.map bI)) (.aG (jQ hpl rfl)) (Gh.go ?_)))|(guard_target=Index _ _ _;first|(refine Index.mk _ (cy (by rw[List.length_map];exact hpl)) ?_)|fail)
  |refine nB ?_|(guard_target=bH _ _ _;first|refine bH.row 3 rfl ?_|refine bH.aG 3 rfl ?_)|(guard_target=aV _ _;refine aV.mk (by first|((simp only[List.length_set,List.length_map];omega))|((simp only[List.length_cons,List.length_nil,List.length_map,maxLen];constructor<;>omega))|fail) ?_))
 all_goals(try(conv=>whnf))
end Go.Proofs.YtgbggaddpbghfaaGreat
namespace Go.Proofs.YtgbggaddpbghfaaGreat
open Go Go.KA Go.Proofs Go.RowKit
set_option maxHeartbeats 16000000
set_option maxRecDepth 1000000
theorem j1(b:Nat):∀(vs:List Value) (o:Nat) (w:World) (cur:Array Value) (ty:TypeId) (fz:Nat × Nat),w.heap[b]? =some (.cells cur ty fz)→o+vs.length≤cur.size→
 ∃cur',(w.setCells b o vs).heap[b]? =some (.cells cur' ty fz)∧cur'.toList=cur.toList.take o++vs++cur.toList.drop (o+vs.length)
 |[],o,w,cur,ty,fz,h,_=>⟨cur,h,by simp⟩
 |v::vs,o,w,cur,ty,fz,h,hl=>by
  have hl':o<cur.size:=by simp only[List.length_cons] at hl;omega
  have h1:(w.setCell ⟨b,o,none⟩ v).heap[b]? =some (.cells (cur.setIfInBounds o v) ty fz):=by
   simp[World.setCell,Array.getElem?_modify,h]
  obtain⟨cur',h2,h3⟩:=j1 b vs (o+1) _ _ ty fz h1 (by simp only[List.length_cons] at hl;simp;omega)
  refine⟨cur',h2, ?_⟩
  rw[h3]
  have hlen:o<cur.toList.length:=by simpa using hl'
  have e1:(cur.setIfInBounds o v).toList=cur.toList.set o v:=by simp
  rw[e1,List.take_set,List.drop_set]
  rw[if_pos (by omega)]
  have e2:(cur.toList.take (o+1)).set o v=cur.toList.take o++[v]:=by
   rw[List.take_succ_eq_append_getElem hlen,List.set_append_right _ _ (by rw[List.length_take];omega),List.length_take]
   rw[show o-min o cur.toList.length=0 by omega]
   rfl
  rw[e2,List.length_cons,show o+1+vs.length=o+(vs.length+1) by omega]
  simp
theorem mT(b:Nat):∀(vs:List Value) (o:Nat) (w:World),(w.setCells b o vs).os=w.os∧(w.setCells b o vs).tape=w.tape∧(w.setCells b o vs).output=w.output∧(w.setCells b o vs).heap.size=w.heap.size∧∀k,k≠b→(w.setCells b o vs).heap[k]? =w.heap[k]?
 |[],o,w=>⟨rfl,rfl,rfl,rfl,fun _ _=>rfl⟩
 |v::vs,o,w=>by
  obtain⟨h1,h2,h3,h4,h5⟩:=mT b vs (o+1) (w.setCell ⟨b,o,none⟩ v)
  refine⟨h1,h2,h3,h4.trans (by simp[World.setCell]),fun k hk=>(h5 k hk).trans ?_⟩
  simp[World.setCell,Array.getElem?_modify,Ne.symm hk]
abbrev Z8:List Value:=[.int .i64 0, .bool false, .int .i64 0, .int .i64 0, .slice none 0 0, .int .i64 0, .int .i64 0, .slice none 0 0]
theorem DD(b n c i:Nat)(cur:Array Value)(w:World)(hb:w.heap[b]? =some (.cells cur 89 (0,0)))(hi:i<n)(hc:n≤c)(hm:c≤9223372036854775807)(hs:cur.size=c*8)(h1:∀v∈cur.toList.take (n*8),v.oneCell'=true):
 Calls Tryz.prog 80 #[.slice (some ⟨b,0,none⟩) n c, .int .i64 i, .int .i64 ((i:Int)+1)] w fun e w'=>e= .returned (.slice (some ⟨b,0,none⟩) (i+(n-(i+1))) c)∧
  w'=(w.drew.setCells b (0+i*8) ((cur.toList.take (n*8)).drop ((i+1)*8))).setCells b ((i+(n-(i+1)))*8) Z8:=by
 obtain⟨news,hnews⟩:∃news,news=(cur.toList.take (n*8)).drop ((i+1)*8):=⟨_,rfl⟩
 have hcell:∀j,j<n*8→w.cell? ⟨b,j,none⟩=cur.toList[j]? ∧(cur.toList[j]?).isSome=true:=fun j hj=>by
  have hj':j<cur.size:=by omega
  constructor
  ·simp[World.cell?,hb]
  ·simp[hj']
 have hfz:∀j,w.frozen? ⟨b,j,none⟩=false:=fun j=>by
  simp[World.frozen?,hb]
 have hlen:news.length=(n-(i+1))*8:=by
  rw[hnews,List.length_drop,List.length_take,Array.length_toList,Nat.min_eq_left (by omega),←Nat.sub_mul]
 have hget:∀j u,news[j]? =some u→cur.toList[(i+1)*8+j]? =some u:=fun j u hu=>by
  rw[hnews,List.getElem?_drop,List.getElem?_take] at hu
  split at hu
  ·exact hu
  ·cases hu
 obtain⟨A,hA,hsrc⟩:∃A:Addr,(if c=i+1 then some (⟨b,0,none⟩:Addr) else some ⟨b,(i+1)*8,none⟩)=some A∧Hid (∀t u,news[t]? =some u→w.drew.cell? (A.add t)=some u):=by
  by_cases h:c=i+1
  ·refine⟨⟨b,0,none⟩,by simp[h],fun t u hu=> ?_⟩
   have h0:news.length=0:=by rw[hlen];have:n-(i+1)=0:=by omega
                             rw[this]
   rw[List.length_eq_zero_iff.1 h0] at hu
   simp at hu
  ·refine⟨⟨b,(i+1)*8,none⟩,by simp[h],fun t u hu=> ?_⟩
   have ht:t<(n-(i+1))*8:=by
        have:=(List.getElem?_eq_some_iff.1 hu).1
        rwa[hlen] at this
   rw[Addr.add_lit]
   exact((hcell _ (by omega)).1).trans (hget t u hu)
 have s1:Hid (news.length=(n-(i+1))*8):=hlen
 have s2:Hid (∀u∈news,u.oneCell'=true):=by
  intro u hu
  rw[hnews] at hu
  exact h1 u (List.mem_of_mem_drop hu)
 have s3:Hid (∀t,t<news.length→(w.drew.cell? ⟨b,0+i*8+t,none⟩).isSome=true∧w.drew.frozen? ⟨b,0+i*8+t,none⟩=false):=by
  intro t ht
  rw[hlen] at ht
  rw[Nat.zero_add]
  exact⟨by show(w.cell? _).isSome=true;rw[(hcell _ (by omega)).1];exact(hcell _ (by omega)).2,hfz _⟩
 obtain⟨W1,hW1⟩:∃W1,W1=w.drew.setCells b (0+i*8) news:=⟨_,rfl⟩
 obtain⟨cur1,hc1,hl1⟩:=j1 b news (0+i*8) w.drew cur 89 (0,0) hb (by rw[hlen,hs];omega)
 rw[←hW1] at hc1
 have hsz1:cur1.size=c*8:=by
  have:=congrArg List.length hl1
  simp only[List.length_append,List.length_take,List.length_drop,Array.length_toList] at this
  omega
 have hcl:∀ty,(Builtin.clear_ #[27] ty #[.slice (some ⟨b,(i+(n-(i+1)))*8,none⟩) (n-(i+(n-(i+1)))) (c-(i+(n-(i+1))))]).run Tryz.prog W1= .ok (.tuple #[]) (W1.setCells b ((i+(n-(i+1)))*8) Z8):=by
  intro ty
  have e1:n-(i+(n-(i+1)))=1:=by omega
  rw[e1]
  have hst:=run_storeCells_cells (P:=Tryz.prog) b ((i+(n-(i+1)))*8) Z8 0 W1 (fun j hj=>by
   have hj:j<8:=hj
   have:(i+(n-(i+1)))*8+0+j<cur1.size:=by rw[hsz1];omega
   simp[World.cell?,hc1];omega) (fun j hj=>by simp[World.frozen?,hc1]) (by intro v hv;simp only[Z8,List.mem_cons,List.not_mem_nil,or_false] at hv;rcases hv with rfl|rfl|rfl|rfl|rfl|rfl|rfl|rfl<;>rfl)
  simp only[Nat.add_zero] at hst
  have hz:(Builtin.zeroCells #[Value.int .i64 0, .bool false, .int .i64 0, .int .i64 0, .slice none 0 0, .int .i64 0, .int .i64 0, .slice none 0 0] 1).toList=Z8:=by first|(simp[Builtin.zeroCells];done)|decide|kernel_rfl|(simp[Builtin.zeroCells,Array.ofFn];rfl)
  simp[Builtin.clear_,run_underlying Tryz.underlying27,Tryz.zeroValue89,hz,hst,Value.cells]
 have hW:Hid (W1=w.drew.setCells b (0+i*8) news):=hW1
 have N:Aside (news=(cur.toList.take (n*8)).drop ((i+1)*8)):=hnews
 have X:Aside (W1=w.drew.setCells b (0+i*8) news):=hW1
 obtain⟨i0,hi0,hz0⟩:∃i0,Tryz.prog.info? 89=some i0∧i0.size=8:=by
  have:(Tryz.prog.info? 89).map (·.size)=some 8:=by kernel_rfl
  cases h:Tryz.prog.info? 89 with
  |none=>rw[h] at this;cases this
  |some i0=>rw[h] at this;exact⟨i0,rfl,by simpa using this⟩
 have hic:i≤c:=by omega
 have hp0:(0:Int)≤(i:Int)+1:=by omega
 have hp1:(i:Int)+1≤(n:Int):=by omega
 have hp2:((i:Int)+1).toNat=i+1:=by omega
 have hne:¬((i:Int)=(i:Int)+1):=by omega
 clear hW1 hcell hfz hget hl1 hnews hlen
 go_enter Tryz.func80,Tryz.ntmps80
 go_wp2_with fail
 go_region_law (refine step_append_room rfl (.tmp 22) (.tmp 25) 27 rfl 89 i0 8 Tryz.underlying27 hi0 hz0 b 0 i c (by simp[Act.eval,Act.put]) A (n-(i+1)) (c-(i+1)) news (by simp[Act.eval,Act.put]) s1.out hsrc.out s2.out (by omega) s3.out ?_;rw[←hW.out])
 go_wp2
 go_ret
 exact⟨rfl,by rw[←N.out,←X.out]⟩
theorem OC{w:World}{ok:Nat→Prop}{x:CV}{v:Value}{f:List Nat}{ty sz:Nat}{rows:List (List CV)}(hx:x= .ows ty sz rows)(h:qt w ok (.c x) v f):Den w ok [x] [v] f:=by
 subst hx
 cases h with
 |v h=>
  cases h fun _=>none with
  |c h=>cases h with
   |c h=>exact h
 |o h=>exact h
theorem LJ{w:World}{ok:Nat→Prop}{x v:Value}{f:List Nat}(h:qt w ok (.c (.val x)) v f):v=x∧f=[]:=by
 have key:∀{f},Den w ok [.val x] [v] f→v=x∧f=[]:=fun h=>by
  cases h with
  |val _ ht=>cases ht;exact⟨rfl,rfl⟩
 cases h with
 |v h=>
  cases h fun _=>none with
  |c h=>cases h with
   |c h=>exact key h
 |o h=>exact key h
theorem y9{α:Type}{sz:Nat}:∀{rows:List (List α)},(∀r∈rows,r.length=sz)→∀n:Nat,(rows.drop n).flatten=rows.flatten.drop (n*sz)
 |[],_,n=>by simp
 |r::rs,hr,0=>by simp
 |r::rs,hr,n+1=>by
  have h1:=hr r (by simp)
  rw[List.drop_succ_cons,List.flatten_cons,y9 (fun r h=>hr r (by simp[h])) n,List.drop_append,List.drop_of_length_le (l:=r) (by rw[h1,Nat.succ_mul];omega),h1,Nat.succ_mul,Nat.add_sub_cancel]
  rfl
end Go.Proofs.YtgbggaddpbghfaaGreat
namespace Go.Proofs.YtgbggaddpbghfaaGreat
open Go Go.KA Go.Proofs Go.RowKit
set_option maxHeartbeats 200000
set_option maxRecDepth 100000
theorem H5(l:List cB)(i:Nat)(hi:i<l.length):ah Tryz.prog 80 [.c (.ows 89 8 (l.map aQ)),I (i:Nat),I ((i:Int)+1)] [] (.c (.ows 89 8 ((l.take i++l.drop (i+1)).map aQ))):=by
 refine⟨⟨_,Tryz.func80,rfl,rfl⟩, ?_⟩
 intro w ok vs fs hok hal hnd hfs
 cases hal with
 |cons h ht=>
 cases ht with
 |cons h2 ht=>
 cases ht with
 |cons h3 ht=>
 cases ht
 obtain⟨rfl,rfl⟩:=LJ h2
 obtain⟨rfl,rfl⟩:=LJ h3
 have hd:=OC rfl h
 cases hd with
 | @ows _ _ _ _ _ _ xs v hin hr ho ht=>
 cases ht
 obtain⟨hlx,⟨_,h0⟩|⟨g,cap,cur,rfl,_,hb,hn,hm,hs,htk⟩⟩:=ho
 ·rw[List.length_map] at h0
  omega
 rw[List.length_map] at hlx hn htk
 have hN:(l.map aQ).length=l.length:=List.length_map _
 rw[hN] at hfs hnd⊢
 have hg:g<w.heap.size:=(Array.getElem?_eq_some_iff.1 hb).1
 have hng:¬ok g:=(hfs g (by simp[Value.ownBlock])).2
 refine(DD g l.length cap i cur w hb hi hn hm hs (by rw[htk];exact hin.one)).mono ?_
 rintro e w' ⟨rfl,rfl⟩
 rw[htk]
 have hml:(l.length-(i+1))*8+(i+1)*8=l.length*8:=by rw[←Nat.add_mul];congr 1;omega
 have hnl:(xs.drop ((i+1)*8)).length=(l.length-(i+1))*8:=by rw[List.length_drop,hlx];omega
 obtain⟨c1,hc1,e1⟩:=j1 g (xs.drop ((i+1)*8)) (0+i*8) w.drew cur 89 (0,0) hb (by rw[hnl,hs];omega)
 have hz1:c1.size=cap*8:=by
  have:=congrArg List.length e1
  simp only[List.length_append,List.length_take,List.length_drop,Array.length_toList] at this
  omega
 obtain⟨c2,hc2,e2⟩:=j1 g Z8 ((i+(l.length-(i+1)))*8) _ c1 89 (0,0) hc1 (by rw[hz1];show _+8≤_;omega)
 have hz2:c2.size=cap*8:=by
  have:=congrArg List.length e2
  simp only[List.length_append,List.length_take,List.length_drop,Array.length_toList,hz1] at this
  have h8:Z8.length=8:=rfl
  omega
 obtain⟨o1,o2,o3,o4,o5⟩:=mT g (xs.drop ((i+1)*8)) (0+i*8) w.drew
 obtain⟨q1,q2,q3,q4,q5⟩:=mT g Z8 ((i+(l.length-(i+1)))*8) (w.drew.setCells g (0+i*8) (xs.drop ((i+1)*8)))
 have hsame:∀k,k≠g→((w.drew.setCells g (0+i*8) (xs.drop ((i+1)*8))).setCells g ((i+(l.length-(i+1)))*8) Z8).heap[k]? =w.heap[k]? :=fun k hk=>(q5 k hk).trans (o5 k hk)
 have hsize:((w.drew.setCells g (0+i*8) (xs.drop ((i+1)*8))).setCells g ((i+(l.length-(i+1)))*8) Z8).heap.size=w.heap.size:=q4.trans o4
 have hr':∀r∈l.map aQ,r.length=8:=hr
 have hfl:((l.take i++l.drop (i+1)).map aQ).flatten=(l.map aQ).flatten.take (i*8)++(l.map aQ).flatten.drop ((i+1)*8):=by
  rw[List.map_append,List.flatten_append,List.map_take,List.map_drop,tU hr',y9 hr']
 have hll:(l.take i++l.drop (i+1)).length=i+(l.length-(i+1)):=by
  rw[List.length_append,List.length_take,List.length_drop]
  omega
 refine⟨_,[g],[],rfl,⟨q1.trans o1,q2.trans o2,q3.trans o3,by rw[hsize];exact Nat.le_refl _,fun k _ hk=>hsame k (fun e=>hk (by simp[e,Value.ownBlock]))⟩,by simp,fun k hk=> ?_, .v (.o ?_), .nil⟩
 ·have:k=g:=by simpa using hk
  subst this
  exact⟨.inl (by simp[Value.ownBlock]),by rw[hsize];exact hg⟩
 ·have hd:=((jm hin (i*8)).append (fG hin ((i+1)*8)))
  rw[←hfl] at hd
  refine Den.ows (xs:=xs.take (i*8)++xs.drop ((i+1)*8)) (f:=[]) (hd.mono (fun k hk=>hsame k (fun e=>hng (e▸hk))) (fun k hk=>⟨by rw[hsize];exact hok k hk, .inl hk,fun hm=>hng (by have:k=g:=by simpa using hm
                                                                                                                                                                                  exact this▸hk)⟩) (by simp)) (fun r hr1=> ?_) ?_ .nil
  ·obtain⟨p,_,rfl⟩:=List.mem_map.1 hr1
   rfl
  ·rw[List.length_map,hll]
   have hxl:(xs.take (i*8)++xs.drop ((i+1)*8)).length=(i+(l.length-(i+1)))*8:=by
        rw[List.length_append,hnl,List.length_take,hlx,Nat.min_eq_left (by omega),Nat.add_mul]
   refine⟨hxl, .inr ⟨g,cap,c2,rfl,Nat.zero_le _,hc2,by omega,hm,hz2, ?_⟩⟩
   have hcl:c1.toList.length=cap*8:=by simpa using hz1
   rw[e2,List.append_assoc,List.take_left' (by rw[List.length_take,hcl];omega),e1,Nat.zero_add,←hxl]
   have hci:cur.toList.take (i*8)=xs.take (i*8):=by
        rw[←htk,List.take_take,Nat.min_eq_left (by omega)]
   rw[hci,List.take_left' rfl]
end Go.Proofs.YtgbggaddpbghfaaGreat
