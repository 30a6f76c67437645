/- Contracts of the functions that look whether lists of expressions, steps, claims and proofs are valid. No conditions. -/
import Derived.Test.YtgbggaddpbghfaaGreatKAA
namespace Go.Proofs.YtgbggaddpbghfaaGreat
open Go Go.KA Go.Proofs
set_option maxHeartbeats 16000000
set_option maxRecDepth 100000
theorem nS{t a:Int}(h:bT t a=true):(0≤t∧t≤3)∧(0≤a∧a≤4):=by
 simp only[bT,dH,Bool.and_eq_true,decide_eq_true_eq] at h
 omega
theorem Hn(t a:Int)(ht:0≤t∧t≤3)(ha:0≤a∧a≤4)(e:ae):aE Tryz.prog 176 [.a 2 [J t,J a], .a 3 (af e)] (B (aW t a e)):=by
 rw[←IG]
 refine cF Tryz.func176 (h:= ?_)
 repeat'((conv=>whnf);first
  |(apply bo.mk;first|(rfl;done)|skip)|(guard_target=aa _ 205 _ _ _ _;refine cP rfl (yV t a ht ha e 200 40 (by omega) (by omega)) ?_)
  |refine nB ?_
  |apply cj.go
  |refine nO ?_)
theorem lF(t a:Int)(e:ae)(hl:ao e≤1048576):aE Tryz.prog 174 [.a 2 [J t,J a], .c (.rp 3 (af e))] (B (bT t a&&aW t a e)):=by
 refine cF Tryz.func174 (h:= ?_)
 repeat'((conv=>whnf);first
  |(apply bo.mk;first|(rfl;done)|(simp_all[aW,aN,aM];done)|(simp_all[aW,aN,aM];omega;done)|(simp_all[aW,aN,aM];intros;omega;done)|(simp_all[-List.all_eq_true, -List.all_eq_false,aW,aN,aM];done)|(simp_all[-List.all_eq_true, -List.all_eq_false,aW,aN,aM];omega;done)|skip)
  |((first|apply bA|apply bB|apply bC|apply bD|apply bE|apply bF)<;>intro h<;>(try simp only[List.length_map] at h)<;>(try omega)<;>(try contradiction))|(guard_target=aa _ 85 _ _ _ _;refine cP rfl (kJ t a) ?_)|(guard_target=aa _ 145 _ _ _ _;refine cP rfl (qF e 200 (by omega) (by omega)) ?_)|(guard_target=aa _ 200 _ _ _ _;refine cP rfl (ux e hl) ?_)|(guard_target=aa _ 201 _ _ _ _;refine cP rfl (wv t a (nS ‹_›).1 (nS ‹_›).2 e) ?_)
  |refine nO ?_)
theorem dM{α:Type}{p:α→Bool}{l:List α}{i:Nat}(h:i<l.length)(hp:p l[i]=false):l.all p=false:=qw h hp
theorem fy{α:Type}{p:α→Bool}{l:List α}{i:Nat}(h:i<l.length)(ha:i≤l.length∧(l.take i).all p=true)(hp:p l[i]=true):i+1≤l.length∧(l.take (i+1)).all p=true:=⟨h,ke h ha.2 hp⟩
theorem dG{α:Type}{p:α→Bool}{l:List α}{i:Nat}(h:¬(i:Int)<(l.length:Int))(ha:i≤l.length∧(l.take i).all p=true):l.all p=true:=by
 have:=ha.2
 rwa[List.take_of_length_le (by omega)] at this
theorem xf(l:List Int)(n:Int)(hn:0≤n∧n≤1048576):aE Tryz.prog 63 [.c (.ro 1 (l.map eI)),I n] (B (l.all (dH 0 (n-1)))):=by
 refine cF Tryz.func63 (h:= ?_)
 repeat'((conv=>whnf);first
  |(apply bo.mk;first|(rw[dM (i:=i) (by omega) h];rfl;done)|(rw[dG (by omega) ha];rfl;done)|skip)|(guard_target=~ aP 2 _ _ _ _ _ _;refine lp (Nat) [1,7,8] (fun i=>[(9,I i)]) (fun i=>i≤l.length∧(l.take i).all (dH 0 (n-1))=true) (fun i=>l.length-i) 0 (by exact⟨Nat.zero_le _,rfl⟩) (fun i ha=> ?_))
  |refine nx (i+1:Nat) (by exact fy (by omega) ha h)
  |(apply Fact.mk;intro hL;try simp only[List.length_map,maxLen] at hL)
  |((first|apply bA|apply bB|apply bC|apply bD|apply bE|apply bF)<;>intro h<;>(try simp only[List.length_map] at h)<;>(try omega)<;>(try contradiction))|(guard_target=aa _ 45 _ _ _ _;refine cP rfl (eU _ _ _) ?_)
  |refine aR ?_|(guard_target=Index _ _ _;first|refine Index.mk _ (bz (i:=i) (by omega)) ?_)
  |refine iX (k:= ?_)
  |apply ay.no
  |refine nO ?_)
theorem aF{α:Type}{f:α→List CV}{l:List α}{i:Nat}{d:α}(h:i<l.length):(l.map f)[i]? =some (f (l.getD i d)):=by
 rw[List.getElem?_map,List.getElem?_eq_getElem h,List.getD_eq_getElem?_getD,List.getElem?_eq_getElem h]
 rfl
theorem getD_eq{α:Type}{l:List α}{i:Nat}{d:α}(h:i<l.length):l.getD i d=l[i]:=by
 rw[List.getD_eq_getElem?_getD,List.getElem?_eq_getElem h]
 rfl
theorem bW{lo hi n:Int}(h:dH lo hi n=true):lo≤n∧n≤hi:=by
 simpa only[dH,Bool.and_eq_true,decide_eq_true_eq] using h
theorem dU{b:Bool}(h:b=false):aN (SV.c (.cb false))=B b:=by subst h;rfl
theorem fE{b:Bool}(h:b=true):aN (SV.c (.cb true))=B b:=by subst h;rfl
theorem qg(t a:Int)(hs:bT t a=true)(l:List ae):aE Tryz.prog 148 [.a 2 [J t,J a], .c (.ro 3 (l.map af))] (B (l.all (aW t a))):=by
 refine cF Tryz.func148 (h:= ?_)
 repeat'((conv=>whnf);first
  |(apply bo.mk;first|(rw[dM (i:=i) (by omega) h];rfl;done)|(rw[dG (by omega) ha,hs];rfl;done)|skip)|(guard_target=~ aP 2 _ _ _ _ _ _;refine lp (Nat) [2,7,8] (fun i=>[(9,I i)]) (fun i=>i≤l.length∧(l.take i).all (aW t a)=true) (fun i=>l.length-i) 0 (by exact⟨Nat.zero_le _,rfl⟩) (fun i ha=> ?_))
  |refine nx (i+1:Nat) (by exact fy (by omega) ha h)
  |(apply Fact.mk;intro hL;try simp only[List.length_map,maxLen] at hL)
  |((first|apply bA|apply bB|apply bC|apply bD|apply bE|apply bF)<;>intro h<;>(try simp only[List.length_map] at h)<;>(try omega)<;>(try contradiction))|(guard_target=aa _ 176 _ _ _ _;refine cP rfl (Hn t a (nS hs).1 (nS hs).2 _) ?_)|(guard_target=aa _ 44 _ _ _ _;refine cP rfl (ow t a) ?_)
  |refine aR ?_|(guard_target=Index _ _ _;first|refine Index.mk _ (bz (i:=i) (by omega)) ?_)
  |refine iX (k:= ?_)
  |apply ay.no
  |refine nO ?_)
theorem tW(l:List ae):aE Tryz.prog 177 [.c (.ro 3 (l.map af))] (B (l.all cS)):=by
 refine cF Tryz.func177 (h:= ?_)
 repeat'((conv=>whnf);first
  |(apply bo.mk;first|(rw[dM (i:=i) (by omega) h];rfl;done)|(rw[dG (by omega) ha];rfl;done)|skip)|(guard_target=~ aP 2 _ _ _ _ _ _;refine lp (Nat) [5,6] (fun i=>[(7,I i)]) (fun i=>i≤l.length∧(l.take i).all cS=true) (fun i=>l.length-i) 0 (by exact⟨Nat.zero_le _,rfl⟩) (fun i ha=> ?_))
  |refine nx (i+1:Nat) (by exact fy (by omega) ha h)
  |(apply Fact.mk;intro hL;try simp only[List.length_map,maxLen] at hL)
  |((first|apply bA|apply bB|apply bC|apply bD|apply bE|apply bF)<;>intro h<;>(try simp only[List.length_map] at h)<;>(try omega)<;>(try contradiction))|(guard_target=aa _ 206 _ _ _ _;refine cP rfl (lU _) ?_)
  |refine aR ?_|(guard_target=Index _ _ _;first|refine Index.mk _ (bz (i:=i) (by omega)) ?_)
  |refine iX (k:= ?_)
  |apply ay.no
  |refine nO ?_)
theorem CM(t a:Int)(hs:bT t a=true)(l:List ae)(hl:fm ao l≤1048576):aE Tryz.prog 203 [.a 2 [J t,J a], .c (.ro 3 (l.map af))] (B (l.all (aW t a))):=by
 have hb:∀i (h:i<l.length),ao l[i]≤1048576:=fun i h=>Nat.le_trans (cY ao (List.getElem_mem h)) hl
 refine cF Tryz.func203 (h:= ?_)
 repeat'((conv=>whnf);first
  |(apply bo.mk;first|(rw[hs,Bool.true_and] at h;rw[dM (i:=i) (by omega) h];rfl;done)|(rw[dG (by omega) ha];rfl;done)|skip)|(guard_target=~ aP 2 _ _ _ _ _ _;refine lp (Nat) [1,2] (fun i=>[(5,I i)]) (fun i=>i≤l.length∧(l.take i).all (aW t a)=true) (fun i=>l.length-i) 0 (by exact⟨Nat.zero_le _,rfl⟩) (fun i ha=> ?_))
  |refine nx (i+1:Nat) (by(rw[hs,Bool.true_and] at h;exact fy (by omega) ha h))
  |(apply Fact.mk;intro hL;try simp only[List.length_map,maxLen] at hL)
  |((first|apply bA|apply bB|apply bC|apply bD|apply bE|apply bF)<;>intro h<;>(try simp only[List.length_map] at h)<;>(try omega)<;>(try contradiction))|(guard_target=aa _ 174 _ _ _ _;refine cP rfl (lF t a _ (hb i (by omega))) ?_)
  |refine aR ?_|(guard_target=Index _ _ _;first|refine Index.mk _ (bz (i:=i) (by omega)) ?_)
  |refine iX (k:= ?_)
  |refine nB ?_
  |apply ay.no
  |apply cj.go
  |refine nO ?_)
theorem tM(l:List ae):aE Tryz.prog 204 [.c (.ro 3 (l.map af))] (B (l.all cS)):=by
 refine cF Tryz.func204 (h:= ?_)
 repeat'((conv=>whnf);first
  |(apply bo.mk;first|(rw[dM (i:=i) (by omega) h];rfl;done)|(rw[dG (by omega) ha];rfl;done)|skip)|(guard_target=~ aP 2 _ _ _ _ _ _;refine lp (Nat) [0] (fun i=>[(3,I i)]) (fun i=>i≤l.length∧(l.take i).all cS=true) (fun i=>l.length-i) 0 (by exact⟨Nat.zero_le _,rfl⟩) (fun i ha=> ?_))
  |refine nx (i+1:Nat) (by exact fy (by omega) ha h)
  |(apply Fact.mk;intro hL;try simp only[List.length_map,maxLen] at hL)
  |((first|apply bA|apply bB|apply bC|apply bD|apply bE|apply bF)<;>intro h<;>(try simp only[List.length_map] at h)<;>(try omega)<;>(try contradiction))|(guard_target=aa _ 214 _ _ _ _;refine cP rfl (iI _) ?_)
  |refine aR ?_|(guard_target=Index _ _ _;first|refine Index.mk _ (bz (i:=i) (by omega)) ?_)
  |refine iX (k:= ?_)
  |apply ay.no
  |refine nO ?_)
end Go.Proofs.YtgbggaddpbghfaaGreat
namespace Go.Proofs.YtgbggaddpbghfaaGreat
open Go Go.KA Go.Proofs
set_option maxHeartbeats 16000000
set_option maxRecDepth 100000
def b9(t a:Int)(s:aB):Bool:=
 dH (-40) 23 s.use&&(decide ((s.path.length:Int)≤40)&&(s.path.all (dH 0 1)&&(decide ((s.au.length:Int)≤3)&&(decide ((s.c9.length:Int)≤4)&&(s.au.all (aW t a)&&(s.au.all cS&&s.c9.all (aW t a)))))))
theorem HP(t a:Int)(hs:bT t a=true)(s:aB):aE Tryz.prog 149 [.a 2 [J t,J a], .a 5 (bU s)] (B (b9 t a s)):=by
 have hr:aE Tryz.prog 63 [.c (.ro 1 (s.path.map eI)),I 2] (B (s.path.all (dH 0 1))):=xf s.path 2 (by omega)
 refine cF Tryz.func149 (h:= ?_)
 repeat'((conv=>whnf);first
  |(apply bo.mk;first|(rfl;done)|(simp_all[b9,aN,aM];done)|(simp_all[b9,aN,aM];omega;done)|(simp_all[b9,aN,aM];intros;omega;done)|(simp_all[-List.all_eq_true, -List.all_eq_false,b9,aN,aM];done)|(simp_all[-List.all_eq_true, -List.all_eq_false,b9,aN,aM];omega;done)|skip)
  |(apply Fact.mk;intro hL;try simp only[List.length_map,maxLen] at hL)
  |((first|apply bA|apply bB|apply bC|apply bD|apply bE|apply bF)<;>intro h<;>(try simp only[List.length_map] at h)<;>(try omega)<;>(try contradiction))|(guard_target=aa _ 45 _ _ _ _;refine cP rfl (eU _ _ _) ?_)|(guard_target=aa _ 63 _ _ _ _;refine cP rfl (hr) ?_)|(guard_target=aa _ 148 _ _ _ _;refine cP rfl (qg t a hs _) ?_)|(guard_target=aa _ 177 _ _ _ _;refine cP rfl (tW _) ?_)
  |refine nO ?_)
theorem x7:∃rows:List (List CV),rows.length=24∧ai Tryz.prog 202 [] [] (.c (.ows 9 1 rows)):=by
 refine⟨?rows, ?h1, ?h2⟩
 case h2=>
  refine cX Tryz.func202 (h:= ?_)
  repeat'((conv=>whnf);first
   |(refine ah.mk ?_ ?_;first|(rfl;done)|skip)
   |(apply Fact.mk;intro hL;try simp only[List.length_map,maxLen] at hL)
   |refine nO ?_)
  all_goals trivial
 case h1=>rfl
theorem EC(t a:Int)(hs:bT t a=true)(s:aB)(hl:bO s≤1048576):aE Tryz.prog 175 [.a 2 [J t,J a], .c (.rp 5 (bU s))] (B (b9 t a s)):=by
 obtain⟨rows,hr,hx⟩:=x7
 simp only[bO] at hl
 refine cF Tryz.func175 (h:= ?_)
 repeat'((conv=>whnf);first
  |(apply bo.mk;first|(rfl;done)|(simp_all[b9,aN,aM];done)|(simp_all[b9,aN,aM];omega;done)|(simp_all[b9,aN,aM];intros;omega;done)|(simp_all[-List.all_eq_true, -List.all_eq_false,b9,aN,aM];done)|(simp_all[-List.all_eq_true, -List.all_eq_false,b9,aN,aM];omega;done)|(have h9:=dM (i:=i) (by omega) h;clear ha;simp_all[-List.all_eq_true, -List.all_eq_false,b9,aN,aM];done)|(have h9:=dG (by omega) ha;clear ha;simp_all[-List.all_eq_true, -List.all_eq_false,b9,aN,aM];done)|(have h9:=dG (by omega) ha;simp_all[-List.all_eq_true, -List.all_eq_false,b9,aN,aM];done)|(have h9:=dM (i:=i) (by omega) h;clear ha;simp_all[-List.all_eq_true, -List.all_eq_false,b9,aN,aM];omega;done)|(have h9:=dG (by omega) ha;clear ha;simp_all[-List.all_eq_true, -List.all_eq_false,b9,aN,aM];omega;done)|(have h9:=dG (by omega) ha;simp_all[-List.all_eq_true, -List.all_eq_false,b9,aN,aM];omega;done)|skip)|(guard_target=~ aP 4 _ _ _ _ _ _;refine lp (Nat) [1,2] (fun i=>[(5,I i)]) (fun i=>i≤s.path.length∧(s.path.take i).all (dH 0 1)=true) (fun i=>s.path.length-i) 0 (by exact⟨Nat.zero_le _,rfl⟩) (fun i ha=> ?_))
  |refine nx (i+1:Nat) (by exact fy (by omega) ha h)
  |(apply Fact.mk;intro hL;try simp only[List.length_map,maxLen] at hL)
  |((first|apply bA|apply bB|apply bC|apply bD|apply bE|apply bF)<;>intro h<;>(try simp only[List.length_map] at h)<;>(try omega)<;>(try contradiction))|(guard_target=aa _ 86 _ _ _ _;refine cP rfl (dE _ _ _) ?_)|(guard_target=aa _ 202 _ _ _ _;refine cG [] rfl (hx) ?_)|(guard_target=aa _ 203 _ _ _ _;refine cP rfl (CM t a hs _ (by omega)) ?_)|(guard_target=aa _ 204 _ _ _ _;refine cP rfl (tM _) ?_)
  |refine aR ?_|(guard_target=Index _ _ _;first|refine Index.mk _ (bz (i:=i) (by omega)) ?_)
  |refine iX (k:= ?_)
  |refine nB ?_
  |apply ay.no
  |apply cj.go
  |refine nO ?_)
end Go.Proofs.YtgbggaddpbghfaaGreat
namespace Go.Proofs.YtgbggaddpbghfaaGreat
open Go Go.KA Go.Proofs
set_option maxHeartbeats 16000000
set_option maxRecDepth 100000
def cI(t a:Int)(c:bw):Bool:=
 aW t a c.left&&(aW t a c.right&&(dH 1 3 c.j9&&(dH 0 39 c.ref&&(decide ((c.steps.length:Int)≤60)&&((if c.j9=1 then decide (c.ref=0) else decide ((c.steps.length:Int)=0))&&c.steps.all (b9 t a))))))
def cD(p:cE):Bool:=bT p.sig.au p.sig.aq&&(decide ((p.aj.length:Int)≤40)&&p.aj.all (cI p.sig.au p.sig.aq))
theorem B7{t a:Int}{c:bw}{i:Nat}(hi:i<c.steps.length)(h:b9 t a c.steps[i]=false):cI t a c=false:=by
 unfold cI
 rw[qw hi h]
 simp
abbrev CC(t a:Int)(c:bw):Prop:=aW t a c.left=true∧aW t a c.right=true∧dH 1 3 c.j9=true∧dH 0 39 c.ref=true∧(c.steps.length:Int)≤60∧(if c.j9=1 then c.ref=0 else(c.steps.length:Int)=0)
theorem yE{t a:Int}{c:bw}(h:CC t a c)(h7:c.steps.all (b9 t a)=true):cI t a c=true:=by
 obtain⟨h1,h2,h3,h4,h5,h6⟩:=h
 unfold cI
 rw[h1,h2,h3,h4,h7]
 by_cases hr:c.j9=1<;>simp_all
theorem w6{t a:Int}{c:bw}(h:¬CC t a c):cI t a c=false:=by
 cases hb:cI t a c with
 |false=>rfl
 |true=>
  refine absurd ?_ h
  unfold cI at hb
  simp only[Bool.and_eq_true,decide_eq_true_eq] at hb
  obtain⟨h1,h2,h3,h4,h5,h6,_⟩:=hb
  refine⟨h1,h2,h3,h4,h5, ?_⟩
  by_cases hr:c.j9=1
  ·rw[if_pos hr] at h6⊢;exact of_decide_eq_true h6
  ·rw[if_neg hr] at h6⊢;exact of_decide_eq_true h6
theorem Bf(t a:Int)(hs:bT t a=true)(c:bw)(hl:bY c≤1048576):aE Tryz.prog 144 [.a 2 [J t,J a], .c (.rp 9 (aH c))] (B (cI t a c)):=by
 simp only[bY] at hl
 have h1:=lF t a c.left (by omega)
 have h2:=lF t a c.right (by omega)
 rw[a9,hs,Bool.true_and] at h1 h2
 have h1':aE Tryz.prog 174 [.a 2 [J t,J a], .c (.rp 9 (aH c))] (B (aW t a c.left)):=h1.cut (.same (.cut (k:=3) (by omega) .nil))
 have h2':aE Tryz.prog 174 [.a 2 [J t,J a], .c (.rp 6 ((aH c).drop 3))] (B (aW t a c.right)):=h2.cut (.same (.cut (k:=3) (by omega) .nil))
 have hst:∀i (h:i<c.steps.length),bO c.steps[i]≤1048576:=fun i h=>Nat.le_trans (cY bO (List.getElem_mem h)) (by omega)
 refine cF Tryz.func144 (h:= ?_)
 repeat'((conv=>whnf);first
  |(apply bo.mk;first|(exact dU (B7 (i:=i) (by omega) h);done)|(rw[yE ⟨‹_›,‹_›,‹_›,‹_›,by omega,by split<;>omega⟩ (dG (by omega) ha)];rfl;done)|((refine dU (w6 ?_);rintro⟨g1,g2,g3,g4,g5,g6⟩;(try simp only[g1,g2,g3,g4] at h);first|(cases h;done)|omega|(split at g6<;>omega));done)|skip)|(guard_target=~ aP 6 _ _ _ _ _ _;refine lp (Nat) [1,2] (fun i=>[(5,I i)]) (fun i=>i≤c.steps.length∧(c.steps.take i).all (b9 t a)=true) (fun i=>c.steps.length-i) 0 (by exact⟨Nat.zero_le _,rfl⟩) (fun i ha=> ?_))
  |refine nx (i+1:Nat) (by exact fy (by omega) ha h)
  |(apply Fact.mk;intro hL;try simp only[List.length_map,maxLen] at hL)
  |((first|apply bA|apply bB|apply bC|apply bD|apply bE|apply bF)<;>intro h<;>(try simp only[List.length_map] at h)<;>(try omega)<;>(try contradiction))|(guard_target=aa _ 86 _ _ _ _;refine cP rfl (dE _ _ _) ?_)|(guard_target=aa _ 175 _ _ _ _;refine cP rfl (EC t a hs _ (hst i (by omega))) ?_)|(guard_target=aa _ 174 _ _ _ _;(first|refine aa.pure _ _ rfl h1' rfl _ rfl ?_|refine aa.pure _ _ rfl h2' rfl _ rfl ?_))
  |refine aR ?_|(guard_target=Index _ _ _;first|refine Index.mk _ (bz (i:=i) (by omega)) ?_)
  |refine iX (k:= ?_)
  |refine nB ?_
  |apply ay.no
  |apply cj.go
  |refine nO ?_)
theorem Kx(p:cE)(hl:cC p≤1048576):aE Tryz.prog 116 [.c (.rp 3 (cL p))] (B (cD p)):=by
 have hc:∀i (h:i<p.aj.length),bY p.aj[i]≤1048576:=fun i h=>by
  have:=cY bY (List.getElem_mem h)
  simp only[cC] at hl
  omega
 refine cF Tryz.func116 (h:= ?_)
 repeat'((conv=>whnf);first
  |(apply bo.mk;first|(rfl;done)|(simp_all[cD,aN,aM];done)|(simp_all[cD,aN,aM];omega;done)|(simp_all[cD,aN,aM];intros;omega;done)|(simp_all[-List.all_eq_true, -List.all_eq_false,cD,aN,aM];done)|(simp_all[-List.all_eq_true, -List.all_eq_false,cD,aN,aM];omega;done)|(have h9:=dM (i:=i) (by omega) h;clear ha;simp_all[-List.all_eq_true, -List.all_eq_false,cD,aN,aM];done)|(have h9:=dG (by omega) ha;clear ha;simp_all[-List.all_eq_true, -List.all_eq_false,cD,aN,aM];done)|(have h9:=dG (by omega) ha;simp_all[-List.all_eq_true, -List.all_eq_false,cD,aN,aM];done)|(have h9:=dM (i:=i) (by omega) h;clear ha;simp_all[-List.all_eq_true, -List.all_eq_false,cD,aN,aM];omega;done)|(have h9:=dG (by omega) ha;clear ha;simp_all[-List.all_eq_true, -List.all_eq_false,cD,aN,aM];omega;done)|(have h9:=dG (by omega) ha;simp_all[-List.all_eq_true, -List.all_eq_false,cD,aN,aM];omega;done)|skip)|(guard_target=~ aP 4 _ _ _ _ _ _;refine lp (Nat) [0] (fun i=>[(3,I i)]) (fun i=>i≤p.aj.length∧(p.aj.take i).all (cI p.sig.au p.sig.aq)=true) (fun i=>p.aj.length-i) 0 (by exact⟨Nat.zero_le _,rfl⟩) (fun i ha=> ?_))
  |refine nx (i+1:Nat) (by exact fy (by omega) ha h)
  |(apply Fact.mk;intro hL;try simp only[List.length_map,maxLen] at hL)
  |((first|apply bA|apply bB|apply bC|apply bD|apply bE|apply bF)<;>intro h<;>(try simp only[List.length_map] at h)<;>(try omega)<;>(try contradiction))|(guard_target=aa _ 85 _ _ _ _;refine cP rfl (kJ _ _) ?_)|(guard_target=aa _ 144 _ _ _ _;refine cP rfl (Bf _ _ ‹_› _ (hc i (by omega))) ?_)
  |refine aR ?_|(guard_target=Index _ _ _;first|refine Index.mk _ (bz (i:=i) (by omega)) ?_)
  |refine iX (k:= ?_)
  |refine nB ?_
  |apply ay.no
  |apply cj.go
  |refine nO ?_)
abbrev c0:bw:=⟨.mk 0 0 [], .mk 0 0 [],0,0,[]⟩
theorem Bk{p:cE}{i:Nat}(hi:i<p.aj.length)(h:cI p.sig.au p.sig.aq (p.aj.getD i c0)=false):cD p=false:=by
 rw[show p.aj.getD i c0=p.aj[i] from getD_eq hi] at h
 unfold cD
 rw[qw hi h]
 simp
theorem Oo{p:cE}{i:Nat}(hi:i<p.aj.length)(h:CC p.sig.au p.sig.aq (p.aj.getD i c0))(h7:(p.aj.getD i c0).steps.all (b9 p.sig.au p.sig.aq)=true):cI p.sig.au p.sig.aq p.aj[i]=true:=by
 have:=yE h h7
 rwa[show p.aj.getD i c0=p.aj[i] from getD_eq hi] at this
theorem xX(p:cE):aE Tryz.prog 125 [.a 3 (cL p)] (B (cD p)):=by
 have hv:∀(hs:bT p.sig.au p.sig.aq=true) (c:bw),aE Tryz.prog 148 [.a 2 [J p.sig.au,J p.sig.aq], .c (.ro 3 [aI c.left,aI c.right])] (B (aW p.sig.au p.sig.aq c.left&&aW p.sig.au p.sig.aq c.right)):=by
  intro hs c
  have:=qg _ _ hs [c.left,c.right]
  simpa only[List.map_cons,List.map_nil,a9,List.all_cons,List.all_nil,Bool.and_true] using this
 refine cF Tryz.func125 (h:= ?_)
 repeat'((conv=>whnf);first
  |(apply bo.mk;first|(rfl;done)|(simp_all[cD,aN,aM];done)|(simp_all[cD,aN,aM];omega;done)|(simp_all[cD,aN,aM];intros;omega;done)|(simp_all[-List.all_eq_true, -List.all_eq_false,cD,aN,aM];done)|(simp_all[-List.all_eq_true, -List.all_eq_false,cD,aN,aM];omega;done)|(exact dU (Bk (i:=i) (by omega) (B7 (i:=k) (by omega) h));done)|((refine dU (Bk (i:=i) (by omega) (w6 ?_));rintro⟨g1,g2,g3,g4,g5,g6⟩;(try simp only[g1,g2,g3,g4,Bool.and_self] at h);first|(cases h;done)|omega|(split at g6<;>omega));done)|((have h9:=dG (by omega) ha;clear ha;unfold cD;rw[h9,‹bT _ _=true›,decide_eq_true (by omega)];rfl);done)|skip)|(guard_target=~ aP 4 _ _ _ _ _ _;refine lp (Nat) [1,18,19] (fun i=>[(20,I i)]) (fun i=>i≤p.aj.length∧(p.aj.take i).all (cI p.sig.au p.sig.aq)=true) (fun i=>p.aj.length-i) 0 (by exact⟨Nat.zero_le _,rfl⟩) (fun i ha=> ?_))|(guard_target=~ aP 11 _ _ _ _ _ _;refine lp (Nat) [1,18,19,20,71,72] (fun k=>[(73,I k)]) (fun k=>k≤(p.aj.getD i c0).steps.length∧((p.aj.getD i c0).steps.take k).all (b9 p.sig.au p.sig.aq)=true) (fun k=>(p.aj.getD i c0).steps.length-k) 0 (by exact⟨Nat.zero_le _,rfl⟩) (fun k ha=> ?_))
  |refine nx (k+1:Nat) (by exact fy (by omega) ha h)
  |refine nx (i+1:Nat) (by(have hcc:CC p.sig.au p.sig.aq (p.aj.getD i c0):=(by(try simp only[Bool.and_eq_true] at*);refine⟨(‹_∧_›:aW _ _ (p.aj.getD i c0).left=true∧aW _ _ (p.aj.getD i c0).right=true).1,(‹_∧_›:aW _ _ (p.aj.getD i c0).left=true∧aW _ _ (p.aj.getD i c0).right=true).2,‹_›,‹_›,by omega,by split<;>omega⟩);exact fy (by omega) ‹_∧(p.aj.take i).all _=true› (Oo (by omega) hcc (dG (by omega) ha))))
  |(apply Fact.mk;intro hL;try simp only[List.length_map,maxLen] at hL)
  |((first|apply bA|apply bB|apply bC|apply bD|apply bE|apply bF)<;>intro h<;>(try simp only[List.length_map] at h)<;>(try omega)<;>(try contradiction))|(guard_target=aa _ 44 _ _ _ _;refine cP rfl (ow _ _) ?_)|(guard_target=aa _ 148 _ _ _ _;refine cP rfl (hv ‹_› _) ?_)|(guard_target=aa _ 45 _ _ _ _;refine cP rfl (eU _ _ _) ?_)|(guard_target=aa _ 149 _ _ _ _;refine cP rfl (HP _ _ ‹_› _) ?_)
  |refine aR ?_|(guard_target=Index _ _ _;first|refine Index.mk _ (aF (d:=c0) (i:=i) (by omega)) ?_|refine Index.mk _ (bz (i:=k) (by omega)) ?_)
  |refine iX (k:= ?_)
  |apply ay.no
  |refine nO ?_)
end Go.Proofs.YtgbggaddpbghfaaGreat
namespace Go.Proofs.YtgbggaddpbghfaaGreat
open Go Go.KA Go.Proofs
set_option maxHeartbeats 16000000
set_option maxRecDepth 100000
theorem rU{α:Type}{f:α→Nat}{l:List α}{i:Nat}(h:¬i<l.length):c8 f (l.take i)=c8 f l:=by rw[List.take_of_length_le (by omega)]
theorem g8{α:Type}{f:α→Nat}{l:List α}{i:Nat}(h:i<l.length):c8 f (l.take (i+1))=c8 f (l.take i)+f l[i]:=ud (List.getElem?_eq_getElem h)
def cV(e:ae):Nat:=ao e+1
theorem Ak(e:ae):cV e=1+c8 cV e.kids:=by
 have key:∀l:List ae,aK l=c8 cV l:=by
  intro l
  induction l with
  |nil=>rfl
  |cons x xs ih=>simp only[aK,c8,cV,ih]
 cases e
 simp only[cV,ao,key,ae.kids]
 omega
theorem zT(e:ae)(hl:cV e≤1048577)(hx:∀x∈e.kids,aE Tryz.prog 150 [.a 3 (af x)] (I (cV x))):aE Tryz.prog 150 [.a 3 (aI e)] (I (cV e)):=by
 rw[Ak] at hl
 have hb:=pD (f:=cV) e.kids
 refine cF Tryz.func150 (h:= ?_)
 repeat'((conv=>whnf);first
  |(apply bo.mk;first|(rw[Ak,←rU (l:=e.kids) (i:=i) (by omega)];rfl;done)|skip)|(guard_target=~ aP 3 _ _ _ _ _ _;refine lp (Nat) [7,8] (fun i=>[(3,I (1+c8 cV (e.kids.take i):Nat)),(9,I i)]) (fun i=>i≤e.kids.length) (fun i=>e.kids.length-i) 0 (by exact Nat.zero_le _) (fun i ha=> ?_))
  |(apply Fact.mk;intro hL;try simp only[List.length_map,maxLen] at hL)
  |((first|apply bA|apply bB|apply bC|apply bD|apply bE|apply bF)<;>intro h<;>(try simp only[List.length_map] at h)<;>(try omega)<;>(try contradiction))|(guard_target=aa _ 150 _ _ _ _;refine cP rfl (hx _ (List.getElem_mem (by omega))) ?_)|(guard_target=Arith _ _ _;refine Arith.fit (aL (by have:=hb (i+1);rw[g8 (by omega)] at this;omega) (by have:=hb (i+1);rw[g8 (by omega)] at this;omega)) ?_)|(guard_target=Gh _ _ _ _ _;refine Gh.go ⟨i+1,(by omega),(by show _<_;(try simp only[]);omega),⟨⟨congrArg I (by rw[g8 (by omega)];omega),rfl⟩,⟨rfl,rfl⟩,trivial⟩,(by first|exact⟨⟨rfl,rfl⟩,⟨rfl,rfl⟩,trivial⟩),(by first|exact trivial|exact⟨⟨rfl,rfl⟩,trivial⟩|exact⟨⟨rfl,rfl⟩,⟨rfl,rfl⟩,trivial⟩)⟩)
  |refine aR ?_|(guard_target=Index _ _ _;first|refine Index.mk _ (bz (i:=i) (by omega)) ?_)
  |refine iX (k:= ?_)
  |apply ay.no
  |refine nO ?_)
theorem mh(e:ae)(hl:cV e≤1048577):aE Tryz.prog 150 [.a 3 (af e)] (I (cV e)):=by
 rw[a9]
 exact zT e hl fun x _hx=>mh x (by
  have:=rl cV _hx
  rw[Ak] at hl
  omega)
 termination_by SizeOf.sizeOf e
 decreasing_by
  have:=List.sizeOf_lt_of_mem _hx
  cases e
  simp only[ae.mk.sizeOf_spec]
  show SizeOf.sizeOf x<_
  simp only[ae.kids] at this
  omega
theorem Cl:∀l:List ae,c8 cV l=fm ao l
 |[]=>rfl
 |x::xs=>by
  have:=Cl xs
  simp only[fm] at this
  simp only[c8,fm,cV,List.length_cons,this]
  omega
theorem KT(l:List ae)(hl:c8 cV l≤1048577):aE Tryz.prog 151 [.c (.ro 3 (l.map af))] (I (c8 cV l)):=by
 have hb:=pD (f:=cV) l
 have hx:∀i (h:i<l.length),cV l[i]≤1048577:=fun i h=>Nat.le_trans (rl cV (List.getElem_mem h)) hl
 refine cF Tryz.func151 (h:= ?_)
 repeat'((conv=>whnf);first
  |(apply bo.mk;first|(rw[←rU (l:=l) (i:=i) (by omega),←ha.2];rfl;done)|skip)|(guard_target=~ aP 3 _ _ _ _ _ _;refine lp (Nat × Nat) [6,7] (fun⟨i,m⟩=>[(3,I (m:Nat)),(8,I i)]) (fun⟨i,m⟩=>i≤l.length∧m=c8 cV (l.take i)) (fun⟨i,m⟩=>l.length-i) (0,0) (by exact⟨Nat.zero_le _,rfl⟩) (fun A ha=> ?_);obtain⟨i,m⟩:=A;have ha:i≤l.length∧m=c8 cV (l.take i):=ha)
  |refine nx ((i+1,m+cV l[i]):Nat × Nat) (by exact⟨by show i+1≤_;omega,by show m+cV l[i]=_;rw[g8 (by omega),ha.2]⟩)
  |(apply Fact.mk;intro hL;try simp only[List.length_map,maxLen] at hL)
  |((first|apply bA|apply bB|apply bC|apply bD|apply bE|apply bF)<;>intro h<;>(try simp only[List.length_map] at h)<;>(try omega)<;>(try contradiction))|(guard_target=aa _ 150 _ _ _ _;refine cP rfl (mh _ (hx i (by omega))) ?_)|(guard_target=Arith _ _ _;refine Arith.fit (aL (by have:=hb (i+1);rw[g8 (by omega)] at this;omega) (by have:=hb (i+1);rw[g8 (by omega)] at this;omega)) ?_)
  |refine aR ?_|(guard_target=Index _ _ _;first|refine Index.mk _ (bz (i:=i) (by omega)) ?_)
  |refine iX (k:= ?_)
  |apply ay.no
  |refine nO ?_)
def jn(s:aB):Nat:=c8 cV s.au+c8 cV s.c9
def iJ(c:bw):Nat:=cV c.left+cV c.right+c8 jn c.steps
def rm(p:cE):Nat:=c8 iJ p.aj
theorem tB{α:Type}{f g:α→Nat}:∀{l:List α},(∀x∈l,f x≤g x)→c8 f l≤c8 g l
 |[],_=>Nat.le_refl _
 |x::xs,h=>by
  have h1:=h x (by simp)
  have h2:=tB (f:=f) (g:=g) (l:=xs) fun y hy=>h y (by simp[hy])
  simp only[c8]
  omega
theorem Bt{α:Type}{f:α→Nat}{c d:Nat}:∀{l:List α},c8 (fun x=>c+d*f x) l=c*l.length+d*c8 f l
 |[]=>by simp[c8]
 |x::xs=>by
  simp only[c8,List.length_cons,Bt (l:=xs),Nat.mul_add]
  omega
theorem yI(s:aB):jn s≤bO s:=by
 simp only[jn,Cl,bO]
 omega
theorem Ei(c:bw):iJ c≤bY c+2:=by
 have h:=tB (l:=c.steps) fun s _=>yI s
 simp only[iJ,bY,fm,cV]
 omega
theorem Be(p:cE):rm p≤2*cC p:=by
 have h:=tB (l:=p.aj) (f:=iJ) (g:=fun c=>2+1*bY c) fun c _=>by have:=Ei c;omega
 rw[Bt] at h
 simp only[rm,cC,fm]
 omega
theorem sub_le{α:Type}{f:α→Nat}{l:List α}{i:Nat}(h:i<l.length):c8 f (l.take i)+f l[i]≤c8 f l:=by
 have:=pD (f:=f) l (i+1)
 rwa[g8 h] at this
theorem AR(p:cE)(hl:cC p≤1048576):aE Tryz.prog 126 [.a 3 (cL p)] (I (rm p)):=by
 have hp:=Be p
 have hcb:∀i (h:i<p.aj.length),bY (p.aj.getD i c0)≤1048576:=fun i h=>by
  rw[getD_eq h]
  have:=cY bY (List.getElem_mem h)
  simp only[cC] at hl
  omega
 have hLf:∀c:bw,bY c≤1048576→aE Tryz.prog 150 [.a 3 (aI c.left)] (I (cV c.left)):=fun c h=>by
  have:=mh c.left (by simp only[bY] at h;simp only[cV];omega)
  rwa[a9] at this
 have hRt:∀c:bw,bY c≤1048576→aE Tryz.prog 150 [.a 3 (aI c.right)] (I (cV c.right)):=fun c h=>by
  have:=mh c.right (by simp only[bY] at h;simp only[cV];omega)
  rwa[a9] at this
 have hst:∀(c:bw),bY c≤1048576→∀k (h:k<c.steps.length),c8 cV c.steps[k].au≤1048577∧c8 cV c.steps[k].c9≤1048577:=fun c hc k h=>by
  have h1:=cY bO (List.getElem_mem h)
  have h2:=yI c.steps[k]
  simp only[bY] at hc
  simp only[jn] at h2
  omega
 have hA:∀i,i<p.aj.length→c8 iJ (p.aj.take i)+(cV (p.aj.getD i c0).left+cV (p.aj.getD i c0).right+c8 jn (p.aj.getD i c0).steps)≤2097152:=fun i h=>by
  rw[getD_eq h]
  have h1:=sub_le (f:=iJ) h
  simp only[rm] at hp
  simp only[iJ] at h1
  omega
 have hB:∀(c:bw) k (h:k<c.steps.length),c8 jn (c.steps.take k)+(c8 cV c.steps[k].au+c8 cV c.steps[k].c9)≤c8 jn c.steps:=fun c k h=>sub_le (f:=jn) h
 refine cF Tryz.func126 (h:= ?_)
 repeat'((conv=>whnf);first
  |(apply bo.mk;first|(rw[rm,←rU (l:=p.aj) (i:=i) (by omega),←ha.2];rfl;done)|skip)|(guard_target=~ aP 3 _ _ _ _ _ _;refine lp (Nat × Nat) [9,10] (fun⟨i,m⟩=>[(3,I (m:Nat)),(11,I i)]) (fun⟨i,m⟩=>i≤p.aj.length∧m=c8 iJ (p.aj.take i)) (fun⟨i,m⟩=>p.aj.length-i) (0,0) (by exact⟨Nat.zero_le _,rfl⟩) (fun A ha=> ?_);obtain⟨i,m⟩:=A;have ha:i≤p.aj.length∧m=c8 iJ (p.aj.take i):=ha)|(guard_target=~ aP 7 _ _ _ _ _ _;refine lp (Nat × Nat) [9,10,11,25,26] (fun⟨k,n⟩=>[(3,I (n:Nat)),(27,I k)]) (fun⟨k,n⟩=>k≤(p.aj.getD i c0).steps.length∧n=m+(cV (p.aj.getD i c0).left+cV (p.aj.getD i c0).right)+c8 jn ((p.aj.getD i c0).steps.take k)) (fun⟨k,n⟩=>(p.aj.getD i c0).steps.length-k) (0,m+(cV (p.aj.getD i c0).left+cV (p.aj.getD i c0).right)) (by exact⟨Nat.zero_le _,rfl⟩) (fun A ha=> ?_);obtain⟨k,n⟩:=A;have ha:k≤(p.aj.getD i c0).steps.length∧n=m+(cV (p.aj.getD i c0).left+cV (p.aj.getD i c0).right)+c8 jn ((p.aj.getD i c0).steps.take k):=ha)
  |refine nx ((k+1,n+jn (p.aj.getD i c0).steps[k]):Nat × Nat) (by exact⟨by show k+1≤_;omega,by show n+jn _=_;rw[g8 (by omega),ha.2];omega⟩)
  |refine nx ((i+1,n):Nat × Nat) (by exact⟨by show i+1≤_;omega,by show n=_;have hi:i<p.aj.length:=(by omega);have h8:=‹i≤p.aj.length∧m=_›;have h9:=ha.2;rw[rU (by omega),getD_eq hi] at h9;rw[g8 hi,←h8.2,h9];unfold iJ;omega⟩)
  |(apply Fact.mk;intro hL;try simp only[List.length_map,maxLen] at hL)
  |((first|apply bA|apply bB|apply bC|apply bD|apply bE|apply bF)<;>intro h<;>(try simp only[List.length_map] at h)<;>(try omega)<;>(try contradiction))|(guard_target=aa _ 151 _ _ _ _;refine cP rfl (KT _ (by have:=hst (p.aj.getD i c0) (hcb i (by omega)) k (by omega);first|exact this.1|exact this.2)) ?_)|(guard_target=aa _ 150 _ _ _ _;(first|refine aa.pure _ _ rfl (hLf (p.aj.getD i c0) (hcb i (by omega))) rfl _ rfl ?_|refine aa.pure _ _ rfl (hRt (p.aj.getD i c0) (hcb i (by omega))) rfl _ rfl ?_))|(guard_target=Arith _ _ _;refine Arith.fit (aL (by(have h1:=hA i (by omega);have h2:=ha.2;first|omega|(have h3:=hB (p.aj.getD i c0) k (by omega);have h8:=(‹i≤p.aj.length∧m=_›).2;omega))) (by(have h1:=hA i (by omega);have h2:=ha.2;first|omega|(have h3:=hB (p.aj.getD i c0) k (by omega);have h8:=(‹i≤p.aj.length∧m=_›).2;omega)))) ?_)
  |refine aR ?_|(guard_target=Index _ _ _;first|refine Index.mk _ (aF (d:=c0) (i:=i) (by omega)) ?_|refine Index.mk _ (bz (i:=k) (by omega)) ?_)
  |refine iX (k:= ?_)
  |refine nB ?_
  |apply ay.no
  |apply cj.go
  |refine nO ?_)
end Go.Proofs.YtgbggaddpbghfaaGreat
namespace Go.Proofs.YtgbggaddpbghfaaGreat
open Go Go.KA Go.Proofs
set_option maxHeartbeats 16000000
set_option maxRecDepth 100000
structure Ba(f:Int→Int)(s k:Nat):Prop where
 iff:∀m,0≤f m↔(s:Int)≤m
 eq:∀m,0≤f m→f m=m-s
 lo:∀m,min m 0-k≤f m
 hi:∀m,f m≤m
theorem Ba.id:Ba (fun m=>m) 0 0:=⟨fun m=>by simp,fun m _=>by simp,fun m=>by omega,fun m=>Int.le_refl _⟩
theorem Ba.comp{f g:Int→Int}{s t k j:Nat}(hf:Ba f s k)(hg:Ba g t j):Ba (fun m=>g (f m)) (s+t) (k+j):=by
 refine⟨fun m=> ?_,fun m h=> ?_,fun m=> ?_,fun m=> ?_⟩
 ·have h1:=hf.iff m
  have h2:=hg.iff (f m)
  have h3:=hf.eq m
  constructor
  ·intro h
   have:=h2.1 h
   have h4:=h3 (by omega)
   omega
  ·intro h
   refine h2.2 ?_
   have h4:=h3 (h1.2 (by omega))
   omega
 ·have h2:=(hg.iff (f m)).1 h
  have h3:=hf.eq m (by omega)
  have h4:=hg.eq (f m) h
  show g (f m)=_
  omega
 ·have h1:=hf.lo m
  have h2:=hg.lo (f m)
  omega
 ·have h1:=hf.hi m
  have h2:=hg.hi (f m)
  omega
theorem Ba.guard{f:Int→Int}{s k:Nat}(hf:Ba f s k):Ba (fun m=>if m<0 then m else f m) s k:=by
 refine⟨fun m=> ?_,fun m h=> ?_,fun m=> ?_,fun m=> ?_⟩<;>(try dsimp only at*)
 ·have:=hf.iff m
  by_cases hm:m<0
  ·rw[if_pos hm];omega
  ·rw[if_neg hm];exact this
 ·by_cases hm:m<0
  ·rw[if_pos hm] at h;omega
  ·rw[if_neg hm] at h⊢;exact hf.eq m h
 ·have:=hf.lo m
  by_cases hm:m<0
  ·rw[if_pos hm];omega
  ·rw[if_neg hm];exact this
 ·have:=hf.hi m
  by_cases hm:m<0
  ·rw[if_pos hm];omega
  ·rw[if_neg hm];exact this
mutual
theorem mR:∀e:ae,(∀m,0≤cx e m↔(cV e:Int)≤m)∧(∀m,0≤cx e m→cx e m=m-cV e)
 | .mk k n kids=>by
   have h:=ym kids
   have he:cV (.mk k n kids)=1+c8 cV kids:=Ak _
   refine⟨fun m=> ?_,fun m hm=> ?_⟩
   ·show 0≤dn kids (m-1)↔_
    have:=h.1 (m-1)
    omega
   ·have h2:cx (.mk k n kids) m=dn kids (m-1):=rfl
    rw[h2] at hm⊢
    have:=h.2 (m-1) hm
    omega
theorem ym:∀l:List ae,(∀m,0≤dn l m↔(c8 cV l:Int)≤m)∧(∀m,0≤dn l m→dn l m=m-c8 cV l)
 |[]=>⟨fun m=>by simp[dn,c8],fun m _=>by simp[dn,c8]⟩
 |x::xs=>by
  have h1:=mR x
  have h2:=ym xs
  have he:c8 cV (x::xs)=cV x+c8 cV xs:=rfl
  refine⟨fun m=> ?_,fun m hm=> ?_⟩
  ·have a1:=h1.1 m
   have a2:=h1.2 m
   have a3:=h2.1 (cx x m)
   have hp:1≤cV x:=Nat.le_add_left _ _
   simp only[dn]
   by_cases hm:m<0
   ·rw[if_pos hm];omega
   ·rw[if_neg hm]
    constructor
    ·intro h
     have:=a3.1 h
     have:=a2 (by omega)
     omega
    ·intro h
     have:=a2 (a1.2 (by omega))
     exact a3.2 (by omega)
  ·have a1:=h1.1 m
   have a2:=h1.2 m
   have a3:=h2.1 (cx x m)
   have a4:=h2.2 (cx x m)
   simp only[dn] at hm⊢
   by_cases hm0:m<0
   ·rw[if_pos hm0] at hm;omega
   ·rw[if_neg hm0] at hm⊢
    have:=a3.1 hm
    have:=a2 (by omega)
    have:=a4 hm
    omega
end
theorem tr(e:ae){m:Int}(h:m<0):cx e m=m-1:=by rw[wx,mV (by omega)]
theorem tp(e:ae):Ba (cx e) (cV e) 1:=by
 refine⟨(mR e).1,(mR e).2,fun m=> ?_,fun m=> ?_⟩
 ·by_cases h:m<0
  ·rw[tr e h];omega
  ·have:=mb e m (by omega);omega
 ·by_cases h:m<0
  ·rw[tr e h];omega
  ·have:=mb e m (by omega);omega
def lE(l:List ae)(m:Int):Int:=l.foldl (fun m e=>cx e m) m
theorem Gu{l:List ae}{i:Nat}(h:i<l.length)(m:Int):lE (l.take (i+1)) m=cx l[i] (lE (l.take i) m):=by
 unfold lE
 rw[List.take_add_one,List.getElem?_eq_getElem h,List.foldl_append]
 rfl
theorem NA:∀l:List ae,Ba (lE l) (c8 cV l) l.length
 |[]=>Ba.id
 |x::xs=>by
  have:=(tp x).comp (NA xs)
  have e:c8 cV (x::xs)=cV x+c8 cV xs:=rfl
  rw[e,List.length_cons,Nat.add_comm xs.length 1]
  exact this
def lS(s:aB)(m:Int):Int:=lE s.c9 (lE s.au m)
def zj:List aB→Int→Int
 |[],m=>m
 |s::r,m=>if m<0 then m else zj r (lS s m)
def lC(c:bw)(m:Int):Int:=zj c.steps (cx c.right (cx c.left m))
def zH:List bw→Int→Int
 |[],m=>m
 |c::r,m=>if m<0 then m else zH r (lC c m)
theorem Pq(s:aB):Ba (lS s) (jn s) (s.au.length+s.c9.length):=(NA s.au).comp (NA s.c9)
theorem Nh:∀l:List aB,∃k,Ba (zj l) (c8 jn l) k
 |[]=>⟨0,Ba.id⟩
 |s::r=>by
  obtain⟨k,h⟩:=Nh r
  exact⟨_,((Pq s).comp h).guard⟩
theorem Ps(c:bw):∃k,Ba (lC c) (iJ c) k:=by
 obtain⟨k,h⟩:=Nh c.steps
 exact⟨_,((tp c.left).comp (tp c.right)).comp h⟩
theorem M3:∀l:List bw,∃k,Ba (zH l) (c8 iJ l) k
 |[]=>⟨0,Ba.id⟩
 |c::r=>by
  obtain⟨k1,h1⟩:=Ps c
  obtain⟨k2,h2⟩:=M3 r
  exact⟨_,(h1.comp h2).guard⟩
theorem qp:∀(l r:List aB) (m:Int),zj (l++r) m=zj r (zj l m)
 |[],r,m=>rfl
 |s::l,r,m=>by
  simp only[List.cons_append,zj]
  by_cases h:m<0
  ·rw[if_pos h,if_pos h];cases r<;>simp[zj,h]
  ·rw[if_neg h,if_neg h,qp l r]
theorem qy:∀(l r:List bw) (m:Int),zH (l++r) m=zH r (zH l m)
 |[],r,m=>rfl
 |s::l,r,m=>by
  simp only[List.cons_append,zH]
  by_cases h:m<0
  ·rw[if_pos h,if_pos h];cases r<;>simp[zH,h]
  ·rw[if_neg h,if_neg h,qy l r]
theorem J1{l:List aB}{i:Nat}(h:i<l.length){m:Int}(hm:0≤zj (l.take i) m):zj (l.take (i+1)) m=lS l[i] (zj (l.take i) m):=by
 rw[List.take_add_one,List.getElem?_eq_getElem h,qp]
 simp only[Option.toList_some,zj]
 rw[if_neg (by omega)]
theorem J6{l:List bw}{i:Nat}(h:i<l.length){m:Int}(hm:0≤zH (l.take i) m):zH (l.take (i+1)) m=lC l[i] (zH (l.take i) m):=by
 rw[List.take_add_one,List.getElem?_eq_getElem h,qy]
 simp only[Option.toList_some,zH]
 rw[if_neg (by omega)]
theorem IQ{l:List aB}{i:Nat}{m:Int}(hm:zj (l.take i) m<0):zj l m=zj (l.take i) m:=by
 conv=>lhs;rw[←List.take_append_drop i l,qp]
 cases l.drop i<;>simp[zj,hm]
theorem IX{l:List bw}{i:Nat}{m:Int}(hm:zH (l.take i) m<0):zH l m=zH (l.take i) m:=by
 conv=>lhs;rw[←List.take_append_drop i l,qy]
 cases l.drop i<;>simp[zH,hm]
theorem BI(e:ae)(left:Int)(h0: -1099511627776≤left)(h1:left<0):aE Tryz.prog 145 [.c (.rp 3 (af e)),I left] (I (cx e left)):=by
 rw[a9,tr e h1]
 refine cF Tryz.func145 (h:= ?_)
 repeat'((conv=>whnf);first
  |(apply bo.mk;first|(rfl;done)|skip)|(guard_target=~ aP 3 _ _ _ _ _ _;refine lp (Nat) [0] (fun i=>[(1,I (left-1)),(5,I i)]) (fun i=>i=0) (fun i=>0) 0 (by exact rfl) (fun i ha=> ?_))
  |(apply Fact.mk;intro hL;try simp only[List.length_map,maxLen] at hL)
  |((first|apply bA|apply bB|apply bC|apply bD|apply bE|apply bF)<;>intro h<;>(try simp only[List.length_map] at h)<;>(try omega)<;>(try contradiction))
  |refine aR ?_
  |refine iX (k:= ?_)
  |apply ay.no
  |refine nO ?_)
theorem me(e:ae)(left:Int)(h0: -1099511627776≤left)(h1:left≤1048576):aE Tryz.prog 145 [.c (.rp 3 (af e)),I left] (I (cx e left)):=by
 by_cases h:left<0
 ·exact BI e left h0 h
 ·exact qF e left (by omega) h1
abbrev s0:aB:=⟨0,false,[],[],[]⟩
theorem EX(p:cE)(hl:cC p≤1048576)(left:Int)(h0:0≤left)(h1:left≤1048576):aE Tryz.prog 117 [.c (.rp 3 (cL p)),I left] (I (zH p.aj left)):=by
 have hcb:∀i (h:i<p.aj.length),bY (p.aj.getD i c0)≤1048576:=fun i h=>by
  rw[getD_eq h]
  have:=cY bY (List.getElem_mem h)
  simp only[cC] at hl
  omega
 have hsb:∀i (h:i<p.aj.length) k (h:k<(p.aj.getD i c0).steps.length),((p.aj.getD i c0).steps.getD k s0).au.length≤1048576∧((p.aj.getD i c0).steps.getD k s0).c9.length≤1048576:=fun i h k hk=>by
  have h2:=hcb i h
  rw[getD_eq hk]
  have h3:=cY bO (List.getElem_mem hk)
  simp only[bY] at h2
  generalize(p.aj.getD i c0).steps[k]=q at*
  have h4:=eg ao q.au
  have h5:=eg ao q.c9
  simp only[bO] at h3
  omega
 have hlt:∀(c:bw) (m:Int), -1099511627776≤m→m≤1048576→aE Tryz.prog 145 [.c (.rp 9 (aH c)),I m] (I (cx c.left m)):=fun c m g1 g2=>by
  have:=me c.left m g1 g2
  rw[a9] at this
  exact this.cut (.cut (k:=3) (by omega) (.same .nil))
 have hrt:∀(c:bw) (m:Int), -1099511627776≤m→m≤1048576→aE Tryz.prog 145 [.c (.rp 6 ((aH c).drop 3)),I m] (I (cx c.right m)):=fun c m g1 g2=>by
  have:=me c.right m g1 g2
  rw[a9] at this
  exact this.cut (.cut (k:=3) (by omega) (.same .nil))
 have hfin:∀(c:bw) (k:Nat) (n m:Int),k≤c.steps.length→n=zj (c.steps.take k) (cx c.right (cx c.left m))→(¬(k:Int)<(c.steps.length:Int)∨n<0)→zj (c.steps.take k) (cx c.right (cx c.left m))=lC c m:=by
  intro c k n m g1 g2 g3
  unfold lC
  rcases g3 with g3|g3
  ·rw[List.take_of_length_le (by omega)]
  ·exact(IQ (by rw[←g2];exact g3)).symm
 refine cF Tryz.func117 (h:= ?_)
 repeat'((conv=>whnf);first
  |(apply bo.mk;first|((have e:=ha.2.1;first|(rw[IX (i:=i) (by rw[←e];omega),←e];rfl)|(rw[List.take_of_length_le (by omega)] at e;rw[←e];rfl));done)|skip)|(guard_target=~ aP 2 _ _ _ _ _ _;refine lp (Nat × Int) [0] (fun⟨i,m⟩=>[(1,I m),(5,I i)]) (fun⟨i,m⟩=>i≤p.aj.length∧m=zH (p.aj.take i) left∧ -4000000≤m∧m≤1048576) (fun⟨i,m⟩=>p.aj.length-i) (0,left) (by exact⟨Nat.zero_le _,rfl,by show-4000000≤left;omega,h1⟩) (fun A ha=> ?_);obtain⟨i,m⟩:=A;have ha:i≤p.aj.length∧m=zH (p.aj.take i) left∧ -4000000≤m∧m≤1048576:=ha)|(guard_target=~ aP 7 _ _ _ _ _ _;refine lp (Nat × Int) [0,5,6] (fun⟨k,n⟩=>[(1,I n),(7,I k)]) (fun⟨k,n⟩=>k≤(p.aj.getD i c0).steps.length∧n=zj ((p.aj.getD i c0).steps.take k) (cx (p.aj.getD i c0).right (cx (p.aj.getD i c0).left m))∧ -4000000≤n∧n≤1048576) (fun⟨k,n⟩=>(p.aj.getD i c0).steps.length-k) (0,cx (p.aj.getD i c0).right (cx (p.aj.getD i c0).left m)) (by have a1:=(tp (p.aj.getD i c0).left).lo m;have a2:=(tp (p.aj.getD i c0).left).hi m;have a3:=(tp (p.aj.getD i c0).right).lo (cx (p.aj.getD i c0).left m);have a4:=(tp (p.aj.getD i c0).right).hi (cx (p.aj.getD i c0).left m);exact⟨Nat.zero_le _,rfl,by show-4000000≤cx _ _;omega,by show cx _ _≤1048576;omega⟩) (fun A ha=> ?_);obtain⟨k,n⟩:=A;have ha:k≤(p.aj.getD i c0).steps.length∧n=zj ((p.aj.getD i c0).steps.take k) (cx (p.aj.getD i c0).right (cx (p.aj.getD i c0).left m))∧ -4000000≤n∧n≤1048576:=ha)|(guard_target=~ aP 10 _ _ _ _ _ _;refine lp (Nat × Int) [0,5,6,7] (fun⟨x,o⟩=>[(1,I o),(8,I x)]) (fun⟨x,o⟩=>x≤((p.aj.getD i c0).steps.getD k s0).au.length∧o=lE (((p.aj.getD i c0).steps.getD k s0).au.take x) n∧ -(x:Int)≤o∧o≤1048576) (fun⟨x,o⟩=>((p.aj.getD i c0).steps.getD k s0).au.length-x) (0,n) (by exact⟨Nat.zero_le _,rfl,by show-((0:Nat):Int)≤n;omega,ha.2.2.2⟩) (fun A ha=> ?_);obtain⟨x,o⟩:=A;have ha:x≤((p.aj.getD i c0).steps.getD k s0).au.length∧o=lE (((p.aj.getD i c0).steps.getD k s0).au.take x) n∧ -(x:Int)≤o∧o≤1048576:=ha)|(guard_target=~ aP 14 _ _ _ _ _ _;refine lp (Nat × Int) [0,5,6,7] (fun⟨y,q⟩=>[(1,I q),(9,I y)]) (fun⟨y,q⟩=>y≤((p.aj.getD i c0).steps.getD k s0).c9.length∧q=lE (((p.aj.getD i c0).steps.getD k s0).c9.take y) (lE ((p.aj.getD i c0).steps.getD k s0).au n)∧ -(y:Int)-(((p.aj.getD i c0).steps.getD k s0).au.length:Int)≤q∧q≤1048576) (fun⟨y,q⟩=>((p.aj.getD i c0).steps.getD k s0).c9.length-y) (0,o) (by have e:=ha.2.1;rw[List.take_of_length_le (by omega)] at e;exact⟨Nat.zero_le _,e,by show-((0:Nat):Int)-_≤o;omega,ha.2.2.2⟩) (fun A ha=> ?_);obtain⟨y,q⟩:=A;have ha:y≤((p.aj.getD i c0).steps.getD k s0).c9.length∧q=lE (((p.aj.getD i c0).steps.getD k s0).c9.take y) (lE ((p.aj.getD i c0).steps.getD k s0).au n)∧ -(y:Int)-(((p.aj.getD i c0).steps.getD k s0).au.length:Int)≤q∧q≤1048576:=ha)
  |refine nx ((x+1,cx ((p.aj.getD i c0).steps.getD k s0).au[x] o):Nat × Int) (by have hx:x<((p.aj.getD i c0).steps.getD k s0).au.length:=(by omega);have a1:=(tp ((p.aj.getD i c0).steps.getD k s0).au[x]).lo o;have a2:=(tp ((p.aj.getD i c0).steps.getD k s0).au[x]).hi o;exact⟨hx,(by show cx _ o=_;rw[Gu hx,←ha.2.1]),(by show-((x+1:Nat):Int)≤cx _ o;omega),(by show cx _ o≤_;omega)⟩)
  |refine nx ((y+1,cx ((p.aj.getD i c0).steps.getD k s0).c9[y] q):Nat × Int) (by have hx:y<((p.aj.getD i c0).steps.getD k s0).c9.length:=(by omega);have a1:=(tp ((p.aj.getD i c0).steps.getD k s0).c9[y]).lo q;have a2:=(tp ((p.aj.getD i c0).steps.getD k s0).c9[y]).hi q;exact⟨hx,(by show cx _ q=_;rw[Gu hx,←ha.2.1]),(by show-((y+1:Nat):Int)-_≤cx _ q;omega),(by show cx _ q≤_;omega)⟩)
  |refine nx ((k+1,q):Nat × Int) (by have hk:k<(p.aj.getD i c0).steps.length:=(by omega);have h9:=‹k≤_∧n=_∧_›;have e:=ha.2.1;rw[List.take_of_length_le (by omega)] at e;have a1:=hsb i (by omega) k hk;exact⟨hk,(by show q=_;rw[J1 hk (by rw[←h9.2.1];omega),←h9.2.1,e,←getD_eq (d:=s0) hk];rfl),(by show-4000000≤q;omega),ha.2.2.2⟩)
  |refine nx ((i+1,n):Nat × Int) (by have hi:i<p.aj.length:=(by omega);have h9:=‹i≤_∧m=_∧_›;exact⟨hi,(by show n=_;rw[J6 hi (by rw[←h9.2.1];omega),←h9.2.1,←getD_eq (d:=c0) hi,ha.2.1];exact hfin _ k n _ ha.1 ha.2.1 (by omega)),ha.2.2.1,ha.2.2.2⟩)
  |(apply Fact.mk;intro hL;try simp only[List.length_map,maxLen] at hL)
  |((first|apply bA|apply bB|apply bC|apply bD|apply bE|apply bF)<;>intro h<;>(try simp only[List.length_map] at h)<;>(try omega)<;>(try contradiction))|(guard_target=aa _ 145 _ _ _ _;(first|refine aa.pure _ _ rfl (hlt (p.aj.getD i c0) m (by omega) (by omega)) rfl _ rfl ?_|refine aa.pure _ _ rfl (hrt (p.aj.getD i c0) (cx (p.aj.getD i c0).left m) (by have a1:=(tp (p.aj.getD i c0).left).lo m;omega) (by have a1:=(tp (p.aj.getD i c0).left).hi m;omega)) rfl _ rfl ?_|refine aa.pure _ _ rfl (me _ o (by have a1:=hsb i (by omega) k (by omega);omega) (by omega)) rfl _ rfl ?_|refine aa.pure _ _ rfl (me _ q (by have a1:=hsb i (by omega) k (by omega);omega) (by omega)) rfl _ rfl ?_))|(guard_target=Arith _ _ _;refine Arith.fit (aL (by(first|omega|(have a1:=hsb i (by omega) k (by omega);omega))) (by(first|omega|(have a1:=hsb i (by omega) k (by omega);omega)))) ?_)
  |refine aR ?_|(guard_target=Index _ _ _;first|refine Index.mk _ (aF (d:=c0) (i:=i) (by omega)) ?_|refine Index.mk _ (aF (d:=s0) (i:=k) (by omega)) ?_|refine Index.mk _ (bz (i:=x) (by omega)) ?_|refine Index.mk _ (bz (i:=y) (by omega)) ?_)
  |refine iX (k:= ?_)
  |refine nB ?_
  |apply ay.no
  |apply cj.go
  |refine nO ?_)
end Go.Proofs.YtgbggaddpbghfaaGreat
