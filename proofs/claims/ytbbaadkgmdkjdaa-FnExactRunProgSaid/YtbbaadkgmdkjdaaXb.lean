/- Contracts of the functions that look whether expressions, conditions, worlds and flowcharts are valid. No conditions. -/
import Derived.Test.YtbbaadkgmdkjdaaXa
import Derived.Test.YtbbaadkgmdkjdaaEngX
namespace Go.Proofs.Ytbbaadkgmdkjdaa
open Go Go.KA Go.Proofs
theorem sig_bounds {t a : Int} (h : goodSig t a = true) : (0 ≤ t ∧ t ≤ 3) ∧ (0 ≤ a ∧ a ≤ 4) := by
  simp only [goodSig, rng, Bool.and_eq_true, decide_eq_true_eq] at h
  omega
theorem isExpr_ok (t a : Int) (ht : 0 ≤ t ∧ t ≤ 3) (ha : 0 ≤ a ∧ a ≤ 4) (e : XExpr) : CallF Try.prog 127 [.a 2 [J t, J a], .a 3 (encExpr e)] (B (goodE t a e)) := by
  rw [← shE_good]
  refine callF_of_vc htb hm Try.func127 rfl rfl rfl rfl (ann := fun _ => none) (gh := fun _ => false) ?_
  repeat' ((conv => whnf); first
    | (guard_target = Done _; refine Done.mk ?_; first | (rfl; done) | skip)
    | (guard_target = RetX _ _; refine RetX.mk ?_ ?_)
    | (guard_target = Fact _ _; refine Fact.mk fun hL => ?_; (try simp only [List.length_map, maxLen] at hL))
    | (guard_target = Branch _ _ _; (first | refine Branch.dec (fun h => ?_) (fun h => ?_) | refine Branch.beq (fun h => ?_) (fun h => ?_) | refine Branch.bne (fun h => ?_) (fun h => ?_) | refine Branch.ndec (fun h => ?_) (fun h => ?_) | refine Branch.nb (fun h => ?_) (fun h => ?_) | refine Branch.mk (fun h => ?_) (fun h => ?_)) <;> (try simp only [List.length_map] at h) <;> (try omega) <;> (try contradiction))
    | (guard_target = CallN _ 133 _ _ _ _; refine CallN.pure _ _ rfl (shaped_ok t a ht ha e 200 40 (by omega) (by omega)) rfl _ rfl ?_)
    | (guard_target = Arith _ _ _; refine Arith.fit (wrap_fit (by first | omega | (simp only [List.length_map]; omega)) (by first | omega | (simp only [List.length_map]; omega))) ?_)
    | (guard_target = Arith _ _ _; refine Arith.fit (by decide) ?_)
    | (guard_target = Index _ _ _; first  | refine Index.mk _ (idx_map (by omega)) ?_)
    | (guard_target = Need (chkDraw _ = true) _; refine Need.mk (by kernel_rfl) ?_)
    | (guard_target = Need (chkRecs _ _ = true) _; refine Need.mk (by first | kernel_rfl | rfl) ?_)
    | (guard_target = Need _ _; refine Need.mk (by first  | omega | (simp only [List.length_map]; omega)) ?_))
theorem l01Ok_ok (t a : Int) (e : XExpr) (hl : budExpr e ≤ 1048576) : CallF Try.prog 125 [.a 2 [J t, J a], .c (.rp 3 (encExpr e))] (B (goodSig t a && goodE t a e)) := by
  refine callF_of_vc htb hm Try.func125 rfl rfl rfl rfl (ann := fun _ => none) (gh := fun _ => false) ?_
  repeat' ((conv => whnf); first
    | (guard_target = Done _; refine Done.mk ?_; first | (rfl; done) | (simp_all [goodE, normS, normV]; done) | (simp_all [goodE, normS, normV]; omega; done) | (simp_all [goodE, normS, normV]; intros; omega; done) | skip)
    | (guard_target = RetX _ _; refine RetX.mk ?_ ?_)
    | (guard_target = Fact _ _; refine Fact.mk fun hL => ?_; (try simp only [List.length_map, maxLen] at hL))
    | (guard_target = Branch _ _ _; (first | refine Branch.dec (fun h => ?_) (fun h => ?_) | refine Branch.beq (fun h => ?_) (fun h => ?_) | refine Branch.bne (fun h => ?_) (fun h => ?_) | refine Branch.ndec (fun h => ?_) (fun h => ?_) | refine Branch.nb (fun h => ?_) (fun h => ?_) | refine Branch.mk (fun h => ?_) (fun h => ?_)) <;> (try simp only [List.length_map] at h) <;> (try omega) <;> (try contradiction))
    | (guard_target = CallN _ 31 _ _ _ _; refine CallN.pure _ _ rfl (l01Sig_ok t a) rfl _ rfl ?_)
    | (guard_target = CallN _ 130 _ _ _ _; refine CallN.pure _ _ rfl (l01Left_ok e 200 (by omega) (by omega)) rfl _ rfl ?_)
    | (guard_target = CallN _ 131 _ _ _ _; refine CallN.pure _ _ rfl (l01Depth_ok e hl) rfl _ rfl ?_)
    | (guard_target = CallN _ 132 _ _ _ _; refine CallN.pure _ _ rfl (l01Tree_ok t a (sig_bounds ‹_›).1 (sig_bounds ‹_›).2 e) rfl _ rfl ?_)
    | (guard_target = Arith _ _ _; refine Arith.fit (wrap_fit (by first | omega | (simp only [List.length_map]; omega)) (by first | omega | (simp only [List.length_map]; omega))) ?_)
    | (guard_target = Arith _ _ _; refine Arith.fit (by decide) ?_)
    | (guard_target = Index _ _ _; first  | refine Index.mk _ (idx_map (by omega)) ?_)
    | (guard_target = Need (chkDraw _ = true) _; refine Need.mk (by kernel_rfl) ?_)
    | (guard_target = Need (chkRecs _ _ = true) _; refine Need.mk (by first | kernel_rfl | rfl) ?_)
    | (guard_target = Need _ _; refine Need.mk (by first  | omega | (simp only [List.length_map]; omega)) ?_))
def condG (t a : Int) (e : XExpr) : Bool := goodE t a e && condB e
theorem isCond_ok (t a : Int) (ht : 0 ≤ t ∧ t ≤ 3) (ha : 0 ≤ a ∧ a ≤ 4) (e : XExpr) : CallF Try.prog 118 [.a 2 [J t, J a], .a 3 (encExpr e)] (B (condG t a e)) := by
  refine callF_of_vc htb hm Try.func118 rfl rfl rfl rfl (ann := fun _ => none) (gh := fun _ => false) ?_
  repeat' ((conv => whnf); first
    | (guard_target = Done _; refine Done.mk ?_; first | (rfl; done) | (simp_all [condG, normS, normV]; done) | (simp_all [condG, normS, normV]; omega; done) | (simp_all [condG, normS, normV]; intros; omega; done) | skip)
    | (guard_target = RetX _ _; refine RetX.mk ?_ ?_)
    | (guard_target = Fact _ _; refine Fact.mk fun hL => ?_; (try simp only [List.length_map, maxLen] at hL))
    | (guard_target = Branch _ _ _; (first | refine Branch.dec (fun h => ?_) (fun h => ?_) | refine Branch.beq (fun h => ?_) (fun h => ?_) | refine Branch.bne (fun h => ?_) (fun h => ?_) | refine Branch.ndec (fun h => ?_) (fun h => ?_) | refine Branch.nb (fun h => ?_) (fun h => ?_) | refine Branch.mk (fun h => ?_) (fun h => ?_)) <;> (try simp only [List.length_map] at h) <;> (try omega) <;> (try contradiction))
    | (guard_target = CallN _ 127 _ _ _ _; refine CallN.pure _ _ rfl (isExpr_ok t a ht ha e) rfl _ rfl ?_)
    | (guard_target = CallN _ 128 _ _ _ _; refine CallN.pure _ _ rfl (isCondition_ok e) rfl _ rfl ?_)
    | (guard_target = Arith _ _ _; refine Arith.fit (wrap_fit (by first | omega | (simp only [List.length_map]; omega)) (by first | omega | (simp only [List.length_map]; omega))) ?_)
    | (guard_target = Arith _ _ _; refine Arith.fit (by decide) ?_)
    | (guard_target = Index _ _ _; first  | refine Index.mk _ (idx_map (by omega)) ?_)
    | (guard_target = Need (chkDraw _ = true) _; refine Need.mk (by kernel_rfl) ?_)
    | (guard_target = Need (chkRecs _ _ = true) _; refine Need.mk (by first | kernel_rfl | rfl) ?_)
    | (guard_target = Need _ _; refine Need.mk (by first  | omega | (simp only [List.length_map]; omega)) ?_))
theorem l06Cond_ok (t a : Int) (hs : goodSig t a = true) (e : XExpr) (hl : budExpr e ≤ 1048576) : CallF Try.prog 113 [.a 2 [J t, J a], .c (.rp 3 (encExpr e))] (B (condG t a e)) := by
  refine callF_of_vc htb hm Try.func113 rfl rfl rfl rfl (ann := fun _ => none) (gh := fun _ => false) ?_
  repeat' ((conv => whnf); first
    | (guard_target = Done _; refine Done.mk ?_; first | (rfl; done) | (simp_all [condG, normS, normV]; done) | (simp_all [condG, normS, normV]; omega; done) | (simp_all [condG, normS, normV]; intros; omega; done) | skip)
    | (guard_target = RetX _ _; refine RetX.mk ?_ ?_)
    | (guard_target = Fact _ _; refine Fact.mk fun hL => ?_; (try simp only [List.length_map, maxLen] at hL))
    | (guard_target = Branch _ _ _; (first | refine Branch.dec (fun h => ?_) (fun h => ?_) | refine Branch.beq (fun h => ?_) (fun h => ?_) | refine Branch.bne (fun h => ?_) (fun h => ?_) | refine Branch.ndec (fun h => ?_) (fun h => ?_) | refine Branch.nb (fun h => ?_) (fun h => ?_) | refine Branch.mk (fun h => ?_) (fun h => ?_)) <;> (try simp only [List.length_map] at h) <;> (try omega) <;> (try contradiction))
    | (guard_target = CallN _ 125 _ _ _ _; refine CallN.pure _ _ rfl (l01Ok_ok t a e hl) rfl _ rfl ?_)
    | (guard_target = CallN _ 126 _ _ _ _; refine CallN.pure _ _ rfl (l01Condition_ok e) rfl _ rfl ?_)
    | (guard_target = Arith _ _ _; refine Arith.fit (wrap_fit (by first | omega | (simp only [List.length_map]; omega)) (by first | omega | (simp only [List.length_map]; omega))) ?_)
    | (guard_target = Arith _ _ _; refine Arith.fit (by decide) ?_)
    | (guard_target = Index _ _ _; first  | refine Index.mk _ (idx_map (by omega)) ?_)
    | (guard_target = Need (chkDraw _ = true) _; refine Need.mk (by kernel_rfl) ?_)
    | (guard_target = Need (chkRecs _ _ = true) _; refine Need.mk (by first | kernel_rfl | rfl) ?_)
    | (guard_target = Need _ _; refine Need.mk (by first  | omega | (simp only [List.length_map]; omega)) ?_))
/-! ### flowcharts -/
def goodSpot (t a n : Int) (s : XSpot) : Bool :=
  if s.kind == 1 then rng 0 (a - 1) s.num && (noneB s.cond && (rng 0 (n - 1) s.to0 && s.else0 == 0))
  else if s.kind == 2 then (s.num == 0) && (condG t a s.cond && (rng 0 (n - 1) s.to0 && rng 0 (n - 1) s.else0))
  else if s.kind == 3 || s.kind == 4 then (s.num == 0) && (noneB s.cond && ((s.to0 == 0) && s.else0 == 0)) else false
theorem encSpot_eq (s : XSpot) : encSpot s = [J s.kind, J s.num, J s.cond.kind, J s.cond.num, .ro 3 (s.cond.kids.map encExpr), J s.to0, J s.else0] := rfl
theorem isNone_ok' (e : XExpr) : CallF Try.prog 117 [.a 3 (encExpr e)] (B (noneB e)) := by
  rw [encExpr_eq]
  exact isNone_ok e
theorem l06None_ok' (e : XExpr) : CallF Try.prog 112 [.c (.rp 3 (encExpr e))] (B (noneB e)) := by
  rw [encExpr_eq]
  exact l06None_ok e
set_option maxHeartbeats 8000000 in
theorem isSpot_ok (t a n : Int) (ht : 0 ≤ t ∧ t ≤ 3) (ha : 0 ≤ a ∧ a ≤ 4) (hn : 0 ≤ n ∧ n ≤ 1048576) (s : XSpot) : CallF Try.prog 93 [.a 2 [J t, J a], .a 7 (encSpot s), I n] (B (goodSpot t a n s)) := by
  have hc := isCond_ok t a ht ha s.cond
  rw [encExpr_eq] at hc
  refine callF_of_vc htb hm Try.func93 rfl rfl rfl rfl (ann := fun _ => none) (gh := fun _ => false) ?_
  repeat' ((conv => whnf); first
    | (guard_target = Done _; refine Done.mk ?_; first | (rfl; done) | (simp_all [goodSpot, normS, normV]; done) | (simp_all [goodSpot, normS, normV]; omega; done) | (simp_all [goodSpot, normS, normV]; intros; omega; done) | skip)
    | (guard_target = RetX _ _; refine RetX.mk ?_ ?_)
    | (guard_target = Fact _ _; refine Fact.mk fun hL => ?_; (try simp only [List.length_map, maxLen] at hL))
    | (guard_target = Branch _ _ _; (first | refine Branch.dec (fun h => ?_) (fun h => ?_) | refine Branch.beq (fun h => ?_) (fun h => ?_) | refine Branch.bne (fun h => ?_) (fun h => ?_) | refine Branch.ndec (fun h => ?_) (fun h => ?_) | refine Branch.nb (fun h => ?_) (fun h => ?_) | refine Branch.mk (fun h => ?_) (fun h => ?_)) <;> (try simp only [List.length_map] at h) <;> (try omega) <;> (try contradiction))
    | (guard_target = CallN _ 34 _ _ _ _; refine CallN.pure _ _ rfl (within_ok _ _ _) rfl _ rfl ?_)
    | (guard_target = CallN _ 117 _ _ _ _; refine CallN.pure _ _ rfl (isNone_ok s.cond) rfl _ rfl ?_)
    | (guard_target = CallN _ 118 _ _ _ _; refine CallN.pure _ _ rfl (hc) rfl _ rfl ?_)
    | (guard_target = Arith _ _ _; refine Arith.fit (wrap_fit (by first | omega | (simp only [List.length_map]; omega)) (by first | omega | (simp only [List.length_map]; omega))) ?_)
    | (guard_target = Arith _ _ _; refine Arith.fit (by decide) ?_)
    | (guard_target = Index _ _ _; first  | refine Index.mk _ (idx_map (by omega)) ?_)
    | (guard_target = Need (chkDraw _ = true) _; refine Need.mk (by kernel_rfl) ?_)
    | (guard_target = Need (chkRecs _ _ = true) _; refine Need.mk (by first | kernel_rfl | rfl) ?_)
    | (guard_target = Need _ _; refine Need.mk (by first  | omega | (simp only [List.length_map]; omega)) ?_))
theorem shl1 {t : Int} (h : 0 ≤ t ∧ t ≤ 3) : (1 : Int) <<< t.toNat = if t = 0 then 1 else if t = 1 then 2 else if t = 2 then 4 else 8 := by
  have : t = 0 ∨ t = 1 ∨ t = 2 ∨ t = 3 := by omega
  rcases this with rfl | rfl | rfl | rfl <;> rfl
def atomsN (t : Int) : Int := if t = 0 then 1 else if t = 1 then 2 else if t = 2 then 4 else 8
theorem atomsIn_ok (t a : Int) (ht : 0 ≤ t ∧ t ≤ 3) : CallF Try.prog 116 [.a 2 [J t, J a]] (I (atomsN t)) := by
  have h4 : t = 0 ∨ t = 1 ∨ t = 2 ∨ t = 3 := by omega
  rcases h4 with rfl | rfl | rfl | rfl
  all_goals
    refine callF_of_vc htb hm Try.func116 rfl rfl rfl rfl (ann := fun _ => none) (gh := fun _ => false) ?_
    repeat' ((conv => whnf); first
      | (guard_target = Done _; refine Done.mk ?_; first | (rfl; done) | skip)
      | (guard_target = RetX _ _; refine RetX.mk ?_ ?_)
      | (guard_target = Fact _ _; refine Fact.mk fun hL => ?_; (try simp only [List.length_map, maxLen] at hL))
      | (guard_target = Branch _ _ _; (first | refine Branch.dec (fun h => ?_) (fun h => ?_) | refine Branch.beq (fun h => ?_) (fun h => ?_) | refine Branch.bne (fun h => ?_) (fun h => ?_) | refine Branch.ndec (fun h => ?_) (fun h => ?_) | refine Branch.nb (fun h => ?_) (fun h => ?_) | refine Branch.mk (fun h => ?_) (fun h => ?_)) <;> (try simp only [List.length_map] at h) <;> (try omega) <;> (try contradiction))
      | (guard_target = Arith _ _ _; refine Arith.fit (wrap_fit (by (first | omega | decide)) (by (first | omega | decide))) ?_)
      | (guard_target = Arith _ _ _; refine Arith.fit (by decide) ?_)
      | (guard_target = Index _ _ _; first  | refine Index.mk _ (idx_map (by omega)) ?_)
      | (guard_target = Need (chkDraw _ = true) _; refine Need.mk (by kernel_rfl) ?_)
      | (guard_target = Need (chkRecs _ _ = true) _; refine Need.mk (by first | kernel_rfl | rfl) ?_)
      | (guard_target = Need _ _; refine Need.mk (by first  | omega | (simp only [List.length_map]; omega)) ?_))
set_option maxHeartbeats 8000000 in
theorem l06Spot_ok (t a n : Int) (hs : goodSig t a = true) (hn : 0 ≤ n ∧ n ≤ 1048576) (s : XSpot) (hl : budExpr s.cond ≤ 1048576) : CallF Try.prog 87 [.a 2 [J t, J a], .c (.rp 7 (encSpot s)), I n] (B (goodSpot t a n s)) := by
  have hb := sig_bounds hs
  have hc := l06Cond_ok t a hs s.cond hl
  rw [encExpr_eq] at hc
  have hc' : CallF Try.prog 113 [.a 2 [J t, J a], .c (.rp 5 ((encSpot s).drop 2))] (B (condG t a s.cond)) := hc.cut (.same (.cut (k := 3) (by omega) .nil))
  have hc0 : CallF Try.prog 112 [.c (.rp 5 ((encSpot s).drop 2))] (B (noneB s.cond)) := (l06None_ok s.cond).cut (.cut (k := 3) (by omega) .nil)
  refine callF_of_vc htb hm Try.func87 rfl rfl rfl rfl (ann := fun _ => none) (gh := fun _ => false) ?_
  repeat' ((conv => whnf); first
    | (guard_target = Done _; refine Done.mk ?_; first | (rfl; done) | (simp_all [goodSpot, normS, normV]; done) | (simp_all [goodSpot, normS, normV]; omega; done) | (simp_all [goodSpot, normS, normV]; intros; omega; done) | skip)
    | (guard_target = RetX _ _; refine RetX.mk ?_ ?_)
    | (guard_target = Fact _ _; refine Fact.mk fun hL => ?_; (try simp only [List.length_map, maxLen] at hL))
    | (guard_target = Branch _ _ _; (first | refine Branch.dec (fun h => ?_) (fun h => ?_) | refine Branch.beq (fun h => ?_) (fun h => ?_) | refine Branch.bne (fun h => ?_) (fun h => ?_) | refine Branch.ndec (fun h => ?_) (fun h => ?_) | refine Branch.nb (fun h => ?_) (fun h => ?_) | refine Branch.mk (fun h => ?_) (fun h => ?_)) <;> (try simp only [List.length_map] at h) <;> (try omega) <;> (try contradiction))
    | (guard_target = CallN _ 32 _ _ _ _; refine CallN.pure _ _ rfl (l00In_ok _ _ _) rfl _ rfl ?_)
    | (guard_target = CallN _ 112 _ _ _ _; refine CallN.pure _ _ rfl (hc0) rfl _ rfl ?_)
    | (guard_target = CallN _ 113 _ _ _ _; refine CallN.pure _ _ rfl (hc') rfl _ rfl ?_)
    | (guard_target = Arith _ _ _; refine Arith.fit (wrap_fit (by first | omega | (simp only [List.length_map]; omega)) (by first | omega | (simp only [List.length_map]; omega))) ?_)
    | (guard_target = Arith _ _ _; refine Arith.fit (by decide) ?_)
    | (guard_target = Index _ _ _; first  | refine Index.mk _ (idx_map (by omega)) ?_)
    | (guard_target = Need (chkDraw _ = true) _; refine Need.mk (by kernel_rfl) ?_)
    | (guard_target = Need (chkRecs _ _ = true) _; refine Need.mk (by first | kernel_rfl | rfl) ?_)
    | (guard_target = Need _ _; refine Need.mk (by first  | omega | (simp only [List.length_map]; omega)) ?_))
end Go.Proofs.Ytbbaadkgmdkjdaa
