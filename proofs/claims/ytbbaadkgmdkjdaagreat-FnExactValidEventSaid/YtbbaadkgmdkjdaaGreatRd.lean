/- Contract of the reference's function that counts down the nodes of an expression. No conditions. -/
import Derived.Test.YtbbaadkgmdkjdaaGreatRc
namespace Go.Proofs.YtbbaadkgmdkjdaaGreat
open Go Go.KA Go.Proofs
theorem leftS_neg {left : Int} (h : left < 0) : ∀ l : List XExpr, leftS l left = left
  | [] => rfl
  | x :: xs => by simp only [leftS]; rw [if_pos h]
theorem leftS_append : ∀ (l m : List XExpr) (left : Int), leftS (l ++ m) left = leftS m (leftS l left)
  | [], _, _ => rfl
  | x :: xs, m, left => by
    simp only [List.cons_append, leftS]
    by_cases h : left < 0
    · rw [if_pos h, if_pos h, leftS_neg h]
    · rw [if_neg h, if_neg h, leftS_append xs m]
mutual
theorem leftE_range : ∀ (e : XExpr) (left : Int), 0 ≤ left → -1 ≤ leftE e left ∧ leftE e left ≤ left - 1
  | .mk _ _ kids, left, h => by
    have := leftS_range kids (left - 1) (by omega)
    simp only [leftE]
    exact this
theorem leftS_range : ∀ (l : List XExpr) (left : Int), -1 ≤ left → -1 ≤ leftS l left ∧ leftS l left ≤ left
  | [], left, h => ⟨h, Int.le_refl _⟩
  | x :: xs, left, h => by
    simp only [leftS]
    by_cases hn : left < 0
    · rw [if_pos hn]; omega
    · rw [if_neg hn]
      have h1 := leftE_range x left (by omega)
      have h2 := leftS_range xs (leftE x left) h1.1
      omega
end
theorem leftS_take {l : List XExpr} {i : Nat} {left : Int} (h : i < l.length) (hp : 0 ≤ leftS (l.take i) left) : leftS (l.take (i + 1)) left = leftE l[i] (leftS (l.take i) left) := by
  rw [List.take_add_one, List.getElem?_eq_getElem h, leftS_append]
  simp only [Option.toList_some, leftS]
  rw [if_neg (by omega)]
theorem leftS_stop {l : List XExpr} {i : Nat} {left : Int} (hp : leftS (l.take i) left < 0) : leftS l left = leftS (l.take i) left := by
  have h : l = l.take i ++ l.drop i := (List.take_append_drop i l).symm
  conv => lhs; rw [h]
  rw [leftS_append, leftS_neg hp]
theorem l01Left_all (e : XExpr) (left : Int) (h0 : 0 ≤ left) (h1 : left ≤ 1048576) (hx : ∀ x ∈ e.kids, ∀ left : Int, 0 ≤ left → left ≤ 1048576 → CallF Tryz.prog 173 [.c (.rp 3 (encExpr x)), I left] (I (leftE x left))) : CallF Tryz.prog 173 [.c (.rp 3 (toldE e)), I left] (I (leftE e left)) := by
  refine callF_of_vc htb hm Tryz.func173 rfl rfl rfl rfl (ann := fun n => match n with | 3 => some { α := Nat, keep := [0], ov := fun i => [(5, I i), (1, I (leftS (e.kids.take i) (left - 1)))], φ := fun i => i ≤ e.kids.length, μ := fun i => e.kids.length - i } | _ => none) (gh := fun _ => false) ?_
  refine Arith.fit (wrap_fit (by omega) (by omega)) ?_
  refine LoopN.mk (0 : Nat) (Nat.zero_le _) ⟨⟨rfl, rfl⟩, ⟨rfl, rfl⟩, trivial⟩ ⟨⟨rfl, rfl⟩, trivial⟩ trivial ?_ (fun _ => rfl)
  intro (i : Nat) (hi : i ≤ e.kids.length)
  have hr := leftS_range (e.kids.take i) (left - 1) (by omega)
  refine Fact.mk fun hL => ?_
  refine Branch.mk (fun h => ?_) (fun h => ?_)
  · have h := of_decide_eq_true h
    rw [List.length_map] at h hL
    have hi' : i < e.kids.length := by omega
    refine Branch.mk (fun hg => ?_) (fun hg => ?_)
    · have hg : leftS (e.kids.take i) (left - 1) ≥ 0 := of_decide_eq_true hg
      refine Need.mk (by omega) (Index.mk (encExpr e.kids[i]) (by simp [hi']) ?_)
      refine CallN.pure _ _ rfl (hx _ (List.getElem_mem hi') (leftS (e.kids.take i) (left - 1)) (by omega) (by omega)) rfl _ rfl ?_
      simp only [maxLen] at hL
      refine Arith.fit (wrap_fit (by omega) (by omega)) ?_
      refine Gh.go ⟨i + 1, hi', (by show e.kids.length - (i + 1) < e.kids.length - i; omega), ⟨⟨rfl, rfl⟩, ⟨?_, rfl⟩, trivial⟩, ⟨⟨rfl, rfl⟩, trivial⟩, trivial⟩
      exact congrArg I (leftS_take hi' (by omega)).symm
    · have hg : ¬ leftS (e.kids.take i) (left - 1) ≥ 0 := of_decide_eq_false hg
      refine Done.mk ?_
      rw [leftE_eq, leftS_stop (l := e.kids) (i := i) (by omega)]; rfl
  · have h := of_decide_eq_false h
    rw [List.length_map] at h
    have : i = e.kids.length := by omega
    subst this
    refine Done.mk ?_
    rw [leftE_eq, List.take_length]; rfl
theorem l01Left_ok (e : XExpr) (left : Int) (h0 : 0 ≤ left) (h1 : left ≤ 1048576) : CallF Tryz.prog 173 [.c (.rp 3 (encExpr e)), I left] (I (leftE e left)) := by
  rw [encExpr_eq]
  exact l01Left_all e left h0 h1 fun x _hx left h0 h1 => l01Left_ok x left h0 h1
  termination_by SizeOf.sizeOf e
  decreasing_by
    have := List.sizeOf_lt_of_mem _hx
    cases e
    simp only [XExpr.mk.sizeOf_spec]
    show SizeOf.sizeOf x < _
    simp only [XExpr.kids] at this
    omega
theorem l01Depth_ok (e : XExpr) (hl : budExpr e ≤ 1048576) : CallF Tryz.prog 208 [.c (.rp 3 (encExpr e))] (I (depthE e)) := by
  rw [encExpr_eq]
  exact l01Depth_all e hl fun x _hx => l01Depth_ok x (by
    have := budS_mem budExpr _hx
    cases e
    simp only [budExpr, budExprS_eq] at hl
    simp only [XExpr.kids] at this
    omega)
  termination_by SizeOf.sizeOf e
  decreasing_by
    have := List.sizeOf_lt_of_mem _hx
    cases e
    simp only [XExpr.mk.sizeOf_spec]
    show SizeOf.sizeOf x < _
    simp only [XExpr.kids] at this
    omega
end Go.Proofs.YtbbaadkgmdkjdaaGreat
