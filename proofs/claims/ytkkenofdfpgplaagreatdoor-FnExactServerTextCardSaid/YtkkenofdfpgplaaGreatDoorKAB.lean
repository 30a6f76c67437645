/- Contract of the reference's function that counts down the nodes of an expression. No conditions. -/
import Derived.Test.YtkkenofdfpgplaaGreatDoorKAA
namespace Go.Proofs.YtkkenofdfpgplaaGreatDoor
open Go Go.KA Go.Proofs
theorem leftS_neg {left : Int} (h : left < 0) : ∀ l : List XExpr, leftS l left = left
  | [] => rfl
  | x :: xs => by simp only [leftS]; rw [if_pos h]
theorem leftS_append : ∀ (l m : List XExpr) (left : Int), leftS (l ++ m) left = leftS m (leftS l left)
  | [], _, _ => rfl
  | x :: xs, m, left => by
    simp only [List.cons_append, leftS]
    by_cases h : left < 0
    · rw [if_pos h, if_pos h, leftS_neg h]
    · rw [if_neg h, if_neg h, leftS_append xs m]
mutual
theorem leftE_range : ∀ (e : XExpr) (left : Int), 0 ≤ left → -1 ≤ leftE e left ∧ leftE e left ≤ left - 1
  | .mk _ _ kids, left, h => by
    have := leftS_range kids (left - 1) (by omega)
    simp only [leftE]
    exact this
theorem leftS_range : ∀ (l : List XExpr) (left : Int), -1 ≤ left → -1 ≤ leftS l left ∧ leftS l left ≤ left
  | [], left, h => ⟨h, Int.le_refl _⟩
  | x :: xs, left, h => by
    simp only [leftS]
    by_cases hn : left < 0
    · rw [if_pos hn]; omega
    · rw [if_neg hn]
      have h1 := leftE_range x left (by omega)
      have h2 := leftS_range xs (leftE x left) h1.1
      omega
end
theorem leftS_take {l : List XExpr} {i : Nat} {left : Int} (h : i < l.length) (hp : 0 ≤ leftS (l.take i) left) : leftS (l.take (i + 1)) left = leftE l[i] (leftS (l.take i) left) := by
  rw [List.take_add_one, List.getElem?_eq_getElem h, leftS_append]
  simp only [Option.toList_some, leftS]
  rw [if_neg (by omega)]
theorem leftS_stop {l : List XExpr} {i : Nat} {left : Int} (hp : leftS (l.take i) left < 0) : leftS l left = leftS (l.take i) left := by
  have h : l = l.take i ++ l.drop i := (List.take_append_drop i l).symm
  conv => lhs; rw [h]
  rw [leftS_append, leftS_neg hp]
theorem l01Left_all (e : XExpr) (left : Int) (h0 : 0 ≤ left) (h1 : left ≤ 1048576) (hx : ∀ x ∈ e.kids, ∀ left : Int, 0 ≤ left → left ≤ 1048576 → CallF Tryz.prog 106 [.c (.rp 3 (encExpr x)), I left] (I (leftE x left))) : CallF Tryz.prog 106 [.c (.rp 3 (toldE e)), I left] (I (leftE e left)) := by
  refine callF_of_vc htb hm Tryz.func106 rfl rfl rfl rfl (ann := fun n => match n with | 3 => some { α := Nat, keep := [0], ov := fun i => [(5, I i), (1, I (leftS (e.kids.take i) (left - 1)))], φ := fun i => i ≤ e.kids.length, μ := fun i => e.kids.length - i } | _ => none) (gh := fun _ => false) ?_
  refine Arith.fit (wrap_fit (by omega) (by omega)) ?_
  refine LoopN.mk (0 : Nat) (Nat.zero_le _) ⟨⟨rfl, rfl⟩, ⟨rfl, rfl⟩, trivial⟩ ⟨⟨rfl, rfl⟩, trivial⟩ trivial ?_ (fun _ => rfl)
  intro (i : Nat) (hi : i ≤ e.kids.length)
  have hr := leftS_range (e.kids.take i) (left - 1) (by omega)
  refine Fact.mk fun hL => ?_
  refine Branch.mk (fun h => ?_) (fun h => ?_)
  · have h := of_decide_eq_true h
    rw [List.length_map] at h hL
    have hi' : i < e.kids.length := by omega
    refine Branch.mk (fun hg => ?_) (fun hg => ?_)
    · have hg : leftS (e.kids.take i) (left - 1) ≥ 0 := of_decide_eq_true hg
      refine Need.mk (by omega) (Index.mk (encExpr e.kids[i]) (by simp [hi']) ?_)
      refine CallN.pure _ _ rfl (hx _ (List.getElem_mem hi') (leftS (e.kids.take i) (left - 1)) (by omega) (by omega)) rfl _ rfl ?_
      simp only [maxLen] at hL
      refine Arith.fit (wrap_fit (by omega) (by omega)) ?_
      refine Gh.go ⟨i + 1, hi', (by show e.kids.length - (i + 1) < e.kids.length - i; omega), ⟨⟨rfl, rfl⟩, ⟨?_, rfl⟩, trivial⟩, ⟨⟨rfl, rfl⟩, trivial⟩, trivial⟩
      exact congrArg I (leftS_take hi' (by omega)).symm
    · have hg : ¬ leftS (e.kids.take i) (left - 1) ≥ 0 := of_decide_eq_false hg
      refine Done.mk ?_
      rw [leftE_eq, leftS_stop (l := e.kids) (i := i) (by omega)]; rfl
  · have h := of_decide_eq_false h
    rw [List.length_map] at h
    have : i = e.kids.length := by omega
    subst this
    refine Done.mk ?_
    rw [leftE_eq, List.take_length]; rfl
theorem l01Left_ok (e : XExpr) (left : Int) (h0 : 0 ≤ left) (h1 : left ≤ 1048576) : CallF Tryz.prog 106 [.c (.rp 3 (encExpr e)), I left] (I (leftE e left)) := by
  rw [encExpr_eq]
  exact l01Left_all e left h0 h1 fun x _hx left h0 h1 => l01Left_ok x left h0 h1
  termination_by SizeOf.sizeOf e
  decreasing_by
    have := List.sizeOf_lt_of_mem _hx
    cases e
    simp only [XExpr.mk.sizeOf_spec]
    show SizeOf.sizeOf x < _
    simp only [XExpr.kids] at this
    omega
theorem l01Depth_ok (e : XExpr) (hl : budExpr e ≤ 1048576) : CallF Tryz.prog 134 [.c (.rp 3 (encExpr e))] (I (depthE e)) := by
  rw [encExpr_eq]
  exact l01Depth_all e hl fun x _hx => l01Depth_ok x (by
    have := budS_mem budExpr _hx
    cases e
    simp only [budExpr, budExprS_eq] at hl
    simp only [XExpr.kids] at this
    omega)
  termination_by SizeOf.sizeOf e
  decreasing_by
    have := List.sizeOf_lt_of_mem _hx
    cases e
    simp only [XExpr.mk.sizeOf_spec]
    show SizeOf.sizeOf x < _
    simp only [XExpr.kids] at this
    omega
end Go.Proofs.YtkkenofdfpgplaaGreatDoor

namespace Go.Proofs.YtkkenofdfpgplaaGreatDoor
open Go Go.KA Go.Proofs
mutual
def treeB (t a : Int) : XExpr → Bool
  | .mk k n kids => ((kids.length : Int) == kidsN k) && (if k == 3 then rng 0 (t - 1) n else if k == 4 then rng 0 (a - 1) n else (n == 0) && ((!(k == 5) || condS kids) && treeS t a kids))
def treeS (t a : Int) : List XExpr → Bool
  | [] => true
  | x :: xs => treeB t a x && treeS t a xs
end
theorem treeS_all (t a : Int) : ∀ l : List XExpr, treeS t a l = l.all (treeB t a)
  | [] => rfl
  | x :: xs => by simp only [treeS, List.all_cons]; rw [treeS_all t a xs]
theorem treeB_eq (t a : Int) (e : XExpr) : treeB t a e = (((e.kids.length : Int) == kidsN e.kind) && (if e.kind == 3 then rng 0 (t - 1) e.num else if e.kind == 4 then rng 0 (a - 1) e.num else (e.num == 0) && ((!(e.kind == 5) || e.kids.all condB) && e.kids.all (treeB t a)))) := by
  cases e
  simp only [treeB, treeS_all, condS_all]
  rfl
set_option maxHeartbeats 8000000 in
theorem l01Tree_all (t a : Int) (ht : 0 ≤ t ∧ t ≤ 3) (ha : 0 ≤ a ∧ a ≤ 4) (e : XExpr) (hx : ∀ x ∈ e.kids, CallF Tryz.prog 135 [.a 2 [J t, J a], .c (.rp 3 (encExpr x))] (B (treeB t a x))) : CallF Tryz.prog 135 [.a 2 [J t, J a], .c (.rp 3 (toldE e))] (B (treeB t a e)) := by
  refine callF_of_vc htb hm Tryz.func135 rfl rfl rfl rfl (ann := fun n => match n with | 11 => some { α := Nat, keep := [1, 2], ov := fun i => [(5, I i)], φ := fun i => i ≤ e.kids.length ∧ (e.kids.take i).all (treeB t a) = true, μ := fun i => e.kids.length - i } | _ => none) (gh := fun _ => false) ?_
  refine Need.mk (by kernel_rfl) ?_
  refine CallN.pure _ _ rfl (l01Kids_ok _) rfl _ rfl ?_
  refine Need.mk (by kernel_rfl) ?_
  refine Branch.mk (fun h1 => ?_) (fun h1 => ?_)
  · refine Done.mk ?_
    rw [List.length_map] at h1
    have : ((e.kids.length : Int) == kidsN e.kind) = false := by simpa using h1
    rw [treeB_eq, this]; rfl
  rw [List.length_map] at h1
  have h1 : ((e.kids.length : Int) == kidsN e.kind) = true := by simpa using h1
  refine Branch.mk (fun h3 => ?_) (fun h3 => ?_)
  · refine Need.mk (by kernel_rfl) ?_
    refine Arith.fit (wrap_fit (by omega) (by omega)) ?_
    refine CallN.pure _ _ rfl (l00In_ok _ _ _) rfl _ rfl ?_
    refine Need.mk (by kernel_rfl) ?_
    refine Done.mk ?_
    rw [treeB_eq, h1, h3]; rfl
  refine Branch.mk (fun h4 => ?_) (fun h4 => ?_)
  · refine Need.mk (by kernel_rfl) ?_
    refine Arith.fit (wrap_fit (by omega) (by omega)) ?_
    refine CallN.pure _ _ rfl (l00In_ok _ _ _) rfl _ rfl ?_
    refine Need.mk (by kernel_rfl) ?_
    refine Done.mk ?_
    rw [treeB_eq, h1, h3, h4]; rfl
  refine Branch.mk (fun h0 => ?_) (fun h0 => ?_)
  · refine Done.mk ?_
    have : (e.num == 0) = false := by simpa using h0
    rw [treeB_eq, h1, h3, h4, this]; rfl
  have h0 : (e.num == 0) = true := by simpa using h0
  refine Branch.mk (fun h5 => ?_) (fun h5 => ?_)
  · have hk : e.kind = 5 := eq_of_beq h5
    have hl1 : (e.kids.length : Int) = 1 := by
      have := eq_of_beq h1
      rw [hk] at this
      exact this
    have hi0 : 0 < e.kids.length := by omega
    have hone : e.kids.all condB = condB e.kids[0] := by
      match hm : e.kids, hi0, hl1 with
      | [x], _, _ => simp
    refine Need.mk (by omega) (Index.mk (encExpr e.kids[0]) (by show (e.kids.map encExpr)[0]? = _; rw [List.getElem?_map, List.getElem?_eq_getElem hi0]; rfl) ?_)
    refine CallN.pure _ _ rfl (l01Condition_ok _) rfl _ rfl ?_
    refine Branch.mk (fun hc => ?_) (fun hc => ?_)
    · refine Done.mk ?_
      have hc : condB e.kids[0] = false := by simpa using hc
      rw [treeB_eq, h1, h3, h4, h0, h5, hone, hc]; rfl
    have hc : condB e.kids[0] = true := by simpa using hc
    have hC : (!(e.kind == 5) || e.kids.all condB) = true := by rw [hone, hc, h5]; rfl
    refine LoopN.mk (0 : Nat) ⟨Nat.zero_le _, rfl⟩ ⟨⟨rfl, rfl⟩, trivial⟩ ⟨⟨rfl, rfl⟩, ⟨rfl, rfl⟩, trivial⟩ ⟨⟨rfl, rfl⟩, trivial⟩ ?_ (fun _ => rfl)
    intro (i : Nat) (hi : i ≤ e.kids.length ∧ (e.kids.take i).all (treeB t a) = true)
    obtain ⟨hi, hal⟩ := hi
    refine Fact.mk fun hL => ?_
    refine Branch.mk (fun h => ?_) (fun h => ?_)
    · have h := of_decide_eq_true h
      rw [List.length_map] at h hL
      have hi' : i < e.kids.length := by omega
      refine Need.mk (by kernel_rfl) ?_
      refine Need.mk (by omega) (Index.mk (encExpr e.kids[i]) (by simp [hi']) ?_)
      refine CallN.pure _ _ rfl (hx _ (List.getElem_mem hi')) rfl _ rfl ?_
      refine Need.mk (by kernel_rfl) ?_
      refine Branch.mk (fun hb => ?_) (fun hb => ?_)
      · refine Done.mk ?_
        rw [treeB_eq, h1, h3, h4, h0, hC, all_no hi' (by simpa using hb)]; rfl
      · simp only [maxLen] at hL
        refine Arith.fit (wrap_fit (by omega) (by omega)) ?_
        exact Gh.go ⟨i + 1, ⟨hi', all_more hi' hal (by simpa using hb)⟩, (by show e.kids.length - (i + 1) < e.kids.length - i; omega), ⟨⟨rfl, rfl⟩, trivial⟩, ⟨⟨rfl, rfl⟩, ⟨rfl, rfl⟩, trivial⟩, ⟨⟨rfl, rfl⟩, trivial⟩⟩
    · have h := of_decide_eq_false h
      rw [List.length_map] at h
      have : i = e.kids.length := by omega
      subst this
      refine Done.mk ?_
      rw [List.take_length] at hal
      rw [treeB_eq, h1, h3, h4, h0, hC, hal]; rfl
  · have hC : (!(e.kind == 5) || e.kids.all condB) = true := by rw [h5]; rfl
    refine LoopN.mk (0 : Nat) ⟨Nat.zero_le _, rfl⟩ ⟨⟨rfl, rfl⟩, trivial⟩ ⟨⟨rfl, rfl⟩, ⟨rfl, rfl⟩, trivial⟩ ⟨⟨rfl, rfl⟩, trivial⟩ ?_ (fun _ => rfl)
    intro (i : Nat) (hi : i ≤ e.kids.length ∧ (e.kids.take i).all (treeB t a) = true)
    obtain ⟨hi, hal⟩ := hi
    refine Fact.mk fun hL => ?_
    refine Branch.mk (fun h => ?_) (fun h => ?_)
    · have h := of_decide_eq_true h
      rw [List.length_map] at h hL
      have hi' : i < e.kids.length := by omega
      refine Need.mk (by kernel_rfl) ?_
      refine Need.mk (by omega) (Index.mk (encExpr e.kids[i]) (by simp [hi']) ?_)
      refine CallN.pure _ _ rfl (hx _ (List.getElem_mem hi')) rfl _ rfl ?_
      refine Need.mk (by kernel_rfl) ?_
      refine Branch.mk (fun hb => ?_) (fun hb => ?_)
      · refine Done.mk ?_
        rw [treeB_eq, h1, h3, h4, h0, hC, all_no hi' (by simpa using hb)]; rfl
      · simp only [maxLen] at hL
        refine Arith.fit (wrap_fit (by omega) (by omega)) ?_
        exact Gh.go ⟨i + 1, ⟨hi', all_more hi' hal (by simpa using hb)⟩, (by show e.kids.length - (i + 1) < e.kids.length - i; omega), ⟨⟨rfl, rfl⟩, trivial⟩, ⟨⟨rfl, rfl⟩, ⟨rfl, rfl⟩, trivial⟩, ⟨⟨rfl, rfl⟩, trivial⟩⟩
    · have h := of_decide_eq_false h
      rw [List.length_map] at h
      have : i = e.kids.length := by omega
      subst this
      refine Done.mk ?_
      rw [List.take_length] at hal
      rw [treeB_eq, h1, h3, h4, h0, hC, hal]; rfl
theorem l01Tree_ok (t a : Int) (ht : 0 ≤ t ∧ t ≤ 3) (ha : 0 ≤ a ∧ a ≤ 4) (e : XExpr) : CallF Tryz.prog 135 [.a 2 [J t, J a], .c (.rp 3 (encExpr e))] (B (treeB t a e)) := by
  rw [encExpr_eq]
  exact l01Tree_all t a ht ha e fun x _hx => l01Tree_ok t a ht ha x
  termination_by SizeOf.sizeOf e
  decreasing_by
    have := List.sizeOf_lt_of_mem _hx
    cases e
    simp only [XExpr.mk.sizeOf_spec]
    show SizeOf.sizeOf x < _
    simp only [XExpr.kids] at this
    omega
end Go.Proofs.YtkkenofdfpgplaaGreatDoor
