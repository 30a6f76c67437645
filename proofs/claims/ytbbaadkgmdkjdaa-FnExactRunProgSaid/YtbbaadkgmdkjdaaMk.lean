/- Contracts of the laws' own functions mark.., where the marks are not looked at again. No conditions. -/
import Derived.Test.YtbbaadkgmdkjdaaTy
namespace Go.Proofs.Ytbbaadkgmdkjdaa
open Go Go.KA Go.Proofs
def one {α : Type} (_ : α) : Nat := 1
def Rest {α : Type} (row : α → List CV) (l : List α) (i : Nat) (rows : List (List CV)) : Prop := rows.length = l.length ∧ ∀ j, i ≤ j → rows[j]? = (l.map row)[j]?
theorem rest_zero {α : Type} {row : α → List CV} {l : List α} : Rest row l 0 (l.map row) := ⟨List.length_map _, fun _ _ => rfl⟩
theorem rest_step {α : Type} {row : α → List CV} {l : List α} {i : Nat} {rows : List (List CV)} {r : List CV} (h : Rest row l i rows) : Rest row l (i + 1) (rows.set i r) :=
  ⟨by rw [List.length_set]; exact h.1, fun j hj => by rw [List.getElem?_set_ne (by omega)]; exact h.2 j (by omega)⟩
theorem rest_more {α : Type} {row : α → List CV} {l : List α} {i : Nat} {rows : List (List CV)} {r : List CV} (h : Rest row l (i + 1) rows) : Rest row l (i + 1) (rows.set i r) :=
  ⟨by rw [List.length_set]; exact h.1, fun j hj => by rw [List.getElem?_set_ne (by omega)]; exact h.2 j hj⟩
theorem rest_get {α : Type} {row : α → List CV} {l : List α} {i : Nat} {rows : List (List CV)} (h : Rest row l i rows) (hi : i < l.length) : rows[i]? = some (row l[i]) := by
  rw [h.2 i (Nat.le_refl _), List.getElem?_map, List.getElem?_eq_getElem hi]
  rfl
theorem set_get {α : Type} {l : List α} {i : Nat} {x : α} (h : i < l.length) : (l.set i x)[i]? = some x := by
  simp [h]
mutual
def mkeExpr : XExpr → Nat
  | .mk _ _ kids => 2 + mkeExprS kids
def mkeExprS : List XExpr → Nat
  | [] => 0
  | x :: xs => mkeExpr x + mkeExprS xs
end
theorem mkeExprS_eq : ∀ l : List XExpr, mkeExprS l = bsum mkeExpr l
  | [] => rfl
  | x :: xs => by simp only [mkeExprS, bsum]; rw [mkeExprS_eq xs]
theorem mkeExpr_eq (x : XExpr) : mkeExpr x = 2 + bsum mkeExpr x.kids := by
  cases x
  simp only [mkeExpr, mkeExprS_eq]
  rfl
def mkeSpot (x : XSpot) : Nat := 6 + bsum mkeExpr x.cond.kids
theorem mkeSpot_eq (x : XSpot) : mkeSpot x = 6 + bsum mkeExpr x.cond.kids := rfl
theorem markExprS_all (l : List XExpr) (k : Int) (h0 : 0 ≤ k) (hk : k + (bsum mkeExpr l : Nat) ≤ 4611686018427387904) (hx : ∀ x ∈ l, ∀ k : Int, 0 ≤ k → k + (bsum mkeExpr x.kids : Nat) ≤ 4611686018427387904 → CallX Try.prog 98 [.c (.own 71 3 (x.kids.map ownExpr)), I (k)] [] (I (k + (bsum mkeExpr x.kids : Nat)))) : CallX Try.prog 98 [.c (.own 71 3 (l.map ownExpr)), I (k)] [] (I (k + (bsum mkeExpr l : Nat))) := by
  refine callX_of_vc htb hm Try.func98 rfl rfl rfl rfl (ann := fun n => match n with | 2 => some { α := Nat × List (List CV), keep := [0], ov := fun a => [(5, I a.1), (1, I (k + (bsum mkeExpr (l.take a.1) : Nat)))], hv := fun a => [(0, .orow none 71 3 a.2)], φ := fun a => a.1 ≤ l.length ∧ Rest ownExpr l a.1 a.2, μ := fun a => l.length - a.1 } | _ => none) (gh := fun _ => false) ?_
  refine LoopN.mk ((0, l.map ownExpr) : Nat × List (List CV)) ⟨Nat.zero_le _, rest_zero⟩ ⟨⟨rfl, rfl⟩, ⟨?_, rfl⟩, trivial⟩ ⟨⟨rfl, rfl⟩, trivial⟩ ⟨⟨rfl, rfl⟩, trivial⟩ ?_ (fun _ => rfl)
  · refine congrArg I ?_
    simp [bsum]
  rintro ⟨i, rows⟩ (hφ : i ≤ l.length ∧ Rest ownExpr l i rows)
  obtain ⟨hi, hR⟩ := hφ
  have hlen := hR.1
  refine Fact.mk fun (hL : rows.length ≤ maxLen) => ?_
  refine Branch.mk (fun h => ?_) (fun h => ?_)
  · have h : (i : Int) < (rows.length : Nat) := of_decide_eq_true h
    have hi' : i < l.length := by omega
    have hs := bsum_take (f := mkeExpr) (List.getElem?_eq_getElem hi')
    have hle := bsum_le (f := mkeExpr) l (i + 1)
    have hf := mkeExpr_eq l[i]
    have hg : rows[i]? = some [.val (.int .i64 l[i].kind), .val (.int .i64 l[i].num), .own 71 3 (l[i].kids.map ownExpr)] := (rest_get hR hi').trans (congrArg some (ownExpr_eq _))
    refine Need.mk ⟨by omega, by rw [hlen]; exact hi'⟩ (Index.mk _ hg ?_)
    refine Arith.fit (wrap_fit (z := k + (bsum mkeExpr (l.take i) : Nat) + 1) (by omega) (by omega)) ?_
    refine Need.mk ⟨by omega, by simp only [List.length_set]; rw [hlen]; exact hi'⟩ (Index.mk _ (set_get (by rw [hlen]; exact hi')) ?_)
    refine Arith.fit (wrap_fit (z := k + (bsum mkeExpr (l.take i) : Nat) + 1 + 1) (by omega) (by omega)) ?_
    refine Need.mk ⟨by omega, by simp only [List.length_set]; rw [hlen]; exact hi'⟩ (Index.mk _ (set_get (by simp only [List.length_set]; rw [hlen]; exact hi')) fun v => ?_)
    refine CallN.gen [true, false] _ [] _ rfl (hx l[i] (List.getElem_mem hi') (k + (bsum mkeExpr (l.take i) : Nat) + 1 + 1) (by omega) (by omega)) rfl rfl _ rfl ?_
    refine Arith.fit (wrap_fit (z := (i : Int) + 1) (by omega) (by simp only [maxLen] at hL; omega)) ?_
    refine Gh.go ⟨(i + 1, _), ⟨hi', ?_⟩, (by show l.length - (i + 1) < l.length - i; omega), ⟨⟨rfl, rfl⟩, ⟨?_, rfl⟩, trivial⟩, ⟨⟨rfl, rfl⟩, trivial⟩, ⟨⟨rfl, rfl⟩, trivial⟩⟩
    · exact rest_more (rest_more (rest_step hR))
    · refine congrArg I ?_
      show k + (bsum mkeExpr (l.take i) : Nat) + 1 + 1 + (bsum mkeExpr l[i].kids : Nat) = k + (bsum mkeExpr (l.take (i + 1)) : Nat)
      omega
  · have h : ¬ (i : Int) < (rows.length : Nat) := of_decide_eq_false h
    have : i = l.length := by omega
    subst this
    refine RetX.mk ?_ trivial
    refine congrArg I ?_
    rw [List.take_length]
theorem markExprS_ok : ∀ (l : List XExpr) (k : Int), 0 ≤ k → k + (bsum mkeExpr l : Nat) ≤ 4611686018427387904 → CallX Try.prog 98 [.c (.own 71 3 (l.map ownExpr)), I (k)] [] (I (k + (bsum mkeExpr l : Nat)))
  | l, k, h0, hk => markExprS_all l k h0 hk fun x _hx k h0 hk => markExprS_ok x.kids k h0 hk
  termination_by l => SizeOf.sizeOf l
  decreasing_by
    have := List.sizeOf_lt_of_mem _hx
    cases x
    simp only [XExpr.mk.sizeOf_spec] at this
    show SizeOf.sizeOf ((XExpr.mk _ _ _).kids) < _
    simp only [XExpr.kids]
    omega
theorem markSpotS_ok (l : List XSpot) (k : Int) (h0 : 0 ≤ k) (hk : k + (bsum mkeSpot l : Nat) ≤ 4611686018427387904) : CallX Try.prog 65 [.c (.own 148 7 (l.map ownSpot)), I (k)] [] (I (k + (bsum mkeSpot l : Nat))) := by
  refine callX_of_vc htb hm Try.func65 rfl rfl rfl rfl (ann := fun n => match n with | 2 => some { α := Nat × List (List CV), keep := [0], ov := fun a => [(5, I a.1), (1, I (k + (bsum mkeSpot (l.take a.1) : Nat)))], hv := fun a => [(0, .orow none 148 7 a.2)], φ := fun a => a.1 ≤ l.length ∧ Rest ownSpot l a.1 a.2, μ := fun a => l.length - a.1 } | _ => none) (gh := fun _ => false) ?_
  refine LoopN.mk ((0, l.map ownSpot) : Nat × List (List CV)) ⟨Nat.zero_le _, rest_zero⟩ ⟨⟨rfl, rfl⟩, ⟨?_, rfl⟩, trivial⟩ ⟨⟨rfl, rfl⟩, trivial⟩ ⟨⟨rfl, rfl⟩, trivial⟩ ?_ (fun _ => rfl)
  · refine congrArg I ?_
    simp [bsum]
  rintro ⟨i, rows⟩ (hφ : i ≤ l.length ∧ Rest ownSpot l i rows)
  obtain ⟨hi, hR⟩ := hφ
  have hlen := hR.1
  refine Fact.mk fun (hL : rows.length ≤ maxLen) => ?_
  refine Branch.mk (fun h => ?_) (fun h => ?_)
  · have h : (i : Int) < (rows.length : Nat) := of_decide_eq_true h
    have hi' : i < l.length := by omega
    have hs := bsum_take (f := mkeSpot) (List.getElem?_eq_getElem hi')
    have hle := bsum_le (f := mkeSpot) l (i + 1)
    have hf := mkeSpot_eq l[i]
    have hg : rows[i]? = some [.val (.int .i64 l[i].kind), .val (.int .i64 l[i].num), .val (.int .i64 l[i].cond.kind), .val (.int .i64 l[i].cond.num), .own 71 3 (l[i].cond.kids.map ownExpr), .val (.int .i64 l[i].to0), .val (.int .i64 l[i].else0)] := (rest_get hR hi').trans (congrArg some rfl)
    refine Need.mk ⟨by omega, by rw [hlen]; exact hi'⟩ (Index.mk _ hg ?_)
    refine Arith.fit (wrap_fit (z := k + (bsum mkeSpot (l.take i) : Nat) + 1) (by omega) (by omega)) ?_
    refine Need.mk ⟨by omega, by simp only [List.length_set]; rw [hlen]; exact hi'⟩ (Index.mk _ (set_get (by rw [hlen]; exact hi')) ?_)
    refine Arith.fit (wrap_fit (z := k + (bsum mkeSpot (l.take i) : Nat) + 1 + 1) (by omega) (by omega)) ?_
    refine Need.mk ⟨by omega, by simp only [List.length_set]; rw [hlen]; exact hi'⟩ (Index.mk _ (set_get (by simp only [List.length_set]; rw [hlen]; exact hi')) ?_)
    refine Arith.fit (wrap_fit (z := k + (bsum mkeSpot (l.take i) : Nat) + 1 + 1 + 1) (by omega) (by omega)) ?_
    refine Need.mk ⟨by omega, by simp only [List.length_set]; rw [hlen]; exact hi'⟩ (Index.mk _ (set_get (by simp only [List.length_set]; rw [hlen]; exact hi')) ?_)
    refine Arith.fit (wrap_fit (z := k + (bsum mkeSpot (l.take i) : Nat) + 1 + 1 + 1 + 1) (by omega) (by omega)) ?_
    refine Need.mk ⟨by omega, by simp only [List.length_set]; rw [hlen]; exact hi'⟩ (Index.mk _ (set_get (by simp only [List.length_set]; rw [hlen]; exact hi')) fun v => ?_)
    refine CallN.gen [true, false] _ [] _ rfl (markExprS_ok l[i].cond.kids (k + (bsum mkeSpot (l.take i) : Nat) + 1 + 1 + 1 + 1) (by omega) (by omega)) rfl rfl _ rfl ?_
    refine Need.mk ⟨by omega, by simp only [List.length_set]; rw [hlen]; exact hi'⟩ (Index.mk _ (set_get (by simp only [List.length_set]; rw [hlen]; exact hi')) ?_)
    refine Arith.fit (wrap_fit (z := k + (bsum mkeSpot (l.take i) : Nat) + 1 + 1 + 1 + 1 + (bsum mkeExpr l[i].cond.kids : Nat) + 1) (by omega) (by omega)) ?_
    refine Need.mk ⟨by omega, by simp only [List.length_set]; rw [hlen]; exact hi'⟩ (Index.mk _ (set_get (by simp only [List.length_set]; rw [hlen]; exact hi')) ?_)
    refine Arith.fit (wrap_fit (z := k + (bsum mkeSpot (l.take i) : Nat) + 1 + 1 + 1 + 1 + (bsum mkeExpr l[i].cond.kids : Nat) + 1 + 1) (by omega) (by omega)) ?_
    refine Arith.fit (wrap_fit (z := (i : Int) + 1) (by omega) (by simp only [maxLen] at hL; omega)) ?_
    refine Gh.go ⟨(i + 1, _), ⟨hi', ?_⟩, (by show l.length - (i + 1) < l.length - i; omega), ⟨⟨rfl, rfl⟩, ⟨?_, rfl⟩, trivial⟩, ⟨⟨rfl, rfl⟩, trivial⟩, ⟨⟨rfl, rfl⟩, trivial⟩⟩
    · exact rest_more (rest_more (rest_more (rest_more (rest_more (rest_more (rest_step hR))))))
    · refine congrArg I ?_
      show k + (bsum mkeSpot (l.take i) : Nat) + 1 + 1 + 1 + 1 + (bsum mkeExpr l[i].cond.kids : Nat) + 1 + 1 = k + (bsum mkeSpot (l.take (i + 1)) : Nat)
      omega
  · have h : ¬ (i : Int) < (rows.length : Nat) := of_decide_eq_false h
    have : i = l.length := by omega
    subst this
    refine RetX.mk ?_ trivial
    refine congrArg I ?_
    rw [List.take_length]
set_option maxHeartbeats 4000000 in
theorem markFlow_ok (x : XFlow) (k : Int) (h0 : 0 ≤ k) (hk : k + (bsum mkeSpot x.spots : Nat) ≤ 4611686018427387904) : CallX Try.prog 22 [.m [.c (.val (.int .i64 x.start)), .c (.own 148 7 (x.spots.map ownSpot))], I k] [] (I (k + (bsum mkeSpot x.spots : Nat))) := by
  refine callX_of_vc htb hm Try.func22 rfl rfl rfl rfl (ann := fun _ => none) (gh := fun _ => false) ?_
  refine CallN.gen [true, false] _ [] _ rfl (markSpotS_ok x.spots (k) (by omega) (by omega)) rfl rfl _ rfl ?_
  refine RetX.mk ?_ trivial
  refine congrArg I ?_
  omega
set_option maxHeartbeats 4000000 in
theorem markExpr_ok (x : XExpr) (k : Int) (h0 : 0 ≤ k) (hk : k + (bsum mkeExpr x.kids : Nat) ≤ 4611686018427387904) : CallX Try.prog 77 [.m [.c (.val (.int .i64 x.kind)), .c (.val (.int .i64 x.num)), .c (.own 71 3 (x.kids.map ownExpr))], I k] [] (I (k + (bsum mkeExpr x.kids : Nat))) := by
  refine callX_of_vc htb hm Try.func77 rfl rfl rfl rfl (ann := fun _ => none) (gh := fun _ => false) ?_
  refine CallN.gen [true, false] _ [] _ rfl (markExprS_ok x.kids (k) (by omega) (by omega)) rfl rfl _ rfl ?_
  refine RetX.mk ?_ trivial
  refine congrArg I ?_
  omega
mutual
def mkeProg : XProg → Nat
  | .mk _ _ cond kids => 4 + bsum mkeExpr cond.kids + mkeProgS kids
def mkeProgS : List XProg → Nat
  | [] => 0
  | x :: xs => mkeProg x + mkeProgS xs
end
theorem mkeProgS_eq : ∀ l : List XProg, mkeProgS l = bsum mkeProg l
  | [] => rfl
  | x :: xs => by simp only [mkeProgS, bsum]; rw [mkeProgS_eq xs]
theorem mkeProg_eq (x : XProg) : mkeProg x = 4 + bsum mkeExpr x.cond.kids + bsum mkeProg x.kids := by
  cases x
  simp only [mkeProg, mkeProgS_eq]
  rfl
theorem markProgS_all (l : List XProg) (k : Int) (h0 : 0 ≤ k) (hk : k + (bsum mkeProg l : Nat) ≤ 4611686018427387904) (hx : ∀ x ∈ l, ∀ k : Int, 0 ≤ k → k + (bsum mkeProg x.kids : Nat) ≤ 4611686018427387904 → CallX Try.prog 78 [.c (.own 74 6 (x.kids.map ownProg)), I (k)] [] (I (k + (bsum mkeProg x.kids : Nat)))) : CallX Try.prog 78 [.c (.own 74 6 (l.map ownProg)), I (k)] [] (I (k + (bsum mkeProg l : Nat))) := by
  refine callX_of_vc htb hm Try.func78 rfl rfl rfl rfl (ann := fun n => match n with | 2 => some { α := Nat × List (List CV), keep := [0], ov := fun a => [(5, I a.1), (1, I (k + (bsum mkeProg (l.take a.1) : Nat)))], hv := fun a => [(0, .orow none 74 6 a.2)], φ := fun a => a.1 ≤ l.length ∧ Rest ownProg l a.1 a.2, μ := fun a => l.length - a.1 } | _ => none) (gh := fun _ => false) ?_
  refine LoopN.mk ((0, l.map ownProg) : Nat × List (List CV)) ⟨Nat.zero_le _, rest_zero⟩ ⟨⟨rfl, rfl⟩, ⟨?_, rfl⟩, trivial⟩ ⟨⟨rfl, rfl⟩, trivial⟩ ⟨⟨rfl, rfl⟩, trivial⟩ ?_ (fun _ => rfl)
  · refine congrArg I ?_
    simp [bsum]
  rintro ⟨i, rows⟩ (hφ : i ≤ l.length ∧ Rest ownProg l i rows)
  obtain ⟨hi, hR⟩ := hφ
  have hlen := hR.1
  refine Fact.mk fun (hL : rows.length ≤ maxLen) => ?_
  refine Branch.mk (fun h => ?_) (fun h => ?_)
  · have h : (i : Int) < (rows.length : Nat) := of_decide_eq_true h
    have hi' : i < l.length := by omega
    have hs := bsum_take (f := mkeProg) (List.getElem?_eq_getElem hi')
    have hle := bsum_le (f := mkeProg) l (i + 1)
    have hf := mkeProg_eq l[i]
    have hg : rows[i]? = some [.val (.int .i64 l[i].kind), .val (.int .i64 l[i].num), .val (.int .i64 l[i].cond.kind), .val (.int .i64 l[i].cond.num), .own 71 3 (l[i].cond.kids.map ownExpr), .own 74 6 (l[i].kids.map ownProg)] := (rest_get hR hi').trans (congrArg some (ownProg_eq _))
    refine Need.mk ⟨by omega, by rw [hlen]; exact hi'⟩ (Index.mk _ hg ?_)
    refine Arith.fit (wrap_fit (z := k + (bsum mkeProg (l.take i) : Nat) + 1) (by omega) (by omega)) ?_
    refine Need.mk ⟨by omega, by simp only [List.length_set]; rw [hlen]; exact hi'⟩ (Index.mk _ (set_get (by rw [hlen]; exact hi')) ?_)
    refine Arith.fit (wrap_fit (z := k + (bsum mkeProg (l.take i) : Nat) + 1 + 1) (by omega) (by omega)) ?_
    refine Need.mk ⟨by omega, by simp only [List.length_set]; rw [hlen]; exact hi'⟩ (Index.mk _ (set_get (by simp only [List.length_set]; rw [hlen]; exact hi')) ?_)
    refine Arith.fit (wrap_fit (z := k + (bsum mkeProg (l.take i) : Nat) + 1 + 1 + 1) (by omega) (by omega)) ?_
    refine Need.mk ⟨by omega, by simp only [List.length_set]; rw [hlen]; exact hi'⟩ (Index.mk _ (set_get (by simp only [List.length_set]; rw [hlen]; exact hi')) ?_)
    refine Arith.fit (wrap_fit (z := k + (bsum mkeProg (l.take i) : Nat) + 1 + 1 + 1 + 1) (by omega) (by omega)) ?_
    refine Need.mk ⟨by omega, by simp only [List.length_set]; rw [hlen]; exact hi'⟩ (Index.mk _ (set_get (by simp only [List.length_set]; rw [hlen]; exact hi')) fun v => ?_)
    refine CallN.gen [true, false] _ [] _ rfl (markExprS_ok l[i].cond.kids (k + (bsum mkeProg (l.take i) : Nat) + 1 + 1 + 1 + 1) (by omega) (by omega)) rfl rfl _ rfl ?_
    refine Need.mk ⟨by omega, by simp only [List.length_set]; rw [hlen]; exact hi'⟩ (Index.mk _ (set_get (by simp only [List.length_set]; rw [hlen]; exact hi')) fun v => ?_)
    refine CallN.gen [true, false] _ [] _ rfl (hx l[i] (List.getElem_mem hi') (k + (bsum mkeProg (l.take i) : Nat) + 1 + 1 + 1 + 1 + (bsum mkeExpr l[i].cond.kids : Nat)) (by omega) (by omega)) rfl rfl _ rfl ?_
    refine Arith.fit (wrap_fit (z := (i : Int) + 1) (by omega) (by simp only [maxLen] at hL; omega)) ?_
    refine Gh.go ⟨(i + 1, _), ⟨hi', ?_⟩, (by show l.length - (i + 1) < l.length - i; omega), ⟨⟨rfl, rfl⟩, ⟨?_, rfl⟩, trivial⟩, ⟨⟨rfl, rfl⟩, trivial⟩, ⟨⟨rfl, rfl⟩, trivial⟩⟩
    · exact rest_more (rest_more (rest_more (rest_more (rest_more (rest_step hR)))))
    · refine congrArg I ?_
      show k + (bsum mkeProg (l.take i) : Nat) + 1 + 1 + 1 + 1 + (bsum mkeExpr l[i].cond.kids : Nat) + (bsum mkeProg l[i].kids : Nat) = k + (bsum mkeProg (l.take (i + 1)) : Nat)
      omega
  · have h : ¬ (i : Int) < (rows.length : Nat) := of_decide_eq_false h
    have : i = l.length := by omega
    subst this
    refine RetX.mk ?_ trivial
    refine congrArg I ?_
    rw [List.take_length]
theorem markProgS_ok : ∀ (l : List XProg) (k : Int), 0 ≤ k → k + (bsum mkeProg l : Nat) ≤ 4611686018427387904 → CallX Try.prog 78 [.c (.own 74 6 (l.map ownProg)), I (k)] [] (I (k + (bsum mkeProg l : Nat)))
  | l, k, h0, hk => markProgS_all l k h0 hk fun x _hx k h0 hk => markProgS_ok x.kids k h0 hk
  termination_by l => SizeOf.sizeOf l
  decreasing_by
    have := List.sizeOf_lt_of_mem _hx
    cases x
    simp only [XProg.mk.sizeOf_spec] at this
    show SizeOf.sizeOf ((XProg.mk _ _ _ _).kids) < _
    simp only [XProg.kids]
    omega
set_option maxHeartbeats 4000000 in
theorem markProg_ok (x : XProg) (k : Int) (h0 : 0 ≤ k) (hk : k + (bsum mkeExpr x.cond.kids + bsum mkeProg x.kids : Nat) ≤ 4611686018427387904) : CallX Try.prog 30 [.m [.c (.val (.int .i64 x.kind)), .c (.val (.int .i64 x.num)), .c (.val (.int .i64 x.cond.kind)), .c (.val (.int .i64 x.cond.num)), .c (.own 71 3 (x.cond.kids.map ownExpr)), .c (.own 74 6 (x.kids.map ownProg))], I k] [] (I (k + (bsum mkeExpr x.cond.kids + bsum mkeProg x.kids : Nat))) := by
  refine callX_of_vc htb hm Try.func30 rfl rfl rfl rfl (ann := fun _ => none) (gh := fun _ => false) ?_
  refine CallN.gen [true, false] _ [] _ rfl (markExpr_ok x.cond (k) (by omega) (by omega)) rfl rfl _ rfl ?_
  refine CallN.gen [true, false] _ [] _ rfl (markProgS_ok x.kids (k + (bsum mkeExpr x.cond.kids : Nat)) (by omega) (by omega)) rfl rfl _ rfl ?_
  refine RetX.mk ?_ trivial
  refine congrArg I ?_
  omega
theorem markInt64S_ok (l : List Int) (k : Int) (h0 : 0 ≤ k) (hk : k + (bsum one l : Nat) ≤ 4611686018427387904) : CallX Try.prog 63 [.c (.ows 2 1 (l.map eI)), I (k)] [] (I (k + (bsum one l : Nat))) := by
  refine callX_of_vc htb hm Try.func63 rfl rfl rfl rfl (ann := fun n => match n with | 2 => some { α := Nat × List (List CV), keep := [0], ov := fun a => [(5, I a.1), (1, I (k + (bsum one (l.take a.1) : Nat)))], hv := fun a => [(0, .row none 2 1 a.2)], φ := fun a => a.1 ≤ l.length ∧ Rest eI l a.1 a.2, μ := fun a => l.length - a.1 } | _ => none) (gh := fun _ => false) ?_
  refine LoopN.mk ((0, l.map eI) : Nat × List (List CV)) ⟨Nat.zero_le _, rest_zero⟩ ⟨⟨rfl, rfl⟩, ⟨?_, rfl⟩, trivial⟩ ⟨⟨rfl, rfl⟩, trivial⟩ ⟨⟨rfl, rfl⟩, trivial⟩ ?_ (fun _ => rfl)
  · refine congrArg I ?_
    simp [bsum]
  rintro ⟨i, rows⟩ (hφ : i ≤ l.length ∧ Rest eI l i rows)
  obtain ⟨hi, hR⟩ := hφ
  have hlen := hR.1
  refine Fact.mk fun (hL : rows.length ≤ maxLen) => ?_
  refine Branch.mk (fun h => ?_) (fun h => ?_)
  · have h : (i : Int) < (rows.length : Nat) := of_decide_eq_true h
    have hi' : i < l.length := by omega
    have hs := bsum_take (f := one) (List.getElem?_eq_getElem hi')
    have hle := bsum_le (f := one) l (i + 1)
    have hf : one l[i] = 1 := rfl
    have hg := rest_get hR hi'
    refine Need.mk ⟨by omega, by rw [hlen]; exact hi'⟩ (Index.mk _ hg ?_)
    refine Arith.fit (wrap_fit (z := k + (bsum one (l.take i) : Nat) + 1) (by omega) (by omega)) ?_
    refine Arith.fit (wrap_fit (z := (i : Int) + 1) (by omega) (by simp only [maxLen] at hL; omega)) ?_
    refine Gh.go ⟨(i + 1, _), ⟨hi', ?_⟩, (by show l.length - (i + 1) < l.length - i; omega), ⟨⟨rfl, rfl⟩, ⟨?_, rfl⟩, trivial⟩, ⟨⟨rfl, rfl⟩, trivial⟩, ⟨⟨rfl, rfl⟩, trivial⟩⟩
    · exact rest_step hR
    · refine congrArg I ?_
      show k + (bsum one (l.take i) : Nat) + 1 = k + (bsum one (l.take (i + 1)) : Nat)
      omega
  · have h : ¬ (i : Int) < (rows.length : Nat) := of_decide_eq_false h
    have : i = l.length := by omega
    subst this
    refine RetX.mk ?_ trivial
    refine congrArg I ?_
    rw [List.take_length]
set_option maxHeartbeats 4000000 in
theorem markWord_ok (x : XWord) (k : Int) (h0 : 0 ≤ k) (hk : k + (bsum one x.atoms + bsum one x.acts : Nat) ≤ 4611686018427387904) : CallX Try.prog 23 [.m [.c (.ows 2 1 (x.atoms.map eI)), .c (.ows 2 1 (x.acts.map eI))], I k] [] (I (k + (bsum one x.atoms + bsum one x.acts : Nat))) := by
  refine callX_of_vc htb hm Try.func23 rfl rfl rfl rfl (ann := fun _ => none) (gh := fun _ => false) ?_
  refine CallN.gen [true, false] _ [] _ rfl (markInt64S_ok x.atoms (k) (by omega) (by omega)) rfl rfl _ rfl ?_
  refine CallN.gen [true, false] _ [] _ rfl (markInt64S_ok x.acts (k + (bsum one x.atoms : Nat)) (by omega) (by omega)) rfl rfl _ rfl ?_
  refine RetX.mk ?_ trivial
  refine congrArg I ?_
  omega
theorem markInt64SS_ok (l : List (List Int)) (k : Int) (h0 : 0 ≤ k) (hk : k + (bsum (bsum one) l : Nat) ≤ 4611686018427387904) : CallX Try.prog 64 [.c (.own 35 1 (l.map (fun (l : List Int) => [.ows 2 1 (l.map eI)]))), I (k)] [] (I (k + (bsum (bsum one) l : Nat))) := by
  refine callX_of_vc htb hm Try.func64 rfl rfl rfl rfl (ann := fun n => match n with | 2 => some { α := Nat × List (List CV), keep := [0], ov := fun a => [(5, I a.1), (1, I (k + (bsum (bsum one) (l.take a.1) : Nat)))], hv := fun a => [(0, .orow none 35 1 a.2)], φ := fun a => a.1 ≤ l.length ∧ Rest (fun (l : List Int) => [.ows 2 1 (l.map eI)]) l a.1 a.2, μ := fun a => l.length - a.1 } | _ => none) (gh := fun _ => false) ?_
  refine LoopN.mk ((0, l.map (fun (l : List Int) => [.ows 2 1 (l.map eI)])) : Nat × List (List CV)) ⟨Nat.zero_le _, rest_zero⟩ ⟨⟨rfl, rfl⟩, ⟨?_, rfl⟩, trivial⟩ ⟨⟨rfl, rfl⟩, trivial⟩ ⟨⟨rfl, rfl⟩, trivial⟩ ?_ (fun _ => rfl)
  · refine congrArg I ?_
    simp [bsum]
  rintro ⟨i, rows⟩ (hφ : i ≤ l.length ∧ Rest (fun (l : List Int) => [.ows 2 1 (l.map eI)]) l i rows)
  obtain ⟨hi, hR⟩ := hφ
  have hlen := hR.1
  refine Fact.mk fun (hL : rows.length ≤ maxLen) => ?_
  refine Branch.mk (fun h => ?_) (fun h => ?_)
  · have h : (i : Int) < (rows.length : Nat) := of_decide_eq_true h
    have hi' : i < l.length := by omega
    have hs := bsum_take (f := (bsum one)) (List.getElem?_eq_getElem hi')
    have hle := bsum_le (f := (bsum one)) l (i + 1)
    have hg := rest_get hR hi'
    refine Need.mk ⟨by omega, by rw [hlen]; exact hi'⟩ (Index.mk _ hg fun v => ?_)
    refine CallN.gen [true, false] _ [] _ rfl (markInt64S_ok l[i] (k + (bsum (bsum one) (l.take i) : Nat)) (by omega) (by omega)) rfl rfl _ rfl ?_
    refine Arith.fit (wrap_fit (z := (i : Int) + 1) (by omega) (by simp only [maxLen] at hL; omega)) ?_
    refine Gh.go ⟨(i + 1, _), ⟨hi', ?_⟩, (by show l.length - (i + 1) < l.length - i; omega), ⟨⟨rfl, rfl⟩, ⟨?_, rfl⟩, trivial⟩, ⟨⟨rfl, rfl⟩, trivial⟩, ⟨⟨rfl, rfl⟩, trivial⟩⟩
    · exact rest_step hR
    · refine congrArg I ?_
      show k + (bsum (bsum one) (l.take i) : Nat) + (bsum one l[i] : Nat) = k + (bsum (bsum one) (l.take (i + 1)) : Nat)
      omega
  · have h : ¬ (i : Int) < (rows.length : Nat) := of_decide_eq_false h
    have : i = l.length := by omega
    subst this
    refine RetX.mk ?_ trivial
    refine congrArg I ?_
    rw [List.take_length]
set_option maxHeartbeats 4000000 in
theorem markWorld_ok (x : XWorld) (k : Int) (h0 : 0 ≤ k) (hk : k + (bsum one x.atoms + bsum (bsum one) x.acts : Nat) ≤ 4611686018427387904) : CallX Try.prog 21 [.m [.c (.ows 2 1 (x.atoms.map eI)), .c (.own 35 1 (x.acts.map (fun (l : List Int) => [.ows 2 1 (l.map eI)])))], I k] [] (I (k + (bsum one x.atoms + bsum (bsum one) x.acts : Nat))) := by
  refine callX_of_vc htb hm Try.func21 rfl rfl rfl rfl (ann := fun _ => none) (gh := fun _ => false) ?_
  refine CallN.gen [true, false] _ [] _ rfl (markInt64S_ok x.atoms (k) (by omega) (by omega)) rfl rfl _ rfl ?_
  refine CallN.gen [true, false] _ [] _ rfl (markInt64SS_ok x.acts (k + (bsum one x.atoms : Nat)) (by omega) (by omega)) rfl rfl _ rfl ?_
  refine RetX.mk ?_ trivial
  refine congrArg I ?_
  omega
end Go.Proofs.Ytbbaadkgmdkjdaa
