/- Contracts of the laws' own functions mark.., where the marks are not looked at again. No conditions. -/
import Derived.Test.YtbbaadkgmdkjdaaGreatTy
namespace Go.Proofs.YtbbaadkgmdkjdaaGreat
open Go Go.KA Go.Proofs
set_option maxRecDepth 100000
set_option maxHeartbeats 16000000
def one {α : Type} (_ : α) : Nat := 1
def Rest {α : Type} (row : α → List CV) (l : List α) (i : Nat) (rows : List (List CV)) : Prop := rows.length = l.length ∧ ∀ j, i ≤ j → rows[j]? = (l.map row)[j]?
theorem rest_zero {α : Type} {row : α → List CV} {l : List α} : Rest row l 0 (l.map row) := ⟨List.length_map _, fun _ _ => rfl⟩
theorem rest_step {α : Type} {row : α → List CV} {l : List α} {i : Nat} {rows : List (List CV)} {r : List CV} (h : Rest row l i rows) : Rest row l (i + 1) (rows.set i r) :=
  ⟨by rw [List.length_set]; exact h.1, fun j hj => by rw [List.getElem?_set_ne (by omega)]; exact h.2 j (by omega)⟩
theorem rest_more {α : Type} {row : α → List CV} {l : List α} {i : Nat} {rows : List (List CV)} {r : List CV} (h : Rest row l (i + 1) rows) : Rest row l (i + 1) (rows.set i r) :=
  ⟨by rw [List.length_set]; exact h.1, fun j hj => by rw [List.getElem?_set_ne (by omega)]; exact h.2 j hj⟩
theorem rest_get {α : Type} {row : α → List CV} {l : List α} {i : Nat} {rows : List (List CV)} (h : Rest row l i rows) (hi : i < l.length) : rows[i]? = some (row l[i]) := by
  rw [h.2 i (Nat.le_refl _), List.getElem?_map, List.getElem?_eq_getElem hi]
  rfl
theorem set_get {α : Type} {l : List α} {i : Nat} {x : α} (h : i < l.length) : (l.set i x)[i]? = some x := by
  simp [h]
mutual
def mkeExpr : XExpr → Nat
  | .mk _ _ kids => 2 + mkeExprS kids
def mkeExprS : List XExpr → Nat
  | [] => 0
  | x :: xs => mkeExpr x + mkeExprS xs
end
theorem mkeExprS_eq : ∀ l : List XExpr, mkeExprS l = bsum mkeExpr l
  | [] => rfl
  | x :: xs => by simp only [mkeExprS, bsum]; rw [mkeExprS_eq xs]
theorem mkeExpr_eq (x : XExpr) : mkeExpr x = 2 + bsum mkeExpr x.kids := by
  cases x
  simp only [mkeExpr, mkeExprS_eq]
  rfl
def mkeProofStep (x : XProofStep) : Nat := 2 + bsum one x.path + bsum mkeExpr x.tests + bsum mkeExpr x.acts
theorem mkeProofStep_eq (x : XProofStep) : mkeProofStep x = 2 + bsum one x.path + bsum mkeExpr x.tests + bsum mkeExpr x.acts := rfl
def mkeClaim (x : XClaim) : Nat := 6 + bsum mkeExpr x.left.kids + bsum mkeExpr x.right.kids + bsum mkeProofStep x.steps
theorem mkeClaim_eq (x : XClaim) : mkeClaim x = 6 + bsum mkeExpr x.left.kids + bsum mkeExpr x.right.kids + bsum mkeProofStep x.steps := rfl
def mkeNote (x : XNote) : Nat := 5 + bsum one x.entry.rests + bsum mkeClaim x.entry.proof.claims
theorem mkeNote_eq (x : XNote) : mkeNote x = 5 + bsum one x.entry.rests + bsum mkeClaim x.entry.proof.claims := rfl
def mkeServer (x : XServer) : Nat := 2 + bsum mkeNote x.notes
theorem mkeServer_eq (x : XServer) : mkeServer x = 2 + bsum mkeNote x.notes := rfl
theorem markInt64S_ok (l : List Int) (k : Int) (h0 : 0 ≤ k) (hk : k + (bsum one l : Nat) ≤ 4611686018427387904) : CallX Tryz.prog 26 [.c (.ows 2 1 (l.map eI)), I (k)] [] (I (k + (bsum one l : Nat))) := by
  refine callX_of_vc htb hm Tryz.func26 rfl rfl rfl rfl (ann := fun n => match n with | 2 => some { α := Nat × List (List CV), keep := [0], ov := fun a => [(5, I a.1), (1, I (k + (bsum one (l.take a.1) : Nat)))], hv := fun a => [(0, .row none 2 1 a.2)], φ := fun a => a.1 ≤ l.length ∧ Rest eI l a.1 a.2, μ := fun a => l.length - a.1 } | _ => none) (gh := fun _ => false) ?_
  refine LoopN.mk ((0, l.map eI) : Nat × List (List CV)) ⟨Nat.zero_le _, rest_zero⟩ ⟨⟨rfl, rfl⟩, ⟨?_, rfl⟩, trivial⟩ ⟨⟨rfl, rfl⟩, trivial⟩ ⟨⟨rfl, rfl⟩, trivial⟩ ?_ (fun _ => rfl)
  · refine congrArg I ?_
    simp [bsum]
  rintro ⟨i, rows⟩ (hφ : i ≤ l.length ∧ Rest eI l i rows)
  obtain ⟨hi, hR⟩ := hφ
  have hlen := hR.1
  refine Fact.mk fun (hL : rows.length ≤ maxLen) => ?_
  refine Branch.mk (fun h => ?_) (fun h => ?_)
  · have h : (i : Int) < (rows.length : Nat) := of_decide_eq_true h
    have hi' : i < l.length := by omega
    have hs := bsum_take (f := one) (List.getElem?_eq_getElem hi')
    have hle := bsum_le (f := one) l (i + 1)
    have hf : one l[i] = 1 := rfl
    have hg := rest_get hR hi'
    refine Need.mk ⟨by omega, by rw [hlen]; exact hi'⟩ (Index.mk _ hg ?_)
    refine Arith.fit (wrap_fit (z := k + (bsum one (l.take i) : Nat) + 1) (by omega) (by omega)) ?_
    refine Arith.fit (wrap_fit (z := (i : Int) + 1) (by omega) (by simp only [maxLen] at hL; omega)) ?_
    refine Gh.go ⟨(i + 1, _), ⟨hi', ?_⟩, (by show l.length - (i + 1) < l.length - i; omega), ⟨⟨rfl, rfl⟩, ⟨?_, rfl⟩, trivial⟩, ⟨⟨rfl, rfl⟩, trivial⟩, ⟨⟨rfl, rfl⟩, trivial⟩⟩
    · exact rest_step hR
    · refine congrArg I ?_
      show k + (bsum one (l.take i) : Nat) + 1 = k + (bsum one (l.take (i + 1)) : Nat)
      omega
  · have h : ¬ (i : Int) < (rows.length : Nat) := of_decide_eq_false h
    have : i = l.length := by omega
    subst this
    refine RetX.mk ?_ trivial
    refine congrArg I ?_
    rw [List.take_length]
theorem markExprS_all (l : List XExpr) (k : Int) (h0 : 0 ≤ k) (hk : k + (bsum mkeExpr l : Nat) ≤ 4611686018427387904) (hx : ∀ x ∈ l, ∀ k : Int, 0 ≤ k → k + (bsum mkeExpr x.kids : Nat) ≤ 4611686018427387904 → CallX Tryz.prog 135 [.c (.own 67 3 (x.kids.map ownExpr)), I (k)] [] (I (k + (bsum mkeExpr x.kids : Nat)))) : CallX Tryz.prog 135 [.c (.own 67 3 (l.map ownExpr)), I (k)] [] (I (k + (bsum mkeExpr l : Nat))) := by
  refine callX_of_vc htb hm Tryz.func135 rfl rfl rfl rfl (ann := fun n => match n with | 2 => some { α := Nat × List (List CV), keep := [0], ov := fun a => [(5, I a.1), (1, I (k + (bsum mkeExpr (l.take a.1) : Nat)))], hv := fun a => [(0, .orow none 67 3 a.2)], φ := fun a => a.1 ≤ l.length ∧ Rest ownExpr l a.1 a.2, μ := fun a => l.length - a.1 } | _ => none) (gh := fun _ => false) ?_
  refine LoopN.mk ((0, l.map ownExpr) : Nat × List (List CV)) ⟨Nat.zero_le _, rest_zero⟩ ⟨⟨rfl, rfl⟩, ⟨?_, rfl⟩, trivial⟩ ⟨⟨rfl, rfl⟩, trivial⟩ ⟨⟨rfl, rfl⟩, trivial⟩ ?_ (fun _ => rfl)
  · refine congrArg I ?_
    simp [bsum]
  rintro ⟨i, rows⟩ (hφ : i ≤ l.length ∧ Rest ownExpr l i rows)
  obtain ⟨hi, hR⟩ := hφ
  have hlen := hR.1
  refine Fact.mk fun (hL : rows.length ≤ maxLen) => ?_
  refine Branch.mk (fun h => ?_) (fun h => ?_)
  · have h : (i : Int) < (rows.length : Nat) := of_decide_eq_true h
    have hi' : i < l.length := by omega
    have hs := bsum_take (f := mkeExpr) (List.getElem?_eq_getElem hi')
    have hle := bsum_le (f := mkeExpr) l (i + 1)
    have hf := mkeExpr_eq l[i]
    have hg : rows[i]? = some [.val (.int .i64 l[i].kind), .val (.int .i64 l[i].num), .own 67 3 (l[i].kids.map ownExpr)] := (rest_get hR hi').trans (congrArg some (ownExpr_eq _))
    refine Need.mk ⟨by omega, by rw [hlen]; exact hi'⟩ (Index.mk _ hg ?_)
    refine Arith.fit (wrap_fit (z := k + (bsum mkeExpr (l.take i) : Nat) + 1) (by omega) (by omega)) ?_
    refine Need.mk ⟨by omega, by simp only [List.length_set]; rw [hlen]; exact hi'⟩ (Index.mk _ (set_get (by rw [hlen]; exact hi')) ?_)
    refine Arith.fit (wrap_fit (z := k + (bsum mkeExpr (l.take i) : Nat) + 1 + 1) (by omega) (by omega)) ?_
    refine Need.mk ⟨by omega, by simp only [List.length_set]; rw [hlen]; exact hi'⟩ (Index.mk _ (set_get (by simp only [List.length_set]; rw [hlen]; exact hi')) fun v => ?_)
    refine CallN.gen [true, false] _ [] _ rfl (hx l[i] (List.getElem_mem hi') (k + (bsum mkeExpr (l.take i) : Nat) + 1 + 1) (by omega) (by omega)) rfl rfl _ rfl ?_
    refine Arith.fit (wrap_fit (z := (i : Int) + 1) (by omega) (by simp only [maxLen] at hL; omega)) ?_
    refine Gh.go ⟨(i + 1, _), ⟨hi', ?_⟩, (by show l.length - (i + 1) < l.length - i; omega), ⟨⟨rfl, rfl⟩, ⟨?_, rfl⟩, trivial⟩, ⟨⟨rfl, rfl⟩, trivial⟩, ⟨⟨rfl, rfl⟩, trivial⟩⟩
    · exact rest_more (rest_more (rest_step hR))
    · refine congrArg I ?_
      show k + (bsum mkeExpr (l.take i) : Nat) + 1 + 1 + (bsum mkeExpr l[i].kids : Nat) = k + (bsum mkeExpr (l.take (i + 1)) : Nat)
      omega
  · have h : ¬ (i : Int) < (rows.length : Nat) := of_decide_eq_false h
    have : i = l.length := by omega
    subst this
    refine RetX.mk ?_ trivial
    refine congrArg I ?_
    rw [List.take_length]
theorem markExprS_ok : ∀ (l : List XExpr) (k : Int), 0 ≤ k → k + (bsum mkeExpr l : Nat) ≤ 4611686018427387904 → CallX Tryz.prog 135 [.c (.own 67 3 (l.map ownExpr)), I (k)] [] (I (k + (bsum mkeExpr l : Nat)))
  | l, k, h0, hk => markExprS_all l k h0 hk fun x _hx k h0 hk => markExprS_ok x.kids k h0 hk
  termination_by l => SizeOf.sizeOf l
  decreasing_by
    have := List.sizeOf_lt_of_mem _hx
    cases x
    simp only [XExpr.mk.sizeOf_spec] at this
    show SizeOf.sizeOf ((XExpr.mk _ _ _).kids) < _
    simp only [XExpr.kids]
    omega
theorem markProofStepS_ok (l : List XProofStep) (k : Int) (h0 : 0 ≤ k) (hk : k + (bsum mkeProofStep l : Nat) ≤ 4611686018427387904) : CallX Tryz.prog 154 [.c (.own 215 5 (l.map ownProofStep)), I (k)] [] (I (k + (bsum mkeProofStep l : Nat))) := by
  refine callX_of_vc htb hm Tryz.func154 rfl rfl rfl rfl (ann := fun n => match n with | 2 => some { α := Nat × List (List CV), keep := [0], ov := fun a => [(5, I a.1), (1, I (k + (bsum mkeProofStep (l.take a.1) : Nat)))], hv := fun a => [(0, .orow none 215 5 a.2)], φ := fun a => a.1 ≤ l.length ∧ Rest ownProofStep l a.1 a.2, μ := fun a => l.length - a.1 } | _ => none) (gh := fun _ => false) ?_
  refine LoopN.mk ((0, l.map ownProofStep) : Nat × List (List CV)) ⟨Nat.zero_le _, rest_zero⟩ ⟨⟨rfl, rfl⟩, ⟨?_, rfl⟩, trivial⟩ ⟨⟨rfl, rfl⟩, trivial⟩ ⟨⟨rfl, rfl⟩, trivial⟩ ?_ (fun _ => rfl)
  · refine congrArg I ?_
    simp [bsum]
  rintro ⟨i, rows⟩ (hφ : i ≤ l.length ∧ Rest ownProofStep l i rows)
  obtain ⟨hi, hR⟩ := hφ
  have hlen := hR.1
  refine Fact.mk fun (hL : rows.length ≤ maxLen) => ?_
  refine Branch.mk (fun h => ?_) (fun h => ?_)
  · have h : (i : Int) < (rows.length : Nat) := of_decide_eq_true h
    have hi' : i < l.length := by omega
    have hs := bsum_take (f := mkeProofStep) (List.getElem?_eq_getElem hi')
    have hle := bsum_le (f := mkeProofStep) l (i + 1)
    have hf := mkeProofStep_eq l[i]
    have hg : rows[i]? = some [.val (.int .i64 l[i].use), .val (.bool l[i].back), .ows 2 1 (l[i].path.map eI), .own 67 3 (l[i].tests.map ownExpr), .own 67 3 (l[i].acts.map ownExpr)] := (rest_get hR hi').trans (congrArg some rfl)
    refine Need.mk ⟨by omega, by rw [hlen]; exact hi'⟩ (Index.mk _ hg ?_)
    refine Arith.fit (wrap_fit (z := k + (bsum mkeProofStep (l.take i) : Nat) + 1) (by omega) (by omega)) ?_
    refine Need.mk (by decide) (Need.mk ⟨by omega, by simp only [List.length_set]; rw [hlen]; exact hi'⟩ (Index.mk _ (set_get (by rw [hlen]; exact hi')) ?_))
    refine Arith.fit (wrap_fit (z := k + (bsum mkeProofStep (l.take i) : Nat) + 1 + 1) (by omega) (by omega)) ?_
    refine Need.mk ⟨by omega, by simp only [List.length_set]; rw [hlen]; exact hi'⟩ (Index.mk _ (set_get (by simp only [List.length_set]; rw [hlen]; exact hi')) fun v => ?_)
    refine CallN.gen [true, false] _ [] _ rfl (markInt64S_ok l[i].path (k + (bsum mkeProofStep (l.take i) : Nat) + 1 + 1) (by omega) (by omega)) rfl rfl _ rfl ?_
    refine Need.mk ⟨by omega, by simp only [List.length_set]; rw [hlen]; exact hi'⟩ (Index.mk _ (set_get (by simp only [List.length_set]; rw [hlen]; exact hi')) fun v => ?_)
    refine CallN.gen [true, false] _ [] _ rfl (markExprS_ok l[i].tests (k + (bsum mkeProofStep (l.take i) : Nat) + 1 + 1 + (bsum one l[i].path : Nat)) (by omega) (by omega)) rfl rfl _ rfl ?_
    refine Need.mk ⟨by omega, by simp only [List.length_set]; rw [hlen]; exact hi'⟩ (Index.mk _ (set_get (by simp only [List.length_set]; rw [hlen]; exact hi')) fun v => ?_)
    refine CallN.gen [true, false] _ [] _ rfl (markExprS_ok l[i].acts (k + (bsum mkeProofStep (l.take i) : Nat) + 1 + 1 + (bsum one l[i].path : Nat) + (bsum mkeExpr l[i].tests : Nat)) (by omega) (by omega)) rfl rfl _ rfl ?_
    refine Arith.fit (wrap_fit (z := (i : Int) + 1) (by omega) (by simp only [maxLen] at hL; omega)) ?_
    refine Gh.go ⟨(i + 1, _), ⟨hi', ?_⟩, (by show l.length - (i + 1) < l.length - i; omega), ⟨⟨rfl, rfl⟩, ⟨?_, rfl⟩, trivial⟩, ⟨⟨rfl, rfl⟩, trivial⟩, ⟨⟨rfl, rfl⟩, trivial⟩⟩
    · exact rest_more (rest_more (rest_more (rest_more (rest_step hR))))
    · refine congrArg I ?_
      show k + (bsum mkeProofStep (l.take i) : Nat) + 1 + 1 + (bsum one l[i].path : Nat) + (bsum mkeExpr l[i].tests : Nat) + (bsum mkeExpr l[i].acts : Nat) = k + (bsum mkeProofStep (l.take (i + 1)) : Nat)
      omega
  · have h : ¬ (i : Int) < (rows.length : Nat) := of_decide_eq_false h
    have : i = l.length := by omega
    subst this
    refine RetX.mk ?_ trivial
    refine congrArg I ?_
    rw [List.take_length]
theorem markClaimS_ok (l : List XClaim) (k : Int) (h0 : 0 ≤ k) (hk : k + (bsum mkeClaim l : Nat) ≤ 4611686018427387904) : CallX Tryz.prog 125 [.c (.own 181 9 (l.map ownClaim)), I (k)] [] (I (k + (bsum mkeClaim l : Nat))) := by
  refine callX_of_vc htb hm Tryz.func125 rfl rfl rfl rfl (ann := fun n => match n with | 2 => some { α := Nat × List (List CV), keep := [0], ov := fun a => [(5, I a.1), (1, I (k + (bsum mkeClaim (l.take a.1) : Nat)))], hv := fun a => [(0, .orow none 181 9 a.2)], φ := fun a => a.1 ≤ l.length ∧ Rest ownClaim l a.1 a.2, μ := fun a => l.length - a.1 } | _ => none) (gh := fun _ => false) ?_
  refine LoopN.mk ((0, l.map ownClaim) : Nat × List (List CV)) ⟨Nat.zero_le _, rest_zero⟩ ⟨⟨rfl, rfl⟩, ⟨?_, rfl⟩, trivial⟩ ⟨⟨rfl, rfl⟩, trivial⟩ ⟨⟨rfl, rfl⟩, trivial⟩ ?_ (fun _ => rfl)
  · refine congrArg I ?_
    simp [bsum]
  rintro ⟨i, rows⟩ (hφ : i ≤ l.length ∧ Rest ownClaim l i rows)
  obtain ⟨hi, hR⟩ := hφ
  have hlen := hR.1
  refine Fact.mk fun (hL : rows.length ≤ maxLen) => ?_
  refine Branch.mk (fun h => ?_) (fun h => ?_)
  · have h : (i : Int) < (rows.length : Nat) := of_decide_eq_true h
    have hi' : i < l.length := by omega
    have hs := bsum_take (f := mkeClaim) (List.getElem?_eq_getElem hi')
    have hle := bsum_le (f := mkeClaim) l (i + 1)
    have hf := mkeClaim_eq l[i]
    have hg : rows[i]? = some [.val (.int .i64 l[i].left.kind), .val (.int .i64 l[i].left.num), .own 67 3 (l[i].left.kids.map ownExpr), .val (.int .i64 l[i].right.kind), .val (.int .i64 l[i].right.num), .own 67 3 (l[i].right.kids.map ownExpr), .val (.int .i64 l[i].rule), .val (.int .i64 l[i].ref), .own 215 5 (l[i].steps.map ownProofStep)] := (rest_get hR hi').trans (congrArg some rfl)
    refine Need.mk ⟨by omega, by rw [hlen]; exact hi'⟩ (Index.mk _ hg ?_)
    refine Arith.fit (wrap_fit (z := k + (bsum mkeClaim (l.take i) : Nat) + 1) (by omega) (by omega)) ?_
    refine Need.mk ⟨by omega, by simp only [List.length_set]; rw [hlen]; exact hi'⟩ (Index.mk _ (set_get (by rw [hlen]; exact hi')) ?_)
    refine Arith.fit (wrap_fit (z := k + (bsum mkeClaim (l.take i) : Nat) + 1 + 1) (by omega) (by omega)) ?_
    refine Need.mk ⟨by omega, by simp only [List.length_set]; rw [hlen]; exact hi'⟩ (Index.mk _ (set_get (by simp only [List.length_set]; rw [hlen]; exact hi')) fun v => ?_)
    refine CallN.gen [true, false] _ [] _ rfl (markExprS_ok l[i].left.kids (k + (bsum mkeClaim (l.take i) : Nat) + 1 + 1) (by omega) (by omega)) rfl rfl _ rfl ?_
    refine Need.mk ⟨by omega, by simp only [List.length_set]; rw [hlen]; exact hi'⟩ (Index.mk _ (set_get (by simp only [List.length_set]; rw [hlen]; exact hi')) ?_)
    refine Arith.fit (wrap_fit (z := k + (bsum mkeClaim (l.take i) : Nat) + 1 + 1 + (bsum mkeExpr l[i].left.kids : Nat) + 1) (by omega) (by omega)) ?_
    refine Need.mk ⟨by omega, by simp only [List.length_set]; rw [hlen]; exact hi'⟩ (Index.mk _ (set_get (by simp only [List.length_set]; rw [hlen]; exact hi')) ?_)
    refine Arith.fit (wrap_fit (z := k + (bsum mkeClaim (l.take i) : Nat) + 1 + 1 + (bsum mkeExpr l[i].left.kids : Nat) + 1 + 1) (by omega) (by omega)) ?_
    refine Need.mk ⟨by omega, by simp only [List.length_set]; rw [hlen]; exact hi'⟩ (Index.mk _ (set_get (by simp only [List.length_set]; rw [hlen]; exact hi')) fun v => ?_)
    refine CallN.gen [true, false] _ [] _ rfl (markExprS_ok l[i].right.kids (k + (bsum mkeClaim (l.take i) : Nat) + 1 + 1 + (bsum mkeExpr l[i].left.kids : Nat) + 1 + 1) (by omega) (by omega)) rfl rfl _ rfl ?_
    refine Need.mk ⟨by omega, by simp only [List.length_set]; rw [hlen]; exact hi'⟩ (Index.mk _ (set_get (by simp only [List.length_set]; rw [hlen]; exact hi')) ?_)
    refine Arith.fit (wrap_fit (z := k + (bsum mkeClaim (l.take i) : Nat) + 1 + 1 + (bsum mkeExpr l[i].left.kids : Nat) + 1 + 1 + (bsum mkeExpr l[i].right.kids : Nat) + 1) (by omega) (by omega)) ?_
    refine Need.mk ⟨by omega, by simp only [List.length_set]; rw [hlen]; exact hi'⟩ (Index.mk _ (set_get (by simp only [List.length_set]; rw [hlen]; exact hi')) ?_)
    refine Arith.fit (wrap_fit (z := k + (bsum mkeClaim (l.take i) : Nat) + 1 + 1 + (bsum mkeExpr l[i].left.kids : Nat) + 1 + 1 + (bsum mkeExpr l[i].right.kids : Nat) + 1 + 1) (by omega) (by omega)) ?_
    refine Need.mk ⟨by omega, by simp only [List.length_set]; rw [hlen]; exact hi'⟩ (Index.mk _ (set_get (by simp only [List.length_set]; rw [hlen]; exact hi')) fun v => ?_)
    refine CallN.gen [true, false] _ [] _ rfl (markProofStepS_ok l[i].steps (k + (bsum mkeClaim (l.take i) : Nat) + 1 + 1 + (bsum mkeExpr l[i].left.kids : Nat) + 1 + 1 + (bsum mkeExpr l[i].right.kids : Nat) + 1 + 1) (by omega) (by omega)) rfl rfl _ rfl ?_
    refine Arith.fit (wrap_fit (z := (i : Int) + 1) (by omega) (by simp only [maxLen] at hL; omega)) ?_
    refine Gh.go ⟨(i + 1, _), ⟨hi', ?_⟩, (by show l.length - (i + 1) < l.length - i; omega), ⟨⟨rfl, rfl⟩, ⟨?_, rfl⟩, trivial⟩, ⟨⟨rfl, rfl⟩, trivial⟩, ⟨⟨rfl, rfl⟩, trivial⟩⟩
    · exact rest_more (rest_more (rest_more (rest_more (rest_more (rest_more (rest_more (rest_more (rest_step hR))))))))
    · refine congrArg I ?_
      show k + (bsum mkeClaim (l.take i) : Nat) + 1 + 1 + (bsum mkeExpr l[i].left.kids : Nat) + 1 + 1 + (bsum mkeExpr l[i].right.kids : Nat) + 1 + 1 + (bsum mkeProofStep l[i].steps : Nat) = k + (bsum mkeClaim (l.take (i + 1)) : Nat)
      omega
  · have h : ¬ (i : Int) < (rows.length : Nat) := of_decide_eq_false h
    have : i = l.length := by omega
    subst this
    refine RetX.mk ?_ trivial
    refine congrArg I ?_
    rw [List.take_length]
theorem markNoteS_ok (l : List XNote) (k : Int) (h0 : 0 ≤ k) (hk : k + (bsum mkeNote l : Nat) ≤ 4611686018427387904) : CallX Tryz.prog 124 [.c (.own 92 7 (l.map ownNote)), I (k)] [] (I (k + (bsum mkeNote l : Nat))) := by
  refine callX_of_vc htb hm Tryz.func124 rfl rfl rfl rfl (ann := fun n => match n with | 2 => some { α := Nat × List (List CV), keep := [0], ov := fun a => [(5, I a.1), (1, I (k + (bsum mkeNote (l.take a.1) : Nat)))], hv := fun a => [(0, .orow none 92 7 a.2)], φ := fun a => a.1 ≤ l.length ∧ Rest ownNote l a.1 a.2, μ := fun a => l.length - a.1 } | _ => none) (gh := fun _ => false) ?_
  refine LoopN.mk ((0, l.map ownNote) : Nat × List (List CV)) ⟨Nat.zero_le _, rest_zero⟩ ⟨⟨rfl, rfl⟩, ⟨?_, rfl⟩, trivial⟩ ⟨⟨rfl, rfl⟩, trivial⟩ ⟨⟨rfl, rfl⟩, trivial⟩ ?_ (fun _ => rfl)
  · refine congrArg I ?_
    simp [bsum]
  rintro ⟨i, rows⟩ (hφ : i ≤ l.length ∧ Rest ownNote l i rows)
  obtain ⟨hi, hR⟩ := hφ
  have hlen := hR.1
  refine Fact.mk fun (hL : rows.length ≤ maxLen) => ?_
  refine Branch.mk (fun h => ?_) (fun h => ?_)
  · have h : (i : Int) < (rows.length : Nat) := of_decide_eq_true h
    have hi' : i < l.length := by omega
    have hs := bsum_take (f := mkeNote) (List.getElem?_eq_getElem hi')
    have hle := bsum_le (f := mkeNote) l (i + 1)
    have hf := mkeNote_eq l[i]
    have hg : rows[i]? = some [.val (.bool l[i].revoke), .val (.int .i64 l[i].id), .val (.int .i64 l[i].entry.id), .ows 2 1 (l[i].entry.rests.map eI), .val (.int .i64 l[i].entry.proof.sig.tests), .val (.int .i64 l[i].entry.proof.sig.actions), .own 181 9 (l[i].entry.proof.claims.map ownClaim)] := (rest_get hR hi').trans (congrArg some rfl)
    refine Need.mk (by decide) (Need.mk ⟨by omega, by rw [hlen]; exact hi'⟩ (Index.mk _ hg ?_))
    refine Arith.fit (wrap_fit (z := k + (bsum mkeNote (l.take i) : Nat) + 1) (by omega) (by omega)) ?_
    refine Need.mk ⟨by omega, by simp only [List.length_set]; rw [hlen]; exact hi'⟩ (Index.mk _ (set_get (by rw [hlen]; exact hi')) ?_)
    refine Arith.fit (wrap_fit (z := k + (bsum mkeNote (l.take i) : Nat) + 1 + 1) (by omega) (by omega)) ?_
    refine Need.mk ⟨by omega, by simp only [List.length_set]; rw [hlen]; exact hi'⟩ (Index.mk _ (set_get (by simp only [List.length_set]; rw [hlen]; exact hi')) ?_)
    refine Arith.fit (wrap_fit (z := k + (bsum mkeNote (l.take i) : Nat) + 1 + 1 + 1) (by omega) (by omega)) ?_
    refine Need.mk ⟨by omega, by simp only [List.length_set]; rw [hlen]; exact hi'⟩ (Index.mk _ (set_get (by simp only [List.length_set]; rw [hlen]; exact hi')) fun v => ?_)
    refine CallN.gen [true, false] _ [] _ rfl (markInt64S_ok l[i].entry.rests (k + (bsum mkeNote (l.take i) : Nat) + 1 + 1 + 1) (by omega) (by omega)) rfl rfl _ rfl ?_
    refine Need.mk ⟨by omega, by simp only [List.length_set]; rw [hlen]; exact hi'⟩ (Index.mk _ (set_get (by simp only [List.length_set]; rw [hlen]; exact hi')) ?_)
    refine Arith.fit (wrap_fit (z := k + (bsum mkeNote (l.take i) : Nat) + 1 + 1 + 1 + (bsum one l[i].entry.rests : Nat) + 1) (by omega) (by omega)) ?_
    refine Need.mk ⟨by omega, by simp only [List.length_set]; rw [hlen]; exact hi'⟩ (Index.mk _ (set_get (by simp only [List.length_set]; rw [hlen]; exact hi')) ?_)
    refine Arith.fit (wrap_fit (z := k + (bsum mkeNote (l.take i) : Nat) + 1 + 1 + 1 + (bsum one l[i].entry.rests : Nat) + 1 + 1) (by omega) (by omega)) ?_
    refine Need.mk ⟨by omega, by simp only [List.length_set]; rw [hlen]; exact hi'⟩ (Index.mk _ (set_get (by simp only [List.length_set]; rw [hlen]; exact hi')) fun v => ?_)
    refine CallN.gen [true, false] _ [] _ rfl (markClaimS_ok l[i].entry.proof.claims (k + (bsum mkeNote (l.take i) : Nat) + 1 + 1 + 1 + (bsum one l[i].entry.rests : Nat) + 1 + 1) (by omega) (by omega)) rfl rfl _ rfl ?_
    refine Arith.fit (wrap_fit (z := (i : Int) + 1) (by omega) (by simp only [maxLen] at hL; omega)) ?_
    refine Gh.go ⟨(i + 1, _), ⟨hi', ?_⟩, (by show l.length - (i + 1) < l.length - i; omega), ⟨⟨rfl, rfl⟩, ⟨?_, rfl⟩, trivial⟩, ⟨⟨rfl, rfl⟩, trivial⟩, ⟨⟨rfl, rfl⟩, trivial⟩⟩
    · exact rest_more (rest_more (rest_more (rest_more (rest_more (rest_more (rest_step hR))))))
    · refine congrArg I ?_
      show k + (bsum mkeNote (l.take i) : Nat) + 1 + 1 + 1 + (bsum one l[i].entry.rests : Nat) + 1 + 1 + (bsum mkeClaim l[i].entry.proof.claims : Nat) = k + (bsum mkeNote (l.take (i + 1)) : Nat)
      omega
  · have h : ¬ (i : Int) < (rows.length : Nat) := of_decide_eq_false h
    have : i = l.length := by omega
    subst this
    refine RetX.mk ?_ trivial
    refine congrArg I ?_
    rw [List.take_length]
theorem markServerS_ok (l : List XServer) (k : Int) (h0 : 0 ≤ k) (hk : k + (bsum mkeServer l : Nat) ≤ 4611686018427387904) : CallX Tryz.prog 72 [.c (.own 87 3 (l.map ownServer)), I (k)] [] (I (k + (bsum mkeServer l : Nat))) := by
  refine callX_of_vc htb hm Tryz.func72 rfl rfl rfl rfl (ann := fun n => match n with | 2 => some { α := Nat × List (List CV), keep := [0], ov := fun a => [(5, I a.1), (1, I (k + (bsum mkeServer (l.take a.1) : Nat)))], hv := fun a => [(0, .orow none 87 3 a.2)], φ := fun a => a.1 ≤ l.length ∧ Rest ownServer l a.1 a.2, μ := fun a => l.length - a.1 } | _ => none) (gh := fun _ => false) ?_
  refine LoopN.mk ((0, l.map ownServer) : Nat × List (List CV)) ⟨Nat.zero_le _, rest_zero⟩ ⟨⟨rfl, rfl⟩, ⟨?_, rfl⟩, trivial⟩ ⟨⟨rfl, rfl⟩, trivial⟩ ⟨⟨rfl, rfl⟩, trivial⟩ ?_ (fun _ => rfl)
  · refine congrArg I ?_
    simp [bsum]
  rintro ⟨i, rows⟩ (hφ : i ≤ l.length ∧ Rest ownServer l i rows)
  obtain ⟨hi, hR⟩ := hφ
  have hlen := hR.1
  refine Fact.mk fun (hL : rows.length ≤ maxLen) => ?_
  refine Branch.mk (fun h => ?_) (fun h => ?_)
  · have h : (i : Int) < (rows.length : Nat) := of_decide_eq_true h
    have hi' : i < l.length := by omega
    have hs := bsum_take (f := mkeServer) (List.getElem?_eq_getElem hi')
    have hle := bsum_le (f := mkeServer) l (i + 1)
    have hf := mkeServer_eq l[i]
    have hg : rows[i]? = some [.val (.bool l[i].up), .own 92 7 (l[i].notes.map ownNote), .val (.int .i64 l[i].saved)] := (rest_get hR hi').trans (congrArg some rfl)
    refine Need.mk (by decide) (Need.mk ⟨by omega, by rw [hlen]; exact hi'⟩ (Index.mk _ hg ?_))
    refine Arith.fit (wrap_fit (z := k + (bsum mkeServer (l.take i) : Nat) + 1) (by omega) (by omega)) ?_
    refine Need.mk ⟨by omega, by simp only [List.length_set]; rw [hlen]; exact hi'⟩ (Index.mk _ (set_get (by rw [hlen]; exact hi')) fun v => ?_)
    refine CallN.gen [true, false] _ [] _ rfl (markNoteS_ok l[i].notes (k + (bsum mkeServer (l.take i) : Nat) + 1) (by omega) (by omega)) rfl rfl _ rfl ?_
    refine Need.mk ⟨by omega, by simp only [List.length_set]; rw [hlen]; exact hi'⟩ (Index.mk _ (set_get (by simp only [List.length_set]; rw [hlen]; exact hi')) ?_)
    refine Arith.fit (wrap_fit (z := k + (bsum mkeServer (l.take i) : Nat) + 1 + (bsum mkeNote l[i].notes : Nat) + 1) (by omega) (by omega)) ?_
    refine Arith.fit (wrap_fit (z := (i : Int) + 1) (by omega) (by simp only [maxLen] at hL; omega)) ?_
    refine Gh.go ⟨(i + 1, _), ⟨hi', ?_⟩, (by show l.length - (i + 1) < l.length - i; omega), ⟨⟨rfl, rfl⟩, ⟨?_, rfl⟩, trivial⟩, ⟨⟨rfl, rfl⟩, trivial⟩, ⟨⟨rfl, rfl⟩, trivial⟩⟩
    · exact rest_more (rest_more (rest_step hR))
    · refine congrArg I ?_
      show k + (bsum mkeServer (l.take i) : Nat) + 1 + (bsum mkeNote l[i].notes : Nat) + 1 = k + (bsum mkeServer (l.take (i + 1)) : Nat)
      omega
  · have h : ¬ (i : Int) < (rows.length : Nat) := of_decide_eq_false h
    have : i = l.length := by omega
    subst this
    refine RetX.mk ?_ trivial
    refine congrArg I ?_
    rw [List.take_length]
def mkePacket (x : XPacket) : Nat := 6 + bsum one x.note.entry.rests + bsum mkeClaim x.note.entry.proof.claims
theorem mkePacket_eq (x : XPacket) : mkePacket x = 6 + bsum one x.note.entry.rests + bsum mkeClaim x.note.entry.proof.claims := rfl
theorem markPacketS_ok (l : List XPacket) (k : Int) (h0 : 0 ≤ k) (hk : k + (bsum mkePacket l : Nat) ≤ 4611686018427387904) : CallX Tryz.prog 73 [.c (.own 94 8 (l.map ownPacket)), I (k)] [] (I (k + (bsum mkePacket l : Nat))) := by
  refine callX_of_vc htb hm Tryz.func73 rfl rfl rfl rfl (ann := fun n => match n with | 2 => some { α := Nat × List (List CV), keep := [0], ov := fun a => [(5, I a.1), (1, I (k + (bsum mkePacket (l.take a.1) : Nat)))], hv := fun a => [(0, .orow none 94 8 a.2)], φ := fun a => a.1 ≤ l.length ∧ Rest ownPacket l a.1 a.2, μ := fun a => l.length - a.1 } | _ => none) (gh := fun _ => false) ?_
  refine LoopN.mk ((0, l.map ownPacket) : Nat × List (List CV)) ⟨Nat.zero_le _, rest_zero⟩ ⟨⟨rfl, rfl⟩, ⟨?_, rfl⟩, trivial⟩ ⟨⟨rfl, rfl⟩, trivial⟩ ⟨⟨rfl, rfl⟩, trivial⟩ ?_ (fun _ => rfl)
  · refine congrArg I ?_
    simp [bsum]
  rintro ⟨i, rows⟩ (hφ : i ≤ l.length ∧ Rest ownPacket l i rows)
  obtain ⟨hi, hR⟩ := hφ
  have hlen := hR.1
  refine Fact.mk fun (hL : rows.length ≤ maxLen) => ?_
  refine Branch.mk (fun h => ?_) (fun h => ?_)
  · have h : (i : Int) < (rows.length : Nat) := of_decide_eq_true h
    have hi' : i < l.length := by omega
    have hs := bsum_take (f := mkePacket) (List.getElem?_eq_getElem hi')
    have hle := bsum_le (f := mkePacket) l (i + 1)
    have hf := mkePacket_eq l[i]
    have hg : rows[i]? = some [.val (.int .i64 l[i].to0), .val (.bool l[i].note.revoke), .val (.int .i64 l[i].note.id), .val (.int .i64 l[i].note.entry.id), .ows 2 1 (l[i].note.entry.rests.map eI), .val (.int .i64 l[i].note.entry.proof.sig.tests), .val (.int .i64 l[i].note.entry.proof.sig.actions), .own 181 9 (l[i].note.entry.proof.claims.map ownClaim)] := (rest_get hR hi').trans (congrArg some rfl)
    refine Need.mk ⟨by omega, by rw [hlen]; exact hi'⟩ (Index.mk _ hg ?_)
    refine Arith.fit (wrap_fit (z := k + (bsum mkePacket (l.take i) : Nat) + 1) (by omega) (by omega)) ?_
    refine Need.mk (by decide) (Need.mk ⟨by omega, by simp only [List.length_set]; rw [hlen]; exact hi'⟩ (Index.mk _ (set_get (by rw [hlen]; exact hi')) ?_))
    refine Arith.fit (wrap_fit (z := k + (bsum mkePacket (l.take i) : Nat) + 1 + 1) (by omega) (by omega)) ?_
    refine Need.mk ⟨by omega, by simp only [List.length_set]; rw [hlen]; exact hi'⟩ (Index.mk _ (set_get (by simp only [List.length_set]; rw [hlen]; exact hi')) ?_)
    refine Arith.fit (wrap_fit (z := k + (bsum mkePacket (l.take i) : Nat) + 1 + 1 + 1) (by omega) (by omega)) ?_
    refine Need.mk ⟨by omega, by simp only [List.length_set]; rw [hlen]; exact hi'⟩ (Index.mk _ (set_get (by simp only [List.length_set]; rw [hlen]; exact hi')) ?_)
    refine Arith.fit (wrap_fit (z := k + (bsum mkePacket (l.take i) : Nat) + 1 + 1 + 1 + 1) (by omega) (by omega)) ?_
    refine Need.mk ⟨by omega, by simp only [List.length_set]; rw [hlen]; exact hi'⟩ (Index.mk _ (set_get (by simp only [List.length_set]; rw [hlen]; exact hi')) fun v => ?_)
    refine CallN.gen [true, false] _ [] _ rfl (markInt64S_ok l[i].note.entry.rests (k + (bsum mkePacket (l.take i) : Nat) + 1 + 1 + 1 + 1) (by omega) (by omega)) rfl rfl _ rfl ?_
    refine Need.mk ⟨by omega, by simp only [List.length_set]; rw [hlen]; exact hi'⟩ (Index.mk _ (set_get (by simp only [List.length_set]; rw [hlen]; exact hi')) ?_)
    refine Arith.fit (wrap_fit (z := k + (bsum mkePacket (l.take i) : Nat) + 1 + 1 + 1 + 1 + (bsum one l[i].note.entry.rests : Nat) + 1) (by omega) (by omega)) ?_
    refine Need.mk ⟨by omega, by simp only [List.length_set]; rw [hlen]; exact hi'⟩ (Index.mk _ (set_get (by simp only [List.length_set]; rw [hlen]; exact hi')) ?_)
    refine Arith.fit (wrap_fit (z := k + (bsum mkePacket (l.take i) : Nat) + 1 + 1 + 1 + 1 + (bsum one l[i].note.entry.rests : Nat) + 1 + 1) (by omega) (by omega)) ?_
    refine Need.mk ⟨by omega, by simp only [List.length_set]; rw [hlen]; exact hi'⟩ (Index.mk _ (set_get (by simp only [List.length_set]; rw [hlen]; exact hi')) fun v => ?_)
    refine CallN.gen [true, false] _ [] _ rfl (markClaimS_ok l[i].note.entry.proof.claims (k + (bsum mkePacket (l.take i) : Nat) + 1 + 1 + 1 + 1 + (bsum one l[i].note.entry.rests : Nat) + 1 + 1) (by omega) (by omega)) rfl rfl _ rfl ?_
    refine Arith.fit (wrap_fit (z := (i : Int) + 1) (by omega) (by simp only [maxLen] at hL; omega)) ?_
    refine Gh.go ⟨(i + 1, _), ⟨hi', ?_⟩, (by show l.length - (i + 1) < l.length - i; omega), ⟨⟨rfl, rfl⟩, ⟨?_, rfl⟩, trivial⟩, ⟨⟨rfl, rfl⟩, trivial⟩, ⟨⟨rfl, rfl⟩, trivial⟩⟩
    · exact rest_more (rest_more (rest_more (rest_more (rest_more (rest_more (rest_more (rest_step hR)))))))
    · refine congrArg I ?_
      show k + (bsum mkePacket (l.take i) : Nat) + 1 + 1 + 1 + 1 + (bsum one l[i].note.entry.rests : Nat) + 1 + 1 + (bsum mkeClaim l[i].note.entry.proof.claims : Nat) = k + (bsum mkePacket (l.take (i + 1)) : Nat)
      omega
  · have h : ¬ (i : Int) < (rows.length : Nat) := of_decide_eq_false h
    have : i = l.length := by omega
    subst this
    refine RetX.mk ?_ trivial
    refine congrArg I ?_
    rw [List.take_length]
set_option maxHeartbeats 4000000 in
theorem markArchive_ok (x : XArchive) (k : Int) (h0 : 0 ≤ k) (hk : k + (bsum mkeServer x.servers + bsum mkePacket x.flying : Nat) ≤ 4611686018427387904) : CallX Tryz.prog 25 [.m [.c (.val (.int .i64 x.sig.tests)), .c (.val (.int .i64 x.sig.actions)), .c (.own 87 3 (x.servers.map ownServer)), .c (.own 94 8 (x.flying.map ownPacket))], I k] [] (I (k + (bsum mkeServer x.servers + bsum mkePacket x.flying : Nat))) := by
  refine callX_of_vc htb hm Tryz.func25 rfl rfl rfl rfl (ann := fun _ => none) (gh := fun _ => false) ?_
  refine CallN.gen [true, false] _ [] _ rfl (markServerS_ok x.servers (k) (by omega) (by omega)) rfl rfl _ rfl ?_
  refine CallN.gen [true, false] _ [] _ rfl (markPacketS_ok x.flying (k + (bsum mkeServer x.servers : Nat)) (by omega) (by omega)) rfl rfl _ rfl ?_
  refine RetX.mk ?_ trivial
  refine congrArg I ?_
  omega
set_option maxHeartbeats 4000000 in
theorem markExpr_ok (x : XExpr) (k : Int) (h0 : 0 ≤ k) (hk : k + (bsum mkeExpr x.kids : Nat) ≤ 4611686018427387904) : CallX Tryz.prog 97 [.m [.c (.val (.int .i64 x.kind)), .c (.val (.int .i64 x.num)), .c (.own 67 3 (x.kids.map ownExpr))], I k] [] (I (k + (bsum mkeExpr x.kids : Nat))) := by
  refine callX_of_vc htb hm Tryz.func97 rfl rfl rfl rfl (ann := fun _ => none) (gh := fun _ => false) ?_
  refine CallN.gen [true, false] _ [] _ rfl (markExprS_ok x.kids (k) (by omega) (by omega)) rfl rfl _ rfl ?_
  refine RetX.mk ?_ trivial
  refine congrArg I ?_
  omega
set_option maxHeartbeats 4000000 in
theorem markEquation_ok (x : XEquation) (k : Int) (h0 : 0 ≤ k) (hk : k + (bsum mkeExpr x.left.kids + bsum mkeExpr x.right.kids : Nat) ≤ 4611686018427387904) : CallX Tryz.prog 42 [.m [.c (.val (.int .i64 x.left.kind)), .c (.val (.int .i64 x.left.num)), .c (.own 67 3 (x.left.kids.map ownExpr)), .c (.val (.int .i64 x.right.kind)), .c (.val (.int .i64 x.right.num)), .c (.own 67 3 (x.right.kids.map ownExpr))], I k] [] (I (k + (bsum mkeExpr x.left.kids + bsum mkeExpr x.right.kids : Nat))) := by
  refine callX_of_vc htb hm Tryz.func42 rfl rfl rfl rfl (ann := fun _ => none) (gh := fun _ => false) ?_
  refine CallN.gen [true, false] _ [] _ rfl (markExpr_ok x.left (k) (by omega) (by omega)) rfl rfl _ rfl ?_
  refine CallN.gen [true, false] _ [] _ rfl (markExpr_ok x.right (k + (bsum mkeExpr x.left.kids : Nat)) (by omega) (by omega)) rfl rfl _ rfl ?_
  refine RetX.mk ?_ trivial
  refine congrArg I ?_
  omega
end Go.Proofs.YtbbaadkgmdkjdaaGreat
