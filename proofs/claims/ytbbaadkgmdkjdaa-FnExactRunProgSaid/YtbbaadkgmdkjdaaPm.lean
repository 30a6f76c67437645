/- The program's RunProg returns what the reference's returns, for all arguments: the law's check, from the arguments' cells to its answer. No conditions. -/
import Derived.Test.YtbbaadkgmdkjdaaPj
import Derived.Test.YtbbaadkgmdkjdaaRows
namespace Go.Proofs.Ytbbaadkgmdkjdaa
open Go Go.KA Go.Proofs
theorem readsI2 (n : Nat) : Reads Try.prog 2 1 eI (fun _ => 0) I64 n := (Reads.int Try.underlying2).map id (fun _ => rfl) (fun _ => Nat.zero_le _) fun _ h => i64ok h
theorem readsSig : ∀ n, Reads Try.prog 23 2 encSig (fun _ => 0) okSig n
  | 0 => Reads.zero
  | n + 1 => (Reads.struct Try.underlying23 (by kernel_rfl) (ReadsF.cons rfl (by kernel_rfl) (readsI2 n) (ReadsF.cons rfl (by kernel_rfl) (readsI2 n) ReadsF.nil))).map (fun p => .mk p.1 p.2.1) (fun p => rfl) (fun _ => Nat.zero_le _) (fun p h => ⟨h.1, h.2.1⟩)
theorem readsIntS : ∀ n, Reads Try.prog 35 1 (fun l : List (Int) => [.ro 1 (l.map eI)]) (fun _ => 0) (fun l => ∀ y ∈ l, I64 y) n
  | 0 => Reads.zero
  | n + 1 => (Reads.slice (sz := 1) (enc := eI) Try.underlying35 (by kernel_rfl) (by decide) (fun _ => rfl) (readsI2 n)).map id (fun _ => rfl) (fun _ => Nat.zero_le _) (fun _ h => h)
theorem readsIntSS : ∀ n, Reads Try.prog 36 1 (fun l : List (List Int) => [.ro 1 (l.map (fun l => [.ro 1 (l.map eI)]))]) (fun _ => 0) (fun l => ∀ y ∈ l, (fun l => ∀ y ∈ l, I64 y) y) n
  | 0 => Reads.zero
  | n + 1 => (Reads.slice (sz := 1) (enc := (fun l => [.ro 1 (l.map eI)])) Try.underlying36 (by kernel_rfl) (by decide) (fun _ => rfl) (readsIntS n)).map id (fun _ => rfl) (fun _ => Nat.zero_le _) (fun _ h => h)
theorem readsWorld : ∀ n, Reads Try.prog 38 2 encWorld (fun _ => 0) okWorld n
  | 0 => Reads.zero
  | n + 1 => (Reads.struct Try.underlying38 (by kernel_rfl) (ReadsF.cons rfl (by kernel_rfl) (readsIntS n) (ReadsF.cons rfl (by kernel_rfl) (readsIntSS n) ReadsF.nil))).map (fun p => .mk p.1 p.2.1) (fun p => rfl) (fun _ => Nat.zero_le _) (fun p h => ⟨h.1, h.2.1⟩)
theorem readsExpr : ∀ n, Reads Try.prog 63 3 encExpr (fun _ => 0) okExpr n
  | 0 => Reads.zero
  | 1 => (Reads.struct Try.underlying63 (by kernel_rfl) (ReadsF.cons rfl (by kernel_rfl) (readsI2 0) (ReadsF.cons rfl (by kernel_rfl) (readsI2 0) (ReadsF.cons rfl (by kernel_rfl) (Reads.zero : Reads Try.prog 61 1 (fun l : List XExpr => [.ro 3 (l.map encExpr)]) (fun _ => 0) (fun l => ∀ y ∈ l, okExpr y) 0) ReadsF.nil)))).map (fun p => .mk p.1 p.2.1 p.2.2.1) (fun p => by rw [encExpr_eq]; rfl) (fun _ => Nat.zero_le _) (fun p h => .mk h.1 h.2.1 h.2.2.1)
  | n + 2 => (Reads.struct Try.underlying63 (by kernel_rfl) (ReadsF.cons rfl (by kernel_rfl) (readsI2 (n + 1)) (ReadsF.cons rfl (by kernel_rfl) (readsI2 (n + 1)) (ReadsF.cons rfl (by kernel_rfl) ((Reads.slice (sz := 3) (enc := encExpr) Try.underlying61 (by kernel_rfl) (by decide) (fun _ => by rw [encExpr_eq]; rfl) (readsExpr n)).map id (fun _ => rfl) (fun _ => Nat.zero_le _) (fun _ h => h) : Reads Try.prog 61 1 (fun l : List XExpr => [.ro 3 (l.map encExpr)]) (fun _ => 0) (fun l => ∀ y ∈ l, okExpr y) (n + 1)) ReadsF.nil)))).map (fun p => .mk p.1 p.2.1 p.2.2.1) (fun p => by rw [encExpr_eq]; rfl) (fun _ => Nat.zero_le _) (fun p h => .mk h.1 h.2.1 h.2.2.1)
theorem readsProg : ∀ n, Reads Try.prog 66 6 encProg (fun _ => 0) okProg n
  | 0 => Reads.zero
  | 1 => (Reads.struct Try.underlying66 (by kernel_rfl) (ReadsF.cons rfl (by kernel_rfl) (readsI2 0) (ReadsF.cons rfl (by kernel_rfl) (readsI2 0) (ReadsF.cons rfl (by kernel_rfl) (readsExpr 0) (ReadsF.cons rfl (by kernel_rfl) (Reads.zero : Reads Try.prog 64 1 (fun l : List XProg => [.ro 6 (l.map encProg)]) (fun _ => 0) (fun l => ∀ y ∈ l, okProg y) 0) ReadsF.nil))))).map (fun p => .mk p.1 p.2.1 p.2.2.1 p.2.2.2.1) (fun p => by rw [encProg_eq, encExpr_eq]; rfl) (fun _ => Nat.zero_le _) (fun p h => .mk h.1 h.2.1 h.2.2.1 h.2.2.2.1)
  | n + 2 => (Reads.struct Try.underlying66 (by kernel_rfl) (ReadsF.cons rfl (by kernel_rfl) (readsI2 (n + 1)) (ReadsF.cons rfl (by kernel_rfl) (readsI2 (n + 1)) (ReadsF.cons rfl (by kernel_rfl) (readsExpr (n + 1)) (ReadsF.cons rfl (by kernel_rfl) ((Reads.slice (sz := 6) (enc := encProg) Try.underlying64 (by kernel_rfl) (by decide) (fun _ => by rw [encProg_eq]; rfl) (readsProg n)).map id (fun _ => rfl) (fun _ => Nat.zero_le _) (fun _ h => h) : Reads Try.prog 64 1 (fun l : List XProg => [.ro 6 (l.map encProg)]) (fun _ => 0) (fun l => ∀ y ∈ l, okProg y) (n + 1)) ReadsF.nil))))).map (fun p => .mk p.1 p.2.1 p.2.2.1 p.2.2.2.1) (fun p => by rw [encProg_eq, encExpr_eq]; rfl) (fun _ => Nat.zero_le _) (fun p h => .mk h.1 h.2.1 h.2.2.1 h.2.2.2.1)
theorem own : ownKnob Try.prog.godebug = none := by kernel_rfl
theorem laidOut : laidOutB Try.prog = true := by kernel_rfl
set_option maxRecDepth 100000 in
theorem fnExactRunProg_lifted (os : Os) (started : os.Started) (H : Type) (enc : TypeId × Value → H) :
    ReturnsInHanded {} Try.checked os 5 .any (Rows.fnExactRunProgSpec.pre6 enc Try.prog Try.f5 Rows.fnExactRunProgRow.domain false) (Rows.fnExactRunProgSpec.post enc Try.prog Try.f5 false true false false) := by
  refine returnsInHanded_of_change (C := Try.checked) own started (by kernel_rfl) Try.func5
    (ChangeSpec.witness6 (enc := enc) (C := Try.checked) false ⟨#[], #[.agg #[.int .i64 0, .int .i64 0], .agg #[.slice none 0 0, .slice none 0 0], .agg #[.int .i64 0, .int .i64 0, .int .i64 0, .int .i64 0, .slice none 0 0, .slice none 0 0], .int .i64 0, .int .i64 0], []⟩ 8 (by kernel_rfl) (by kernel_rfl) (by kernel_rfl) (by kernel_rfl)) ?_
  intro W base args ds gs before hval0 hW _ _
  have hval : ∀ (j : Nat) t v, Try.f5.params[j]? = some t → args[j]? = some v → Value.okWide Try.prog W .any base t v := hval0
  have hW' : DataW.Whole enc Try.prog Try.f5.params.toList Rows.fnExactRunProgSpec.vars false W args.toList ds gs before := hW
  obtain ⟨p, q, hA, hV, hpq, _, _⟩ := id hW'
  rw [Try.params5] at hA hval
  obtain ⟨v0, vs0, d0, ds0, p0, q0, hargs, rfl, rfl, h0, r0⟩ := ChangeShapes.trodAll_cons hA
  obtain ⟨v1, vs1, d1, ds1, p1, q1, rfl, rfl, rfl, h1, r1⟩ := ChangeShapes.trodAll_cons r0
  obtain ⟨v2, vs2, d2, ds2, p2, q2, rfl, rfl, rfl, h2, r2⟩ := ChangeShapes.trodAll_cons r1
  obtain ⟨v3, vs3, d3, ds3, p3, q3, rfl, rfl, rfl, h3, r3⟩ := ChangeShapes.trodAll_cons r2
  obtain ⟨v4, vs4, d4, ds4, p4, q4, rfl, rfl, rfl, h4, r4⟩ := ChangeShapes.trodAll_cons r3
  obtain ⟨rfl, rfl, rfl⟩ := ChangeShapes.trodAll_nil r4
  obtain ⟨rfl, rfl⟩ := ChangeShapes.trodVars_none hV
  obtain rfl : args = #[v0, v1, v2, v3, v4] := by cases args; simp_all
  obtain ⟨c0, rfl⟩ := isAgg_struct Try.underlying23 (hval 0 23 v0 rfl rfl)
  obtain ⟨x0, l0, D0, _, g0⟩ := Reads.arg readsSig h0
  have V0 := denA (n := 2) (by rw [D0.length]; exact l0) D0
  obtain ⟨c1, rfl⟩ := isAgg_struct Try.underlying38 (hval 1 38 v1 rfl rfl)
  obtain ⟨x1, l1, D1, _, g1⟩ := Reads.arg readsWorld h1
  have V1 := denA (n := 2) (by rw [D1.length]; exact l1) D1
  obtain ⟨c2, rfl⟩ := isAgg_struct Try.underlying66 (hval 2 66 v2 rfl rfl)
  obtain ⟨x2, l2, D2, _, g2⟩ := Reads.arg readsProg h2
  have V2 := denA (n := 6) (by rw [D2.length]; exact l2) D2
  have hv3 := noAgg_int Try.underlying2 (hval 3 2 v3 rfl rfl)
  obtain ⟨x3, l3, D3, _, g3⟩ := Reads.arg readsI2 h3
  have V3 := den1 hv3 D3
  have hv4 := noAgg_int Try.underlying2 (hval 4 2 v4 rfl rfl)
  obtain ⟨x4, l4, D4, _, g4⟩ := Reads.arg readsI2 h4
  have V4 := den1 hv4 D4
  refine (law_calls (vs := [.agg c0, .agg c1, .agg c2, v3, v4]) (runProg_law x0 x1 x2 x3 x4) rfl fun j s v hs hv' => ?_).mono ?_
  · cases j with
    | zero => simp at hs hv'; subst hs hv'; exact V0
    | succ j =>
      cases j with
      | zero => simp at hs hv'; subst hs hv'; exact V1
      | succ j =>
        cases j with
        | zero => simp at hs hv'; subst hs hv'; exact V2
        | succ j =>
          cases j with
          | zero => simp at hs hv'; subst hs hv'; exact V3
          | succ j =>
            cases j with
            | zero => simp at hs hv'; subst hs hv'; exact V4
            | succ j =>
              simp at hs
  · rintro e W' ⟨rfl, hb⟩
    refine ⟨_, rfl, law_done laidOut rfl rfl Try.underlying4 ?_ hW' rfl hb⟩
    intro t ht
    rw [Try.params5] at ht
    simp at ht
    rcases ht with ht | ht | ht | ht <;> subst ht <;> exact ⟨by kernel_rfl, of_decide_eq_true (by kernel_rfl)⟩
theorem fnExactRunProg_holds : Rows.FnExactRunProgSaid :=
  OpenClaim.holds_of_wide 5 Try.f5 rfl rfl rfl rfl rfl rfl rfl ⟨rfl, rfl, rfl, rfl, rfl⟩ rfl rfl rfl rfl rfl (by kernel_rfl) Try.func5 (by kernel_rfl)
    (of_decide_eq_true (by kernel_rfl)) (by unfold Func.isWrapper; first | (rw [if_pos (by decide +kernel)]; kernel_rfl) | (rw [if_neg (by decide +kernel)]; exact ⟨rfl, rfl⟩))
    (fun os started H enc _ => fnExactRunProg_lifted os started H enc)
end Go.Proofs.Ytbbaadkgmdkjdaa
