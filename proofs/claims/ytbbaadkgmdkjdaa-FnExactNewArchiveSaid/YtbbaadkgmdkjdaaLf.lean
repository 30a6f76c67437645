/- The program's NewArchive returns what the reference's returns, for all arguments: the law's check, from the argument's cells to its answer. No conditions. -/
import Derived.Test.YtbbaadkgmdkjdaaLe
import Derived.Test.YtbbaadkgmdkjdaaRows
namespace Go.Proofs.Ytbbaadkgmdkjdaa
open Go Go.KA Go.Proofs
abbrev eI (n : Int) : List CV := [.val (.int .i64 n)]
def I64 (z : Int) : Prop := -9223372036854775808 ≤ z ∧ z ≤ 9223372036854775807
theorem i64ok {z : Int} (h : IntKind.i64.min ≤ z ∧ z ≤ IntKind.i64.max) : I64 z := by
  simp only [IntKind.min, IntKind.max, IntKind.signed, IntKind.bits, if_true] at h
  unfold I64
  omega
structure XSig where
  tests : Int
  actions : Int
def encSig (e : XSig) : List CV := [.val (.int .i64 e.tests), .val (.int .i64 e.actions)]
def budSig (_e : XSig) : Nat := 0
def okSig (e : XSig) : Prop := I64 (e.tests) ∧ I64 (e.actions)
theorem readsI2 (n : Nat) : Reads Try.prog 2 1 eI (fun _ => 0) I64 n := (Reads.int Try.underlying2).map id (fun _ => rfl) (fun _ => Nat.zero_le _) fun _ h => i64ok h
theorem readsSig : ∀ n, Reads Try.prog 23 2 encSig (fun _ => 0) okSig n
  | 0 => Reads.zero
  | n + 1 => (Reads.struct Try.underlying23 (by kernel_rfl) (ReadsF.cons rfl (by kernel_rfl) (readsI2 n) (ReadsF.cons rfl (by kernel_rfl) (readsI2 n) ReadsF.nil))).map (fun p => .mk p.1 p.2.1) (fun p => rfl) (fun _ => Nat.zero_le _) (fun p h => ⟨h.1, h.2.1⟩)
theorem newArchive_lawX (x : XSig) (n : Int) : CallF Try.prog 3 [.a 2 (encSig x), I n] (B true) := newArchive_law x.tests x.actions n
theorem own : ownKnob Try.prog.godebug = none := by kernel_rfl
theorem laidOut : laidOutB Try.prog = true := by kernel_rfl
set_option maxRecDepth 100000 in
theorem fnExactNewArchive_lifted (os : Os) (started : os.Started) (H : Type) (enc : TypeId × Value → H) :
    ReturnsInHanded {} Try.checked os 3 .any (Rows.fnExactNewArchiveSpec.pre6 enc Try.prog Try.f3 Rows.fnExactNewArchiveRow.domain false) (Rows.fnExactNewArchiveSpec.post enc Try.prog Try.f3 false true false false) := by
  refine returnsInHanded_of_change (C := Try.checked) own started (by kernel_rfl) Try.func3
    (ChangeSpec.witness6 (enc := enc) (C := Try.checked) false ⟨#[], #[.agg #[.int .i64 0, .int .i64 0], .int .i64 0], []⟩ 8 (by kernel_rfl) (by kernel_rfl) (by kernel_rfl) (by kernel_rfl)) ?_
  intro W base args ds gs before hval0 hW _ _
  have hval : ∀ (j : Nat) t v, Try.f3.params[j]? = some t → args[j]? = some v → Value.okWide Try.prog W .any base t v := hval0
  have hW' : DataW.Whole enc Try.prog Try.f3.params.toList Rows.fnExactNewArchiveSpec.vars false W args.toList ds gs before := hW
  obtain ⟨p, q, hA, hV, hpq, _, _⟩ := id hW'
  rw [Try.params3] at hA hval
  obtain ⟨v0, vs0, d0, ds0, p0, q0, hargs, rfl, rfl, h0, r0⟩ := ChangeShapes.trodAll_cons hA
  obtain ⟨v1, vs1, d1, ds1, p1, q1, rfl, rfl, rfl, h1, r1⟩ := ChangeShapes.trodAll_cons r0
  obtain ⟨rfl, rfl, rfl⟩ := ChangeShapes.trodAll_nil r1
  obtain ⟨rfl, rfl⟩ := ChangeShapes.trodVars_none hV
  obtain rfl : args = #[v0, v1] := by cases args; simp_all
  obtain ⟨c0, rfl⟩ := isAgg_struct Try.underlying23 (hval 0 23 v0 rfl rfl)
  obtain ⟨x0, l0, D0, _, g0⟩ := Reads.arg readsSig h0
  have V0 := denA (n := 2) (by rw [D0.length]; exact l0) D0
  have hv1 := noAgg_int Try.underlying2 (hval 1 2 v1 rfl rfl)
  obtain ⟨x1, l1, D1, _, g1⟩ := Reads.arg readsI2 h1
  have V1 := den1 hv1 D1
  refine (law_calls (vs := [.agg c0, v1]) (newArchive_lawX x0 x1) rfl fun j s v hs hv' => ?_).mono ?_
  · cases j with
    | zero => simp at hs hv'; subst hs hv'; exact V0
    | succ j =>
      cases j with
      | zero => simp at hs hv'; subst hs hv'; exact V1
      | succ j =>
        simp at hs
  · rintro e W' ⟨rfl, hb⟩
    refine ⟨_, rfl, law_done laidOut rfl rfl Try.underlying4 ?_ hW' rfl hb⟩
    intro t ht
    rw [Try.params3] at ht
    simp at ht
    rcases ht with ht | ht <;> subst ht <;> exact ⟨by kernel_rfl, of_decide_eq_true (by kernel_rfl)⟩
theorem fnExactNewArchive_holds : Rows.FnExactNewArchiveSaid :=
  OpenClaim.holds_of_wide 3 Try.f3 rfl rfl rfl rfl rfl rfl rfl ⟨rfl, rfl, rfl, rfl, rfl⟩ rfl rfl rfl rfl rfl (by kernel_rfl) Try.func3 (by kernel_rfl)
    (of_decide_eq_true (by kernel_rfl)) (by unfold Func.isWrapper; first | (rw [if_pos (by decide +kernel)]; kernel_rfl) | (rw [if_neg (by decide +kernel)]; exact ⟨rfl, rfl⟩))
    (fun os started H enc _ => fnExactNewArchive_lifted os started H enc)
end Go.Proofs.Ytbbaadkgmdkjdaa
