/- The program's SameArchive returns what the reference's returns, for all archives. No conditions. -/
import Derived.Test.YtceijpfmaofhpaaSz
import Derived.Test.YtceijpfmaofhpaaTo
import Derived.Test.YtceijpfmaofhpaaEq
import Derived.Test.YtceijpfmaofhpaaSame
import Derived.Test.YtceijpfmaofhpaaRd
import Derived.Test.YtceijpfmaofhpaaRows
namespace Go.Proofs.Ytceijpfmaofhpaa
open Go Go.KA Go.Proofs

theorem lawB (a b : XArchive) : CallF Try.prog 5 [.a 4 (encArchive a), .a 4 (encArchive b)] (B true) := by
  refine callF_of_vc htb hm Try.func5 (by kernel_rfl) rfl rfl (ann := fun _ => none) ?_
  refine CallN.pure _ _ rfl (szArchive_ok a 1048576 (Nat.le_refl _)) rfl ?_
  refine Branch.mk (fun _ => Done.mk rfl) (fun h => ?_)
  have ha := szr_pos (of_decide_eq_false h)
  rw [szr_eq ha]
  refine CallN.pure _ _ rfl (szArchive_ok b _ (by omega)) rfl ?_
  refine Branch.mk (fun _ => Done.mk rfl) (fun h => ?_)
  have hb := szr_pos (of_decide_eq_false h)
  have ta := toArchive_ok a ha
  have tb := toArchive_ok b (by omega)
  refine Need.mk (by kernel_rfl) ?_
  refine CallD.mk _ _ rfl ta rfl ?_
  refine CallD.mk _ _ rfl tb rfl ?_
  refine CallD.mk _ _ rfl (specSameArchive_ok a b) rfl ?_
  refine CallN.pure _ _ rfl ta rfl ?_
  refine CallN.pure _ _ rfl tb rfl ?_
  refine CallN.pure _ _ rfl (SameArchive_ok a b) rfl ?_
  refine Branch.mk (fun h => ?_) (fun _ => ?_)
  · simp at h
  refine Need.mk (by kernel_rfl) ?_
  refine CallD.mk _ _ rfl ta rfl ?_
  refine CallD.mk _ _ rfl (eqArchive_ok a a) rfl ?_
  refine Branch.mk (fun h => ?_) (fun _ => ?_)
  · simp at h
  refine Need.mk (by kernel_rfl) ?_
  refine CallD.mk _ _ rfl tb rfl ?_
  refine CallD.mk _ _ rfl (eqArchive_ok b b) rfl ?_
  refine Branch.mk (fun h => ?_) (fun _ => Done.mk rfl)
  simp at h
theorem own : ownKnob Try.prog.godebug = none := by kernel_rfl
theorem laidOut : laidOutB Try.prog = true := by kernel_rfl
set_option maxRecDepth 100000 in
theorem fnExactSameArchive_lifted (os : Os) (started : os.Started) (H : Type) (enc : TypeId × Value → H) :
    ReturnsInHanded {} Try.checked os 5 .any (Rows.fnExactSameArchiveSpec.pre6 enc Try.prog Try.f5 Rows.fnExactSameArchiveRow.domain false) (Rows.fnExactSameArchiveSpec.post enc Try.prog Try.f5 false true false false) := by
  refine returnsInHanded_of_change (C := Try.checked) own started (by kernel_rfl) Try.func5
    (ChangeSpec.witness6 (enc := enc) (C := Try.checked) false ⟨#[], #[.agg #[.int .i64 0, .int .i64 0, .slice none 0 0, .slice none 0 0], .agg #[.int .i64 0, .int .i64 0, .slice none 0 0, .slice none 0 0]], []⟩ 8 (by kernel_rfl) (by kernel_rfl) (by kernel_rfl) (by kernel_rfl)) ?_
  intro W base args ds gs before hval0 hW _ _
  have hval : ∀ (j : Nat) t v, Try.f5.params[j]? = some t → args[j]? = some v → Value.okWide Try.prog W .any base t v := hval0
  have hW' : DataW.Whole enc Try.prog Try.f5.params.toList Rows.fnExactSameArchiveSpec.vars false W args.toList ds gs before := hW
  obtain ⟨p, q, hA, hV, hpq, _, _⟩ := id hW'
  rw [Try.params5] at hA hval
  obtain ⟨v0, vs0, d0, ds0, p0, q0, hargs, rfl, rfl, h0, r0⟩ := ChangeShapes.trodAll_cons hA
  obtain ⟨v1, vs1, d1, ds1, p1, q1, rfl, rfl, rfl, h1, r1⟩ := ChangeShapes.trodAll_cons r0
  obtain ⟨rfl, rfl, rfl⟩ := ChangeShapes.trodAll_nil r1
  obtain ⟨rfl, rfl⟩ := ChangeShapes.trodVars_none hV
  obtain rfl : args = #[v0, v1] := by cases args; simp_all
  obtain ⟨c0, rfl⟩ := isAgg_struct Try.underlying44 (hval 0 44 v0 rfl rfl)
  obtain ⟨x0, l0, D0, _, g0⟩ := Reads.arg readsArchive h0
  have V0 := denA (n := 4) (by rw [D0.length]; exact l0) D0
  obtain ⟨c1, rfl⟩ := isAgg_struct Try.underlying44 (hval 1 44 v1 rfl rfl)
  obtain ⟨x1, l1, D1, _, g1⟩ := Reads.arg readsArchive h1
  have V1 := denA (n := 4) (by rw [D1.length]; exact l1) D1
  refine (law_calls (vs := [.agg c0, .agg c1]) (lawB x0 x1) rfl fun j s v hs hv' => ?_).mono ?_
  · cases j with
    | zero => simp at hs hv'; subst hs hv'; exact V0
    | succ j =>
      cases j with
      | zero => simp at hs hv'; subst hs hv'; exact V1
      | succ j =>
        simp at hs
  · rintro e W' ⟨rfl, hb⟩
    refine ⟨_, rfl, law_done laidOut rfl rfl Try.underlying4 ?_ hW' rfl hb⟩
    intro t ht
    rw [Try.params5] at ht
    simp at ht
    subst ht
    exact ⟨by kernel_rfl, of_decide_eq_true (by kernel_rfl)⟩
theorem fnExactSameArchive_holds : Rows.FnExactSameArchiveSaid :=
  OpenClaim.holds_of_wide 5 Try.f5 rfl rfl rfl rfl rfl rfl rfl ⟨rfl, rfl, rfl, rfl, rfl⟩ rfl rfl rfl rfl rfl (by kernel_rfl) Try.func5 (by kernel_rfl)
    (of_decide_eq_true (by kernel_rfl)) (by unfold Func.isWrapper; first | (rw [if_pos (by decide +kernel)]; kernel_rfl) | (rw [if_neg (by decide +kernel)]; exact ⟨rfl, rfl⟩))
    (fun os started H enc _ => fnExactSameArchive_lifted os started H enc)
end Go.Proofs.Ytceijpfmaofhpaa
