/- The program's StepArchive returns what the reference's returns, for all arguments: the law's check, from the arguments' cells to its answer. No conditions. -/
import Derived.Test.YthgajpkahkhlpaaGreatZS
import Derived.Test.YthgajpkahkhlpaaGreatZr
import Derived.Test.YthgajpkahkhlpaaGreatRows
namespace Go.Proofs.YthgajpkahkhlpaaGreat
open Go Go.KA Go.Proofs
theorem own : ownKnob Tryz.prog.godebug = none := by kernel_rfl
theorem laidOut : laidOutB Tryz.prog = true := by kernel_rfl
set_option maxRecDepth 100000 in
theorem fnExactStepArchive_lifted (os : Os) (started : os.Started) (H : Type) (enc : TypeId × Value → H) :
    ReturnsInHanded {} Tryz.checked os 5 .any (Rows.fnExactStepArchiveSpec.pre6 enc Tryz.prog Tryz.f5 Rows.fnExactStepArchiveRow.domain false) (Rows.fnExactStepArchiveSpec.post enc Tryz.prog Tryz.f5 false true false false) := by
  refine returnsInHanded_of_change (C := Tryz.checked) own started (by kernel_rfl) Tryz.func5
    (ChangeSpec.witness6 (enc := enc) (C := Tryz.checked) false ⟨#[], #[.agg #[.int .i64 0, .int .i64 0, .slice none 0 0, .slice none 0 0], .agg #[.int .i64 0, .int .i64 0, .int .i64 0, .int .i64 0, .slice none 0 0, .int .i64 0, .int .i64 0, .slice none 0 0, .slice none 0 0]], []⟩ 8 (by kernel_rfl) (by kernel_rfl) (by kernel_rfl) (by kernel_rfl)) ?_
  intro W base args ds gs before hval0 hW _ _
  have hval : ∀ (j : Nat) t v, Tryz.f5.params[j]? = some t → args[j]? = some v → Value.okWide Tryz.prog W .any base t v := hval0
  have hW' : DataW.Whole enc Tryz.prog Tryz.f5.params.toList Rows.fnExactStepArchiveSpec.vars false W args.toList ds gs before := hW
  obtain ⟨p, q, hA, hV, hpq, _, _⟩ := id hW'
  rw [Tryz.params5] at hA hval
  obtain ⟨v0, vs0, d0, ds0, p0, q0, hargs, rfl, rfl, h0, r0⟩ := ChangeShapes.trodAll_cons hA
  obtain ⟨v1, vs1, d1, ds1, p1, q1, rfl, rfl, rfl, h1, r1⟩ := ChangeShapes.trodAll_cons r0
  obtain ⟨rfl, rfl, rfl⟩ := ChangeShapes.trodAll_nil r1
  obtain ⟨rfl, rfl⟩ := ChangeShapes.trodVars_none hV
  obtain rfl : args = #[v0, v1] := by cases args; simp_all
  obtain ⟨c0, rfl⟩ := isAgg_struct Tryz.underlying63 (hval 0 63 v0 rfl rfl)
  obtain ⟨x0, l0, D0, _, g0⟩ := Reads.arg readsArchive h0
  have V0 := denA (n := 4) (by rw [D0.length]; exact l0) D0
  obtain ⟨c1, rfl⟩ := isAgg_struct Tryz.underlying84 (hval 1 84 v1 rfl rfl)
  obtain ⟨x1, l1, D1, _, g1⟩ := Reads.arg readsEvent h1
  have V1 := denA (n := 9) (by rw [D1.length]; exact l1) D1
  refine (law_calls (vs := [.agg c0, .agg c1]) (StepArchive_law x0 x1) rfl fun j s v hs hv' => ?_).mono ?_
  · cases j with
    | zero => simp at hs hv'; subst hs hv'; exact V0
    | succ j =>
      cases j with
      | zero => simp at hs hv'; subst hs hv'; exact V1
      | succ j =>
        simp at hs
  · rintro e W' ⟨rfl, hb⟩
    refine ⟨_, rfl, law_done laidOut rfl rfl Tryz.underlying4 ?_ hW' rfl hb⟩
    intro t ht
    rw [Tryz.params5] at ht
    simp at ht
    rcases ht with ht | ht <;> subst ht <;> exact ⟨by kernel_rfl, of_decide_eq_true (by kernel_rfl)⟩
theorem joined_of {P : Program} {f : FuncId} {fn : Func} {s : ChangeSpec} {c : OpenClaim}
    (k1 : c.wf (OpenSpec.ofChange s) = true)
    (k2 : laidOutB P = true)
    (k3 : mapsRowed P = true)
    (k4 : fn.params.all (P.readableRec ·) = true)
    (k5 : namedTie P c.named s.vars = true)
    (k6 : (c.stops == []) = true)
    (k7 : (P.stops == []) = true)
    (k8 : (c.knobs == []) = true)
    (k9 : (P.stopKnobs == []) = true)
    (k10 : (c.inPlace == P.inPlace f) = true)
    (k11 : (c.unfollowed == P.unfollowed f) = true)
    (k12 : (c.recurses == P.recurses f) = true)
    (k13 : (c.named == P.varsNamed f) = true)
    (k14 : (c.maps == (fn.params.toList ++ s.plain.varTypes P).any (P.mapsRec ·)) = true)
    (k15 : (c.ifaces == (fn.params.toList ++ s.plain.varTypes P).any (P.ifacesRec ·)) = true)
    (k16 : (c.mapsOut == P.mapsAmong fn.resultTypes.toList) = true)
    (k17 : (c.loops == (fn.params.toList ++ s.plain.varTypes P).any (P.loopsFrom ·)) = true)
    (k18 : (c.wideKeys == (fn.params.toList ++ s.plain.varTypes P ++ fn.resultTypes.toList).any (P.wideKeysFrom ·)) = true)
    (k19 : s.vars.all (P.varReadable ·) = true)
    (k20 : fn.resultTypes.all (fun t => P.readableRec t && decide (t < P.types.size)) = true)
    (k21 : (c.ifacesOut == fn.resultTypes.toList.any (P.ifacesRec ·)) = true)
    (k22 : (c.loopsOut == fn.resultTypes.toList.any (P.loopsFrom ·)) = true)
    (k23 : (c.plainKeys == P.plainKeys) = true)
    (k24 : c.shortTexts.isNone = true)
    (k25 : P.stopsHeard = true)
    (k26 : P.mayEnter = true)
    (k27 : (c.lifted == P.liftsFinal) = true)
    (k28 : (P.make == some c.make) = true)
    (k29 : (c.kinds == (if c.domain.isEmpty then [] else fn.params.toList.map fun t => match P.underlying t with | some (.int k) => some k | _ => none)) = true)
    (k30 : (c.pinned == c.pinnedBy) = true)
    (k31 : (c.veiled == (fn.params.toList ++ s.plain.varTypes P ++ fn.resultTypes.toList).any (P.veiledRec ·)) = true)
    (k32 : c.veiledFits P fn.params.toList (fn.params.toList ++ s.plain.varTypes P ++ fn.resultTypes.toList) = true) : joinedFacts P f fn s c = true := by
  unfold joinedFacts
  simp only [Bool.and_eq_true]
  and_intros <;> assumption
theorem fnExactStepArchive_k1 : Rows.fnExactStepArchiveRow.wf (OpenSpec.ofChange Rows.fnExactStepArchiveSpec) = true := by kernel_rfl
theorem fnExactStepArchive_k2 : laidOutB Tryz.prog = true := by kernel_rfl
theorem fnExactStepArchive_k3 : mapsRowed Tryz.prog = true := by kernel_rfl
theorem fnExactStepArchive_k4 : Tryz.f5.params.all (Tryz.prog.readableRec ·) = true := by kernel_rfl
theorem fnExactStepArchive_k10 : (Rows.fnExactStepArchiveRow.inPlace == Tryz.prog.inPlace 5) = true := by kernel_rfl
theorem fnExactStepArchive_k11 : (Rows.fnExactStepArchiveRow.unfollowed == Tryz.prog.unfollowed 5) = true := by kernel_rfl
theorem fnExactStepArchive_k12 : (Rows.fnExactStepArchiveRow.recurses == Tryz.prog.recurses 5) = true := by kernel_rfl
theorem fnExactStepArchive_k13 : (Rows.fnExactStepArchiveRow.named == Tryz.prog.varsNamed 5) = true := by kernel_rfl
theorem fnExactStepArchive_k14 : (Rows.fnExactStepArchiveRow.maps == (Tryz.f5.params.toList ++ Rows.fnExactStepArchiveSpec.plain.varTypes Tryz.prog).any (Tryz.prog.mapsRec ·)) = true := by kernel_rfl
theorem fnExactStepArchive_k15 : (Rows.fnExactStepArchiveRow.ifaces == (Tryz.f5.params.toList ++ Rows.fnExactStepArchiveSpec.plain.varTypes Tryz.prog).any (Tryz.prog.ifacesRec ·)) = true := by kernel_rfl
theorem fnExactStepArchive_k16 : (Rows.fnExactStepArchiveRow.mapsOut == Tryz.prog.mapsAmong Tryz.f5.resultTypes.toList) = true := by kernel_rfl
theorem fnExactStepArchive_k17 : (Rows.fnExactStepArchiveRow.loops == (Tryz.f5.params.toList ++ Rows.fnExactStepArchiveSpec.plain.varTypes Tryz.prog).any (Tryz.prog.loopsFrom ·)) = true := by kernel_rfl
theorem fnExactStepArchive_k18 : (Rows.fnExactStepArchiveRow.wideKeys == (Tryz.f5.params.toList ++ Rows.fnExactStepArchiveSpec.plain.varTypes Tryz.prog ++ Tryz.f5.resultTypes.toList).any (Tryz.prog.wideKeysFrom ·)) = true := by kernel_rfl
theorem fnExactStepArchive_k20 : Tryz.f5.resultTypes.all (fun t => Tryz.prog.readableRec t && decide (t < Tryz.prog.types.size)) = true := by kernel_rfl
theorem fnExactStepArchive_k21 : (Rows.fnExactStepArchiveRow.ifacesOut == Tryz.f5.resultTypes.toList.any (Tryz.prog.ifacesRec ·)) = true := by kernel_rfl
theorem fnExactStepArchive_k22 : (Rows.fnExactStepArchiveRow.loopsOut == Tryz.f5.resultTypes.toList.any (Tryz.prog.loopsFrom ·)) = true := by kernel_rfl
theorem fnExactStepArchive_k23 : (Rows.fnExactStepArchiveRow.plainKeys == Tryz.prog.plainKeys) = true := by kernel_rfl
theorem fnExactStepArchive_k25 : Tryz.prog.stopsHeard = true := by kernel_rfl
theorem fnExactStepArchive_k26 : Tryz.prog.mayEnter = true := by kernel_rfl
theorem fnExactStepArchive_k27 : (Rows.fnExactStepArchiveRow.lifted == Tryz.prog.liftsFinal) = true := by kernel_rfl
theorem fnExactStepArchive_k31 : (Rows.fnExactStepArchiveRow.veiled == (Tryz.f5.params.toList ++ Rows.fnExactStepArchiveSpec.plain.varTypes Tryz.prog ++ Tryz.f5.resultTypes.toList).any (Tryz.prog.veiledRec ·)) = true := by kernel_rfl
theorem fnExactStepArchive_k32 : Rows.fnExactStepArchiveRow.veiledFits Tryz.prog Tryz.f5.params.toList (Tryz.f5.params.toList ++ Rows.fnExactStepArchiveSpec.plain.varTypes Tryz.prog ++ Tryz.f5.resultTypes.toList) = true := by kernel_rfl
theorem fnExactStepArchive_closed : joinedFacts Tryz.prog 5 Tryz.f5 Rows.fnExactStepArchiveSpec Rows.fnExactStepArchiveRow = true :=
  joined_of fnExactStepArchive_k1 fnExactStepArchive_k2 fnExactStepArchive_k3 fnExactStepArchive_k4 (by kernel_rfl) (by kernel_rfl) (by kernel_rfl) (by kernel_rfl) (by kernel_rfl) fnExactStepArchive_k10 fnExactStepArchive_k11 fnExactStepArchive_k12 fnExactStepArchive_k13 fnExactStepArchive_k14 fnExactStepArchive_k15 fnExactStepArchive_k16 fnExactStepArchive_k17 fnExactStepArchive_k18 (by kernel_rfl) fnExactStepArchive_k20 fnExactStepArchive_k21 fnExactStepArchive_k22 fnExactStepArchive_k23 (by kernel_rfl) fnExactStepArchive_k25 fnExactStepArchive_k26 fnExactStepArchive_k27 (by kernel_rfl) (by kernel_rfl) (by kernel_rfl) fnExactStepArchive_k31 fnExactStepArchive_k32
theorem fnExactStepArchive_holds : Rows.FnExactStepArchiveSaid :=
  OpenClaim.holds_of_wide 5 Tryz.f5 rfl rfl rfl rfl rfl rfl rfl ⟨rfl, rfl, rfl, rfl, rfl⟩ rfl rfl rfl rfl rfl (by kernel_rfl) Tryz.func5 fnExactStepArchive_closed
    (of_decide_eq_true (by kernel_rfl)) (by unfold Func.isWrapper; first | (rw [if_pos (by decide +kernel)]; kernel_rfl) | (rw [if_neg (by decide +kernel)]; exact ⟨rfl, rfl⟩))
    (fun os started H enc _ => fnExactStepArchive_lifted os started H enc)
end Go.Proofs.YthgajpkahkhlpaaGreat
