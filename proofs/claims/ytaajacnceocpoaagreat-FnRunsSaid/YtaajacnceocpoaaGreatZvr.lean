/- The program's FnRuns returns what the reference's returns, for all arguments: the law's check, from the arguments' cells to its answer. No conditions. -/
import Derived.Test.YtaajacnceocpoaaGreatKAZ
import Derived.Test.YtaajacnceocpoaaGreatZrb
import Derived.Test.YtaajacnceocpoaaGreatRows
namespace Go.Proofs.YtaajacnceocpoaaGreat
open Go Go.KA Go.Proofs
theorem own : ownKnob Tryz.prog.godebug = none := by kernel_rfl
theorem laidOut : laidOutB Tryz.prog = true := by kernel_rfl
set_option maxRecDepth 100000 in
theorem fnRuns_lifted (os : Os) (started : os.Started) (H : Type) (enc : TypeId × Value → H) :
    ReturnsInHanded {} Tryz.checked os 3 .any (Rows.fnRunsSpec.pre6 enc Tryz.prog Tryz.f3 Rows.fnRunsRow.domain false) (Rows.fnRunsSpec.post enc Tryz.prog Tryz.f3 false true false false) := by
  refine returnsInHanded_of_change (C := Tryz.checked) own started (by kernel_rfl) Tryz.func3
    (ChangeSpec.witness6 (enc := enc) (C := Tryz.checked) false ⟨#[], #[.slice none 0 0, .slice none 0 0], []⟩ 8 (by kernel_rfl) (by kernel_rfl) (by kernel_rfl) (by kernel_rfl)) ?_
  intro W base args ds gs before hval0 hW _ _
  have hval : ∀ (j : Nat) t v, Tryz.f3.params[j]? = some t → args[j]? = some v → Value.okWide Tryz.prog W .any base t v := hval0
  have hW' : DataW.Whole enc Tryz.prog Tryz.f3.params.toList Rows.fnRunsSpec.vars false W args.toList ds gs before := hW
  obtain ⟨p, q, hA, hV, hpq, _, _⟩ := id hW'
  rw [Tryz.params3] at hA hval
  obtain ⟨v0, vs0, d0, ds0, p0, q0, hargs, rfl, rfl, h0, r0⟩ := ChangeShapes.trodAll_cons hA
  obtain ⟨v1, vs1, d1, ds1, p1, q1, rfl, rfl, rfl, h1, r1⟩ := ChangeShapes.trodAll_cons r0
  obtain ⟨rfl, rfl, rfl⟩ := ChangeShapes.trodAll_nil r1
  obtain ⟨rfl, rfl⟩ := ChangeShapes.trodVars_none hV
  obtain rfl : args = #[v0, v1] := by cases args; simp_all
  have hv0 := noAgg_slice Tryz.underlying22 (hval 0 22 v0 rfl rfl)
  obtain ⟨x0, l0, D0, _, g0⟩ := Reads.arg readsIntS h0
  have V0 := den1 hv0 D0
  have hv1 := noAgg_slice Tryz.underlying22 (hval 1 22 v1 rfl rfl)
  obtain ⟨x1, l1, D1, _, g1⟩ := Reads.arg readsIntS h1
  have V1 := den1 hv1 D1
  refine (law_calls (vs := [v0, v1]) (Runs_law x0 x1) rfl fun j s v hs hv' => ?_).mono ?_
  · cases j with
    | zero => simp at hs hv'; subst hs hv'; exact V0
    | succ j =>
      cases j with
      | zero => simp at hs hv'; subst hs hv'; exact V1
      | succ j =>
        simp at hs
  · rintro e W' ⟨rfl, hb⟩
    refine ⟨_, rfl, law_done laidOut rfl rfl Tryz.underlying4 ?_ hW' rfl hb⟩
    intro t ht
    rw [Tryz.params3] at ht
    simp at ht
    subst ht
    exact ⟨by kernel_rfl, of_decide_eq_true (by kernel_rfl)⟩
theorem joined_of {P : Program} {f : FuncId} {fn : Func} {s : ChangeSpec} {c : OpenClaim}
    (k1 : c.wf (OpenSpec.ofChange s) = true)
    (k2 : laidOutB P = true)
    (k3 : mapsRowed P = true)
    (k4 : fn.params.all (P.readableRec ·) = true)
    (k5 : namedTie P c.named s.vars = true)
    (k6 : (c.stops == []) = true)
    (k7 : (P.stops == []) = true)
    (k8 : (c.knobs == []) = true)
    (k9 : (P.stopKnobs == []) = true)
    (k10 : (c.inPlace == P.inPlace f) = true)
    (k11 : (c.unfollowed == P.unfollowed f) = true)
    (k12 : (c.recurses == P.recurses f) = true)
    (k13 : (c.named == P.varsNamed f) = true)
    (k14 : (c.maps == (fn.params.toList ++ s.plain.varTypes P).any (P.mapsRec ·)) = true)
    (k15 : (c.ifaces == (fn.params.toList ++ s.plain.varTypes P).any (P.ifacesRec ·)) = true)
    (k16 : (c.mapsOut == P.mapsAmong fn.resultTypes.toList) = true)
    (k17 : (c.loops == (fn.params.toList ++ s.plain.varTypes P).any (P.loopsFrom ·)) = true)
    (k18 : (c.wideKeys == (fn.params.toList ++ s.plain.varTypes P ++ fn.resultTypes.toList).any (P.wideKeysFrom ·)) = true)
    (k19 : s.vars.all (P.varReadable ·) = true)
    (k20 : fn.resultTypes.all (fun t => P.readableRec t && decide (t < P.types.size)) = true)
    (k21 : (c.ifacesOut == fn.resultTypes.toList.any (P.ifacesRec ·)) = true)
    (k22 : (c.loopsOut == fn.resultTypes.toList.any (P.loopsFrom ·)) = true)
    (k23 : (c.plainKeys == P.plainKeys) = true)
    (k24 : c.shortTexts.isNone = true)
    (k25 : P.stopsHeard = true)
    (k26 : P.mayEnter = true)
    (k27 : (c.lifted == P.liftsFinal) = true)
    (k28 : (P.make == some c.make) = true)
    (k29 : (c.kinds == (if c.domain.isEmpty then [] else fn.params.toList.map fun t => match P.underlying t with | some (.int k) => some k | _ => none)) = true)
    (k30 : (c.pinned == c.pinnedBy) = true)
    (k31 : (c.veiled == (fn.params.toList ++ s.plain.varTypes P ++ fn.resultTypes.toList).any (P.veiledRec ·)) = true)
    (k32 : c.veiledFits P fn.params.toList (fn.params.toList ++ s.plain.varTypes P ++ fn.resultTypes.toList) = true) : joinedFacts P f fn s c = true := by
  unfold joinedFacts
  simp only [Bool.and_eq_true]
  and_intros <;> assumption
theorem fnRuns_k1 : Rows.fnRunsRow.wf (OpenSpec.ofChange Rows.fnRunsSpec) = true := by kernel_rfl
theorem fnRuns_k2 : laidOutB Tryz.prog = true := by kernel_rfl
theorem fnRuns_k3 : mapsRowed Tryz.prog = true := by kernel_rfl
theorem fnRuns_k4 : Tryz.f3.params.all (Tryz.prog.readableRec ·) = true := by kernel_rfl
theorem fnRuns_k10 : (Rows.fnRunsRow.inPlace == Tryz.prog.inPlace 3) = true := by kernel_rfl
theorem fnRuns_k11 : (Rows.fnRunsRow.unfollowed == Tryz.prog.unfollowed 3) = true := by kernel_rfl
theorem fnRuns_k12 : (Rows.fnRunsRow.recurses == Tryz.prog.recurses 3) = true := by kernel_rfl
theorem fnRuns_k13 : (Rows.fnRunsRow.named == Tryz.prog.varsNamed 3) = true := by kernel_rfl
theorem fnRuns_k14 : (Rows.fnRunsRow.maps == (Tryz.f3.params.toList ++ Rows.fnRunsSpec.plain.varTypes Tryz.prog).any (Tryz.prog.mapsRec ·)) = true := by kernel_rfl
theorem fnRuns_k15 : (Rows.fnRunsRow.ifaces == (Tryz.f3.params.toList ++ Rows.fnRunsSpec.plain.varTypes Tryz.prog).any (Tryz.prog.ifacesRec ·)) = true := by kernel_rfl
theorem fnRuns_k16 : (Rows.fnRunsRow.mapsOut == Tryz.prog.mapsAmong Tryz.f3.resultTypes.toList) = true := by kernel_rfl
theorem fnRuns_k17 : (Rows.fnRunsRow.loops == (Tryz.f3.params.toList ++ Rows.fnRunsSpec.plain.varTypes Tryz.prog).any (Tryz.prog.loopsFrom ·)) = true := by kernel_rfl
theorem fnRuns_k18 : (Rows.fnRunsRow.wideKeys == (Tryz.f3.params.toList ++ Rows.fnRunsSpec.plain.varTypes Tryz.prog ++ Tryz.f3.resultTypes.toList).any (Tryz.prog.wideKeysFrom ·)) = true := by kernel_rfl
theorem fnRuns_k20 : Tryz.f3.resultTypes.all (fun t => Tryz.prog.readableRec t && decide (t < Tryz.prog.types.size)) = true := by kernel_rfl
theorem fnRuns_k21 : (Rows.fnRunsRow.ifacesOut == Tryz.f3.resultTypes.toList.any (Tryz.prog.ifacesRec ·)) = true := by kernel_rfl
theorem fnRuns_k22 : (Rows.fnRunsRow.loopsOut == Tryz.f3.resultTypes.toList.any (Tryz.prog.loopsFrom ·)) = true := by kernel_rfl
theorem fnRuns_k23 : (Rows.fnRunsRow.plainKeys == Tryz.prog.plainKeys) = true := by kernel_rfl
theorem fnRuns_k25 : Tryz.prog.stopsHeard = true := by kernel_rfl
theorem fnRuns_k26 : Tryz.prog.mayEnter = true := by kernel_rfl
theorem fnRuns_k27 : (Rows.fnRunsRow.lifted == Tryz.prog.liftsFinal) = true := by kernel_rfl
theorem fnRuns_k31 : (Rows.fnRunsRow.veiled == (Tryz.f3.params.toList ++ Rows.fnRunsSpec.plain.varTypes Tryz.prog ++ Tryz.f3.resultTypes.toList).any (Tryz.prog.veiledRec ·)) = true := by kernel_rfl
theorem fnRuns_k32 : Rows.fnRunsRow.veiledFits Tryz.prog Tryz.f3.params.toList (Tryz.f3.params.toList ++ Rows.fnRunsSpec.plain.varTypes Tryz.prog ++ Tryz.f3.resultTypes.toList) = true := by kernel_rfl
theorem fnRuns_closed : joinedFacts Tryz.prog 3 Tryz.f3 Rows.fnRunsSpec Rows.fnRunsRow = true :=
  joined_of fnRuns_k1 fnRuns_k2 fnRuns_k3 fnRuns_k4 (by kernel_rfl) (by kernel_rfl) (by kernel_rfl) (by kernel_rfl) (by kernel_rfl) fnRuns_k10 fnRuns_k11 fnRuns_k12 fnRuns_k13 fnRuns_k14 fnRuns_k15 fnRuns_k16 fnRuns_k17 fnRuns_k18 (by kernel_rfl) fnRuns_k20 fnRuns_k21 fnRuns_k22 fnRuns_k23 (by kernel_rfl) fnRuns_k25 fnRuns_k26 fnRuns_k27 (by kernel_rfl) (by kernel_rfl) (by kernel_rfl) fnRuns_k31 fnRuns_k32
theorem fnRuns_holds : Rows.FnRunsSaid :=
  OpenClaim.holds_of_wide 3 Tryz.f3 rfl rfl rfl rfl rfl rfl rfl ⟨rfl, rfl, rfl, rfl, rfl⟩ rfl rfl rfl rfl rfl (by kernel_rfl) Tryz.func3 fnRuns_closed
    (of_decide_eq_true (by kernel_rfl)) (by unfold Func.isWrapper; first | (rw [if_pos (by decide +kernel)]; kernel_rfl) | (rw [if_neg (by decide +kernel)]; exact ⟨rfl, rfl⟩))
    (fun os started H enc _ => fnRuns_lifted os started H enc)
end Go.Proofs.YtaajacnceocpoaaGreat
