/- The program's RepairRests returns what the reference's returns, for all arguments: the law's check, from the arguments' cells to its answer. No conditions. -/
import Derived.Test.YtbbaadkgmdkjdaaGreatZI
import Derived.Test.YtbbaadkgmdkjdaaGreatZr
import Derived.Test.YtbbaadkgmdkjdaaGreatRows
namespace Go.Proofs.YtbbaadkgmdkjdaaGreat
open Go Go.KA Go.Proofs
theorem own : ownKnob Tryz.prog.godebug = none := by kernel_rfl
theorem laidOut : laidOutB Tryz.prog = true := by kernel_rfl
set_option maxRecDepth 100000 in
theorem fnExactRepairRests_lifted (os : Os) (started : os.Started) (H : Type) (enc : TypeId × Value → H) :
    ReturnsInHanded {} Tryz.checked os 10 .any (Rows.fnExactRepairRestsSpec.pre6 enc Tryz.prog Tryz.f10 Rows.fnExactRepairRestsRow.domain false) (Rows.fnExactRepairRestsSpec.post enc Tryz.prog Tryz.f10 false true false false) := by
  refine returnsInHanded_of_change (C := Tryz.checked) own started (by kernel_rfl) Tryz.func10
    (ChangeSpec.witness6 (enc := enc) (C := Tryz.checked) false ⟨#[], #[.agg #[.int .i64 0, .int .i64 0, .slice none 0 0, .slice none 0 0], .int .i64 0, .int .i64 0], []⟩ 8 (by kernel_rfl) (by kernel_rfl) (by kernel_rfl) (by kernel_rfl)) ?_
  intro W base args ds gs before hval0 hW _ _
  have hval : ∀ (j : Nat) t v, Tryz.f10.params[j]? = some t → args[j]? = some v → Value.okWide Tryz.prog W .any base t v := hval0
  have hW' : DataW.Whole enc Tryz.prog Tryz.f10.params.toList Rows.fnExactRepairRestsSpec.vars false W args.toList ds gs before := hW
  obtain ⟨p, q, hA, hV, hpq, _, _⟩ := id hW'
  rw [Tryz.params10] at hA hval
  obtain ⟨v0, vs0, d0, ds0, p0, q0, hargs, rfl, rfl, h0, r0⟩ := ChangeShapes.trodAll_cons hA
  obtain ⟨v1, vs1, d1, ds1, p1, q1, rfl, rfl, rfl, h1, r1⟩ := ChangeShapes.trodAll_cons r0
  obtain ⟨v2, vs2, d2, ds2, p2, q2, rfl, rfl, rfl, h2, r2⟩ := ChangeShapes.trodAll_cons r1
  obtain ⟨rfl, rfl, rfl⟩ := ChangeShapes.trodAll_nil r2
  obtain ⟨rfl, rfl⟩ := ChangeShapes.trodVars_none hV
  obtain rfl : args = #[v0, v1, v2] := by cases args; simp_all
  obtain ⟨c0, rfl⟩ := isAgg_struct Tryz.underlying27 (hval 0 27 v0 rfl rfl)
  obtain ⟨x0, l0, D0, _, g0⟩ := Reads.arg readsArchive h0
  have V0 := denA (n := 4) (by rw [D0.length]; exact l0) D0
  have hv1 := noAgg_int Tryz.underlying2 (hval 1 2 v1 rfl rfl)
  obtain ⟨x1, l1, D1, _, g1⟩ := Reads.arg readsI2 h1
  have V1 := den1 hv1 D1
  have hv2 := noAgg_int Tryz.underlying2 (hval 2 2 v2 rfl rfl)
  obtain ⟨x2, l2, D2, _, g2⟩ := Reads.arg readsI2 h2
  have V2 := den1 hv2 D2
  refine (law_calls (vs := [.agg c0, v1, v2]) (RepairRests_law x0 x1 x2) rfl fun j s v hs hv' => ?_).mono ?_
  · cases j with
    | zero => simp at hs hv'; subst hs hv'; exact V0
    | succ j =>
      cases j with
      | zero => simp at hs hv'; subst hs hv'; exact V1
      | succ j =>
        cases j with
        | zero => simp at hs hv'; subst hs hv'; exact V2
        | succ j =>
          simp at hs
  · rintro e W' ⟨rfl, hb⟩
    refine ⟨_, rfl, law_done laidOut rfl rfl Tryz.underlying4 ?_ hW' rfl hb⟩
    intro t ht
    rw [Tryz.params10] at ht
    simp at ht
    rcases ht with ht | ht <;> subst ht <;> exact ⟨by kernel_rfl, of_decide_eq_true (by kernel_rfl)⟩
theorem joined_of {P : Program} {f : FuncId} {fn : Func} {s : ChangeSpec} {c : OpenClaim}
    (k1 : c.wf (OpenSpec.ofChange s) = true)
    (k2 : laidOutB P = true)
    (k3 : mapsRowed P = true)
    (k4 : fn.params.all (P.readableRec ·) = true)
    (k5 : namedTie P c.named s.vars = true)
    (k6 : (c.stops == []) = true)
    (k7 : (P.stops == []) = true)
    (k8 : (c.knobs == []) = true)
    (k9 : (P.stopKnobs == []) = true)
    (k10 : (c.inPlace == P.inPlace f) = true)
    (k11 : (c.unfollowed == P.unfollowed f) = true)
    (k12 : (c.recurses == P.recurses f) = true)
    (k13 : (c.named == P.varsNamed f) = true)
    (k14 : (c.maps == (fn.params.toList ++ s.plain.varTypes P).any (P.mapsRec ·)) = true)
    (k15 : (c.ifaces == (fn.params.toList ++ s.plain.varTypes P).any (P.ifacesRec ·)) = true)
    (k16 : (c.mapsOut == P.mapsAmong fn.resultTypes.toList) = true)
    (k17 : (c.loops == (fn.params.toList ++ s.plain.varTypes P).any (P.loopsFrom ·)) = true)
    (k18 : (c.wideKeys == (fn.params.toList ++ s.plain.varTypes P ++ fn.resultTypes.toList).any (P.wideKeysFrom ·)) = true)
    (k19 : s.vars.all (P.varReadable ·) = true)
    (k20 : fn.resultTypes.all (fun t => P.readableRec t && decide (t < P.types.size)) = true)
    (k21 : (c.ifacesOut == fn.resultTypes.toList.any (P.ifacesRec ·)) = true)
    (k22 : (c.loopsOut == fn.resultTypes.toList.any (P.loopsFrom ·)) = true)
    (k23 : (c.plainKeys == P.plainKeys) = true)
    (k24 : c.shortTexts.isNone = true)
    (k25 : P.stopsHeard = true)
    (k26 : P.mayEnter = true)
    (k27 : (c.lifted == P.liftsFinal) = true)
    (k28 : (P.make == some c.make) = true)
    (k29 : (c.kinds == (if c.domain.isEmpty then [] else fn.params.toList.map fun t => match P.underlying t with | some (.int k) => some k | _ => none)) = true)
    (k30 : (c.pinned == c.pinnedBy) = true)
    (k31 : (c.veiled == (fn.params.toList ++ s.plain.varTypes P ++ fn.resultTypes.toList).any (P.veiledRec ·)) = true)
    (k32 : c.veiledFits P fn.params.toList (fn.params.toList ++ s.plain.varTypes P ++ fn.resultTypes.toList) = true) : joinedFacts P f fn s c = true := by
  unfold joinedFacts
  simp only [Bool.and_eq_true]
  and_intros <;> assumption
theorem fnExactRepairRests_k1 : Rows.fnExactRepairRestsRow.wf (OpenSpec.ofChange Rows.fnExactRepairRestsSpec) = true := by kernel_rfl
theorem fnExactRepairRests_k2 : laidOutB Tryz.prog = true := by kernel_rfl
theorem fnExactRepairRests_k3 : mapsRowed Tryz.prog = true := by kernel_rfl
theorem fnExactRepairRests_k4 : Tryz.f10.params.all (Tryz.prog.readableRec ·) = true := by kernel_rfl
theorem fnExactRepairRests_k10 : (Rows.fnExactRepairRestsRow.inPlace == Tryz.prog.inPlace 10) = true := by kernel_rfl
theorem fnExactRepairRests_k11 : (Rows.fnExactRepairRestsRow.unfollowed == Tryz.prog.unfollowed 10) = true := by kernel_rfl
theorem fnExactRepairRests_k12 : (Rows.fnExactRepairRestsRow.recurses == Tryz.prog.recurses 10) = true := by kernel_rfl
theorem fnExactRepairRests_k13 : (Rows.fnExactRepairRestsRow.named == Tryz.prog.varsNamed 10) = true := by kernel_rfl
theorem fnExactRepairRests_k14 : (Rows.fnExactRepairRestsRow.maps == (Tryz.f10.params.toList ++ Rows.fnExactRepairRestsSpec.plain.varTypes Tryz.prog).any (Tryz.prog.mapsRec ·)) = true := by kernel_rfl
theorem fnExactRepairRests_k15 : (Rows.fnExactRepairRestsRow.ifaces == (Tryz.f10.params.toList ++ Rows.fnExactRepairRestsSpec.plain.varTypes Tryz.prog).any (Tryz.prog.ifacesRec ·)) = true := by kernel_rfl
theorem fnExactRepairRests_k16 : (Rows.fnExactRepairRestsRow.mapsOut == Tryz.prog.mapsAmong Tryz.f10.resultTypes.toList) = true := by kernel_rfl
theorem fnExactRepairRests_k17 : (Rows.fnExactRepairRestsRow.loops == (Tryz.f10.params.toList ++ Rows.fnExactRepairRestsSpec.plain.varTypes Tryz.prog).any (Tryz.prog.loopsFrom ·)) = true := by kernel_rfl
theorem fnExactRepairRests_k18 : (Rows.fnExactRepairRestsRow.wideKeys == (Tryz.f10.params.toList ++ Rows.fnExactRepairRestsSpec.plain.varTypes Tryz.prog ++ Tryz.f10.resultTypes.toList).any (Tryz.prog.wideKeysFrom ·)) = true := by kernel_rfl
theorem fnExactRepairRests_k20 : Tryz.f10.resultTypes.all (fun t => Tryz.prog.readableRec t && decide (t < Tryz.prog.types.size)) = true := by kernel_rfl
theorem fnExactRepairRests_k21 : (Rows.fnExactRepairRestsRow.ifacesOut == Tryz.f10.resultTypes.toList.any (Tryz.prog.ifacesRec ·)) = true := by kernel_rfl
theorem fnExactRepairRests_k22 : (Rows.fnExactRepairRestsRow.loopsOut == Tryz.f10.resultTypes.toList.any (Tryz.prog.loopsFrom ·)) = true := by kernel_rfl
theorem fnExactRepairRests_k23 : (Rows.fnExactRepairRestsRow.plainKeys == Tryz.prog.plainKeys) = true := by kernel_rfl
theorem fnExactRepairRests_k25 : Tryz.prog.stopsHeard = true := by kernel_rfl
theorem fnExactRepairRests_k26 : Tryz.prog.mayEnter = true := by kernel_rfl
theorem fnExactRepairRests_k27 : (Rows.fnExactRepairRestsRow.lifted == Tryz.prog.liftsFinal) = true := by kernel_rfl
theorem fnExactRepairRests_k31 : (Rows.fnExactRepairRestsRow.veiled == (Tryz.f10.params.toList ++ Rows.fnExactRepairRestsSpec.plain.varTypes Tryz.prog ++ Tryz.f10.resultTypes.toList).any (Tryz.prog.veiledRec ·)) = true := by kernel_rfl
theorem fnExactRepairRests_k32 : Rows.fnExactRepairRestsRow.veiledFits Tryz.prog Tryz.f10.params.toList (Tryz.f10.params.toList ++ Rows.fnExactRepairRestsSpec.plain.varTypes Tryz.prog ++ Tryz.f10.resultTypes.toList) = true := by kernel_rfl
theorem fnExactRepairRests_closed : joinedFacts Tryz.prog 10 Tryz.f10 Rows.fnExactRepairRestsSpec Rows.fnExactRepairRestsRow = true :=
  joined_of fnExactRepairRests_k1 fnExactRepairRests_k2 fnExactRepairRests_k3 fnExactRepairRests_k4 (by kernel_rfl) (by kernel_rfl) (by kernel_rfl) (by kernel_rfl) (by kernel_rfl) fnExactRepairRests_k10 fnExactRepairRests_k11 fnExactRepairRests_k12 fnExactRepairRests_k13 fnExactRepairRests_k14 fnExactRepairRests_k15 fnExactRepairRests_k16 fnExactRepairRests_k17 fnExactRepairRests_k18 (by kernel_rfl) fnExactRepairRests_k20 fnExactRepairRests_k21 fnExactRepairRests_k22 fnExactRepairRests_k23 (by kernel_rfl) fnExactRepairRests_k25 fnExactRepairRests_k26 fnExactRepairRests_k27 (by kernel_rfl) (by kernel_rfl) (by kernel_rfl) fnExactRepairRests_k31 fnExactRepairRests_k32
theorem fnExactRepairRests_holds : Rows.FnExactRepairRestsSaid :=
  OpenClaim.holds_of_wide 10 Tryz.f10 rfl rfl rfl rfl rfl rfl rfl ⟨rfl, rfl, rfl, rfl, rfl⟩ rfl rfl rfl rfl rfl (by kernel_rfl) Tryz.func10 fnExactRepairRests_closed
    (of_decide_eq_true (by kernel_rfl)) (by unfold Func.isWrapper; first | (rw [if_pos (by decide +kernel)]; kernel_rfl) | (rw [if_neg (by decide +kernel)]; exact ⟨rfl, rfl⟩))
    (fun os started H enc _ => fnExactRepairRests_lifted os started H enc)
end Go.Proofs.YtbbaadkgmdkjdaaGreat
