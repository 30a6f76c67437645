/- The program's SpreadEvents returns what the reference's returns, for all arguments: the law's check, from the arguments' cells to its answer. No conditions. -/
import Derived.Test.YtmpcfplelpdbhaaGreatWG
import Derived.Test.YtmpcfplelpdbhaaGreatZr
import Derived.Test.YtmpcfplelpdbhaaGreatRows
namespace Go.Proofs.YtmpcfplelpdbhaaGreat
open Go Go.KA Go.Proofs
theorem own : ownKnob Tryz.prog.godebug = none := by kernel_rfl
theorem laidOut : laidOutB Tryz.prog = true := by kernel_rfl
set_option maxRecDepth 100000 in
theorem fnExactSpreadEvents_lifted (os : Os) (started : os.Started) (H : Type) (enc : TypeId × Value → H) :
    ReturnsInHanded {} Tryz.checked os 4 .any (Rows.fnExactSpreadEventsSpec.pre6 enc Tryz.prog Tryz.f4 Rows.fnExactSpreadEventsRow.domain false) (Rows.fnExactSpreadEventsSpec.post enc Tryz.prog Tryz.f4 false true false false) := by
  refine returnsInHanded_of_change (C := Tryz.checked) own started (by kernel_rfl) Tryz.func4
    (ChangeSpec.witness6 (enc := enc) (C := Tryz.checked) false ⟨#[], #[.agg #[.int .i64 0, .int .i64 0, .slice none 0 0, .slice none 0 0]], []⟩ 8 (by kernel_rfl) (by kernel_rfl) (by kernel_rfl) (by kernel_rfl)) ?_
  intro W base args ds gs before hval0 hW _ _
  have hval : ∀ (j : Nat) t v, Tryz.f4.params[j]? = some t → args[j]? = some v → Value.okWide Tryz.prog W .any base t v := hval0
  have hW' : DataW.Whole enc Tryz.prog Tryz.f4.params.toList Rows.fnExactSpreadEventsSpec.vars false W args.toList ds gs before := hW
  obtain ⟨p, q, hA, hV, hpq, _, _⟩ := id hW'
  rw [Tryz.params4] at hA hval
  obtain ⟨v0, vs0, d0, ds0, p0, q0, hargs, rfl, rfl, h0, r0⟩ := ChangeShapes.trodAll_cons hA
  obtain ⟨rfl, rfl, rfl⟩ := ChangeShapes.trodAll_nil r0
  obtain ⟨rfl, rfl⟩ := ChangeShapes.trodVars_none hV
  obtain rfl : args = #[v0] := by cases args; simp_all
  obtain ⟨c0, rfl⟩ := isAgg_struct Tryz.underlying63 (hval 0 63 v0 rfl rfl)
  obtain ⟨x0, l0, D0, _, g0⟩ := Reads.arg readsArchive h0
  have V0 := denA (n := 4) (by rw [D0.length]; exact l0) D0
  refine (law_calls (vs := [.agg c0]) (SpreadEvents_law x0) rfl fun j s v hs hv' => ?_).mono ?_
  · cases j with
    | zero => simp at hs hv'; subst hs hv'; exact V0
    | succ j =>
      simp at hs
  · rintro e W' ⟨rfl, hb⟩
    refine ⟨_, rfl, law_done laidOut rfl rfl Tryz.underlying4 ?_ hW' rfl hb⟩
    intro t ht
    rw [Tryz.params4] at ht
    simp at ht
    subst ht
    exact ⟨by kernel_rfl, of_decide_eq_true (by kernel_rfl)⟩
theorem joined_of {P : Program} {f : FuncId} {fn : Func} {s : ChangeSpec} {c : OpenClaim}
    (k1 : c.wf (OpenSpec.ofChange s) = true)
    (k2 : laidOutB P = true)
    (k3 : mapsRowed P = true)
    (k4 : fn.params.all (P.readableRec ·) = true)
    (k5 : namedTie P c.named s.vars = true)
    (k6 : (c.stops == []) = true)
    (k7 : (P.stops == []) = true)
    (k8 : (c.knobs == []) = true)
    (k9 : (P.stopKnobs == []) = true)
    (k10 : (c.inPlace == P.inPlace f) = true)
    (k11 : (c.unfollowed == P.unfollowed f) = true)
    (k12 : (c.recurses == P.recurses f) = true)
    (k13 : (c.named == P.varsNamed f) = true)
    (k14 : (c.maps == (fn.params.toList ++ s.plain.varTypes P).any (P.mapsRec ·)) = true)
    (k15 : (c.ifaces == (fn.params.toList ++ s.plain.varTypes P).any (P.ifacesRec ·)) = true)
    (k16 : (c.mapsOut == P.mapsAmong fn.resultTypes.toList) = true)
    (k17 : (c.loops == (fn.params.toList ++ s.plain.varTypes P).any (P.loopsFrom ·)) = true)
    (k18 : (c.wideKeys == (fn.params.toList ++ s.plain.varTypes P ++ fn.resultTypes.toList).any (P.wideKeysFrom ·)) = true)
    (k19 : s.vars.all (P.varReadable ·) = true)
    (k20 : fn.resultTypes.all (fun t => P.readableRec t && decide (t < P.types.size)) = true)
    (k21 : (c.ifacesOut == fn.resultTypes.toList.any (P.ifacesRec ·)) = true)
    (k22 : (c.loopsOut == fn.resultTypes.toList.any (P.loopsFrom ·)) = true)
    (k23 : (c.plainKeys == P.plainKeys) = true)
    (k24 : c.shortTexts.isNone = true)
    (k25 : P.stopsHeard = true)
    (k26 : P.mayEnter = true)
    (k27 : (c.lifted == P.liftsFinal) = true)
    (k28 : (P.make == some c.make) = true)
    (k29 : (c.kinds == (if c.domain.isEmpty then [] else fn.params.toList.map fun t => match P.underlying t with | some (.int k) => some k | _ => none)) = true)
    (k30 : (c.pinned == c.pinnedBy) = true)
    (k31 : (c.veiled == (fn.params.toList ++ s.plain.varTypes P ++ fn.resultTypes.toList).any (P.veiledRec ·)) = true)
    (k32 : c.veiledFits P fn.params.toList (fn.params.toList ++ s.plain.varTypes P ++ fn.resultTypes.toList) = true) : joinedFacts P f fn s c = true := by
  unfold joinedFacts
  simp only [Bool.and_eq_true]
  and_intros <;> assumption
theorem fnExactSpreadEvents_k1 : Rows.fnExactSpreadEventsRow.wf (OpenSpec.ofChange Rows.fnExactSpreadEventsSpec) = true := by kernel_rfl
theorem fnExactSpreadEvents_k2 : laidOutB Tryz.prog = true := by kernel_rfl
theorem fnExactSpreadEvents_k3 : mapsRowed Tryz.prog = true := by kernel_rfl
theorem fnExactSpreadEvents_k4 : Tryz.f4.params.all (Tryz.prog.readableRec ·) = true := by kernel_rfl
theorem fnExactSpreadEvents_k10 : (Rows.fnExactSpreadEventsRow.inPlace == Tryz.prog.inPlace 4) = true := by kernel_rfl
theorem fnExactSpreadEvents_k11 : (Rows.fnExactSpreadEventsRow.unfollowed == Tryz.prog.unfollowed 4) = true := by kernel_rfl
theorem fnExactSpreadEvents_k12 : (Rows.fnExactSpreadEventsRow.recurses == Tryz.prog.recurses 4) = true := by kernel_rfl
theorem fnExactSpreadEvents_k13 : (Rows.fnExactSpreadEventsRow.named == Tryz.prog.varsNamed 4) = true := by kernel_rfl
theorem fnExactSpreadEvents_k14 : (Rows.fnExactSpreadEventsRow.maps == (Tryz.f4.params.toList ++ Rows.fnExactSpreadEventsSpec.plain.varTypes Tryz.prog).any (Tryz.prog.mapsRec ·)) = true := by kernel_rfl
theorem fnExactSpreadEvents_k15 : (Rows.fnExactSpreadEventsRow.ifaces == (Tryz.f4.params.toList ++ Rows.fnExactSpreadEventsSpec.plain.varTypes Tryz.prog).any (Tryz.prog.ifacesRec ·)) = true := by kernel_rfl
theorem fnExactSpreadEvents_k16 : (Rows.fnExactSpreadEventsRow.mapsOut == Tryz.prog.mapsAmong Tryz.f4.resultTypes.toList) = true := by kernel_rfl
theorem fnExactSpreadEvents_k17 : (Rows.fnExactSpreadEventsRow.loops == (Tryz.f4.params.toList ++ Rows.fnExactSpreadEventsSpec.plain.varTypes Tryz.prog).any (Tryz.prog.loopsFrom ·)) = true := by kernel_rfl
theorem fnExactSpreadEvents_k18 : (Rows.fnExactSpreadEventsRow.wideKeys == (Tryz.f4.params.toList ++ Rows.fnExactSpreadEventsSpec.plain.varTypes Tryz.prog ++ Tryz.f4.resultTypes.toList).any (Tryz.prog.wideKeysFrom ·)) = true := by kernel_rfl
theorem fnExactSpreadEvents_k20 : Tryz.f4.resultTypes.all (fun t => Tryz.prog.readableRec t && decide (t < Tryz.prog.types.size)) = true := by kernel_rfl
theorem fnExactSpreadEvents_k21 : (Rows.fnExactSpreadEventsRow.ifacesOut == Tryz.f4.resultTypes.toList.any (Tryz.prog.ifacesRec ·)) = true := by kernel_rfl
theorem fnExactSpreadEvents_k22 : (Rows.fnExactSpreadEventsRow.loopsOut == Tryz.f4.resultTypes.toList.any (Tryz.prog.loopsFrom ·)) = true := by kernel_rfl
theorem fnExactSpreadEvents_k23 : (Rows.fnExactSpreadEventsRow.plainKeys == Tryz.prog.plainKeys) = true := by kernel_rfl
theorem fnExactSpreadEvents_k25 : Tryz.prog.stopsHeard = true := by kernel_rfl
theorem fnExactSpreadEvents_k26 : Tryz.prog.mayEnter = true := by kernel_rfl
theorem fnExactSpreadEvents_k27 : (Rows.fnExactSpreadEventsRow.lifted == Tryz.prog.liftsFinal) = true := by kernel_rfl
theorem fnExactSpreadEvents_k31 : (Rows.fnExactSpreadEventsRow.veiled == (Tryz.f4.params.toList ++ Rows.fnExactSpreadEventsSpec.plain.varTypes Tryz.prog ++ Tryz.f4.resultTypes.toList).any (Tryz.prog.veiledRec ·)) = true := by kernel_rfl
theorem fnExactSpreadEvents_k32 : Rows.fnExactSpreadEventsRow.veiledFits Tryz.prog Tryz.f4.params.toList (Tryz.f4.params.toList ++ Rows.fnExactSpreadEventsSpec.plain.varTypes Tryz.prog ++ Tryz.f4.resultTypes.toList) = true := by kernel_rfl
theorem fnExactSpreadEvents_closed : joinedFacts Tryz.prog 4 Tryz.f4 Rows.fnExactSpreadEventsSpec Rows.fnExactSpreadEventsRow = true :=
  joined_of fnExactSpreadEvents_k1 fnExactSpreadEvents_k2 fnExactSpreadEvents_k3 fnExactSpreadEvents_k4 (by kernel_rfl) (by kernel_rfl) (by kernel_rfl) (by kernel_rfl) (by kernel_rfl) fnExactSpreadEvents_k10 fnExactSpreadEvents_k11 fnExactSpreadEvents_k12 fnExactSpreadEvents_k13 fnExactSpreadEvents_k14 fnExactSpreadEvents_k15 fnExactSpreadEvents_k16 fnExactSpreadEvents_k17 fnExactSpreadEvents_k18 (by kernel_rfl) fnExactSpreadEvents_k20 fnExactSpreadEvents_k21 fnExactSpreadEvents_k22 fnExactSpreadEvents_k23 (by kernel_rfl) fnExactSpreadEvents_k25 fnExactSpreadEvents_k26 fnExactSpreadEvents_k27 (by kernel_rfl) (by kernel_rfl) (by kernel_rfl) fnExactSpreadEvents_k31 fnExactSpreadEvents_k32
theorem fnExactSpreadEvents_holds : Rows.FnExactSpreadEventsSaid :=
  OpenClaim.holds_of_wide 4 Tryz.f4 rfl rfl rfl rfl rfl rfl rfl ⟨rfl, rfl, rfl, rfl, rfl⟩ rfl rfl rfl rfl rfl (by kernel_rfl) Tryz.func4 fnExactSpreadEvents_closed
    (of_decide_eq_true (by kernel_rfl)) (by unfold Func.isWrapper; first | (rw [if_pos (by decide +kernel)]; kernel_rfl) | (rw [if_neg (by decide +kernel)]; exact ⟨rfl, rfl⟩))
    (fun os started H enc _ => fnExactSpreadEvents_lifted os started H enc)
end Go.Proofs.YtmpcfplelpdbhaaGreat
