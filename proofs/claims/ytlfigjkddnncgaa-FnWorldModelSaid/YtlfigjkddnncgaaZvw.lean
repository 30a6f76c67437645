/- The program's WorldModel returns what the reference's returns, for all arguments: the law's check, from the arguments' cells to its answer. No conditions. -/
import Derived.Test.YtlfigjkddnncgaaDX
import Derived.Test.YtlfigjkddnncgaaZrb
import Derived.Test.YtlfigjkddnncgaaRows
namespace Go.Proofs.Ytlfigjkddnncgaa
open Go Go.KA Go.Proofs
theorem own : ownKnob Try.prog.godebug = none := by kernel_rfl
theorem laidOut : laidOutB Try.prog = true := by kernel_rfl
set_option maxRecDepth 100000 in
theorem fnWorldModel_lifted (os : Os) (started : os.Started) (H : Type) (enc : TypeId × Value → H) :
    ReturnsInHanded {} Try.checked os 3 .any (Rows.fnWorldModelSpec.pre6 enc Try.prog Try.f3 Rows.fnWorldModelRow.domain false) (Rows.fnWorldModelSpec.post enc Try.prog Try.f3 false true false false) := by
  refine returnsInHanded_of_change (C := Try.checked) own started (by kernel_rfl) Try.func3
    (ChangeSpec.witness6 (enc := enc) (C := Try.checked) false ⟨#[], #[.slice none 0 0, .slice none 0 0], []⟩ 8 (by kernel_rfl) (by kernel_rfl) (by kernel_rfl) (by kernel_rfl)) ?_
  intro W base args ds gs before hval0 hW _ _
  have hval : ∀ (j : Nat) t v, Try.f3.params[j]? = some t → args[j]? = some v → Value.okWide Try.prog W .any base t v := hval0
  have hW' : DataW.Whole enc Try.prog Try.f3.params.toList Rows.fnWorldModelSpec.vars false W args.toList ds gs before := hW
  obtain ⟨p, q, hA, hV, hpq, _, _⟩ := id hW'
  rw [Try.params3] at hA hval
  obtain ⟨v0, vs0, d0, ds0, p0, q0, hargs, rfl, rfl, h0, r0⟩ := ChangeShapes.trodAll_cons hA
  obtain ⟨v1, vs1, d1, ds1, p1, q1, rfl, rfl, rfl, h1, r1⟩ := ChangeShapes.trodAll_cons r0
  obtain ⟨rfl, rfl, rfl⟩ := ChangeShapes.trodAll_nil r1
  obtain ⟨rfl, rfl⟩ := ChangeShapes.trodVars_none hV
  obtain rfl : args = #[v0, v1] := by cases args; simp_all
  have hv0 := noAgg_slice Try.underlying22 (hval 0 22 v0 rfl rfl)
  obtain ⟨x0, l0, D0, _, g0⟩ := Reads.arg readsIntS h0
  have V0 := den1 hv0 D0
  have hv1 := noAgg_slice Try.underlying22 (hval 1 22 v1 rfl rfl)
  obtain ⟨x1, l1, D1, _, g1⟩ := Reads.arg readsIntS h1
  have V1 := den1 hv1 D1
  refine (law_calls (vs := [v0, v1]) (WorldModel_law x0 x1) rfl fun j s v hs hv' => ?_).mono ?_
  · cases j with
    | zero => simp at hs hv'; subst hs hv'; exact V0
    | succ j =>
      cases j with
      | zero => simp at hs hv'; subst hs hv'; exact V1
      | succ j =>
        simp at hs
  · rintro e W' ⟨rfl, hb⟩
    refine ⟨_, rfl, law_done laidOut rfl rfl Try.underlying4 ?_ hW' rfl hb⟩
    intro t ht
    rw [Try.params3] at ht
    simp at ht
    subst ht
    exact ⟨by kernel_rfl, of_decide_eq_true (by kernel_rfl)⟩
theorem joined_of {P : Program} {f : FuncId} {fn : Func} {s : ChangeSpec} {c : OpenClaim}
    (k1 : c.wf (OpenSpec.ofChange s) = true)
    (k2 : laidOutB P = true)
    (k3 : mapsRowed P = true)
    (k4 : fn.params.all (P.readableRec ·) = true)
    (k5 : namedTie P c.named s.vars = true)
    (k6 : (c.stops == []) = true)
    (k7 : (P.stops == []) = true)
    (k8 : (c.knobs == []) = true)
    (k9 : (P.stopKnobs == []) = true)
    (k10 : (c.inPlace == P.inPlace f) = true)
    (k11 : (c.unfollowed == P.unfollowed f) = true)
    (k12 : (c.recurses == P.recurses f) = true)
    (k13 : (c.named == P.varsNamed f) = true)
    (k14 : (c.maps == (fn.params.toList ++ s.plain.varTypes P).any (P.mapsRec ·)) = true)
    (k15 : (c.ifaces == (fn.params.toList ++ s.plain.varTypes P).any (P.ifacesRec ·)) = true)
    (k16 : (c.mapsOut == P.mapsAmong fn.resultTypes.toList) = true)
    (k17 : (c.loops == (fn.params.toList ++ s.plain.varTypes P).any (P.loopsFrom ·)) = true)
    (k18 : (c.wideKeys == (fn.params.toList ++ s.plain.varTypes P ++ fn.resultTypes.toList).any (P.wideKeysFrom ·)) = true)
    (k19 : s.vars.all (P.varReadable ·) = true)
    (k20 : fn.resultTypes.all (fun t => P.readableRec t && decide (t < P.types.size)) = true)
    (k21 : (c.ifacesOut == fn.resultTypes.toList.any (P.ifacesRec ·)) = true)
    (k22 : (c.loopsOut == fn.resultTypes.toList.any (P.loopsFrom ·)) = true)
    (k23 : (c.plainKeys == P.plainKeys) = true)
    (k24 : c.shortTexts.isNone = true)
    (k25 : P.stopsHeard = true)
    (k26 : P.mayEnter = true)
    (k27 : (c.lifted == P.liftsFinal) = true)
    (k28 : (P.make == some c.make) = true)
    (k29 : (c.kinds == (if c.domain.isEmpty then [] else fn.params.toList.map fun t => match P.underlying t with | some (.int k) => some k | _ => none)) = true)
    (k30 : (c.pinned == c.pinnedBy) = true)
    (k31 : (c.veiled == (fn.params.toList ++ s.plain.varTypes P ++ fn.resultTypes.toList).any (P.veiledRec ·)) = true)
    (k32 : c.veiledFits P fn.params.toList (fn.params.toList ++ s.plain.varTypes P ++ fn.resultTypes.toList) = true) : joinedFacts P f fn s c = true := by
  unfold joinedFacts
  simp only [Bool.and_eq_true]
  and_intros <;> assumption
theorem fnWorldModel_k1 : Rows.fnWorldModelRow.wf (OpenSpec.ofChange Rows.fnWorldModelSpec) = true := by kernel_rfl
theorem fnWorldModel_k2 : laidOutB Try.prog = true := by kernel_rfl
theorem fnWorldModel_k3 : mapsRowed Try.prog = true := by kernel_rfl
theorem fnWorldModel_k4 : Try.f3.params.all (Try.prog.readableRec ·) = true := by kernel_rfl
theorem fnWorldModel_k10 : (Rows.fnWorldModelRow.inPlace == Try.prog.inPlace 3) = true := by kernel_rfl
theorem fnWorldModel_k11 : (Rows.fnWorldModelRow.unfollowed == Try.prog.unfollowed 3) = true := by kernel_rfl
theorem fnWorldModel_k12 : (Rows.fnWorldModelRow.recurses == Try.prog.recurses 3) = true := by kernel_rfl
theorem fnWorldModel_k13 : (Rows.fnWorldModelRow.named == Try.prog.varsNamed 3) = true := by kernel_rfl
theorem fnWorldModel_k14 : (Rows.fnWorldModelRow.maps == (Try.f3.params.toList ++ Rows.fnWorldModelSpec.plain.varTypes Try.prog).any (Try.prog.mapsRec ·)) = true := by kernel_rfl
theorem fnWorldModel_k15 : (Rows.fnWorldModelRow.ifaces == (Try.f3.params.toList ++ Rows.fnWorldModelSpec.plain.varTypes Try.prog).any (Try.prog.ifacesRec ·)) = true := by kernel_rfl
theorem fnWorldModel_k16 : (Rows.fnWorldModelRow.mapsOut == Try.prog.mapsAmong Try.f3.resultTypes.toList) = true := by kernel_rfl
theorem fnWorldModel_k17 : (Rows.fnWorldModelRow.loops == (Try.f3.params.toList ++ Rows.fnWorldModelSpec.plain.varTypes Try.prog).any (Try.prog.loopsFrom ·)) = true := by kernel_rfl
theorem fnWorldModel_k18 : (Rows.fnWorldModelRow.wideKeys == (Try.f3.params.toList ++ Rows.fnWorldModelSpec.plain.varTypes Try.prog ++ Try.f3.resultTypes.toList).any (Try.prog.wideKeysFrom ·)) = true := by kernel_rfl
theorem fnWorldModel_k20 : Try.f3.resultTypes.all (fun t => Try.prog.readableRec t && decide (t < Try.prog.types.size)) = true := by kernel_rfl
theorem fnWorldModel_k21 : (Rows.fnWorldModelRow.ifacesOut == Try.f3.resultTypes.toList.any (Try.prog.ifacesRec ·)) = true := by kernel_rfl
theorem fnWorldModel_k22 : (Rows.fnWorldModelRow.loopsOut == Try.f3.resultTypes.toList.any (Try.prog.loopsFrom ·)) = true := by kernel_rfl
theorem fnWorldModel_k23 : (Rows.fnWorldModelRow.plainKeys == Try.prog.plainKeys) = true := by kernel_rfl
theorem fnWorldModel_k25 : Try.prog.stopsHeard = true := by kernel_rfl
theorem fnWorldModel_k26 : Try.prog.mayEnter = true := by kernel_rfl
theorem fnWorldModel_k27 : (Rows.fnWorldModelRow.lifted == Try.prog.liftsFinal) = true := by kernel_rfl
theorem fnWorldModel_k31 : (Rows.fnWorldModelRow.veiled == (Try.f3.params.toList ++ Rows.fnWorldModelSpec.plain.varTypes Try.prog ++ Try.f3.resultTypes.toList).any (Try.prog.veiledRec ·)) = true := by kernel_rfl
theorem fnWorldModel_k32 : Rows.fnWorldModelRow.veiledFits Try.prog Try.f3.params.toList (Try.f3.params.toList ++ Rows.fnWorldModelSpec.plain.varTypes Try.prog ++ Try.f3.resultTypes.toList) = true := by kernel_rfl
theorem fnWorldModel_closed : joinedFacts Try.prog 3 Try.f3 Rows.fnWorldModelSpec Rows.fnWorldModelRow = true :=
  joined_of fnWorldModel_k1 fnWorldModel_k2 fnWorldModel_k3 fnWorldModel_k4 (by kernel_rfl) (by kernel_rfl) (by kernel_rfl) (by kernel_rfl) (by kernel_rfl) fnWorldModel_k10 fnWorldModel_k11 fnWorldModel_k12 fnWorldModel_k13 fnWorldModel_k14 fnWorldModel_k15 fnWorldModel_k16 fnWorldModel_k17 fnWorldModel_k18 (by kernel_rfl) fnWorldModel_k20 fnWorldModel_k21 fnWorldModel_k22 fnWorldModel_k23 (by kernel_rfl) fnWorldModel_k25 fnWorldModel_k26 fnWorldModel_k27 (by kernel_rfl) (by kernel_rfl) (by kernel_rfl) fnWorldModel_k31 fnWorldModel_k32
theorem fnWorldModel_holds : Rows.FnWorldModelSaid :=
  OpenClaim.holds_of_wide 3 Try.f3 rfl rfl rfl rfl rfl rfl rfl ⟨rfl, rfl, rfl, rfl, rfl⟩ rfl rfl rfl rfl rfl (by kernel_rfl) Try.func3 fnWorldModel_closed
    (of_decide_eq_true (by kernel_rfl)) (by unfold Func.isWrapper; first | (rw [if_pos (by decide +kernel)]; kernel_rfl) | (rw [if_neg (by decide +kernel)]; exact ⟨rfl, rfl⟩))
    (fun os started H enc _ => fnWorldModel_lifted os started H enc)
end Go.Proofs.Ytlfigjkddnncgaa
