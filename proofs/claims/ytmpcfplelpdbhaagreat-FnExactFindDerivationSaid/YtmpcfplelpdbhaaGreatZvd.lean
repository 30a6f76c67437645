/- The program's FindDerivation returns what the reference's returns, for all arguments: the law's check, from the arguments' cells to its answer. No conditions. -/
import Derived.Test.YtmpcfplelpdbhaaGreatGC
import Derived.Test.YtmpcfplelpdbhaaGreatZr
import Derived.Test.YtmpcfplelpdbhaaGreatRows
namespace Go.Proofs.YtmpcfplelpdbhaaGreat
open Go Go.KA Go.Proofs
theorem own : ownKnob Tryz.prog.godebug = none := by kernel_rfl
theorem laidOut : laidOutB Tryz.prog = true := by kernel_rfl
set_option maxRecDepth 100000 in
theorem fnExactFindDerivation_lifted (os : Os) (started : os.Started) (H : Type) (enc : TypeId × Value → H) :
    ReturnsInHanded {} Tryz.checked os 3 .any (Rows.fnExactFindDerivationSpec.pre6 enc Tryz.prog Tryz.f3 Rows.fnExactFindDerivationRow.domain false) (Rows.fnExactFindDerivationSpec.post enc Tryz.prog Tryz.f3 false true false false) := by
  refine returnsInHanded_of_change (C := Tryz.checked) own started (by kernel_rfl) Tryz.func3
    (ChangeSpec.witness6 (enc := enc) (C := Tryz.checked) false ⟨#[], #[.agg #[.int .i64 0, .int .i64 0], .slice none 0 0, .agg #[.int .i64 0, .int .i64 0, .slice none 0 0, .int .i64 0, .int .i64 0, .int .i64 0, .int .i64 0, .slice none 0 0, .slice none 0 0, .int .i64 0, .int .i64 0, .slice none 0 0]], []⟩ 8 (by kernel_rfl) (by kernel_rfl) (by kernel_rfl) (by kernel_rfl)) ?_
  intro W base args ds gs before hval0 hW _ _
  have hval : ∀ (j : Nat) t v, Tryz.f3.params[j]? = some t → args[j]? = some v → Value.okWide Tryz.prog W .any base t v := hval0
  have hW' : DataW.Whole enc Tryz.prog Tryz.f3.params.toList Rows.fnExactFindDerivationSpec.vars false W args.toList ds gs before := hW
  obtain ⟨p, q, hA, hV, hpq, _, _⟩ := id hW'
  rw [Tryz.params3] at hA hval
  obtain ⟨v0, vs0, d0, ds0, p0, q0, hargs, rfl, rfl, h0, r0⟩ := ChangeShapes.trodAll_cons hA
  obtain ⟨v1, vs1, d1, ds1, p1, q1, rfl, rfl, rfl, h1, r1⟩ := ChangeShapes.trodAll_cons r0
  obtain ⟨v2, vs2, d2, ds2, p2, q2, rfl, rfl, rfl, h2, r2⟩ := ChangeShapes.trodAll_cons r1
  obtain ⟨rfl, rfl, rfl⟩ := ChangeShapes.trodAll_nil r2
  obtain ⟨rfl, rfl⟩ := ChangeShapes.trodVars_none hV
  obtain rfl : args = #[v0, v1, v2] := by cases args; simp_all
  obtain ⟨c0, rfl⟩ := isAgg_struct Tryz.underlying23 (hval 0 23 v0 rfl rfl)
  obtain ⟨x0, l0, D0, _, g0⟩ := Reads.arg readsSig h0
  have V0 := denA (n := 2) (by rw [D0.length]; exact l0) D0
  have hv1 := noAgg_slice Tryz.underlying24 (hval 1 24 v1 rfl rfl)
  obtain ⟨x1, l1, D1, _, g1⟩ := Reads.arg readsPremiseS h1
  have V1 := den1 hv1 D1
  obtain ⟨c2, rfl⟩ := isAgg_struct Tryz.underlying32 (hval 2 32 v2 rfl rfl)
  obtain ⟨x2, l2, D2, _, g2⟩ := Reads.arg readsTriple h2
  have V2 := denA (n := 12) (by rw [D2.length]; exact l2) D2
  refine (law_calls (vs := [.agg c0, v1, .agg c2]) (findDerivation_all x0 x1 x2) rfl fun j s v hs hv' => ?_).mono ?_
  · cases j with
    | zero => simp at hs hv'; subst hs hv'; exact V0
    | succ j =>
      cases j with
      | zero => simp at hs hv'; subst hs hv'; exact V1
      | succ j =>
        cases j with
        | zero => simp at hs hv'; subst hs hv'; exact V2
        | succ j =>
          simp at hs
  · rintro e W' ⟨rfl, hb⟩
    refine ⟨_, rfl, law_done laidOut rfl rfl Tryz.underlying4 ?_ hW' rfl hb⟩
    intro t ht
    rw [Tryz.params3] at ht
    simp at ht
    rcases ht with ht | ht | ht <;> subst ht <;> exact ⟨by kernel_rfl, of_decide_eq_true (by kernel_rfl)⟩
theorem joined_of {P : Program} {f : FuncId} {fn : Func} {s : ChangeSpec} {c : OpenClaim}
    (k1 : c.wf (OpenSpec.ofChange s) = true)
    (k2 : laidOutB P = true)
    (k3 : mapsRowed P = true)
    (k4 : fn.params.all (P.readableRec ·) = true)
    (k5 : namedTie P c.named s.vars = true)
    (k6 : (c.stops == []) = true)
    (k7 : (P.stops == []) = true)
    (k8 : (c.knobs == []) = true)
    (k9 : (P.stopKnobs == []) = true)
    (k10 : (c.inPlace == P.inPlace f) = true)
    (k11 : (c.unfollowed == P.unfollowed f) = true)
    (k12 : (c.recurses == P.recurses f) = true)
    (k13 : (c.named == P.varsNamed f) = true)
    (k14 : (c.maps == (fn.params.toList ++ s.plain.varTypes P).any (P.mapsRec ·)) = true)
    (k15 : (c.ifaces == (fn.params.toList ++ s.plain.varTypes P).any (P.ifacesRec ·)) = true)
    (k16 : (c.mapsOut == P.mapsAmong fn.resultTypes.toList) = true)
    (k17 : (c.loops == (fn.params.toList ++ s.plain.varTypes P).any (P.loopsFrom ·)) = true)
    (k18 : (c.wideKeys == (fn.params.toList ++ s.plain.varTypes P ++ fn.resultTypes.toList).any (P.wideKeysFrom ·)) = true)
    (k19 : s.vars.all (P.varReadable ·) = true)
    (k20 : fn.resultTypes.all (fun t => P.readableRec t && decide (t < P.types.size)) = true)
    (k21 : (c.ifacesOut == fn.resultTypes.toList.any (P.ifacesRec ·)) = true)
    (k22 : (c.loopsOut == fn.resultTypes.toList.any (P.loopsFrom ·)) = true)
    (k23 : (c.plainKeys == P.plainKeys) = true)
    (k24 : c.shortTexts.isNone = true)
    (k25 : P.stopsHeard = true)
    (k26 : P.mayEnter = true)
    (k27 : (c.lifted == P.liftsFinal) = true)
    (k28 : (P.make == some c.make) = true)
    (k29 : (c.kinds == (if c.domain.isEmpty then [] else fn.params.toList.map fun t => match P.underlying t with | some (.int k) => some k | _ => none)) = true)
    (k30 : (c.pinned == c.pinnedBy) = true)
    (k31 : (c.veiled == (fn.params.toList ++ s.plain.varTypes P ++ fn.resultTypes.toList).any (P.veiledRec ·)) = true)
    (k32 : c.veiledFits P fn.params.toList (fn.params.toList ++ s.plain.varTypes P ++ fn.resultTypes.toList) = true) : joinedFacts P f fn s c = true := by
  unfold joinedFacts
  simp only [Bool.and_eq_true]
  and_intros <;> assumption
theorem fnExactFindDerivation_k1 : Rows.fnExactFindDerivationRow.wf (OpenSpec.ofChange Rows.fnExactFindDerivationSpec) = true := by kernel_rfl
theorem fnExactFindDerivation_k2 : laidOutB Tryz.prog = true := by kernel_rfl
theorem fnExactFindDerivation_k3 : mapsRowed Tryz.prog = true := by kernel_rfl
theorem fnExactFindDerivation_k4 : Tryz.f3.params.all (Tryz.prog.readableRec ·) = true := by kernel_rfl
theorem fnExactFindDerivation_k10 : (Rows.fnExactFindDerivationRow.inPlace == Tryz.prog.inPlace 3) = true := by kernel_rfl
theorem fnExactFindDerivation_k11 : (Rows.fnExactFindDerivationRow.unfollowed == Tryz.prog.unfollowed 3) = true := by kernel_rfl
theorem fnExactFindDerivation_k12 : (Rows.fnExactFindDerivationRow.recurses == Tryz.prog.recurses 3) = true := by kernel_rfl
theorem fnExactFindDerivation_k13 : (Rows.fnExactFindDerivationRow.named == Tryz.prog.varsNamed 3) = true := by kernel_rfl
theorem fnExactFindDerivation_k14 : (Rows.fnExactFindDerivationRow.maps == (Tryz.f3.params.toList ++ Rows.fnExactFindDerivationSpec.plain.varTypes Tryz.prog).any (Tryz.prog.mapsRec ·)) = true := by kernel_rfl
theorem fnExactFindDerivation_k15 : (Rows.fnExactFindDerivationRow.ifaces == (Tryz.f3.params.toList ++ Rows.fnExactFindDerivationSpec.plain.varTypes Tryz.prog).any (Tryz.prog.ifacesRec ·)) = true := by kernel_rfl
theorem fnExactFindDerivation_k16 : (Rows.fnExactFindDerivationRow.mapsOut == Tryz.prog.mapsAmong Tryz.f3.resultTypes.toList) = true := by kernel_rfl
theorem fnExactFindDerivation_k17 : (Rows.fnExactFindDerivationRow.loops == (Tryz.f3.params.toList ++ Rows.fnExactFindDerivationSpec.plain.varTypes Tryz.prog).any (Tryz.prog.loopsFrom ·)) = true := by kernel_rfl
theorem fnExactFindDerivation_k18 : (Rows.fnExactFindDerivationRow.wideKeys == (Tryz.f3.params.toList ++ Rows.fnExactFindDerivationSpec.plain.varTypes Tryz.prog ++ Tryz.f3.resultTypes.toList).any (Tryz.prog.wideKeysFrom ·)) = true := by kernel_rfl
theorem fnExactFindDerivation_k20 : Tryz.f3.resultTypes.all (fun t => Tryz.prog.readableRec t && decide (t < Tryz.prog.types.size)) = true := by kernel_rfl
theorem fnExactFindDerivation_k21 : (Rows.fnExactFindDerivationRow.ifacesOut == Tryz.f3.resultTypes.toList.any (Tryz.prog.ifacesRec ·)) = true := by kernel_rfl
theorem fnExactFindDerivation_k22 : (Rows.fnExactFindDerivationRow.loopsOut == Tryz.f3.resultTypes.toList.any (Tryz.prog.loopsFrom ·)) = true := by kernel_rfl
theorem fnExactFindDerivation_k23 : (Rows.fnExactFindDerivationRow.plainKeys == Tryz.prog.plainKeys) = true := by kernel_rfl
theorem fnExactFindDerivation_k25 : Tryz.prog.stopsHeard = true := by kernel_rfl
theorem fnExactFindDerivation_k26 : Tryz.prog.mayEnter = true := by kernel_rfl
theorem fnExactFindDerivation_k27 : (Rows.fnExactFindDerivationRow.lifted == Tryz.prog.liftsFinal) = true := by kernel_rfl
theorem fnExactFindDerivation_k31 : (Rows.fnExactFindDerivationRow.veiled == (Tryz.f3.params.toList ++ Rows.fnExactFindDerivationSpec.plain.varTypes Tryz.prog ++ Tryz.f3.resultTypes.toList).any (Tryz.prog.veiledRec ·)) = true := by kernel_rfl
theorem fnExactFindDerivation_k32 : Rows.fnExactFindDerivationRow.veiledFits Tryz.prog Tryz.f3.params.toList (Tryz.f3.params.toList ++ Rows.fnExactFindDerivationSpec.plain.varTypes Tryz.prog ++ Tryz.f3.resultTypes.toList) = true := by kernel_rfl
theorem fnExactFindDerivation_closed : joinedFacts Tryz.prog 3 Tryz.f3 Rows.fnExactFindDerivationSpec Rows.fnExactFindDerivationRow = true :=
  joined_of fnExactFindDerivation_k1 fnExactFindDerivation_k2 fnExactFindDerivation_k3 fnExactFindDerivation_k4 (by kernel_rfl) (by kernel_rfl) (by kernel_rfl) (by kernel_rfl) (by kernel_rfl) fnExactFindDerivation_k10 fnExactFindDerivation_k11 fnExactFindDerivation_k12 fnExactFindDerivation_k13 fnExactFindDerivation_k14 fnExactFindDerivation_k15 fnExactFindDerivation_k16 fnExactFindDerivation_k17 fnExactFindDerivation_k18 (by kernel_rfl) fnExactFindDerivation_k20 fnExactFindDerivation_k21 fnExactFindDerivation_k22 fnExactFindDerivation_k23 (by kernel_rfl) fnExactFindDerivation_k25 fnExactFindDerivation_k26 fnExactFindDerivation_k27 (by kernel_rfl) (by kernel_rfl) (by kernel_rfl) fnExactFindDerivation_k31 fnExactFindDerivation_k32
theorem fnExactFindDerivation_holds : Rows.FnExactFindDerivationSaid :=
  OpenClaim.holds_of_wide 3 Tryz.f3 rfl rfl rfl rfl rfl rfl rfl ⟨rfl, rfl, rfl, rfl, rfl⟩ rfl rfl rfl rfl rfl (by kernel_rfl) Tryz.func3 fnExactFindDerivation_closed
    (of_decide_eq_true (by kernel_rfl)) (by unfold Func.isWrapper; first | (rw [if_pos (by decide +kernel)]; kernel_rfl) | (rw [if_neg (by decide +kernel)]; exact ⟨rfl, rfl⟩))
    (fun os started H enc _ => fnExactFindDerivation_lifted os started H enc)
end Go.Proofs.YtmpcfplelpdbhaaGreat
