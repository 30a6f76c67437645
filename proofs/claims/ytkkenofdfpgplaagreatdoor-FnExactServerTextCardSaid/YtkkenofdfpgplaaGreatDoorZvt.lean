/- The program's ServerText returns what the reference's returns, for all arguments: the law's check, from the arguments' cells to its answer. No conditions. -/
import Derived.Test.YtkkenofdfpgplaaGreatDoorKAT
import Derived.Test.YtkkenofdfpgplaaGreatDoorZr
import Derived.Test.YtkkenofdfpgplaaGreatDoorRows
import Derived.Test.YtkkenofdfpgplaaGreatDoorCards
import Derived.Test.YtkkenofdfpgplaaGreatDoorTie
import Derived.ProofKit
import Derived.LaidMore
import Derived.Lay
import Derived.MakeChecks
import Derived.SevenTiedAt
import Derived.Stop.Joined
namespace Go.Proofs.YtkkenofdfpgplaaGreatDoor
open Go Go.KA Go.Proofs
theorem own : ownKnob Tryz.prog.godebug = none := by kernel_rfl
theorem laidOut : laidOutB Tryz.prog = true := by kernel_rfl
set_option maxRecDepth 100000 in
theorem fnExactServerText_lifted (os : Os) (started : os.Started) (H : Type) (enc : TypeId × Value → H) :
    ReturnsInHanded {} Tryz.checked os 3 .any (fun w args => (Rows.fnExactServerTextSpec.pre enc Tryz.prog Tryz.f3 Rows.fnExactServerTextRow.domain false w args ∧ laidMetH Tryz.prog Rows.fnExactServerTextRow.laid w) ∧ sizedMet enc Tryz.prog Tryz.f3 (OpenSpec.ofChange Rows.fnExactServerTextSpec) false w args) (Rows.fnExactServerTextSpec.post enc Tryz.prog Tryz.f3 false true false false) := by
  refine returnsInHanded_of_change_and (C := Tryz.checked) (X := fun w _ => laidMetH Tryz.prog Rows.fnExactServerTextRow.laid w) (fun _ _ _ hh h => h.of_heap hh) own started (by kernel_rfl) Tryz.func3
    (ChangeSpec.witness_shaped (enc := enc) (C := Tryz.checked) (os := os) (X := fun w _ => laidMetH Tryz.prog Rows.fnExactServerTextRow.laid w) false (World.laidAll Tryz.prog os Rows.fnExactServerTextRow.laid) #[.agg #[.int .i64 0, .int .i64 0, .slice none 0 0, .slice none 0 0], .int .i64 0] 8 (World.laidAll_os _ _ _)
      (World.shaped_of_ZipB (by kernel_rfl) (by kernel_rfl)) (by kernel_rfl) (by kernel_rfl) (by kernel_rfl)
      (by rw [MakeChecks.laidMetH_plain _ _ _ (by kernel_rfl)]; exact laidMet_laidAll _ (by kernel_rfl) (by kernel_rfl))) ?_
  intro W base args ds gs before hval0 hW _ _ _ _
  have hval : ∀ (j : Nat) t v, Tryz.f3.params[j]? = some t → args[j]? = some v → Value.okWide Tryz.prog W .any base t v := hval0
  have hW' : DataW.Whole enc Tryz.prog Tryz.f3.params.toList Rows.fnExactServerTextSpec.vars false W args.toList ds gs before := hW
  obtain ⟨p, q, hA, hV, hpq, _, _⟩ := id hW'
  rw [Tryz.params3] at hA hval
  obtain ⟨v0, vs0, d0, ds0, p0, q0, hargs, rfl, rfl, h0, r0⟩ := ChangeShapes.trodAll_cons hA
  obtain ⟨v1, vs1, d1, ds1, p1, q1, rfl, rfl, rfl, h1, r1⟩ := ChangeShapes.trodAll_cons r0
  obtain ⟨rfl, rfl, rfl⟩ := ChangeShapes.trodAll_nil r1
  obtain ⟨rfl, rfl⟩ := ChangeShapes.trodVars_none hV
  obtain rfl : args = #[v0, v1] := by cases args; simp_all
  obtain ⟨c0, rfl⟩ := isAgg_struct Tryz.underlying27 (hval 0 27 v0 rfl rfl)
  obtain ⟨x0, l0, D0, _, g0⟩ := Reads.arg readsArchive h0
  have V0 := denA (n := 4) (by rw [D0.length]; exact l0) D0
  have hv1 := noAgg_int Tryz.underlying2 (hval 1 2 v1 rfl rfl)
  obtain ⟨x1, l1, D1, _, g1⟩ := Reads.arg readsI2 h1
  have V1 := den1 hv1 D1
  refine (law_calls (vs := [.agg c0, v1]) (ServerText_law x0 x1) rfl fun j s v hs hv' => ?_).mono ?_
  · cases j with
    | zero => simp at hs hv'; subst hs hv'; exact V0
    | succ j =>
      cases j with
      | zero => simp at hs hv'; subst hs hv'; exact V1
      | succ j =>
        simp at hs
  · rintro e W' ⟨rfl, hb⟩
    refine ⟨_, rfl, law_done laidOut rfl rfl Tryz.underlying4 ?_ hW' rfl hb⟩
    intro t ht
    rw [Tryz.params3] at ht
    simp at ht
    rcases ht with ht | ht <;> subst ht <;> exact ⟨by kernel_rfl, of_decide_eq_true (by kernel_rfl)⟩
theorem joined_of {P : Program} {f : FuncId} {fn : Func} {s : ChangeSpec} {c : OpenClaim}
    (k1 : c.wf (OpenSpec.ofChange s) = true)
    (k2 : laidOutB P = true)
    (k3 : mapsRowed P = true)
    (k4 : fn.params.all (P.readableRec ·) = true)
    (k5 : namedTie P c.named s.vars = true)
    (k6 : (c.stops == []) = true)
    (k7 : (P.stops == []) = true)
    (k8 : (c.knobs == []) = true)
    (k9 : (P.stopKnobs == []) = true)
    (k10 : (c.inPlace == P.inPlace f) = true)
    (k11 : (c.unfollowed == P.unfollowed f) = true)
    (k12 : (c.recurses == P.recurses f) = true)
    (k13 : (c.named == P.varsNamed f) = true)
    (k14 : (c.maps == (fn.params.toList ++ s.plain.varTypes P).any (P.mapsRec ·)) = true)
    (k15 : (c.ifaces == (fn.params.toList ++ s.plain.varTypes P).any (P.ifacesRec ·)) = true)
    (k16 : (c.mapsOut == P.mapsAmong fn.resultTypes.toList) = true)
    (k17 : (c.loops == (fn.params.toList ++ s.plain.varTypes P).any (P.loopsFrom ·)) = true)
    (k18 : (c.wideKeys == (fn.params.toList ++ s.plain.varTypes P ++ fn.resultTypes.toList).any (P.wideKeysFrom ·)) = true)
    (k19 : s.vars.all (P.varReadable ·) = true)
    (k20 : fn.resultTypes.all (fun t => P.readableRec t && decide (t < P.types.size)) = true)
    (k21 : (c.ifacesOut == fn.resultTypes.toList.any (P.ifacesRec ·)) = true)
    (k22 : (c.loopsOut == fn.resultTypes.toList.any (P.loopsFrom ·)) = true)
    (k23 : (c.plainKeys == P.plainKeys) = true)
    (k24 : c.shortTexts.isNone = true)
    (k25 : P.stopsHeard = true)
    (k26 : P.mayEnter = true)
    (k27 : (c.lifted == P.liftsFinal) = true)
    (k28 : (P.make == some c.make) = true)
    (k29 : (c.kinds == (if c.domain.isEmpty then [] else fn.params.toList.map fun t => match P.underlying t with | some (.int k) => some k | _ => none)) = true)
    (k30 : (c.pinned == c.pinnedBy) = true)
    (k31 : (c.veiled == (fn.params.toList ++ s.plain.varTypes P ++ fn.resultTypes.toList).any (P.veiledRec ·)) = true)
    (k32 : c.veiledFits P fn.params.toList (fn.params.toList ++ s.plain.varTypes P ++ fn.resultTypes.toList) = true) : joinedFacts P f fn s c = true := by
  unfold joinedFacts
  simp only [Bool.and_eq_true]
  and_intros <;> assumption
theorem fnExactServerText_k1 : Rows.fnExactServerTextRow.wf (OpenSpec.ofChange Rows.fnExactServerTextSpec) = true := by kernel_rfl
theorem fnExactServerText_k2 : laidOutB Tryz.prog = true := by kernel_rfl
theorem fnExactServerText_k3 : mapsRowed Tryz.prog = true := by kernel_rfl
theorem fnExactServerText_k4 : Tryz.f3.params.all (Tryz.prog.readableRec ·) = true := by kernel_rfl
theorem fnExactServerText_k10 : (Rows.fnExactServerTextRow.inPlace == Tryz.prog.inPlace 3) = true := by kernel_rfl
theorem fnExactServerText_k11 : (Rows.fnExactServerTextRow.unfollowed == Tryz.prog.unfollowed 3) = true := by kernel_rfl
theorem fnExactServerText_k12 : (Rows.fnExactServerTextRow.recurses == Tryz.prog.recurses 3) = true := by kernel_rfl
theorem fnExactServerText_k13 : (Rows.fnExactServerTextRow.named == Tryz.prog.varsNamed 3) = true := by kernel_rfl
theorem fnExactServerText_k14 : (Rows.fnExactServerTextRow.maps == (Tryz.f3.params.toList ++ Rows.fnExactServerTextSpec.plain.varTypes Tryz.prog).any (Tryz.prog.mapsRec ·)) = true := by kernel_rfl
theorem fnExactServerText_k15 : (Rows.fnExactServerTextRow.ifaces == (Tryz.f3.params.toList ++ Rows.fnExactServerTextSpec.plain.varTypes Tryz.prog).any (Tryz.prog.ifacesRec ·)) = true := by kernel_rfl
theorem fnExactServerText_k16 : (Rows.fnExactServerTextRow.mapsOut == Tryz.prog.mapsAmong Tryz.f3.resultTypes.toList) = true := by kernel_rfl
theorem fnExactServerText_k17 : (Rows.fnExactServerTextRow.loops == (Tryz.f3.params.toList ++ Rows.fnExactServerTextSpec.plain.varTypes Tryz.prog).any (Tryz.prog.loopsFrom ·)) = true := by kernel_rfl
theorem fnExactServerText_k18 : (Rows.fnExactServerTextRow.wideKeys == (Tryz.f3.params.toList ++ Rows.fnExactServerTextSpec.plain.varTypes Tryz.prog ++ Tryz.f3.resultTypes.toList).any (Tryz.prog.wideKeysFrom ·)) = true := by kernel_rfl
theorem fnExactServerText_k20 : Tryz.f3.resultTypes.all (fun t => Tryz.prog.readableRec t && decide (t < Tryz.prog.types.size)) = true := by kernel_rfl
theorem fnExactServerText_k21 : (Rows.fnExactServerTextRow.ifacesOut == Tryz.f3.resultTypes.toList.any (Tryz.prog.ifacesRec ·)) = true := by kernel_rfl
theorem fnExactServerText_k22 : (Rows.fnExactServerTextRow.loopsOut == Tryz.f3.resultTypes.toList.any (Tryz.prog.loopsFrom ·)) = true := by kernel_rfl
theorem fnExactServerText_k23 : (Rows.fnExactServerTextRow.plainKeys == Tryz.prog.plainKeys) = true := by kernel_rfl
theorem fnExactServerText_k25 : Tryz.prog.stopsHeard = true := by kernel_rfl
theorem fnExactServerText_k26 : Tryz.prog.mayEnter = true := by kernel_rfl
theorem fnExactServerText_k27 : (Rows.fnExactServerTextRow.lifted == Tryz.prog.liftsFinal) = true := by kernel_rfl
theorem fnExactServerText_k31 : (Rows.fnExactServerTextRow.veiled == (Tryz.f3.params.toList ++ Rows.fnExactServerTextSpec.plain.varTypes Tryz.prog ++ Tryz.f3.resultTypes.toList).any (Tryz.prog.veiledRec ·)) = true := by kernel_rfl
theorem fnExactServerText_k32 : Rows.fnExactServerTextRow.veiledFits Tryz.prog Tryz.f3.params.toList (Tryz.f3.params.toList ++ Rows.fnExactServerTextSpec.plain.varTypes Tryz.prog ++ Tryz.f3.resultTypes.toList) = true := by kernel_rfl
theorem fnExactServerText_closed : joinedFacts Tryz.prog 3 Tryz.f3 Rows.fnExactServerTextSpec Rows.fnExactServerTextRow = true :=
  joined_of fnExactServerText_k1 fnExactServerText_k2 fnExactServerText_k3 fnExactServerText_k4 (by kernel_rfl) (by kernel_rfl) (by kernel_rfl) (by kernel_rfl) (by kernel_rfl) fnExactServerText_k10 fnExactServerText_k11 fnExactServerText_k12 fnExactServerText_k13 fnExactServerText_k14 fnExactServerText_k15 fnExactServerText_k16 fnExactServerText_k17 fnExactServerText_k18 (by kernel_rfl) fnExactServerText_k20 fnExactServerText_k21 fnExactServerText_k22 fnExactServerText_k23 (by kernel_rfl) fnExactServerText_k25 fnExactServerText_k26 fnExactServerText_k27 (by kernel_rfl) (by kernel_rfl) (by kernel_rfl) fnExactServerText_k31 fnExactServerText_k32
theorem fnExactServerText_holds : Rows.FnExactServerTextSaid :=
  OpenClaim.holds_of_wide 3 Tryz.f3 rfl rfl rfl rfl rfl rfl rfl ⟨rfl, rfl, rfl, rfl, rfl⟩ rfl rfl rfl rfl rfl (by kernel_rfl) Tryz.func3 fnExactServerText_closed
    (of_decide_eq_true (by kernel_rfl)) (by unfold Func.isWrapper; first | (rw [if_pos (by decide +kernel)]; kernel_rfl) | (rw [if_neg (by decide +kernel)]; exact ⟨rfl, rfl⟩))
    (fun os started H enc _ => fnExactServerText_lifted os started H enc)
theorem fnExactServerTextCard_holds : Rows.FnExactServerTextCardSaid :=
  Claim7.holds_tied_plain_at .later [] [.data, .data, .data] true (true, "658cb22a4dbbe85caa8ea15dc2ed9d37a420075d4c407d4f8985ad8c73727f3e") false
    fnExactServerText_holds (fun _ h => by cases h) (by kernel_rfl) (fun _ h => by cases h) fnExactServerText_row_tie rfl ⟨rfl, rfl⟩ (by kernel_rfl) rfl
    (fun f fn hf hfn => by
      obtain rfl : f = 3 := Option.some.inj ((show Tryz.prog.funcNamed "loop.example/g01101/laws.FnExactServerText" = some 3 by kernel_rfl).symm.trans hf) |>.symm
      obtain rfl : fn = Tryz.f3 := (Option.some.inj (Tryz.func3.symm.trans hfn)).symm
      exact ⟨by kernel_rfl, fun j t ht => by
        rw [Tryz.params3] at ht
        have hm : t ∈ [27, 2] := by simpa using Array.mem_of_getElem? ht
        have hall : ([27, 2].all fun u => !Tryz.prog.wantsStandIn u) = true := by kernel_rfl
        exact (show Tryz.prog.wantsStandIn t = false by simpa using List.all_eq_true.1 hall t hm)⟩)
    (by kernel_rfl)
end Go.Proofs.YtkkenofdfpgplaaGreatDoor
