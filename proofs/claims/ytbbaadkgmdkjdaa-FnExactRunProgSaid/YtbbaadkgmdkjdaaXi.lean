/- Contracts of RunFlow, the program's and the reference's: both return one value. No conditions. -/
import Derived.Test.YtbbaadkgmdkjdaaXh
namespace Go.Proofs.Ytbbaadkgmdkjdaa
open Go Go.KA Go.Proofs
set_option maxHeartbeats 8000000
set_option maxRecDepth 100000
theorem ValidWorld_ok (t a : Int) (w : XWorld) : CallF Try.prog 54 [.a 2 [J t, J a], .a 2 (encWorld w)] (B (goodSig t a && goodWorld t a w)) := by
  refine callF_of_vc htb hm Try.func54 rfl rfl rfl rfl (ann := fun _ => none) (gh := fun _ => false) ?_
  repeat' ((conv => whnf); first
    | (guard_target = Done _; refine Done.mk ?_; first | (rfl; done) | (simp_all [normS, normV]; done) | (simp_all [normS, normV]; omega; done) | (simp_all [normS, normV]; intros; omega; done) | skip)
    | (guard_target = RetX _ _; refine RetX.mk ?_ ?_)
    | (guard_target = Fact _ _; refine Fact.mk fun hL => ?_; (try simp only [List.length_map, maxLen] at hL))
    | (guard_target = Branch _ _ _; (first | refine Branch.dec (fun h => ?_) (fun h => ?_) | refine Branch.beq (fun h => ?_) (fun h => ?_) | refine Branch.bne (fun h => ?_) (fun h => ?_) | refine Branch.ndec (fun h => ?_) (fun h => ?_) | refine Branch.nb (fun h => ?_) (fun h => ?_) | refine Branch.mk (fun h => ?_) (fun h => ?_)) <;> (try simp only [List.length_map] at h) <;> (try omega) <;> (try contradiction))
    | (guard_target = CallN _ 33 _ _ _ _; refine CallN.pure _ _ rfl (validSig_ok t a) rfl _ rfl ?_)
    | (guard_target = CallN _ 92 _ _ _ _; refine CallN.pure _ _ rfl (isWorld_ok t a (sig_bounds ‹_›).1 (sig_bounds ‹_›).2 w) rfl _ rfl ?_)
    | (guard_target = Arith _ _ _; refine Arith.fit (wrap_fit (by first | omega | (simp only [List.length_map]; omega)) (by first | omega | (simp only [List.length_map]; omega))) ?_)
    | (guard_target = Arith _ _ _; refine Arith.fit (by decide) ?_)
    | (guard_target = Index _ _ _; first  | refine Index.mk _ (idx_map (by omega)) ?_)
    | (guard_target = Need (chkDraw _ = true) _; refine Need.mk (by kernel_rfl) ?_)
    | (guard_target = Need (chkRecs _ _ = true) _; refine Need.mk (by first | kernel_rfl | rfl) ?_)
    | (guard_target = Need _ _; refine Need.mk (by first  | omega | (simp only [List.length_map]; omega)) ?_))
def flowV (w : XWorld) (fuel : Int) (f : XFlow) (state : Int) : Int × RS := flowR w fuel f (fuel.toNat + 1) f.start ⟨state, [at0 w state], [], 0⟩
theorem worldOk {t a : Int} {w : XWorld} (h : goodWorld t a w = true) : WOk w ∧ (w.acts.length : Int) = a := by
  simp only [goodWorld, Bool.and_eq_true, beq_iff_eq, List.all_eq_true] at h
  refine ⟨⟨fun l hl => ?_⟩, h.2.2.1⟩
  have := h.2.2.2 l hl
  simp only [goodRow, Bool.and_eq_true, beq_iff_eq, List.all_eq_true, rng, decide_eq_true_eq] at this
  refine ⟨by omega, fun x hx => ?_⟩
  have := this.2 x hx
  omega
theorem flowOk {t a : Int} {f : XFlow} (h : goodFlow t a f = true) : FOk t a f ∧ 0 ≤ f.start ∧ f.start < f.spots.length := by
  simp only [goodFlow, Bool.and_eq_true, List.all_eq_true, rng, decide_eq_true_eq] at h
  exact ⟨⟨by omega, h.2.2⟩, by omega, by omega⟩
theorem flow_begin {t a : Int} {w : XWorld} {f : XFlow} {state fuel : Int} (hf : goodFlow t a f = true) (hr : runOk w state fuel = true) : FInv t a w fuel f (flowV w fuel f state) f.start ⟨state, [at0 w state], [], 0⟩ := by
  simp only [runOk, rng, Bool.and_eq_true, decide_eq_true_eq] at hr
  have := flowOk hf
  refine ⟨⟨by show 0 ≤ state ∧ state < _; omega, by show (0 : Int) ≤ 0 ∧ (0 : Int) ≤ 1000; omega, by show 1 ≤ _; omega, by show 0 ≤ _; omega⟩, this.2, by show 0 ≤ fuel; omega, ?_⟩
  show flowR w fuel f ((fuel - 0).toNat + 1) _ _ = _
  rw [Int.sub_zero]
  rfl
theorem runB {w : XWorld} {state fuel : Int} (hr : runOk w state fuel = true) : 0 ≤ fuel ∧ fuel ≤ 500 := by
  simp only [runOk, rng, Bool.and_eq_true, decide_eq_true_eq] at hr
  omega
section
variable (t a : Int) (w : XWorld) (f : XFlow) (state fuel : Int)
theorem implFlow_inv (h : (goodSig t a && goodWorld t a w && goodFlow t a f) = false) : CallX Try.prog 17 [.a 2 [J t, J a], .a 2 (encWorld w), .a 2 (encFlow f), I state, I fuel] [] (noneT 1) := by
  refine callX_of_vc htb hm Try.func17 rfl rfl rfl rfl (ann := fun _ => none) (gh := fun _ => false) ?_
  repeat' ((conv => whnf); first
    | (guard_target = Done _; refine Done.mk ?_)
    | (guard_target = RetX _ _; refine RetX.mk ?_ ?_)
    | (guard_target = Fact _ _; refine Fact.mk fun hL => ?_; (try simp only [List.length_map, maxLen] at hL))
    | (guard_target = Branch _ _ _; (first | refine Branch.dec (fun h => ?_) (fun h => ?_) | refine Branch.beq (fun h => ?_) (fun h => ?_) | refine Branch.bne (fun h => ?_) (fun h => ?_) | refine Branch.ndec (fun h => ?_) (fun h => ?_) | refine Branch.nb (fun h => ?_) (fun h => ?_) | refine Branch.mk (fun h => ?_) (fun h => ?_)) <;> (try simp only [List.length_map] at h) <;> (try omega) <;> (try contradiction))
    | (guard_target = CallN _ 54 _ _ _ _; refine CallN.pure _ _ rfl (ValidWorld_ok t a w) rfl _ rfl ?_)
    | (guard_target = CallN _ 55 _ _ _ _; refine CallN.pure _ _ rfl (ValidFlow_ok t a f) rfl _ rfl ?_)
    | (guard_target = Arith _ _ _; refine Arith.fit (wrap_fit (by first | omega | (simp only [List.length_map]; omega)) (by first | omega | (simp only [List.length_map]; omega))) ?_)
    | (guard_target = Arith _ _ _; refine Arith.fit (by decide) ?_)
    | (guard_target = Index _ _ _; first  | refine Index.mk _ (idx_map (by omega)) ?_)
    | (guard_target = Need (chkDraw _ = true) _; refine Need.mk (by kernel_rfl) ?_)
    | (guard_target = Need (chkRecs _ _ = true) _; refine Need.mk (by first | kernel_rfl | rfl) ?_)
    | (guard_target = Need _ _; refine Need.mk (by first  | omega | (simp only [List.length_map]; omega)) ?_))
  all_goals first | rfl | trivial | (exfalso; simp_all; done)
theorem implFlow_rng (h1 : goodSig t a = true) (h2 : goodWorld t a w = true) (h3 : goodFlow t a f = true) (h4 : runOk w state fuel = false) : CallX Try.prog 17 [.a 2 [J t, J a], .a 2 (encWorld w), .a 2 (encFlow f), I state, I fuel] [] (noneT 2) := by
  refine callX_of_vc htb hm Try.func17 rfl rfl rfl rfl (ann := fun _ => none) (gh := fun _ => false) ?_
  repeat' ((conv => whnf); first
    | (guard_target = Done _; refine Done.mk ?_)
    | (guard_target = RetX _ _; refine RetX.mk ?_ ?_)
    | (guard_target = Fact _ _; refine Fact.mk fun hL => ?_; (try simp only [List.length_map, maxLen] at hL))
    | (guard_target = Branch _ _ _; (first | refine Branch.dec (fun h => ?_) (fun h => ?_) | refine Branch.beq (fun h => ?_) (fun h => ?_) | refine Branch.bne (fun h => ?_) (fun h => ?_) | refine Branch.ndec (fun h => ?_) (fun h => ?_) | refine Branch.nb (fun h => ?_) (fun h => ?_) | refine Branch.mk (fun h => ?_) (fun h => ?_)) <;> (try simp only [List.length_map] at h) <;> (try omega) <;> (try contradiction))
    | (guard_target = CallN _ 54 _ _ _ _; refine CallN.pure _ _ rfl (ValidWorld_ok t a w) rfl _ rfl ?_)
    | (guard_target = CallN _ 55 _ _ _ _; refine CallN.pure _ _ rfl (ValidFlow_ok t a f) rfl _ rfl ?_)
    | (guard_target = CallN _ 56 _ _ _ _; refine CallN.pure _ _ rfl (isRun_ok w state fuel) rfl _ rfl ?_)
    | (guard_target = Arith _ _ _; refine Arith.fit (wrap_fit (by first | omega | (simp only [List.length_map]; omega)) (by first | omega | (simp only [List.length_map]; omega))) ?_)
    | (guard_target = Arith _ _ _; refine Arith.fit (by decide) ?_)
    | (guard_target = Index _ _ _; first  | refine Index.mk _ (idx_map (by omega)) ?_)
    | (guard_target = Need (chkDraw _ = true) _; refine Need.mk (by kernel_rfl) ?_)
    | (guard_target = Need (chkRecs _ _ = true) _; refine Need.mk (by first | kernel_rfl | rfl) ?_)
    | (guard_target = Need _ _; refine Need.mk (by first  | omega | (simp only [List.length_map]; omega)) ?_))
  all_goals first | rfl | trivial | (exfalso; simp_all; done)
theorem implFlow_bad (h1 : goodSig t a = true) (h2 : goodWorld t a w = true) (h3 : goodFlow t a f = true) (h4 : runOk w state fuel = true) (h5 : ¬ (flowV w fuel f state).1 = 0) : CallX Try.prog 17 [.a 2 [J t, J a], .a 2 (encWorld w), .a 2 (encFlow f), I state, I fuel] [] (noneT (flowV w fuel f state).1) := by
  refine callX_of_vc htb hm Try.func17 rfl rfl rfl rfl (ann := fun _ => none) (gh := fun _ => false) ?_
  repeat' ((conv => whnf); first
    | (guard_target = Done _; refine Done.mk ?_)
    | (guard_target = RetX _ _; refine RetX.mk ?_ ?_)
    | (guard_target = Fact _ _; refine Fact.mk fun hL => ?_; (try simp only [List.length_map, maxLen] at hL))
    | (guard_target = Branch _ _ _; (first | refine Branch.dec (fun h => ?_) (fun h => ?_) | refine Branch.beq (fun h => ?_) (fun h => ?_) | refine Branch.bne (fun h => ?_) (fun h => ?_) | refine Branch.ndec (fun h => ?_) (fun h => ?_) | refine Branch.nb (fun h => ?_) (fun h => ?_) | refine Branch.mk (fun h => ?_) (fun h => ?_)) <;> (try simp only [List.length_map] at h) <;> (try omega) <;> (try contradiction))
    | (guard_target = CallN _ 54 _ _ _ _; refine CallN.pure _ _ rfl (ValidWorld_ok t a w) rfl _ rfl ?_)
    | (guard_target = CallN _ 55 _ _ _ _; refine CallN.pure _ _ rfl (ValidFlow_ok t a f) rfl _ rfl ?_)
    | (guard_target = CallN _ 56 _ _ _ _; refine CallN.pure _ _ rfl (isRun_ok w state fuel) rfl _ rfl ?_)
    | (guard_target = CallN _ 57 _ _ _ _; refine CallN.gen [] _ _ _ rfl (newRunner_ok w state fuel h4) rfl rfl _ rfl ?_)
    | (guard_target = CallN _ 59 _ _ _ _; refine CallN.gen [true, false] _ _ _ rfl (flowI_ok t a w fuel f (flowOk h3).1 (worldOk h2).1 (worldOk h2).2 (runB h4) _ _ (flow_begin h3 h4)) rfl rfl _ rfl ?_)
    | (guard_target = CallN _ 58 _ _ _ _; refine CallN.gen [true, false] _ _ _ rfl (result_bad w fuel _ _ h5) rfl rfl _ rfl ?_)
    | (guard_target = Arith _ _ _; refine Arith.fit (wrap_fit (by first | omega | (simp only [List.length_map]; omega)) (by first | omega | (simp only [List.length_map]; omega))) ?_)
    | (guard_target = Arith _ _ _; refine Arith.fit (by decide) ?_)
    | (guard_target = Index _ _ _; first  | refine Index.mk _ (idx_map (by omega)) ?_)
    | (guard_target = Need (chkDraw _ = true) _; refine Need.mk (by kernel_rfl) ?_)
    | (guard_target = Need (chkRecs _ _ = true) _; refine Need.mk (by first | kernel_rfl | rfl) ?_)
    | (guard_target = Need _ _; refine Need.mk (by first  | omega | (simp only [List.length_map]; omega)) ?_))
  all_goals first | rfl | trivial | (exfalso; simp_all; done)
theorem implFlow_run (h1 : goodSig t a = true) (h2 : goodWorld t a w = true) (h3 : goodFlow t a f = true) (h4 : runOk w state fuel = true) (h5 : (flowV w fuel f state).1 = 0) : CallX Try.prog 17 [.a 2 [J t, J a], .a 2 (encWorld w), .a 2 (encFlow f), I state, I fuel] [] (runT (flowV w fuel f state).2) := by
  have hfl := flowI_ok t a w fuel f (flowOk h3).1 (worldOk h2).1 (worldOk h2).2 (runB h4) _ _ (flow_begin h3 h4)
  rw [h5] at hfl
  refine callX_of_vc htb hm Try.func17 rfl rfl rfl rfl (ann := fun _ => none) (gh := fun _ => false) ?_
  repeat' ((conv => whnf); first
    | (guard_target = Done _; refine Done.mk ?_)
    | (guard_target = RetX _ _; refine RetX.mk ?_ ?_)
    | (guard_target = Fact _ _; refine Fact.mk fun hL => ?_; (try simp only [List.length_map, maxLen] at hL))
    | (guard_target = Branch _ _ _; (first | refine Branch.dec (fun h => ?_) (fun h => ?_) | refine Branch.beq (fun h => ?_) (fun h => ?_) | refine Branch.bne (fun h => ?_) (fun h => ?_) | refine Branch.ndec (fun h => ?_) (fun h => ?_) | refine Branch.nb (fun h => ?_) (fun h => ?_) | refine Branch.mk (fun h => ?_) (fun h => ?_)) <;> (try simp only [List.length_map] at h) <;> (try omega) <;> (try contradiction))
    | (guard_target = CallN _ 54 _ _ _ _; refine CallN.pure _ _ rfl (ValidWorld_ok t a w) rfl _ rfl ?_)
    | (guard_target = CallN _ 55 _ _ _ _; refine CallN.pure _ _ rfl (ValidFlow_ok t a f) rfl _ rfl ?_)
    | (guard_target = CallN _ 56 _ _ _ _; refine CallN.pure _ _ rfl (isRun_ok w state fuel) rfl _ rfl ?_)
    | (guard_target = CallN _ 57 _ _ _ _; refine CallN.gen [] _ _ _ rfl (newRunner_ok w state fuel h4) rfl rfl _ rfl ?_)
    | (guard_target = CallN _ 59 _ _ _ _; refine CallN.gen [true, false] _ _ _ rfl (hfl) rfl rfl _ rfl ?_)
    | (guard_target = CallN _ 58 _ _ _ _; refine CallN.gen [true, false] _ _ _ rfl (result_ok w fuel _) rfl rfl _ rfl ?_)
    | (guard_target = Arith _ _ _; refine Arith.fit (wrap_fit (by first | omega | (simp only [List.length_map]; omega)) (by first | omega | (simp only [List.length_map]; omega))) ?_)
    | (guard_target = Arith _ _ _; refine Arith.fit (by decide) ?_)
    | (guard_target = Index _ _ _; first  | refine Index.mk _ (idx_map (by omega)) ?_)
    | (guard_target = Need (chkDraw _ = true) _; refine Need.mk (by kernel_rfl) ?_)
    | (guard_target = Need (chkRecs _ _ = true) _; refine Need.mk (by first | kernel_rfl | rfl) ?_)
    | (guard_target = Need _ _; refine Need.mk (by first  | omega | (simp only [List.length_map]; omega)) ?_))
  all_goals first | rfl | trivial | (exfalso; simp_all; done)
variable (hl : budFlow f ≤ 1048576)
include hl
theorem specFlow_inv (h : (goodSig t a && goodWorld t a w && goodFlow t a f) = false) : CallX Try.prog 14 [.a 2 [J t, J a], .a 2 (encWorld w), .a 2 (encFlow f), I state, I fuel] [] (noneT 1) := by
  refine callX_of_vc htb hm Try.func14 rfl rfl rfl rfl (ann := fun _ => none) (gh := fun _ => false) ?_
  repeat' ((conv => whnf); first
    | (guard_target = Done _; refine Done.mk ?_)
    | (guard_target = RetX _ _; refine RetX.mk ?_ ?_)
    | (guard_target = Fact _ _; refine Fact.mk fun hL => ?_; (try simp only [List.length_map, maxLen] at hL))
    | (guard_target = Branch _ _ _; (first | refine Branch.dec (fun h => ?_) (fun h => ?_) | refine Branch.beq (fun h => ?_) (fun h => ?_) | refine Branch.bne (fun h => ?_) (fun h => ?_) | refine Branch.ndec (fun h => ?_) (fun h => ?_) | refine Branch.nb (fun h => ?_) (fun h => ?_) | refine Branch.mk (fun h => ?_) (fun h => ?_)) <;> (try simp only [List.length_map] at h) <;> (try omega) <;> (try contradiction))
    | (guard_target = CallN _ 45 _ _ _ _; refine CallN.pure _ _ rfl (l06World_ok t a w) rfl _ rfl ?_)
    | (guard_target = CallN _ 46 _ _ _ _; refine CallN.pure _ _ rfl (l06Flow_ok t a f hl) rfl _ rfl ?_)
    | (guard_target = Arith _ _ _; refine Arith.fit (wrap_fit (by first | omega | (simp only [List.length_map]; omega)) (by first | omega | (simp only [List.length_map]; omega))) ?_)
    | (guard_target = Arith _ _ _; refine Arith.fit (by decide) ?_)
    | (guard_target = Index _ _ _; first  | refine Index.mk _ (idx_map (by omega)) ?_)
    | (guard_target = Need (chkDraw _ = true) _; refine Need.mk (by kernel_rfl) ?_)
    | (guard_target = Need (chkRecs _ _ = true) _; refine Need.mk (by first | kernel_rfl | rfl) ?_)
    | (guard_target = Need _ _; refine Need.mk (by first  | omega | (simp only [List.length_map]; omega)) ?_))
  all_goals first | rfl | trivial | (exfalso; simp_all; done)
theorem specFlow_rng (h1 : goodSig t a = true) (h2 : goodWorld t a w = true) (h3 : goodFlow t a f = true) (h4 : runOk w state fuel = false) : CallX Try.prog 14 [.a 2 [J t, J a], .a 2 (encWorld w), .a 2 (encFlow f), I state, I fuel] [] (noneT 2) := by
  have ha := l06Asked_ok w state fuel
  rw [h4] at ha
  refine callX_of_vc htb hm Try.func14 rfl rfl rfl rfl (ann := fun _ => none) (gh := fun _ => false) ?_
  repeat' ((conv => whnf); first
    | (guard_target = Done _; refine Done.mk ?_)
    | (guard_target = RetX _ _; refine RetX.mk ?_ ?_)
    | (guard_target = Fact _ _; refine Fact.mk fun hL => ?_; (try simp only [List.length_map, maxLen] at hL))
    | (guard_target = Branch _ _ _; (first | refine Branch.dec (fun h => ?_) (fun h => ?_) | refine Branch.beq (fun h => ?_) (fun h => ?_) | refine Branch.bne (fun h => ?_) (fun h => ?_) | refine Branch.ndec (fun h => ?_) (fun h => ?_) | refine Branch.nb (fun h => ?_) (fun h => ?_) | refine Branch.mk (fun h => ?_) (fun h => ?_)) <;> (try simp only [List.length_map] at h) <;> (try omega) <;> (try contradiction))
    | (guard_target = CallN _ 45 _ _ _ _; refine CallN.pure _ _ rfl (l06World_ok t a w) rfl _ rfl ?_)
    | (guard_target = CallN _ 46 _ _ _ _; refine CallN.pure _ _ rfl (l06Flow_ok t a f hl) rfl _ rfl ?_)
    | (guard_target = CallN _ 47 _ _ _ _; refine CallN.pure _ _ rfl (ha) rfl _ rfl ?_)
    | (guard_target = Arith _ _ _; refine Arith.fit (wrap_fit (by first | omega | (simp only [List.length_map]; omega)) (by first | omega | (simp only [List.length_map]; omega))) ?_)
    | (guard_target = Arith _ _ _; refine Arith.fit (by decide) ?_)
    | (guard_target = Index _ _ _; first  | refine Index.mk _ (idx_map (by omega)) ?_)
    | (guard_target = Need (chkDraw _ = true) _; refine Need.mk (by kernel_rfl) ?_)
    | (guard_target = Need (chkRecs _ _ = true) _; refine Need.mk (by first | kernel_rfl | rfl) ?_)
    | (guard_target = Need _ _; refine Need.mk (by first  | omega | (simp only [List.length_map]; omega)) ?_))
  all_goals first | rfl | trivial | (exfalso; simp_all; done)
theorem specFlow_bad (h1 : goodSig t a = true) (h2 : goodWorld t a w = true) (h3 : goodFlow t a f = true) (h4 : runOk w state fuel = true) (h5 : ¬ (flowV w fuel f state).1 = 0) : CallX Try.prog 14 [.a 2 [J t, J a], .a 2 (encWorld w), .a 2 (encFlow f), I state, I fuel] [] (noneT (flowV w fuel f state).1) := by
  have ha := l06Asked_ok w state fuel
  rw [h4] at ha
  refine callX_of_vc htb hm Try.func14 rfl rfl rfl rfl (ann := fun _ => none) (gh := fun reg_ => match reg_ with | 6 => true | _ => false) ?_
  repeat' ((conv => whnf); first
    | (guard_target = Done _; refine Done.mk ?_)
    | (guard_target = RetX _ _; refine RetX.mk ?_ ?_)
    | (guard_target = Fact _ _; refine Fact.mk fun hL => ?_; (try simp only [List.length_map, maxLen] at hL))
    | (guard_target = Branch _ _ _; (first | refine Branch.dec (fun h => ?_) (fun h => ?_) | refine Branch.beq (fun h => ?_) (fun h => ?_) | refine Branch.bne (fun h => ?_) (fun h => ?_) | refine Branch.ndec (fun h => ?_) (fun h => ?_) | refine Branch.nb (fun h => ?_) (fun h => ?_) | refine Branch.mk (fun h => ?_) (fun h => ?_)) <;> (try simp only [List.length_map] at h) <;> (try omega) <;> (try contradiction))
    | (guard_target = CallN _ 45 _ _ _ _; refine CallN.pure _ _ rfl (l06World_ok t a w) rfl _ rfl ?_)
    | (guard_target = CallN _ 46 _ _ _ _; refine CallN.pure _ _ rfl (l06Flow_ok t a f hl) rfl _ rfl ?_)
    | (guard_target = CallN _ 47 _ _ _ _; refine CallN.pure _ _ rfl (ha) rfl _ rfl ?_)
    | (guard_target = CallN _ 48 _ _ _ _; refine CallN.gen [] _ _ _ rfl (l06Start_ok w state fuel h4) rfl rfl _ rfl ?_)
    | (guard_target = CallN _ 49 _ _ _ _; refine CallN.gen [true, false] _ _ _ rfl (flowS_ok t a (sig_bounds h1).1.2 w fuel f (flowOk h3).1 (worldOk h2).1 (worldOk h2).2 (runB h4) _ _ (flow_begin h3 h4)) rfl rfl _ rfl ?_)
    | (guard_target = CallN _ 50 _ _ _ _; refine CallN.gen [true] _ _ _ rfl (told_bad w fuel _ _ h5) rfl rfl _ rfl ?_)
    | (guard_target = Gh _ _ _ _ _; refine Gh.frzp 1 (encWorld w) rfl (Gh.frzp 2 (encFlow f) rfl (Gh.go ?_)))
    | (guard_target = Arith _ _ _; refine Arith.fit (wrap_fit (by first | omega | (simp only [List.length_map]; omega)) (by first | omega | (simp only [List.length_map]; omega))) ?_)
    | (guard_target = Arith _ _ _; refine Arith.fit (by decide) ?_)
    | (guard_target = Index _ _ _; first  | refine Index.mk _ (idx_map (by omega)) ?_)
    | (guard_target = Need (chkDraw _ = true) _; refine Need.mk (by kernel_rfl) ?_)
    | (guard_target = Need (chkRecs _ _ = true) _; refine Need.mk (by first | kernel_rfl | rfl) ?_)
    | (guard_target = Need _ _; refine Need.mk (by first  | omega | (simp only [List.length_map]; omega)) ?_))
  all_goals first | rfl | trivial | (exfalso; simp_all; done)
theorem specFlow_run (h1 : goodSig t a = true) (h2 : goodWorld t a w = true) (h3 : goodFlow t a f = true) (h4 : runOk w state fuel = true) (h5 : (flowV w fuel f state).1 = 0) : CallX Try.prog 14 [.a 2 [J t, J a], .a 2 (encWorld w), .a 2 (encFlow f), I state, I fuel] [] (runT (flowV w fuel f state).2) := by
  have ha := l06Asked_ok w state fuel
  rw [h4] at ha
  have hfl := flowS_ok t a (sig_bounds h1).1.2 w fuel f (flowOk h3).1 (worldOk h2).1 (worldOk h2).2 (runB h4) _ _ (flow_begin h3 h4)
  rw [h5] at hfl
  refine callX_of_vc htb hm Try.func14 rfl rfl rfl rfl (ann := fun _ => none) (gh := fun reg_ => match reg_ with | 6 => true | _ => false) ?_
  repeat' ((conv => whnf); first
    | (guard_target = Done _; refine Done.mk ?_)
    | (guard_target = RetX _ _; refine RetX.mk ?_ ?_)
    | (guard_target = Fact _ _; refine Fact.mk fun hL => ?_; (try simp only [List.length_map, maxLen] at hL))
    | (guard_target = Branch _ _ _; (first | refine Branch.dec (fun h => ?_) (fun h => ?_) | refine Branch.beq (fun h => ?_) (fun h => ?_) | refine Branch.bne (fun h => ?_) (fun h => ?_) | refine Branch.ndec (fun h => ?_) (fun h => ?_) | refine Branch.nb (fun h => ?_) (fun h => ?_) | refine Branch.mk (fun h => ?_) (fun h => ?_)) <;> (try simp only [List.length_map] at h) <;> (try omega) <;> (try contradiction))
    | (guard_target = CallN _ 45 _ _ _ _; refine CallN.pure _ _ rfl (l06World_ok t a w) rfl _ rfl ?_)
    | (guard_target = CallN _ 46 _ _ _ _; refine CallN.pure _ _ rfl (l06Flow_ok t a f hl) rfl _ rfl ?_)
    | (guard_target = CallN _ 47 _ _ _ _; refine CallN.pure _ _ rfl (ha) rfl _ rfl ?_)
    | (guard_target = CallN _ 48 _ _ _ _; refine CallN.gen [] _ _ _ rfl (l06Start_ok w state fuel h4) rfl rfl _ rfl ?_)
    | (guard_target = CallN _ 49 _ _ _ _; refine CallN.gen [true, false] _ _ _ rfl (hfl) rfl rfl _ rfl ?_)
    | (guard_target = CallN _ 50 _ _ _ _; refine CallN.gen [true] _ _ _ rfl (told_ok w fuel _) rfl rfl _ rfl ?_)
    | (guard_target = Gh _ _ _ _ _; refine Gh.frzp 1 (encWorld w) rfl (Gh.frzp 2 (encFlow f) rfl (Gh.go ?_)))
    | (guard_target = Arith _ _ _; refine Arith.fit (wrap_fit (by first | omega | (simp only [List.length_map]; omega)) (by first | omega | (simp only [List.length_map]; omega))) ?_)
    | (guard_target = Arith _ _ _; refine Arith.fit (by decide) ?_)
    | (guard_target = Index _ _ _; first  | refine Index.mk _ (idx_map (by omega)) ?_)
    | (guard_target = Need (chkDraw _ = true) _; refine Need.mk (by kernel_rfl) ?_)
    | (guard_target = Need (chkRecs _ _ = true) _; refine Need.mk (by first | kernel_rfl | rfl) ?_)
    | (guard_target = Need _ _; refine Need.mk (by first  | omega | (simp only [List.length_map]; omega)) ?_))
  all_goals first | rfl | trivial | (exfalso; simp_all; done)
end
end Go.Proofs.Ytbbaadkgmdkjdaa
