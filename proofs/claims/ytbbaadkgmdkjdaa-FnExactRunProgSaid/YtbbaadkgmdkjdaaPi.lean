/- Contracts of RunProg, the program's and the reference's: both return one value. No conditions. -/
import Derived.Test.YtbbaadkgmdkjdaaPh
import Derived.Test.YtbbaadkgmdkjdaaXi
namespace Go.Proofs.Ytbbaadkgmdkjdaa
open Go Go.KA Go.Proofs
set_option maxHeartbeats 8000000
set_option maxRecDepth 100000
theorem progOk {t a : Int} {e : XProg} (h : goodP t a e = true) : POk t a e := by
  simp only [goodP, Bool.and_eq_true] at h
  exact ⟨h.2.2⟩
theorem run_begin {w : XWorld} {state fuel : Int} (hr : runOk w state fuel = true) : RB w fuel ⟨state, [at0 w state], [], 0⟩ := by
  simp only [runOk, rng, Bool.and_eq_true, decide_eq_true_eq] at hr
  exact ⟨⟨by show 0 ≤ state ∧ state < _; omega, by show (0 : Int) ≤ 0 ∧ (0 : Int) ≤ 1000; omega, by show 1 ≤ _; omega, by show 0 ≤ _; omega⟩, by show 0 ≤ fuel; omega⟩
section
variable (t a : Int) (w : XWorld) (e : XProg) (state fuel : Int)
theorem implProg_inv (h : (goodSig t a && goodWorld t a w && goodP t a e) = false) : CallX Try.prog 28 [.a 2 [J t, J a], .a 2 (encWorld w), .a 6 (encProg e), I state, I fuel] [] (noneT 1) := by
  cases hs : goodSig t a
  · refine callX_of_vc htb hm Try.func28 rfl rfl rfl rfl (ann := fun _ => none) (gh := fun _ => false) ?_
    repeat' ((conv => whnf); first
      | (guard_target = Done _; refine Done.mk ?_)
      | (guard_target = RetX _ _; refine RetX.mk ?_ ?_)
      | (guard_target = Fact _ _; refine Fact.mk fun hL => ?_; (try simp only [List.length_map, maxLen] at hL))
      | (guard_target = Branch _ _ _; (first | refine Branch.dec (fun h => ?_) (fun h => ?_) | refine Branch.beq (fun h => ?_) (fun h => ?_) | refine Branch.bne (fun h => ?_) (fun h => ?_) | refine Branch.ndec (fun h => ?_) (fun h => ?_) | refine Branch.nb (fun h => ?_) (fun h => ?_) | refine Branch.mk (fun h => ?_) (fun h => ?_)) <;> (try simp only [List.length_map] at h) <;> (try omega) <;> (try contradiction))
      | (guard_target = CallN _ 54 _ _ _ _; refine CallN.pure _ _ rfl (ValidWorld_ok t a w) rfl _ rfl ?_)
      | (guard_target = Arith _ _ _; refine Arith.fit (wrap_fit (by first | omega | (simp only [List.length_map]; omega)) (by first | omega | (simp only [List.length_map]; omega))) ?_)
      | (guard_target = Arith _ _ _; refine Arith.fit (by decide) ?_)
      | (guard_target = Index _ _ _; first  | refine Index.mk _ (idx_map (by omega)) ?_)
      | (guard_target = Need (chkDraw _ = true) _; refine Need.mk (by kernel_rfl) ?_)
      | (guard_target = Need (chkRecs _ _ = true) _; refine Need.mk (by first | kernel_rfl | rfl) ?_)
      | (guard_target = Need _ _; refine Need.mk (by first  | omega | (simp only [List.length_map]; omega)) ?_))
    all_goals first | rfl | trivial | (exfalso; simp_all; done)
  · refine callX_of_vc htb hm Try.func28 rfl rfl rfl rfl (ann := fun _ => none) (gh := fun _ => false) ?_
    repeat' ((conv => whnf); first
      | (guard_target = Done _; refine Done.mk ?_)
      | (guard_target = RetX _ _; refine RetX.mk ?_ ?_)
      | (guard_target = Fact _ _; refine Fact.mk fun hL => ?_; (try simp only [List.length_map, maxLen] at hL))
      | (guard_target = Branch _ _ _; (first | refine Branch.dec (fun h => ?_) (fun h => ?_) | refine Branch.beq (fun h => ?_) (fun h => ?_) | refine Branch.bne (fun h => ?_) (fun h => ?_) | refine Branch.ndec (fun h => ?_) (fun h => ?_) | refine Branch.nb (fun h => ?_) (fun h => ?_) | refine Branch.mk (fun h => ?_) (fun h => ?_)) <;> (try simp only [List.length_map] at h) <;> (try omega) <;> (try contradiction))
      | (guard_target = CallN _ 54 _ _ _ _; refine CallN.pure _ _ rfl (ValidWorld_ok t a w) rfl _ rfl ?_)
      | (guard_target = CallN _ 73 _ _ _ _; refine CallN.pure _ _ rfl (isProg_ok t a (sig_bounds hs).1 (sig_bounds hs).2 e) rfl _ rfl ?_)
      | (guard_target = Arith _ _ _; refine Arith.fit (wrap_fit (by first | omega | (simp only [List.length_map]; omega)) (by first | omega | (simp only [List.length_map]; omega))) ?_)
      | (guard_target = Arith _ _ _; refine Arith.fit (by decide) ?_)
      | (guard_target = Index _ _ _; first  | refine Index.mk _ (idx_map (by omega)) ?_)
      | (guard_target = Need (chkDraw _ = true) _; refine Need.mk (by kernel_rfl) ?_)
      | (guard_target = Need (chkRecs _ _ = true) _; refine Need.mk (by first | kernel_rfl | rfl) ?_)
      | (guard_target = Need _ _; refine Need.mk (by first  | omega | (simp only [List.length_map]; omega)) ?_))
    all_goals first | rfl | trivial | (exfalso; simp_all; done)
theorem implProg_rng (h1 : goodSig t a = true) (h2 : goodWorld t a w = true) (h3 : goodP t a e = true) (h4 : runOk w state fuel = false) : CallX Try.prog 28 [.a 2 [J t, J a], .a 2 (encWorld w), .a 6 (encProg e), I state, I fuel] [] (noneT 2) := by
  refine callX_of_vc htb hm Try.func28 rfl rfl rfl rfl (ann := fun _ => none) (gh := fun _ => false) ?_
  repeat' ((conv => whnf); first
    | (guard_target = Done _; refine Done.mk ?_)
    | (guard_target = RetX _ _; refine RetX.mk ?_ ?_)
    | (guard_target = Fact _ _; refine Fact.mk fun hL => ?_; (try simp only [List.length_map, maxLen] at hL))
    | (guard_target = Branch _ _ _; (first | refine Branch.dec (fun h => ?_) (fun h => ?_) | refine Branch.beq (fun h => ?_) (fun h => ?_) | refine Branch.bne (fun h => ?_) (fun h => ?_) | refine Branch.ndec (fun h => ?_) (fun h => ?_) | refine Branch.nb (fun h => ?_) (fun h => ?_) | refine Branch.mk (fun h => ?_) (fun h => ?_)) <;> (try simp only [List.length_map] at h) <;> (try omega) <;> (try contradiction))
    | (guard_target = CallN _ 54 _ _ _ _; refine CallN.pure _ _ rfl (ValidWorld_ok t a w) rfl _ rfl ?_)
    | (guard_target = CallN _ 73 _ _ _ _; refine CallN.pure _ _ rfl (isProg_ok t a (sig_bounds h1).1 (sig_bounds h1).2 e) rfl _ rfl ?_)
    | (guard_target = CallN _ 56 _ _ _ _; refine CallN.pure _ _ rfl (isRun_ok w state fuel) rfl _ rfl ?_)
    | (guard_target = Arith _ _ _; refine Arith.fit (wrap_fit (by first | omega | (simp only [List.length_map]; omega)) (by first | omega | (simp only [List.length_map]; omega))) ?_)
    | (guard_target = Arith _ _ _; refine Arith.fit (by decide) ?_)
    | (guard_target = Index _ _ _; first  | refine Index.mk _ (idx_map (by omega)) ?_)
    | (guard_target = Need (chkDraw _ = true) _; refine Need.mk (by kernel_rfl) ?_)
    | (guard_target = Need (chkRecs _ _ = true) _; refine Need.mk (by first | kernel_rfl | rfl) ?_)
    | (guard_target = Need _ _; refine Need.mk (by first  | omega | (simp only [List.length_map]; omega)) ?_))
  all_goals first | rfl | trivial | (exfalso; simp_all; done)
variable {c : Int} {r' : RS}
theorem implProg_bad (h1 : goodSig t a = true) (h2 : goodWorld t a w = true) (h3 : goodP t a e = true) (h4 : runOk w state fuel = true) (hrun : Run w fuel e ⟨state, [at0 w state], [], 0⟩ c r') (h5 : ¬ c = 0) : CallX Try.prog 28 [.a 2 [J t, J a], .a 2 (encWorld w), .a 6 (encProg e), I state, I fuel] [] (noneT c) := by
  have hq := (runI_ok (worldOk h2).1 (worldOk h2).2 (runB h4).2 hrun (progOk h3) (run_begin h4)).1
  refine callX_of_vc htb hm Try.func28 rfl rfl rfl rfl (ann := fun _ => none) (gh := fun _ => false) ?_
  repeat' ((conv => whnf); first
    | (guard_target = Done _; refine Done.mk ?_)
    | (guard_target = RetX _ _; refine RetX.mk ?_ ?_)
    | (guard_target = Fact _ _; refine Fact.mk fun hL => ?_; (try simp only [List.length_map, maxLen] at hL))
    | (guard_target = Branch _ _ _; (first | refine Branch.dec (fun h => ?_) (fun h => ?_) | refine Branch.beq (fun h => ?_) (fun h => ?_) | refine Branch.bne (fun h => ?_) (fun h => ?_) | refine Branch.ndec (fun h => ?_) (fun h => ?_) | refine Branch.nb (fun h => ?_) (fun h => ?_) | refine Branch.mk (fun h => ?_) (fun h => ?_)) <;> (try simp only [List.length_map] at h) <;> (try omega) <;> (try contradiction))
    | (guard_target = CallN _ 54 _ _ _ _; refine CallN.pure _ _ rfl (ValidWorld_ok t a w) rfl _ rfl ?_)
    | (guard_target = CallN _ 73 _ _ _ _; refine CallN.pure _ _ rfl (isProg_ok t a (sig_bounds h1).1 (sig_bounds h1).2 e) rfl _ rfl ?_)
    | (guard_target = CallN _ 56 _ _ _ _; refine CallN.pure _ _ rfl (isRun_ok w state fuel) rfl _ rfl ?_)
    | (guard_target = CallN _ 57 _ _ _ _; refine CallN.gen [] _ _ _ rfl (newRunner_ok w state fuel h4) rfl rfl _ rfl ?_)
    | (guard_target = CallN _ 74 _ _ _ _; refine CallN.gen [true, false] _ _ _ rfl (hq) rfl rfl _ rfl ?_)
    | (guard_target = CallN _ 58 _ _ _ _; refine CallN.gen [true, false] _ _ _ rfl (result_bad w fuel _ _ h5) rfl rfl _ rfl ?_)
    | (guard_target = Arith _ _ _; refine Arith.fit (wrap_fit (by first | omega | (simp only [List.length_map]; omega)) (by first | omega | (simp only [List.length_map]; omega))) ?_)
    | (guard_target = Arith _ _ _; refine Arith.fit (by decide) ?_)
    | (guard_target = Index _ _ _; first  | refine Index.mk _ (idx_map (by omega)) ?_)
    | (guard_target = Need (chkDraw _ = true) _; refine Need.mk (by kernel_rfl) ?_)
    | (guard_target = Need (chkRecs _ _ = true) _; refine Need.mk (by first | kernel_rfl | rfl) ?_)
    | (guard_target = Need _ _; refine Need.mk (by first  | omega | (simp only [List.length_map]; omega)) ?_))
  all_goals first | rfl | trivial | (exfalso; simp_all; done)
theorem implProg_run (h1 : goodSig t a = true) (h2 : goodWorld t a w = true) (h3 : goodP t a e = true) (h4 : runOk w state fuel = true) (hrun : Run w fuel e ⟨state, [at0 w state], [], 0⟩ 0 r') : CallX Try.prog 28 [.a 2 [J t, J a], .a 2 (encWorld w), .a 6 (encProg e), I state, I fuel] [] (runT r') := by
  have hq := (runI_ok (worldOk h2).1 (worldOk h2).2 (runB h4).2 hrun (progOk h3) (run_begin h4)).1
  refine callX_of_vc htb hm Try.func28 rfl rfl rfl rfl (ann := fun _ => none) (gh := fun _ => false) ?_
  repeat' ((conv => whnf); first
    | (guard_target = Done _; refine Done.mk ?_)
    | (guard_target = RetX _ _; refine RetX.mk ?_ ?_)
    | (guard_target = Fact _ _; refine Fact.mk fun hL => ?_; (try simp only [List.length_map, maxLen] at hL))
    | (guard_target = Branch _ _ _; (first | refine Branch.dec (fun h => ?_) (fun h => ?_) | refine Branch.beq (fun h => ?_) (fun h => ?_) | refine Branch.bne (fun h => ?_) (fun h => ?_) | refine Branch.ndec (fun h => ?_) (fun h => ?_) | refine Branch.nb (fun h => ?_) (fun h => ?_) | refine Branch.mk (fun h => ?_) (fun h => ?_)) <;> (try simp only [List.length_map] at h) <;> (try omega) <;> (try contradiction))
    | (guard_target = CallN _ 54 _ _ _ _; refine CallN.pure _ _ rfl (ValidWorld_ok t a w) rfl _ rfl ?_)
    | (guard_target = CallN _ 73 _ _ _ _; refine CallN.pure _ _ rfl (isProg_ok t a (sig_bounds h1).1 (sig_bounds h1).2 e) rfl _ rfl ?_)
    | (guard_target = CallN _ 56 _ _ _ _; refine CallN.pure _ _ rfl (isRun_ok w state fuel) rfl _ rfl ?_)
    | (guard_target = CallN _ 57 _ _ _ _; refine CallN.gen [] _ _ _ rfl (newRunner_ok w state fuel h4) rfl rfl _ rfl ?_)
    | (guard_target = CallN _ 74 _ _ _ _; refine CallN.gen [true, false] _ _ _ rfl (hq) rfl rfl _ rfl ?_)
    | (guard_target = CallN _ 58 _ _ _ _; refine CallN.gen [true, false] _ _ _ rfl (result_ok w fuel _) rfl rfl _ rfl ?_)
    | (guard_target = Arith _ _ _; refine Arith.fit (wrap_fit (by first | omega | (simp only [List.length_map]; omega)) (by first | omega | (simp only [List.length_map]; omega))) ?_)
    | (guard_target = Arith _ _ _; refine Arith.fit (by decide) ?_)
    | (guard_target = Index _ _ _; first  | refine Index.mk _ (idx_map (by omega)) ?_)
    | (guard_target = Need (chkDraw _ = true) _; refine Need.mk (by kernel_rfl) ?_)
    | (guard_target = Need (chkRecs _ _ = true) _; refine Need.mk (by first | kernel_rfl | rfl) ?_)
    | (guard_target = Need _ _; refine Need.mk (by first  | omega | (simp only [List.length_map]; omega)) ?_))
  all_goals first | rfl | trivial | (exfalso; simp_all; done)
variable (hl : budProg e ≤ 1048576)
include hl
theorem specProg_inv (h : (goodSig t a && goodWorld t a w && goodP t a e) = false) : CallX Try.prog 26 [.a 2 [J t, J a], .a 2 (encWorld w), .a 6 (encProg e), I state, I fuel] [] (noneT 1) := by
  refine callX_of_vc htb hm Try.func26 rfl rfl rfl rfl (ann := fun _ => none) (gh := fun _ => false) ?_
  repeat' ((conv => whnf); first
    | (guard_target = Done _; refine Done.mk ?_)
    | (guard_target = RetX _ _; refine RetX.mk ?_ ?_)
    | (guard_target = Fact _ _; refine Fact.mk fun hL => ?_; (try simp only [List.length_map, maxLen] at hL))
    | (guard_target = Branch _ _ _; (first | refine Branch.dec (fun h => ?_) (fun h => ?_) | refine Branch.beq (fun h => ?_) (fun h => ?_) | refine Branch.bne (fun h => ?_) (fun h => ?_) | refine Branch.ndec (fun h => ?_) (fun h => ?_) | refine Branch.nb (fun h => ?_) (fun h => ?_) | refine Branch.mk (fun h => ?_) (fun h => ?_)) <;> (try simp only [List.length_map] at h) <;> (try omega) <;> (try contradiction))
    | (guard_target = CallN _ 45 _ _ _ _; refine CallN.pure _ _ rfl (l06World_ok t a w) rfl _ rfl ?_)
    | (guard_target = CallN _ 69 _ _ _ _; refine CallN.pure _ _ rfl (l06Ok_ok t a e hl) rfl _ rfl ?_)
    | (guard_target = Arith _ _ _; refine Arith.fit (wrap_fit (by first | omega | (simp only [List.length_map]; omega)) (by first | omega | (simp only [List.length_map]; omega))) ?_)
    | (guard_target = Arith _ _ _; refine Arith.fit (by decide) ?_)
    | (guard_target = Index _ _ _; first  | refine Index.mk _ (idx_map (by omega)) ?_)
    | (guard_target = Need (chkDraw _ = true) _; refine Need.mk (by kernel_rfl) ?_)
    | (guard_target = Need (chkRecs _ _ = true) _; refine Need.mk (by first | kernel_rfl | rfl) ?_)
    | (guard_target = Need _ _; refine Need.mk (by first  | omega | (simp only [List.length_map]; omega)) ?_))
  all_goals first | rfl | trivial | (exfalso; simp_all; done)
theorem specProg_rng (h1 : goodSig t a = true) (h2 : goodWorld t a w = true) (h3 : goodP t a e = true) (h4 : runOk w state fuel = false) : CallX Try.prog 26 [.a 2 [J t, J a], .a 2 (encWorld w), .a 6 (encProg e), I state, I fuel] [] (noneT 2) := by
  have ha := l06Asked_ok w state fuel
  rw [h4] at ha
  refine callX_of_vc htb hm Try.func26 rfl rfl rfl rfl (ann := fun _ => none) (gh := fun _ => false) ?_
  repeat' ((conv => whnf); first
    | (guard_target = Done _; refine Done.mk ?_)
    | (guard_target = RetX _ _; refine RetX.mk ?_ ?_)
    | (guard_target = Fact _ _; refine Fact.mk fun hL => ?_; (try simp only [List.length_map, maxLen] at hL))
    | (guard_target = Branch _ _ _; (first | refine Branch.dec (fun h => ?_) (fun h => ?_) | refine Branch.beq (fun h => ?_) (fun h => ?_) | refine Branch.bne (fun h => ?_) (fun h => ?_) | refine Branch.ndec (fun h => ?_) (fun h => ?_) | refine Branch.nb (fun h => ?_) (fun h => ?_) | refine Branch.mk (fun h => ?_) (fun h => ?_)) <;> (try simp only [List.length_map] at h) <;> (try omega) <;> (try contradiction))
    | (guard_target = CallN _ 45 _ _ _ _; refine CallN.pure _ _ rfl (l06World_ok t a w) rfl _ rfl ?_)
    | (guard_target = CallN _ 69 _ _ _ _; refine CallN.pure _ _ rfl (l06Ok_ok t a e hl) rfl _ rfl ?_)
    | (guard_target = CallN _ 47 _ _ _ _; refine CallN.pure _ _ rfl (ha) rfl _ rfl ?_)
    | (guard_target = Arith _ _ _; refine Arith.fit (wrap_fit (by first | omega | (simp only [List.length_map]; omega)) (by first | omega | (simp only [List.length_map]; omega))) ?_)
    | (guard_target = Arith _ _ _; refine Arith.fit (by decide) ?_)
    | (guard_target = Index _ _ _; first  | refine Index.mk _ (idx_map (by omega)) ?_)
    | (guard_target = Need (chkDraw _ = true) _; refine Need.mk (by kernel_rfl) ?_)
    | (guard_target = Need (chkRecs _ _ = true) _; refine Need.mk (by first | kernel_rfl | rfl) ?_)
    | (guard_target = Need _ _; refine Need.mk (by first  | omega | (simp only [List.length_map]; omega)) ?_))
  all_goals first | rfl | trivial | (exfalso; simp_all; done)
theorem specProg_bad {cq : Int} (h1 : goodSig t a = true) (h2 : goodWorld t a w = true) (h3 : goodP t a e = true) (h4 : runOk w state fuel = true) (hrun : Run w fuel e ⟨state, [at0 w state], [], 0⟩ cq r') (h5 : ¬ cq = 0) : CallX Try.prog 26 [.a 2 [J t, J a], .a 2 (encWorld w), .a 6 (encProg e), I state, I fuel] [] (noneT cq) := by
  have ha := l06Asked_ok w state fuel
  rw [h4] at ha
  have hq := (runS_ok (sig_bounds h1).1.2 (worldOk h2).1 (worldOk h2).2 (runB h4).2 hrun (progOk h3) (run_begin h4)).1
  have hk := l06Ok_ok t a e hl
  rw [encProg_eq] at hk hq ⊢
  refine callX_of_vc htb hm Try.func26 rfl rfl rfl rfl (ann := fun _ => none) (gh := fun reg_ => match reg_ with | 6 => true | _ => false) ?_
  repeat' ((conv => whnf); first
    | (guard_target = Done _; refine Done.mk ?_)
    | (guard_target = RetX _ _; refine RetX.mk ?_ ?_)
    | (guard_target = Fact _ _; refine Fact.mk fun hL => ?_; (try simp only [List.length_map, maxLen] at hL))
    | (guard_target = Branch _ _ _; (first | refine Branch.dec (fun h => ?_) (fun h => ?_) | refine Branch.beq (fun h => ?_) (fun h => ?_) | refine Branch.bne (fun h => ?_) (fun h => ?_) | refine Branch.ndec (fun h => ?_) (fun h => ?_) | refine Branch.nb (fun h => ?_) (fun h => ?_) | refine Branch.mk (fun h => ?_) (fun h => ?_)) <;> (try simp only [List.length_map] at h) <;> (try omega) <;> (try contradiction))
    | (guard_target = CallN _ 45 _ _ _ _; refine CallN.pure _ _ rfl (l06World_ok t a w) rfl _ rfl ?_)
    | (guard_target = CallN _ 69 _ _ _ _; refine CallN.pure _ _ rfl (hk) rfl _ rfl ?_)
    | (guard_target = CallN _ 47 _ _ _ _; refine CallN.pure _ _ rfl (ha) rfl _ rfl ?_)
    | (guard_target = CallN _ 48 _ _ _ _; refine CallN.gen [] _ _ _ rfl (l06Start_ok w state fuel h4) rfl rfl _ rfl ?_)
    | (guard_target = CallN _ 70 _ _ _ _; refine CallN.gen [true, false] _ _ _ rfl (hq) rfl rfl _ rfl ?_)
    | (guard_target = CallN _ 50 _ _ _ _; refine CallN.gen [true] _ _ _ rfl (told_bad w fuel cq r' h5) rfl rfl _ rfl ?_)
    | (guard_target = Gh _ _ _ _ _; refine Gh.frzp 1 (encWorld w) rfl (Gh.frzp 2 (toldP e) rfl (Gh.go ?_)))
    | (guard_target = Arith _ _ _; refine Arith.fit (wrap_fit (by first | omega | (simp only [List.length_map]; omega)) (by first | omega | (simp only [List.length_map]; omega))) ?_)
    | (guard_target = Arith _ _ _; refine Arith.fit (by decide) ?_)
    | (guard_target = Index _ _ _; first  | refine Index.mk _ (idx_map (by omega)) ?_)
    | (guard_target = Need (chkDraw _ = true) _; refine Need.mk (by kernel_rfl) ?_)
    | (guard_target = Need (chkRecs _ _ = true) _; refine Need.mk (by first | kernel_rfl | rfl) ?_)
    | (guard_target = Need _ _; refine Need.mk (by first  | omega | (simp only [List.length_map]; omega)) ?_))
  all_goals first | rfl | trivial | (exfalso; simp_all; done)
theorem specProg_run (h1 : goodSig t a = true) (h2 : goodWorld t a w = true) (h3 : goodP t a e = true) (h4 : runOk w state fuel = true) (hrun : Run w fuel e ⟨state, [at0 w state], [], 0⟩ 0 r') : CallX Try.prog 26 [.a 2 [J t, J a], .a 2 (encWorld w), .a 6 (encProg e), I state, I fuel] [] (runT r') := by
  have ha := l06Asked_ok w state fuel
  rw [h4] at ha
  have hq := (runS_ok (sig_bounds h1).1.2 (worldOk h2).1 (worldOk h2).2 (runB h4).2 hrun (progOk h3) (run_begin h4)).1
  have hk := l06Ok_ok t a e hl
  rw [encProg_eq] at hk hq ⊢
  refine callX_of_vc htb hm Try.func26 rfl rfl rfl rfl (ann := fun _ => none) (gh := fun reg_ => match reg_ with | 6 => true | _ => false) ?_
  repeat' ((conv => whnf); first
    | (guard_target = Done _; refine Done.mk ?_)
    | (guard_target = RetX _ _; refine RetX.mk ?_ ?_)
    | (guard_target = Fact _ _; refine Fact.mk fun hL => ?_; (try simp only [List.length_map, maxLen] at hL))
    | (guard_target = Branch _ _ _; (first | refine Branch.dec (fun h => ?_) (fun h => ?_) | refine Branch.beq (fun h => ?_) (fun h => ?_) | refine Branch.bne (fun h => ?_) (fun h => ?_) | refine Branch.ndec (fun h => ?_) (fun h => ?_) | refine Branch.nb (fun h => ?_) (fun h => ?_) | refine Branch.mk (fun h => ?_) (fun h => ?_)) <;> (try simp only [List.length_map] at h) <;> (try omega) <;> (try contradiction))
    | (guard_target = CallN _ 45 _ _ _ _; refine CallN.pure _ _ rfl (l06World_ok t a w) rfl _ rfl ?_)
    | (guard_target = CallN _ 69 _ _ _ _; refine CallN.pure _ _ rfl (hk) rfl _ rfl ?_)
    | (guard_target = CallN _ 47 _ _ _ _; refine CallN.pure _ _ rfl (ha) rfl _ rfl ?_)
    | (guard_target = CallN _ 48 _ _ _ _; refine CallN.gen [] _ _ _ rfl (l06Start_ok w state fuel h4) rfl rfl _ rfl ?_)
    | (guard_target = CallN _ 70 _ _ _ _; refine CallN.gen [true, false] _ _ _ rfl (hq) rfl rfl _ rfl ?_)
    | (guard_target = CallN _ 50 _ _ _ _; refine CallN.gen [true] _ _ _ rfl (told_ok w fuel _) rfl rfl _ rfl ?_)
    | (guard_target = Gh _ _ _ _ _; refine Gh.frzp 1 (encWorld w) rfl (Gh.frzp 2 (toldP e) rfl (Gh.go ?_)))
    | (guard_target = Arith _ _ _; refine Arith.fit (wrap_fit (by first | omega | (simp only [List.length_map]; omega)) (by first | omega | (simp only [List.length_map]; omega))) ?_)
    | (guard_target = Arith _ _ _; refine Arith.fit (by decide) ?_)
    | (guard_target = Index _ _ _; first  | refine Index.mk _ (idx_map (by omega)) ?_)
    | (guard_target = Need (chkDraw _ = true) _; refine Need.mk (by kernel_rfl) ?_)
    | (guard_target = Need (chkRecs _ _ = true) _; refine Need.mk (by first | kernel_rfl | rfl) ?_)
    | (guard_target = Need _ _; refine Need.mk (by first  | omega | (simp only [List.length_map]; omega)) ?_))
  all_goals first | rfl | trivial | (exfalso; simp_all; done)
end
end Go.Proofs.Ytbbaadkgmdkjdaa
