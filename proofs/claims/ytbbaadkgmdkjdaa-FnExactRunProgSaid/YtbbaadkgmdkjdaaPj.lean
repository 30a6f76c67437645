/- The law of RunProg answers true (draft). No conditions. -/
import Derived.Test.YtbbaadkgmdkjdaaPi
import Derived.Test.YtbbaadkgmdkjdaaXk
namespace Go.Proofs.Ytbbaadkgmdkjdaa
open Go Go.KA Go.Proofs
set_option maxHeartbeats 16000000
set_option maxRecDepth 100000
mutual
theorem mkp_le : ∀ e : XProg, mkeProg e ≤ 6 + 6 * budProg e
  | .mk k n c kids => by
    have := mkpS_le kids
    have h2 := mke_le c
    rw [mkeExpr_eq] at h2
    simp only [mkeProg, budProg]
    omega
theorem mkpS_le : ∀ l : List XProg, mkeProgS l ≤ 6 * budProgS l
  | [] => Nat.le_refl _
  | x :: xs => by
    have h1 := mkp_le x
    have h2 := mkpS_le xs
    simp only [mkeProgS, budProgS]
    omega
end
theorem lawProg (x : XSig) (w : XWorld) (f : XProg) (state fuel : Int) (s : Int) (ta tc : List Int) (n c : Int) (hw : budWorld w ≤ 1048576) (hf : budProg f ≤ 1048576 - budWorld w) (hta : ta.length ≤ 1000000) (htc : tc.length ≤ 1000000)
    (hs : CallX Try.prog 26 [.a 2 (encSig x), .a 2 (encWorld w), .a 6 (encProg f), I state, I fuel] [] (resT s ta tc n c))
    (hi : CallX Try.prog 28 [.a 2 (encSig x), .a 2 (encWorld w), .a 6 (encProg f), I state, I fuel] [] (resT s ta tc n c)) :
    CallF Try.prog 5 [.a 2 (encSig x), .a 2 (encWorld w), .a 6 (encProg f), I state, I fuel] (B true) := by
  have hz1 := szWorld_ok w 1048576 (by omega)
  rw [szr_eq hw] at hz1
  have hz2 := szProg_ok f (1048576 - budWorld w) (by omega)
  rw [szr_eq hf] at hz2
  have hs' : CallX Try.prog 26 [.a 2 (encSig x), .a 2 (roL (ownWorld w)), .a 6 (roL (ownProg f)), I state, I fuel] [] (resT s ta tc n c) := by rw [roWorld, roProg]; exact hs
  have hi' : CallX Try.prog 28 [.a 2 (encSig x), .a 2 (roL (ownWorld w)), .a 6 (roL (ownProg f)), I state, I fuel] [] (resT s ta tc n c) := by rw [roWorld, roProg]; exact hi
  have hew : CallF Try.prog 19 [.a 2 (roL (ownWorld w)), .a 2 (roL (ownWorld w))] (B true) := by rw [roWorld]; have := eqWorld_ok w w; rwa [eqv_self] at this
  have hef : CallF Try.prog 29 [.a 6 (roL (ownProg f)), .a 6 (roL (ownProg f))] (B true) := by rw [roProg]; have := eqProg_ok f f; rwa [eqv_self] at this
  have her : CallF Try.prog 18 [.a 2 [.ro 1 (ta.map eI), .ro 1 (tc.map eI)], .a 2 [.ro 1 (ta.map eI), .ro 1 (tc.map eI)]] (B true) := by have := eqWord_ok ⟨ta, tc⟩ ⟨ta, tc⟩; rwa [eqv_self] at this
  have hmw := markW_le w hw
  have hp := pure_res s ta tc n c
  have hmf := mkp_le f
  rw [mkeProg_eq] at hmf
  rw [ownProg_eq] at hs' hi' hef
  rw [encProg_eq] at hz2 ⊢
  refine callF_of_vc htb hm Try.func5 rfl rfl rfl rfl (ann := fun _ => none) (gh := fun _ => false) ?_
  repeat' ((conv => whnf); first
    | (guard_target = Done _; refine Done.mk ?_; first | (rfl; done) | skip)
    | (guard_target = RetX _ _; refine RetX.mk ?_ ?_)
    | (guard_target = Fact _ _; refine Fact.mk fun hL => ?_; (try simp only [List.length_map, maxLen] at hL))
    | (guard_target = Branch _ _ _; (first | refine Branch.dec (fun h => ?_) (fun h => ?_) | refine Branch.beq (fun h => ?_) (fun h => ?_) | refine Branch.bne (fun h => ?_) (fun h => ?_) | refine Branch.ndec (fun h => ?_) (fun h => ?_) | refine Branch.nb (fun h => ?_) (fun h => ?_) | refine Branch.mk (fun h => ?_) (fun h => ?_)) <;> (try simp only [List.length_map] at h) <;> (try omega) <;> (try contradiction))
    | (guard_target = CallN _ 12 _ _ _ _; refine CallN.pure _ _ rfl (hz1) rfl _ rfl ?_)
    | (guard_target = CallN _ 25 _ _ _ _; refine CallN.pure _ _ rfl (hz2) rfl _ rfl ?_)
    | (guard_target = CallN _ 7 _ _ _ _; refine CallN.gen [] _ _ _ rfl (toSig_ok x (by simp [budSig])) rfl rfl _ rfl ?_)
    | (guard_target = CallN _ 15 _ _ _ _; refine CallN.gen [] _ _ _ rfl (toWorld_ok w hw) rfl rfl _ rfl ?_)
    | (guard_target = CallN _ 27 _ _ _ _; refine CallN.gen [] _ _ _ rfl (toProg_ok' f (by omega)) rfl rfl _ rfl ?_)
    | (guard_target = CallN _ 18 _ _ _ _; refine CallN.pure _ _ rfl (her) rfl _ rfl ?_)
    | (guard_target = CallN _ 19 _ _ _ _; refine CallN.pure _ _ rfl (hew) rfl _ rfl ?_)
    | (guard_target = CallN _ 29 _ _ _ _; refine CallN.pure _ _ rfl (hef) rfl _ rfl ?_)
    | (guard_target = CallN _ 21 _ _ _ _; refine CallN.gen [true, false] _ _ _ rfl (markWorld_ok w 1 (by omega) (by omega)) rfl rfl _ rfl ?_)
    | (guard_target = CallN _ 30 _ _ _ _; refine CallN.gen [true, false] _ _ _ rfl (markProg_ok f _ (by omega) (by omega)) rfl rfl _ rfl ?_)
    | (guard_target = CallN _ 23 _ _ _ _; refine CallN.gen [true, false] _ _ _ rfl (markWord_told ta tc 1 (by omega) (by omega) (by omega)) rfl rfl _ rfl ?_)
    | (guard_target = CallN _ 24 _ _ _ _; refine CallN.pure _ _ rfl (heldWord_told ta.length tc.length 1 (by omega) (by omega) (by omega)) rfl _ rfl ?_)
    | (guard_target = CallN _ 26 _ _ _ _; refine CallN.own _ _ rfl hs' hp _ rfl ?_)
    | (guard_target = CallN _ 28 _ _ _ _; refine CallN.own _ _ rfl hi' hp _ rfl ?_)
    | (guard_target = Arith _ _ _; refine Arith.fit (wrap_fit (by first | omega | (simp only [List.length_map]; omega)) (by first | omega | (simp only [List.length_map]; omega))) ?_)
    | (guard_target = Arith _ _ _; refine Arith.fit (by decide) ?_)
    | (guard_target = Index _ _ _; first  | refine Index.mk _ (idx_map (by omega)) ?_)
    | (guard_target = Need (chkDraw _ = true) _; refine Need.mk (by kernel_rfl) ?_)
    | (guard_target = Need (chkRecs _ _ = true) _; refine Need.mk (by first | kernel_rfl | rfl) ?_)
    | (guard_target = Need _ _; refine Need.mk (by first  | omega | (simp only [List.length_map]; omega)) ?_))
  all_goals (try (conv => whnf))
end Go.Proofs.Ytbbaadkgmdkjdaa

namespace Go.Proofs.Ytbbaadkgmdkjdaa
open Go Go.KA Go.Proofs
set_option maxHeartbeats 16000000
set_option maxRecDepth 100000
theorem lawProg_big1 (x : XSig) (w : XWorld) (f : XProg) (state fuel : Int) (hw : ¬ budWorld w ≤ 1048576) : CallF Try.prog 5 [.a 2 (encSig x), .a 2 (encWorld w), .a 6 (encProg f), I state, I fuel] (B true) := by
  have hz1 := szWorld_ok w 1048576 (by omega)
  rw [szr_neg (by omega)] at hz1
  refine callF_of_vc htb hm Try.func5 rfl rfl rfl rfl (ann := fun _ => none) (gh := fun _ => false) ?_
  repeat' ((conv => whnf); first
    | (guard_target = Done _; refine Done.mk ?_; first | (rfl; done) | skip)
    | (guard_target = RetX _ _; refine RetX.mk ?_ ?_)
    | (guard_target = Fact _ _; refine Fact.mk fun hL => ?_; (try simp only [List.length_map, maxLen] at hL))
    | (guard_target = Branch _ _ _; (first | refine Branch.dec (fun h => ?_) (fun h => ?_) | refine Branch.beq (fun h => ?_) (fun h => ?_) | refine Branch.bne (fun h => ?_) (fun h => ?_) | refine Branch.ndec (fun h => ?_) (fun h => ?_) | refine Branch.nb (fun h => ?_) (fun h => ?_) | refine Branch.mk (fun h => ?_) (fun h => ?_)) <;> (try simp only [List.length_map] at h) <;> (try omega) <;> (try contradiction))
    | (guard_target = CallN _ 12 _ _ _ _; refine CallN.pure _ _ rfl (hz1) rfl _ rfl ?_)
    | (guard_target = Arith _ _ _; refine Arith.fit (wrap_fit (by first | omega | (simp only [List.length_map]; omega)) (by first | omega | (simp only [List.length_map]; omega))) ?_)
    | (guard_target = Arith _ _ _; refine Arith.fit (by decide) ?_)
    | (guard_target = Index _ _ _; first  | refine Index.mk _ (idx_map (by omega)) ?_)
    | (guard_target = Need (chkDraw _ = true) _; refine Need.mk (by kernel_rfl) ?_)
    | (guard_target = Need (chkRecs _ _ = true) _; refine Need.mk (by first | kernel_rfl | rfl) ?_)
    | (guard_target = Need _ _; refine Need.mk (by first  | omega | (simp only [List.length_map]; omega)) ?_))
theorem lawProg_big2 (x : XSig) (w : XWorld) (f : XProg) (state fuel : Int) (hw : budWorld w ≤ 1048576) (hf : ¬ budProg f ≤ 1048576 - budWorld w) : CallF Try.prog 5 [.a 2 (encSig x), .a 2 (encWorld w), .a 6 (encProg f), I state, I fuel] (B true) := by
  have hz1 := szWorld_ok w 1048576 (by omega)
  rw [szr_eq hw] at hz1
  have hz2 := szProg_ok f (1048576 - budWorld w) (by omega)
  rw [szr_neg (by omega)] at hz2
  refine callF_of_vc htb hm Try.func5 rfl rfl rfl rfl (ann := fun _ => none) (gh := fun _ => false) ?_
  repeat' ((conv => whnf); first
    | (guard_target = Done _; refine Done.mk ?_; first | (rfl; done) | skip)
    | (guard_target = RetX _ _; refine RetX.mk ?_ ?_)
    | (guard_target = Fact _ _; refine Fact.mk fun hL => ?_; (try simp only [List.length_map, maxLen] at hL))
    | (guard_target = Branch _ _ _; (first | refine Branch.dec (fun h => ?_) (fun h => ?_) | refine Branch.beq (fun h => ?_) (fun h => ?_) | refine Branch.bne (fun h => ?_) (fun h => ?_) | refine Branch.ndec (fun h => ?_) (fun h => ?_) | refine Branch.nb (fun h => ?_) (fun h => ?_) | refine Branch.mk (fun h => ?_) (fun h => ?_)) <;> (try simp only [List.length_map] at h) <;> (try omega) <;> (try contradiction))
    | (guard_target = CallN _ 12 _ _ _ _; refine CallN.pure _ _ rfl (hz1) rfl _ rfl ?_)
    | (guard_target = CallN _ 25 _ _ _ _; refine CallN.pure _ _ rfl (hz2) rfl _ rfl ?_)
    | (guard_target = Arith _ _ _; refine Arith.fit (wrap_fit (by first | omega | (simp only [List.length_map]; omega)) (by first | omega | (simp only [List.length_map]; omega))) ?_)
    | (guard_target = Arith _ _ _; refine Arith.fit (by decide) ?_)
    | (guard_target = Index _ _ _; first  | refine Index.mk _ (idx_map (by omega)) ?_)
    | (guard_target = Need (chkDraw _ = true) _; refine Need.mk (by kernel_rfl) ?_)
    | (guard_target = Need (chkRecs _ _ = true) _; refine Need.mk (by first | kernel_rfl | rfl) ?_)
    | (guard_target = Need _ _; refine Need.mk (by first  | omega | (simp only [List.length_map]; omega)) ?_))
theorem runProg_law (x : XSig) (w : XWorld) (f : XProg) (state fuel : Int) : CallF Try.prog 5 [.a 2 (encSig x), .a 2 (encWorld w), .a 6 (encProg f), I state, I fuel] (B true) := by
  by_cases hw : budWorld w ≤ 1048576
  case neg => exact lawProg_big1 x w f state fuel hw
  by_cases hf : budProg f ≤ 1048576 - budWorld w
  case neg => exact lawProg_big2 x w f state fuel hw hf
  have hl : budProg f ≤ 1048576 := by omega
  cases h123 : goodSig x.tests x.actions && goodWorld x.tests x.actions w && goodP x.tests x.actions f with
  | false => exact lawProg x w f state fuel 0 [] [] 0 1 hw hf (by simp) (by simp) (specProg_inv x.tests x.actions w f state fuel hl h123) (implProg_inv x.tests x.actions w f state fuel h123)
  | true =>
    simp only [Bool.and_eq_true] at h123
    obtain ⟨⟨h1, h2⟩, h3⟩ := h123
    cases h4 : runOk w state fuel with
    | false => exact lawProg x w f state fuel 0 [] [] 0 2 hw hf (by simp) (by simp) (specProg_rng x.tests x.actions w f state fuel hl h1 h2 h3 h4) (implProg_rng x.tests x.actions w f state fuel h1 h2 h3 h4)
    | true =>
      obtain ⟨c, r', hrun⟩ := Run.ex (worldOk h2).1 (worldOk h2).2 (runB h4).2 _ _ f ⟨state, [at0 w state], [], 0⟩ (Nat.le_refl _) (Nat.le_refl _) (progOk h3) (run_begin h4)
      have hk := (Run.keeps (worldOk h2).1 (worldOk h2).2 (runB h4).2 hrun (progOk h3) (run_begin h4)).1
      have h6 := hk.st.ta
      have h7 := hk.st.tc
      have h8 := hk.st.steps
      by_cases h5 : c = 0
      · subst h5
        exact lawProg x w f state fuel r'.st r'.ta r'.tc r'.steps 0 hw hf (by omega) (by omega) (specProg_run x.tests x.actions w f state fuel hl h1 h2 h3 h4 hrun) (implProg_run x.tests x.actions w f state fuel h1 h2 h3 h4 hrun)
      · exact lawProg x w f state fuel 0 [] [] 0 c hw hf (by simp) (by simp) (specProg_bad x.tests x.actions w f state fuel hl h1 h2 h3 h4 hrun h5) (implProg_bad x.tests x.actions w f state fuel h1 h2 h3 h4 hrun h5)
end Go.Proofs.Ytbbaadkgmdkjdaa
