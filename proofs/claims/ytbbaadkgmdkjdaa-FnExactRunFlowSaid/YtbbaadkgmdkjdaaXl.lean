/- The law of RunFlow answers true, whatever its arguments. No conditions. -/
import Derived.Test.YtbbaadkgmdkjdaaXk
namespace Go.Proofs.Ytbbaadkgmdkjdaa
open Go Go.KA Go.Proofs
set_option maxHeartbeats 16000000
set_option maxRecDepth 100000
theorem flowR_len (w : XWorld) (fuel : Int) (f : XFlow) : ∀ (n : Nat) (p : Int) (r : RS), (flowR w fuel f n p r).2.ta.length ≤ r.ta.length + n ∧ (flowR w fuel f n p r).2.tc.length ≤ r.tc.length + n
  | 0, p, r => ⟨Nat.le_refl _, Nat.le_refl _⟩
  | n + 1, p, r => by
    have h1 := flowR_len w fuel f n (spotAt f p).to0 (done w (more r) (spotAt f p).num)
    have h2 : (flowR w fuel f n (spotAt f p).to0 (more r)).2.ta.length ≤ r.ta.length + n ∧ (flowR w fuel f n (spotAt f p).to0 (more r)).2.tc.length ≤ r.tc.length + n := flowR_len w fuel f n (spotAt f p).to0 (more r)
    have h3 : (flowR w fuel f n (spotAt f p).else0 (more r)).2.ta.length ≤ r.ta.length + n ∧ (flowR w fuel f n (spotAt f p).else0 (more r)).2.tc.length ≤ r.tc.length + n := flowR_len w fuel f n (spotAt f p).else0 (more r)
    simp only [List.length_append, List.length_cons, List.length_nil] at h1
    unfold flowR
    split
    · exact ⟨Nat.le_add_right _ _, Nat.le_add_right _ _⟩
    split
    · exact ⟨Nat.le_add_right _ _, Nat.le_add_right _ _⟩
    split
    · exact ⟨Nat.le_add_right _ _, Nat.le_add_right _ _⟩
    split
    · split
      · exact ⟨Nat.le_add_right _ _, Nat.le_add_right _ _⟩
      · omega
    split
    · omega
    · omega
theorem lawFlow_big1 (x : XSig) (w : XWorld) (f : XFlow) (state fuel : Int) (hw : ¬ budWorld w ≤ 1048576) : CallF Try.prog 4 [.a 2 (encSig x), .a 2 (encWorld w), .a 2 (encFlow f), I state, I fuel] (B true) := by
  have hz1 := szWorld_ok w 1048576 (by omega)
  rw [szr_neg (by omega)] at hz1
  refine callF_of_vc htb hm Try.func4 rfl rfl rfl rfl (ann := fun _ => none) (gh := fun _ => false) ?_
  repeat' ((conv => whnf); first
    | (guard_target = Done _; refine Done.mk ?_; first | (rfl; done) | skip)
    | (guard_target = RetX _ _; refine RetX.mk ?_ ?_)
    | (guard_target = Fact _ _; refine Fact.mk fun hL => ?_; (try simp only [List.length_map, maxLen] at hL))
    | (guard_target = Branch _ _ _; (first | refine Branch.dec (fun h => ?_) (fun h => ?_) | refine Branch.beq (fun h => ?_) (fun h => ?_) | refine Branch.bne (fun h => ?_) (fun h => ?_) | refine Branch.ndec (fun h => ?_) (fun h => ?_) | refine Branch.nb (fun h => ?_) (fun h => ?_) | refine Branch.mk (fun h => ?_) (fun h => ?_)) <;> (try simp only [List.length_map] at h) <;> (try omega) <;> (try contradiction))
    | (guard_target = CallN _ 12 _ _ _ _; refine CallN.pure _ _ rfl (hz1) rfl _ rfl ?_)
    | (guard_target = Arith _ _ _; refine Arith.fit (wrap_fit (by first | omega | (simp only [List.length_map]; omega)) (by first | omega | (simp only [List.length_map]; omega))) ?_)
    | (guard_target = Arith _ _ _; refine Arith.fit (by decide) ?_)
    | (guard_target = Index _ _ _; first  | refine Index.mk _ (idx_map (by omega)) ?_)
    | (guard_target = Need (chkDraw _ = true) _; refine Need.mk (by kernel_rfl) ?_)
    | (guard_target = Need (chkRecs _ _ = true) _; refine Need.mk (by first | kernel_rfl | rfl) ?_)
    | (guard_target = Need _ _; refine Need.mk (by first  | omega | (simp only [List.length_map]; omega)) ?_))
theorem lawFlow_big2 (x : XSig) (w : XWorld) (f : XFlow) (state fuel : Int) (hw : budWorld w ≤ 1048576) (hf : ¬ budFlow f ≤ 1048576 - budWorld w) : CallF Try.prog 4 [.a 2 (encSig x), .a 2 (encWorld w), .a 2 (encFlow f), I state, I fuel] (B true) := by
  have hz1 := szWorld_ok w 1048576 (by omega)
  rw [szr_eq hw] at hz1
  have hz2 := szFlow_ok f (1048576 - budWorld w) (by omega)
  rw [szr_neg (by omega)] at hz2
  refine callF_of_vc htb hm Try.func4 rfl rfl rfl rfl (ann := fun _ => none) (gh := fun _ => false) ?_
  repeat' ((conv => whnf); first
    | (guard_target = Done _; refine Done.mk ?_; first | (rfl; done) | skip)
    | (guard_target = RetX _ _; refine RetX.mk ?_ ?_)
    | (guard_target = Fact _ _; refine Fact.mk fun hL => ?_; (try simp only [List.length_map, maxLen] at hL))
    | (guard_target = Branch _ _ _; (first | refine Branch.dec (fun h => ?_) (fun h => ?_) | refine Branch.beq (fun h => ?_) (fun h => ?_) | refine Branch.bne (fun h => ?_) (fun h => ?_) | refine Branch.ndec (fun h => ?_) (fun h => ?_) | refine Branch.nb (fun h => ?_) (fun h => ?_) | refine Branch.mk (fun h => ?_) (fun h => ?_)) <;> (try simp only [List.length_map] at h) <;> (try omega) <;> (try contradiction))
    | (guard_target = CallN _ 12 _ _ _ _; refine CallN.pure _ _ rfl (hz1) rfl _ rfl ?_)
    | (guard_target = CallN _ 13 _ _ _ _; refine CallN.pure _ _ rfl (hz2) rfl _ rfl ?_)
    | (guard_target = Arith _ _ _; refine Arith.fit (wrap_fit (by first | omega | (simp only [List.length_map]; omega)) (by first | omega | (simp only [List.length_map]; omega))) ?_)
    | (guard_target = Arith _ _ _; refine Arith.fit (by decide) ?_)
    | (guard_target = Index _ _ _; first  | refine Index.mk _ (idx_map (by omega)) ?_)
    | (guard_target = Need (chkDraw _ = true) _; refine Need.mk (by kernel_rfl) ?_)
    | (guard_target = Need (chkRecs _ _ = true) _; refine Need.mk (by first | kernel_rfl | rfl) ?_)
    | (guard_target = Need _ _; refine Need.mk (by first  | omega | (simp only [List.length_map]; omega)) ?_))
theorem runFlow_law (x : XSig) (w : XWorld) (f : XFlow) (state fuel : Int) : CallF Try.prog 4 [.a 2 (encSig x), .a 2 (encWorld w), .a 2 (encFlow f), I state, I fuel] (B true) := by
  by_cases hw : budWorld w ≤ 1048576
  case neg => exact lawFlow_big1 x w f state fuel hw
  by_cases hf : budFlow f ≤ 1048576 - budWorld w
  case neg => exact lawFlow_big2 x w f state fuel hw hf
  have hl : budFlow f ≤ 1048576 := by omega
  cases h123 : goodSig x.tests x.actions && goodWorld x.tests x.actions w && goodFlow x.tests x.actions f with
  | false => exact lawFlow x w f state fuel 0 [] [] 0 1 hw hf (by simp) (by simp) (specFlow_inv x.tests x.actions w f state fuel hl h123) (implFlow_inv x.tests x.actions w f state fuel h123)
  | true =>
    simp only [Bool.and_eq_true] at h123
    obtain ⟨⟨h1, h2⟩, h3⟩ := h123
    cases h4 : runOk w state fuel with
    | false => exact lawFlow x w f state fuel 0 [] [] 0 2 hw hf (by simp) (by simp) (specFlow_rng x.tests x.actions w f state fuel hl h1 h2 h3 h4) (implFlow_rng x.tests x.actions w f state fuel h1 h2 h3 h4)
    | true =>
      by_cases h5 : (flowV w fuel f state).1 = 0
      · have hb := runB h4
        have hlen := flowR_len w fuel f (fuel.toNat + 1) f.start ⟨state, [at0 w state], [], 0⟩
        have hlen : (flowV w fuel f state).2.ta.length ≤ 1 + (fuel.toNat + 1) ∧ (flowV w fuel f state).2.tc.length ≤ 0 + (fuel.toNat + 1) := hlen
        exact lawFlow x w f state fuel (flowV w fuel f state).2.st (flowV w fuel f state).2.ta (flowV w fuel f state).2.tc (flowV w fuel f state).2.steps 0 hw hf (by omega) (by omega) (specFlow_run x.tests x.actions w f state fuel hl h1 h2 h3 h4 h5) (implFlow_run x.tests x.actions w f state fuel h1 h2 h3 h4 h5)
      · exact lawFlow x w f state fuel 0 [] [] 0 (flowV w fuel f state).1 hw hf (by simp) (by simp) (specFlow_bad x.tests x.actions w f state fuel hl h1 h2 h3 h4 h5) (implFlow_bad x.tests x.actions w f state fuel h1 h2 h3 h4 h5)
end Go.Proofs.Ytbbaadkgmdkjdaa
