/- The law of ValidArchive answers true, whatever its argument. No conditions. -/
import Derived.Test.YtbbaadkgmdkjdaaGreatYC
import Derived.Test.YtbbaadkgmdkjdaaGreatSz
import Derived.Test.YtbbaadkgmdkjdaaGreatTo
import Derived.Test.YtbbaadkgmdkjdaaGreatEq
namespace Go.Proofs.YtbbaadkgmdkjdaaGreat
open Go Go.KA Go.Proofs
set_option maxHeartbeats 16000000
set_option maxRecDepth 100000
theorem specValidArchive_ok (a : XArchive) (hl : budArchive a ≤ 1048576) : CallF Tryz.prog 13 [.a 4 (encArchive a)] (B (goodArch a)) := by
  refine callF_of_vc htb hm Tryz.func13 rfl rfl rfl rfl (ann := fun _ => none) (gh := fun _ => false) ?_
  repeat' ((conv => whnf); first
    | (guard_target = Done _; refine Done.mk ?_; first | (rfl; done) | skip)
    | (guard_target = RetX _ _; refine RetX.mk ?_ ?_)
    | (guard_target = Fact _ _; refine Fact.mk fun hL => ?_; (try simp only [List.length_map, maxLen] at hL))
    | (guard_target = Branch _ _ _; (first | refine Branch.dec (fun h => ?_) (fun h => ?_) | refine Branch.beq (fun h => ?_) (fun h => ?_) | refine Branch.bne (fun h => ?_) (fun h => ?_) | refine Branch.ndec (fun h => ?_) (fun h => ?_) | refine Branch.nb (fun h => ?_) (fun h => ?_) | refine Branch.mk (fun h => ?_) (fun h => ?_)) <;> (try simp only [List.length_map] at h) <;> (try omega) <;> (try contradiction))
    | (guard_target = CallN _ 46 _ _ _ _; refine CallN.pure _ _ rfl (l08Ok_ok a hl) rfl _ rfl ?_)
    | (guard_target = Arith _ _ _; refine Arith.fit (wrap_fit (by first | omega | (simp only [List.length_map]; omega)) (by first | omega | (simp only [List.length_map]; omega))) ?_)
    | (guard_target = Arith _ _ _; refine Arith.fit (by decide) ?_)
    | (guard_target = Index _ _ _; first  | refine Index.mk _ (idx_map (by omega)) ?_)
    | (guard_target = Need (chkDraw _ = true) _; refine Need.mk (by kernel_rfl) ?_)
    | (guard_target = Need (chkRecs _ _ = true) _; refine Need.mk (by first | kernel_rfl | rfl) ?_)
    | (guard_target = Need _ _; refine Need.mk (by first  | omega | (simp only [List.length_map]; omega)) ?_))
theorem eqArch_own (a : XArchive) : CallF Tryz.prog 16 [.a 4 (roL (ownArchive a)), .a 4 (roL (ownArchive a))] (B true) := by
  rw [roArchive]
  have := eqArchive_ok a a
  rwa [eqv_self] at this
theorem validArchive_law (a : XArchive) : CallF Tryz.prog 3 [.a 4 (encArchive a)] (B true) := by
  have hz := szArchive_ok a 1048576 (by omega)
  by_cases hl : budArchive a ≤ 1048576
  case neg =>
    rw [szr_neg (by omega)] at hz
    refine callF_of_vc htb hm Tryz.func3 rfl rfl rfl rfl (ann := fun _ => none) (gh := fun _ => false) ?_
    repeat' ((conv => whnf); first
      | (guard_target = Done _; refine Done.mk ?_; first | (rfl; done) | skip)
      | (guard_target = RetX _ _; refine RetX.mk ?_ ?_)
      | (guard_target = Fact _ _; refine Fact.mk fun hL => ?_; (try simp only [List.length_map, maxLen] at hL))
      | (guard_target = Branch _ _ _; (first | refine Branch.dec (fun h => ?_) (fun h => ?_) | refine Branch.beq (fun h => ?_) (fun h => ?_) | refine Branch.bne (fun h => ?_) (fun h => ?_) | refine Branch.ndec (fun h => ?_) (fun h => ?_) | refine Branch.nb (fun h => ?_) (fun h => ?_) | refine Branch.mk (fun h => ?_) (fun h => ?_)) <;> (try simp only [List.length_map] at h) <;> (try omega) <;> (try contradiction))
      | (guard_target = CallN _ 12 _ _ _ _; refine CallN.pure _ _ rfl (hz) rfl _ rfl ?_)
      | (guard_target = Arith _ _ _; refine Arith.fit (wrap_fit (by first | omega | (simp only [List.length_map]; omega)) (by first | omega | (simp only [List.length_map]; omega))) ?_)
      | (guard_target = Arith _ _ _; refine Arith.fit (by decide) ?_)
      | (guard_target = Index _ _ _; first  | refine Index.mk _ (idx_map (by omega)) ?_)
      | (guard_target = Need (chkDraw _ = true) _; refine Need.mk (by kernel_rfl) ?_)
      | (guard_target = Need (chkRecs _ _ = true) _; refine Need.mk (by first | kernel_rfl | rfl) ?_)
      | (guard_target = Need _ _; refine Need.mk (by first  | omega | (simp only [List.length_map]; omega)) ?_))
  case pos =>
    rw [szr_eq hl] at hz
    have hs : CallF Tryz.prog 13 [.a 4 (roL (ownArchive a))] (B (goodArch a)) := by rw [roArchive]; exact specValidArchive_ok a hl
    have hi : CallF Tryz.prog 15 [.a 4 (roL (ownArchive a))] (B (goodArch a)) := by rw [roArchive]; exact ValidArchive_ok a hl
    refine callF_of_vc htb hm Tryz.func3 rfl rfl rfl rfl (ann := fun _ => none) (gh := fun _ => false) ?_
    repeat' ((conv => whnf); first
      | (guard_target = Done _; refine Done.mk ?_; first | (rfl; done) | ((exfalso; simp at h; done); done) | skip)
      | (guard_target = RetX _ _; refine RetX.mk ?_ ?_)
      | (guard_target = Fact _ _; refine Fact.mk fun hL => ?_; (try simp only [List.length_map, maxLen] at hL))
      | (guard_target = Branch _ _ _; (first | refine Branch.dec (fun h => ?_) (fun h => ?_) | refine Branch.beq (fun h => ?_) (fun h => ?_) | refine Branch.bne (fun h => ?_) (fun h => ?_) | refine Branch.ndec (fun h => ?_) (fun h => ?_) | refine Branch.nb (fun h => ?_) (fun h => ?_) | refine Branch.mk (fun h => ?_) (fun h => ?_)) <;> (try simp only [List.length_map] at h) <;> (try omega) <;> (try contradiction))
      | (guard_target = CallN _ 12 _ _ _ _; refine CallN.pure _ _ rfl (hz) rfl _ rfl ?_)
      | (guard_target = CallN _ 14 _ _ _ _; refine CallN.gen [] _ _ _ rfl (toArchive_ok a hl) rfl rfl _ rfl ?_)
      | (guard_target = CallN _ 13 _ _ _ _; refine CallN.pure _ _ rfl (hs) rfl _ rfl ?_)
      | (guard_target = CallN _ 15 _ _ _ _; refine CallN.pure _ _ rfl (hi) rfl _ rfl ?_)
      | (guard_target = CallN _ 16 _ _ _ _; refine CallN.pure _ _ rfl (eqArch_own a) rfl _ rfl ?_)
      | (guard_target = Arith _ _ _; refine Arith.fit (wrap_fit (by first | omega | (simp only [List.length_map]; omega)) (by first | omega | (simp only [List.length_map]; omega))) ?_)
      | (guard_target = Arith _ _ _; refine Arith.fit (by decide) ?_)
      | (guard_target = Index _ _ _; first  | refine Index.mk _ (idx_map (by omega)) ?_)
      | (guard_target = Need (chkDraw _ = true) _; refine Need.mk (by kernel_rfl) ?_)
      | (guard_target = Need (chkRecs _ _ = true) _; refine Need.mk (by first | kernel_rfl | rfl) ?_)
      | (guard_target = Need _ _; refine Need.mk (by first  | omega | (simp only [List.length_map]; omega)) ?_))
end Go.Proofs.YtbbaadkgmdkjdaaGreat
