/- The law of NewArchive answers true, for every signature and every number of servers. No conditions. -/
import Derived.Test.YtbbaadkgmdkjdaaLd
namespace Go.Proofs.Ytbbaadkgmdkjdaa
open Go Go.KA Go.Proofs
theorem pureLL_of : ∀ {l : List (List CV)}, (∀ r ∈ l, pureL r) → pureLL l
  | [], _ => trivial
  | r :: rs, h => ⟨h r (by simp), pureLL_of fun r' hr' => h r' (by simp [hr'])⟩
theorem pure_nil (c : Int) : pureT (.tup [nilA, I c]) := by
  simp [pureT, pureV, pureC, pureLL]
theorem pure_new (a b : Int) (n : Nat) : pureT (.tup [newA a b n, I 0]) := by
  have : pureLL (List.replicate n srv) := pureLL_of fun r hr => by
    rw [List.eq_of_mem_replicate hr]
    simp [pureL, pureC, pureLL]
  simp [pureT, pureV, pureC, pureLL, this]
set_option maxHeartbeats 4000000 in
theorem law1 (a b n c : Int) (hi : CallX Try.prog 8 [.a 2 [J a, J b], I n] [] (.tup [nilA, I c])) (hs : CallX Try.prog 6 [.a 2 [J a, J b], I n] [] (.tup [nilA, I c])) :
    CallF Try.prog 3 [.a 2 [J a, J b], I n] (B true) := by
  refine callF_of_vc htb hm Try.func3 rfl rfl rfl rfl (ann := fun _ => none) (gh := fun _ => false) ?_
  refine CallN.pure _ _ rfl (toSig_ok a b) rfl _ rfl ?_
  refine CallN.own _ _ rfl hs (pure_nil _) _ rfl ?_
  refine CallN.pure _ _ rfl (toSig_ok a b) rfl _ rfl ?_
  refine CallN.own _ _ rfl hi (pure_nil _) _ rfl ?_
  refine CallN.pure _ _ rfl (eqArchive_new 0 0 0 (by omega)) rfl _ rfl ?_
  refine Branch.mk (fun h => ?_) (fun _ => ?_)
  · simp at h
  refine Branch.mk (fun h => ?_) (fun _ => ?_)
  · simp at h
  refine CallN.pure _ _ rfl markArchive_nil rfl _ rfl ?_
  refine CallN.pure _ _ rfl heldArchive_nil rfl _ rfl ?_
  refine Branch.mk (fun h => ?_) (fun _ => ?_)
  · have h := of_decide_eq_true h
    omega
  refine Branch.mk (fun h => ?_) (fun _ => ?_)
  · simp at h
  refine CallN.pure _ _ rfl (toSig_ok a b) rfl _ rfl ?_
  refine CallN.own _ _ rfl hi (pure_nil _) _ rfl ?_
  refine CallN.pure _ _ rfl (eqArchive_new 0 0 0 (by omega)) rfl _ rfl ?_
  refine Branch.mk (fun h => ?_) (fun _ => ?_)
  · simp at h
  refine Branch.mk (fun h => ?_) (fun _ => ?_)
  · simp at h
  refine CallN.pure _ _ rfl heldArchive_nil rfl _ rfl ?_
  refine Branch.mk (fun h => ?_) (fun _ => ?_)
  · have h := of_decide_eq_true h
    omega
  refine Branch.mk (fun h => ?_) (fun _ => ?_)
  · simp at h
  exact Done.mk rfl
set_option maxHeartbeats 4000000 in
theorem law3 (a b n : Int) (hn : n.toNat ≤ 5) (hi : CallX Try.prog 8 [.a 2 [J a, J b], I n] [] (.tup [newA a b n.toNat, I 0])) (hs : CallX Try.prog 6 [.a 2 [J a, J b], I n] [] (.tup [newA a b n.toNat, I 0])) :
    CallF Try.prog 3 [.a 2 [J a, J b], I n] (B true) := by
  refine callF_of_vc htb hm Try.func3 rfl rfl rfl rfl (ann := fun _ => none) (gh := fun _ => false) ?_
  refine CallN.pure _ _ rfl (toSig_ok a b) rfl _ rfl ?_
  refine CallN.own _ _ rfl hs (pure_new _ _ _) _ rfl ?_
  refine CallN.pure _ _ rfl (toSig_ok a b) rfl _ rfl ?_
  refine CallN.own _ _ rfl hi (pure_new _ _ _) _ rfl ?_
  refine CallN.pure _ _ rfl (eqArchive_new' a b n.toNat hn) rfl _ rfl ?_
  refine Branch.mk (fun h => ?_) (fun _ => ?_)
  · simp at h
  refine Branch.mk (fun h => ?_) (fun _ => ?_)
  · simp at h
  refine CallN.gen [true, false] _ [some [J a, J b, .own 83 3 (mkd n.toNat n.toNat), eFly], none] _ rfl (markArchive_new a b n.toNat hn) rfl rfl _ rfl ?_
  refine CallN.pure _ _ rfl (heldArchive_new a b n.toNat hn) rfl _ rfl ?_
  refine Branch.mk (fun h => ?_) (fun _ => ?_)
  · have h := of_decide_eq_true h
    omega
  refine Branch.mk (fun h => ?_) (fun _ => ?_)
  · simp at h
  refine CallN.pure _ _ rfl (toSig_ok a b) rfl _ rfl ?_
  refine CallN.own _ _ rfl hi (pure_new _ _ _) _ rfl ?_
  refine CallN.pure _ _ rfl (eqArchive_new' a b n.toNat hn) rfl _ rfl ?_
  refine Branch.mk (fun h => ?_) (fun _ => ?_)
  · simp at h
  refine Branch.mk (fun h => ?_) (fun _ => ?_)
  · simp at h
  refine CallN.pure _ _ rfl (heldArchive_new a b n.toNat hn) rfl _ rfl ?_
  refine Branch.mk (fun h => ?_) (fun _ => ?_)
  · have h := of_decide_eq_true h
    omega
  refine Branch.mk (fun h => ?_) (fun _ => ?_)
  · simp at h
  exact Done.mk rfl
theorem newArchive_law (a b n : Int) : CallF Try.prog 3 [.a 2 [J a, J b], I n] (B true) := by
  cases h1 : goodSig a b with
  | false => exact law1 a b n 1 (implNew1 a b n h1) (specNew1 a b n h1)
  | true =>
    cases h2 : rng 1 5 n with
    | false => exact law1 a b n 2 (implNew2 a b n h1 h2) (specNew2 a b n h1 h2)
    | true =>
      have hn := rng5 h2
      exact law3 a b n (by omega) (implNew3 a b n h1 h2) (specNew3 a b n h1 h2)
end Go.Proofs.Ytbbaadkgmdkjdaa
