/- Contracts of the functions that mark and look over a new archive. No conditions. -/
import Derived.Test.YtbbaadkgmdkjdaaLc
namespace Go.Proofs.Ytbbaadkgmdkjdaa
open Go Go.KA Go.Proofs
theorem markNoteS_nil (k : Int) : CallF Try.prog 81 [.c (.ro 7 []), I k] (I k) := by
  refine callF_of_vc htb hm Try.func81 rfl rfl rfl rfl (ann := fun k' => match k' with | 2 => some { α := Unit, keep := [0], ov := fun _ => [(5, I 0), (1, I k)], φ := fun _ => True, μ := fun _ => 0 } | _ => none) (gh := fun _ => false) ?_
  refine LoopN.mk () trivial ⟨⟨rfl, rfl⟩, ⟨rfl, rfl⟩, trivial⟩ ⟨⟨rfl, rfl⟩, trivial⟩ trivial ?_ (fun _ => rfl)
  intro _ _
  refine Fact.mk fun _ => ?_
  refine Branch.mk (fun h => ?_) (fun _ => ?_)
  · simp at h
  exact Done.mk rfl
theorem heldNoteS_nil (k : Int) : CallF Try.prog 83 [.c (.ro 7 []), I k] (I k) := by
  refine callF_of_vc htb hm Try.func83 rfl rfl rfl rfl (ann := fun k' => match k' with | 2 => some { α := Unit, keep := [0], ov := fun _ => [(5, I 0), (1, I k)], φ := fun _ => True, μ := fun _ => 0 } | _ => none) (gh := fun _ => false) ?_
  refine LoopN.mk () trivial ⟨⟨rfl, rfl⟩, ⟨rfl, rfl⟩, trivial⟩ ⟨⟨rfl, rfl⟩, trivial⟩ trivial ?_ (fun _ => rfl)
  intro _ _
  refine Fact.mk fun _ => ?_
  refine Branch.mk (fun h => ?_) (fun _ => ?_)
  · simp at h
  exact Done.mk rfl
theorem markPacketS_nil (k : Int) : CallF Try.prog 39 [.c (.ro 8 []), I k] (I k) := by
  refine callF_of_vc htb hm Try.func39 rfl rfl rfl rfl (ann := fun k' => match k' with | 2 => some { α := Unit, keep := [0], ov := fun _ => [(5, I 0), (1, I k)], φ := fun _ => True, μ := fun _ => 0 } | _ => none) (gh := fun _ => false) ?_
  refine LoopN.mk () trivial ⟨⟨rfl, rfl⟩, ⟨rfl, rfl⟩, trivial⟩ ⟨⟨rfl, rfl⟩, trivial⟩ trivial ?_ (fun _ => rfl)
  intro _ _
  refine Fact.mk fun _ => ?_
  refine Branch.mk (fun h => ?_) (fun _ => ?_)
  · simp at h
  exact Done.mk rfl
theorem heldPacketS_nil (k : Int) : CallF Try.prog 41 [.c (.ro 8 []), I k] (I k) := by
  refine callF_of_vc htb hm Try.func41 rfl rfl rfl rfl (ann := fun k' => match k' with | 2 => some { α := Unit, keep := [0], ov := fun _ => [(5, I 0), (1, I k)], φ := fun _ => True, μ := fun _ => 0 } | _ => none) (gh := fun _ => false) ?_
  refine LoopN.mk () trivial ⟨⟨rfl, rfl⟩, ⟨rfl, rfl⟩, trivial⟩ ⟨⟨rfl, rfl⟩, trivial⟩ trivial ?_ (fun _ => rfl)
  intro _ _
  refine Fact.mk fun _ => ?_
  refine Branch.mk (fun h => ?_) (fun _ => ?_)
  · simp at h
  exact Done.mk rfl
def mrow (j : Nat) : List CV := [.val (.bool (((2 * j + 1 : Nat) : Int).tmod 3 == 0)), eNotes, J (((2 * j + 1 : Nat) : Int) + 1)]
def mkd (n i : Nat) : List (List CV) := (List.range n).map fun j => if j < i then mrow j else srv
theorem mkd_zero (n : Nat) : List.replicate n srv = mkd n 0 := by
  apply List.ext_getElem?
  intro j
  unfold mkd
  rw [List.getElem?_replicate, List.getElem?_map]
  by_cases h : j < n <;> simp [h]
theorem mkd_get {n i : Nat} (h : i < n) : (mkd n i)[i]? = some srv := by
  simp [mkd, h]
theorem mkd_set {n i : Nat} (h : i < n) : (mkd n i).set i (mrow i) = mkd n (i + 1) := by
  apply List.ext_getElem?
  intro j
  unfold mkd
  rw [List.getElem?_set]
  by_cases hij : i = j
  · subst hij
    simp [h]
  · rw [if_neg hij, List.getElem?_map, List.getElem?_map]
    by_cases hj : j < n
    · simp only [List.getElem?_range hj, Option.map_some]
      by_cases h1 : j < i
      · rw [if_pos h1, if_pos (by omega)]
      · rw [if_neg h1, if_neg (by omega)]
    · rw [List.getElem?_eq_none (by simpa using hj)]
      rfl
theorem mkd_len (n i : Nat) : (mkd n i).length = n := by simp [mkd]
theorem set_get {α : Type} {l : List α} {i : Nat} {x : α} (h : i < l.length) : (l.set i x)[i]? = some x := by
  simp [h]
theorem markServerS_new (n : Nat) (hn : n ≤ 5) : CallX Try.prog 38 [.c (.own 83 3 (List.replicate n srv)), I 1] [some [.own 83 3 (mkd n n)], none] (I ((2 * n + 1 : Nat) : Int)) := by
  refine callX_of_vc htb hm Try.func38 rfl rfl rfl rfl (ann := fun k' => match k' with | 2 => some { α := Nat, keep := [0], ov := fun i => [(5, I i), (1, I ((2 * i + 1 : Nat) : Int))], hv := fun i => [(0, .orow none 83 3 (mkd n i))], φ := fun i => i ≤ n, μ := fun i => n - i } | _ => none) (gh := fun _ => false) ?_
  refine LoopN.mk (0 : Nat) (Nat.zero_le _) ⟨⟨rfl, rfl⟩, ⟨rfl, rfl⟩, trivial⟩ ⟨⟨rfl, rfl⟩, trivial⟩ ⟨⟨congrArg (Blk.orow none 83 3) (mkd_zero n), rfl⟩, trivial⟩ ?_ (fun _ => rfl)
  intro (i : Nat) (hi : i ≤ n)
  refine Fact.mk fun _ => ?_
  refine Branch.mk (fun h => ?_) (fun h => ?_)
  · have h := of_decide_eq_true h
    rw [mkd_len] at h
    have hi' : i < n := by omega
    refine Need.mk (by decide) (Need.mk ⟨by omega, by rw [mkd_len]; exact hi'⟩ (Index.mk srv (mkd_get hi') ?_))
    refine Arith.fit (wrap_fit (by omega) (by omega)) ?_
    refine Need.mk ⟨by omega, by rw [List.length_set, mkd_len]; exact hi'⟩ (Index.mk _ (set_get (by rw [mkd_len]; exact hi')) fun v => ?_)
    refine CallN.pure _ _ rfl (markNoteS_nil _) rfl _ rfl ?_
    refine Need.mk ⟨by omega, by rw [List.length_set, List.length_set, mkd_len]; exact hi'⟩ (Index.mk _ (set_get (by rw [List.length_set, mkd_len]; exact hi')) ?_)
    refine Arith.fit (wrap_fit (by omega) (by omega)) (Arith.fit (wrap_fit (by omega) (by omega)) ?_)
    refine Gh.closes 0 i 1 1 rfl (set_get (by rw [List.length_set, List.length_set, mkd_len]; exact hi')) rfl rfl rfl ?_
    refine Gh.go ⟨i + 1, hi', (by show n - (i + 1) < n - i; omega), ⟨⟨rfl, rfl⟩, ⟨?_, rfl⟩, trivial⟩, ⟨⟨rfl, rfl⟩, trivial⟩, ⟨⟨?_, rfl⟩, trivial⟩⟩
    · refine congrArg I ?_
      omega
    · refine congrArg (Blk.orow none 83 3) ?_
      rw [Int.toNat_natCast, List.set_set, List.set_set, List.set_set]
      exact mkd_set hi'
  · have h := of_decide_eq_false h
    rw [mkd_len] at h
    have : i = n := by omega
    subst this
    exact RetX.mk rfl ⟨rfl, trivial⟩

abbrev mrowR (j : Nat) : List CV := [.val (.bool (((2 * j + 1 : Nat) : Int).tmod 3 == 0)), .ro 7 [], J (((2 * j + 1 : Nat) : Int) + 1)]
theorem roLL_rep (n : Nat) : roLL (List.replicate n srv) = List.replicate n srvR := by
  rw [roLL_map, List.map_replicate]
  rfl
theorem roLL_mkd_get {n i : Nat} (h : i < n) : (roLL (mkd n n))[i]? = some (mrowR i) := by
  rw [roLL_map]
  simp [mkd, h]
  rfl
theorem roLL_mkd_len (n : Nat) : (roLL (mkd n n)).length = n := by
  rw [roLL_map]
  simp [mkd]
theorem heldServerS_new (n : Nat) (hn : n ≤ 5) : CallF Try.prog 40 [.c (.ro 3 (roLL (mkd n n))), I 1] (I ((2 * n + 1 : Nat) : Int)) := by
  refine callF_of_vc htb hm Try.func40 rfl rfl rfl rfl (ann := fun k' => match k' with | 2 => some { α := Nat, keep := [0], ov := fun i => [(5, I i), (1, I ((2 * i + 1 : Nat) : Int))], φ := fun i => i ≤ n, μ := fun i => n - i } | _ => none) (gh := fun _ => false) ?_
  refine LoopN.mk (0 : Nat) (Nat.zero_le _) ⟨⟨rfl, rfl⟩, ⟨rfl, rfl⟩, trivial⟩ ⟨⟨rfl, rfl⟩, trivial⟩ trivial ?_ (fun _ => rfl)
  intro (i : Nat) (hi : i ≤ n)
  refine Fact.mk fun _ => ?_
  refine Branch.mk (fun h => ?_) (fun h => ?_)
  · have h := of_decide_eq_true h
    rw [roLL_mkd_len] at h
    have hi' : i < n := by omega
    refine Need.mk (by omega) (Index.mk _ (roLL_mkd_get hi') ?_)
    refine Need.mk (by decide) ?_
    refine Branch.mk (fun hb => ?_) (fun _ => ?_)
    · simp at hb
    refine Arith.fit (wrap_fit (by omega) (by omega)) ?_
    refine Need.mk (by omega) (Index.mk _ (roLL_mkd_get hi') ?_)
    refine CallN.pure _ _ rfl (heldNoteS_nil _) rfl _ rfl ?_
    refine Branch.mk (fun hb => ?_) (fun _ => ?_)
    · have hb := of_decide_eq_true hb
      omega
    refine Need.mk (by omega) (Index.mk _ (roLL_mkd_get hi') ?_)
    refine Branch.mk (fun hb => ?_) (fun _ => ?_)
    · simp at hb
    refine Arith.fit (wrap_fit (by omega) (by omega)) (Arith.fit (wrap_fit (by omega) (by omega)) ?_)
    refine Gh.go ⟨i + 1, hi', (by show n - (i + 1) < n - i; omega), ⟨⟨rfl, rfl⟩, ⟨?_, rfl⟩, trivial⟩, ⟨⟨rfl, rfl⟩, trivial⟩, trivial⟩
    refine congrArg I ?_
    omega
  · have h := of_decide_eq_false h
    rw [roLL_mkd_len] at h
    have : i = n := by omega
    subst this
    exact Done.mk rfl
theorem markServerS_nil (k : Int) : CallF Try.prog 38 [.c (.ro 3 []), I k] (I k) := by
  refine callF_of_vc htb hm Try.func38 rfl rfl rfl rfl (ann := fun k' => match k' with | 2 => some { α := Unit, keep := [0], ov := fun _ => [(5, I 0), (1, I k)], φ := fun _ => True, μ := fun _ => 0 } | _ => none) (gh := fun _ => false) ?_
  refine LoopN.mk () trivial ⟨⟨rfl, rfl⟩, ⟨rfl, rfl⟩, trivial⟩ ⟨⟨rfl, rfl⟩, trivial⟩ trivial ?_ (fun _ => rfl)
  intro _ _
  refine Fact.mk fun _ => ?_
  refine Branch.mk (fun h => ?_) (fun _ => ?_)
  · simp at h
  exact Done.mk rfl
theorem heldServerS_nil (k : Int) : CallF Try.prog 40 [.c (.ro 3 []), I k] (I k) := by
  refine callF_of_vc htb hm Try.func40 rfl rfl rfl rfl (ann := fun k' => match k' with | 2 => some { α := Unit, keep := [0], ov := fun _ => [(5, I 0), (1, I k)], φ := fun _ => True, μ := fun _ => 0 } | _ => none) (gh := fun _ => false) ?_
  refine LoopN.mk () trivial ⟨⟨rfl, rfl⟩, ⟨rfl, rfl⟩, trivial⟩ ⟨⟨rfl, rfl⟩, trivial⟩ trivial ?_ (fun _ => rfl)
  intro _ _
  refine Fact.mk fun _ => ?_
  refine Branch.mk (fun h => ?_) (fun _ => ?_)
  · simp at h
  exact Done.mk rfl
theorem markArchive_nil : CallF Try.prog 10 [.a 4 [J 0, J 0, .ro 3 [], .ro 8 []], I 1] (I 1) := by
  refine callF_of_vc htb hm Try.func10 rfl rfl rfl rfl (ann := fun _ => none) (gh := fun _ => false) ?_
  refine CallN.pure _ _ rfl (markServerS_nil _) rfl _ rfl ?_
  refine CallN.pure _ _ rfl (markPacketS_nil _) rfl _ rfl ?_
  exact Done.mk rfl
theorem heldArchive_nil : CallF Try.prog 11 [.a 4 [J 0, J 0, .ro 3 [], .ro 8 []], I 1] (I 1) := by
  refine callF_of_vc htb hm Try.func11 rfl rfl rfl rfl (ann := fun _ => none) (gh := fun _ => false) ?_
  refine CallN.pure _ _ rfl (heldServerS_nil _) rfl _ rfl ?_
  refine Branch.mk (fun h => ?_) (fun _ => ?_)
  · simp at h
  refine CallN.pure _ _ rfl (heldPacketS_nil _) rfl _ rfl ?_
  refine Branch.mk (fun h => ?_) (fun _ => ?_)
  · simp at h
  exact Done.mk rfl
theorem heldArchive_new (a b : Int) (n : Nat) (hn : n ≤ 5) : CallF Try.prog 11 [.a 4 [J a, J b, .ro 3 (roLL (mkd n n)), .ro 8 []], I 1] (I ((2 * n + 1 : Nat) : Int)) := by
  refine callF_of_vc htb hm Try.func11 rfl rfl rfl rfl (ann := fun _ => none) (gh := fun _ => false) ?_
  refine CallN.pure _ _ rfl (heldServerS_new n hn) rfl _ rfl ?_
  refine Branch.mk (fun h => ?_) (fun _ => ?_)
  · have h := of_decide_eq_true h
    omega
  refine CallN.pure _ _ rfl (heldPacketS_nil _) rfl _ rfl ?_
  refine Branch.mk (fun h => ?_) (fun _ => ?_)
  · have h := of_decide_eq_true h
    omega
  exact Done.mk rfl
theorem markArchive_new (a b : Int) (n : Nat) (hn : n ≤ 5) : CallX Try.prog 10 [.m [.c (J a), .c (J b), .c (.own 83 3 (List.replicate n srv)), .c eFly], I 1] [some [J a, J b, .own 83 3 (mkd n n), eFly], none] (I ((2 * n + 1 : Nat) : Int)) := by
  refine callX_of_vc htb hm Try.func10 rfl rfl rfl rfl (ann := fun _ => none) (gh := fun _ => false) ?_
  refine CallN.gen [true, false] _ [some [.own 83 3 (mkd n n)], none] _ rfl (markServerS_new n hn) rfl rfl _ rfl ?_
  refine CallN.pure _ _ rfl (markPacketS_nil _) rfl _ rfl ?_
  exact RetX.mk rfl ⟨rfl, trivial⟩
theorem eqArchive_new' (a b : Int) (n : Nat) (hn : n ≤ 5) : CallF Try.prog 9 [.a 4 [J a, J b, .ro 3 (roLL (List.replicate n srv)), .ro 8 []], .a 4 [J a, J b, .ro 3 (roLL (List.replicate n srv)), .ro 8 []]] (B true) := by
  rw [roLL_rep]
  exact eqArchive_new a b n hn
end Go.Proofs.Ytbbaadkgmdkjdaa
