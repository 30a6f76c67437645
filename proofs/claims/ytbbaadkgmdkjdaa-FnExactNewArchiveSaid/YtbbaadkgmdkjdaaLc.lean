/- Contracts of the functions that build, compare, mark and look over a new archive. No conditions. -/
import Derived.Test.YtbbaadkgmdkjdaaTb
namespace Go.Proofs.Ytbbaadkgmdkjdaa
open Go Go.KA Go.Proofs
theorem hm : Try.prog.follows .mixedOrders = true := by kernel_rfl
abbrev I (n : Int) : SV := .c (.val (.int .i64 n))
abbrev B (b : Bool) : SV := .c (.val (.bool b))
abbrev J (n : Int) : CV := .val (.int .i64 n)
theorem wrap_fit {z : Int} (h1 : -9223372036854775808 ≤ z) (h2 : z ≤ 9223372036854775807) : IntKind.i64.wrap z = z := by
  simp only [IntKind.wrap, IntKind.bits, IntKind.signed, Bool.true_and]
  have : z % 2 ^ 64 = z ∨ z % 2 ^ 64 = z + 2 ^ 64 := by omega
  split <;> rename_i h
  · have h := of_decide_eq_true h; omega
  · have h := of_decide_eq_false (eq_false_of_ne_true h); omega
def rng (lo hi n : Int) : Bool := decide (lo ≤ n) && decide (n ≤ hi)
theorem within_ok (n lo hi : Int) : CallF Try.prog 34 [I n, I lo, I hi] (B (rng lo hi n)) := by
  refine callF_of_vc htb hm Try.func34 rfl rfl rfl rfl (ann := fun _ => none) (gh := fun _ => false) ?_
  refine Branch.mk (fun h => ?_) (fun h => ?_)
  · refine Done.mk ?_
    unfold rng; rw [h]; rfl
  · refine Done.mk ?_
    unfold rng; rw [h]; rfl
theorem l00In_ok (n lo hi : Int) : CallF Try.prog 32 [I n, I lo, I hi] (B (rng lo hi n)) := by
  refine callF_of_vc htb hm Try.func32 rfl rfl rfl rfl (ann := fun _ => none) (gh := fun _ => false) ?_
  refine Branch.mk (fun h => ?_) (fun h => ?_)
  · have h1 : decide (lo ≤ n) = true := by simpa using h
    refine Done.mk ?_
    unfold rng; rw [h1]; rfl
  · have h1 : decide (lo ≤ n) = false := by simpa using h
    refine Done.mk ?_
    unfold rng; rw [h1]; rfl
def goodSig (a b : Int) : Bool := rng 0 3 a && rng 0 4 b
theorem validSig_ok (a b : Int) : CallF Try.prog 33 [.a 2 [J a, J b]] (B (goodSig a b)) := by
  refine callF_of_vc htb hm Try.func33 rfl rfl rfl rfl (ann := fun _ => none) (gh := fun _ => false) ?_
  refine CallN.pure _ _ rfl (within_ok _ _ _) rfl _ rfl ?_
  refine Branch.mk (fun h => ?_) (fun h => ?_)
  · refine CallN.pure _ _ rfl (within_ok _ _ _) rfl _ rfl ?_
    refine Done.mk ?_
    unfold goodSig; rw [h]; rfl
  · refine Done.mk ?_
    unfold goodSig; rw [h]; rfl
theorem l01Sig_ok (a b : Int) : CallF Try.prog 31 [.a 2 [J a, J b]] (B (goodSig a b)) := by
  refine callF_of_vc htb hm Try.func31 rfl rfl rfl rfl (ann := fun _ => none) (gh := fun _ => false) ?_
  refine CallN.pure _ _ rfl (l00In_ok _ _ _) rfl _ rfl ?_
  refine Branch.mk (fun h => ?_) (fun h => ?_)
  · refine CallN.pure _ _ rfl (l00In_ok _ _ _) rfl _ rfl ?_
    refine Done.mk ?_
    unfold goodSig; rw [h]; rfl
  · refine Done.mk ?_
    unfold goodSig; rw [h]; rfl
theorem toSig_ok (a b : Int) : CallF Try.prog 7 [.a 2 [J a, J b]] (.a 2 [J a, J b]) := by
  refine callF_of_vc htb hm Try.func7 rfl rfl rfl rfl (ann := fun _ => none) (gh := fun _ => false) ?_
  exact Done.mk rfl
theorem eqSig_ok (a b : Int) : CallF Try.prog 35 [.a 2 [J a, J b], .a 2 [J a, J b]] (B true) := by
  refine callF_of_vc htb hm Try.func35 rfl rfl rfl rfl (ann := fun _ => none) (gh := fun _ => false) ?_
  refine Branch.mk (fun h => ?_) (fun _ => ?_)
  · simp at h
  refine Branch.mk (fun h => ?_) (fun _ => ?_)
  · simp at h
  exact Done.mk rfl

/-! ### Archives -/
abbrev eNotes : CV := .ows 136 7 []
abbrev eFly : CV := .ows 138 8 []
abbrev srv : List CV := [.val (.bool true), eNotes, J 0]
abbrev nilA : SV := .a 4 [J 0, J 0, .ows 83 3 [], eFly]
abbrev newA (a b : Int) (n : Nat) : SV := .a 4 [J a, J b, .own 83 3 (List.replicate n srv), eFly]
theorem implNew1 (a b n : Int) (h1 : goodSig a b = false) : CallX Try.prog 8 [.a 2 [J a, J b], I n] [] (.tup [nilA, I 1]) := by
  refine callX_of_vc htb hm Try.func8 rfl rfl rfl rfl (ann := fun _ => none) (gh := fun _ => false) ?_
  refine CallN.pure _ _ rfl (validSig_ok _ _) rfl _ rfl ?_
  refine Branch.mk (fun _ => ?_) (fun h => ?_)
  · exact RetX.mk rfl trivial
  · rw [h1] at h; cases h
theorem specNew1 (a b n : Int) (h1 : goodSig a b = false) : CallX Try.prog 6 [.a 2 [J a, J b], I n] [] (.tup [nilA, I 1]) := by
  refine callX_of_vc htb hm Try.func6 rfl rfl rfl rfl (ann := fun _ => none) (gh := fun _ => false) ?_
  refine CallN.pure _ _ rfl (l01Sig_ok _ _) rfl _ rfl ?_
  refine Branch.mk (fun _ => ?_) (fun h => ?_)
  · exact RetX.mk rfl trivial
  · rw [h1] at h; cases h
theorem implNew2 (a b n : Int) (h1 : goodSig a b = true) (h2 : rng 1 5 n = false) : CallX Try.prog 8 [.a 2 [J a, J b], I n] [] (.tup [nilA, I 2]) := by
  refine callX_of_vc htb hm Try.func8 rfl rfl rfl rfl (ann := fun _ => none) (gh := fun _ => false) ?_
  refine CallN.pure _ _ rfl (validSig_ok _ _) rfl _ rfl ?_
  refine Branch.mk (fun h => ?_) (fun _ => ?_)
  · rw [h1] at h; cases h
  refine CallN.pure _ _ rfl (within_ok _ _ _) rfl _ rfl ?_
  refine Branch.mk (fun _ => ?_) (fun h => ?_)
  · exact RetX.mk rfl trivial
  · rw [h2] at h; cases h
theorem specNew2 (a b n : Int) (h1 : goodSig a b = true) (h2 : rng 1 5 n = false) : CallX Try.prog 6 [.a 2 [J a, J b], I n] [] (.tup [nilA, I 2]) := by
  refine callX_of_vc htb hm Try.func6 rfl rfl rfl rfl (ann := fun _ => none) (gh := fun _ => false) ?_
  refine CallN.pure _ _ rfl (l01Sig_ok _ _) rfl _ rfl ?_
  refine Branch.mk (fun h => ?_) (fun _ => ?_)
  · rw [h1] at h; cases h
  refine CallN.pure _ _ rfl (l00In_ok _ _ _) rfl _ rfl ?_
  refine Branch.mk (fun _ => ?_) (fun h => ?_)
  · exact RetX.mk rfl trivial
  · rw [h2] at h; cases h
theorem rng5 {n : Int} (h : rng 1 5 n = true) : 1 ≤ n ∧ n ≤ 5 := by
  simpa [rng] using h
theorem implNew3 (a b n : Int) (h1 : goodSig a b = true) (h2 : rng 1 5 n = true) : CallX Try.prog 8 [.a 2 [J a, J b], I n] [] (.tup [newA a b n.toNat, I 0]) := by
  have hn := rng5 h2
  refine callX_of_vc htb hm Try.func8 rfl rfl rfl rfl (ann := fun k => match k with | 7 => some { α := Nat, keep := [4, 6, 17], ov := fun i => [(18, I i)], hv := fun i => [(4, .orow none 83 3 (List.replicate i srv))], φ := fun i => i ≤ n.toNat, μ := fun i => n.toNat - i } | _ => none) (gh := fun _ => false) ?_
  refine CallN.pure _ _ rfl (validSig_ok _ _) rfl _ rfl ?_
  refine Branch.mk (fun h => ?_) (fun _ => ?_)
  · rw [h1] at h; cases h
  refine CallN.pure _ _ rfl (within_ok _ _ _) rfl _ rfl ?_
  refine Branch.mk (fun h => ?_) (fun _ => ?_)
  · rw [h2] at h; cases h
  refine LoopN.mk (0 : Nat) (Nat.zero_le _) ⟨⟨rfl, rfl⟩, trivial⟩ ⟨⟨rfl, rfl⟩, ⟨rfl, rfl⟩, ⟨rfl, rfl⟩, trivial⟩ ⟨⟨rfl, rfl⟩, ⟨rfl, rfl⟩, ⟨rfl, rfl⟩, ⟨rfl, rfl⟩, ⟨⟨⟨rfl, rfl⟩, rfl, rfl⟩, rfl⟩, ⟨rfl, rfl⟩, ⟨rfl, rfl⟩, ⟨rfl, rfl⟩, ⟨rfl, rfl⟩, trivial⟩ ?_ (fun _ => rfl)
  intro (i : Nat) (hi : i ≤ n.toNat)
  refine Branch.mk (fun h => ?_) (fun h => ?_)
  · have h : (i : Int) < n := of_decide_eq_true h
    refine Fact.mk fun hL => Need.mk ?_ ?_
    · simp only [List.length_replicate]
      exact ⟨by simp only [maxLen]; simp; omega, by simp; omega⟩
    refine Arith.fit (wrap_fit (by omega) (by omega)) ?_
    refine Gh.go ⟨i + 1, (by show i + 1 ≤ n.toNat; omega), (by show n.toNat - (i + 1) < n.toNat - i; omega), ⟨⟨rfl, rfl⟩, trivial⟩, ⟨⟨rfl, rfl⟩, ⟨rfl, rfl⟩, ⟨rfl, rfl⟩, trivial⟩, ⟨⟨rfl, rfl⟩, ⟨rfl, rfl⟩, ⟨rfl, rfl⟩, ⟨rfl, rfl⟩, ⟨?_, rfl⟩, ⟨rfl, rfl⟩, ⟨rfl, rfl⟩, ⟨rfl, rfl⟩, ⟨rfl, rfl⟩, trivial⟩⟩
    exact congrArg (Blk.orow none 83 3) List.replicate_succ'.symm
  · have h : ¬ (i : Int) < n := of_decide_eq_false h
    have : i = n.toNat := by omega
    subst this
    exact RetX.mk rfl trivial
set_option maxHeartbeats 4000000 in
theorem specNew3 (a b n : Int) (h1 : goodSig a b = true) (h2 : rng 1 5 n = true) : CallX Try.prog 6 [.a 2 [J a, J b], I n] [] (.tup [newA a b n.toNat, I 0]) := by
  have hn := rng5 h2
  refine callX_of_vc htb hm Try.func6 rfl rfl rfl rfl (ann := fun k => match k with | 7 => some { α := Nat, keep := [1, 4, 6], ov := fun i => [(7, I i)], hv := fun i => [(5, .orow none 83 3 (List.replicate i srv))], φ := fun i => i ≤ n.toNat, μ := fun i => n.toNat - i } | _ => none) (gh := fun _ => false) ?_
  refine CallN.pure _ _ rfl (l01Sig_ok _ _) rfl _ rfl ?_
  refine Branch.mk (fun h => ?_) (fun _ => ?_)
  · rw [h1] at h; cases h
  refine CallN.pure _ _ rfl (l00In_ok _ _ _) rfl _ rfl ?_
  refine Branch.mk (fun h => ?_) (fun _ => ?_)
  · rw [h2] at h; cases h
  refine LoopN.mk (0 : Nat) (Nat.zero_le _) ⟨⟨rfl, rfl⟩, trivial⟩ ⟨⟨rfl, rfl⟩, ⟨rfl, rfl⟩, ⟨rfl, rfl⟩, trivial⟩ ⟨⟨rfl, rfl⟩, ⟨rfl, rfl⟩, ⟨rfl, rfl⟩, ⟨rfl, rfl⟩, ⟨⟨⟨rfl, rfl⟩, rfl, rfl⟩, rfl⟩, ⟨rfl, rfl⟩, ⟨rfl, rfl⟩, ⟨rfl, rfl⟩, ⟨rfl, rfl⟩, ⟨rfl, rfl⟩, trivial⟩ ?_ (fun _ => rfl)
  intro (i : Nat) (hi : i ≤ n.toNat)
  refine Branch.mk (fun h => ?_) (fun h => ?_)
  · have h : (i : Int) < n := of_decide_eq_true h
    refine Fact.mk fun hL => Need.mk ?_ ?_
    · simp only [List.length_replicate]
      exact ⟨by simp only [maxLen]; simp; omega, by simp; omega⟩
    refine Arith.fit (wrap_fit (by omega) (by omega)) ?_
    refine Gh.go ⟨i + 1, (by show i + 1 ≤ n.toNat; omega), (by show n.toNat - (i + 1) < n.toNat - i; omega), ⟨⟨rfl, rfl⟩, trivial⟩, ⟨⟨rfl, rfl⟩, ⟨rfl, rfl⟩, ⟨rfl, rfl⟩, trivial⟩, ⟨⟨rfl, rfl⟩, ⟨rfl, rfl⟩, ⟨rfl, rfl⟩, ⟨rfl, rfl⟩, ⟨?_, rfl⟩, ⟨rfl, rfl⟩, ⟨rfl, rfl⟩, ⟨rfl, rfl⟩, ⟨rfl, rfl⟩, ⟨rfl, rfl⟩, trivial⟩⟩
    exact congrArg (Blk.orow none 83 3) List.replicate_succ'.symm
  · have h : ¬ (i : Int) < n := of_decide_eq_false h
    have : i = n.toNat := by omega
    subst this
    exact RetX.mk rfl trivial

/-! ### Equal archives -/
theorem eqNoteS_nil : CallF Try.prog 106 [.c (.ro 7 []), .c (.ro 7 [])] (B true) := by
  refine callF_of_vc htb hm Try.func106 rfl rfl rfl rfl (ann := fun k => match k with | 4 => some { α := Unit, keep := [0, 1], ov := fun _ => [(5, I 0)], φ := fun _ => True, μ := fun _ => 0 } | _ => none) (gh := fun _ => false) ?_
  refine Fact.mk fun _ => Fact.mk fun _ => ?_
  refine Branch.mk (fun h => ?_) (fun _ => ?_)
  · simp at h
  refine LoopN.mk () trivial ⟨⟨rfl, rfl⟩, trivial⟩ ⟨⟨rfl, rfl⟩, ⟨rfl, rfl⟩, trivial⟩ trivial ?_ (fun _ => rfl)
  intro _ _
  refine Fact.mk fun _ => ?_
  refine Branch.mk (fun h => ?_) (fun _ => ?_)
  · simp at h
  exact Done.mk rfl
theorem eqPacketS_nil : CallF Try.prog 37 [.c (.ro 8 []), .c (.ro 8 [])] (B true) := by
  refine callF_of_vc htb hm Try.func37 rfl rfl rfl rfl (ann := fun k => match k with | 4 => some { α := Unit, keep := [0, 1], ov := fun _ => [(5, I 0)], φ := fun _ => True, μ := fun _ => 0 } | _ => none) (gh := fun _ => false) ?_
  refine Fact.mk fun _ => Fact.mk fun _ => ?_
  refine Branch.mk (fun h => ?_) (fun _ => ?_)
  · simp at h
  refine LoopN.mk () trivial ⟨⟨rfl, rfl⟩, trivial⟩ ⟨⟨rfl, rfl⟩, ⟨rfl, rfl⟩, trivial⟩ trivial ?_ (fun _ => rfl)
  intro _ _
  refine Fact.mk fun _ => ?_
  refine Branch.mk (fun h => ?_) (fun _ => ?_)
  · simp at h
  exact Done.mk rfl
abbrev srvR : List CV := [.val (.bool true), .ro 7 [], J 0]
theorem eqServer_new : CallF Try.prog 79 [.a 3 srvR, .a 3 srvR] (B true) := by
  refine callF_of_vc htb hm Try.func79 rfl rfl rfl rfl (ann := fun _ => none) (gh := fun _ => false) ?_
  refine Branch.mk (fun h => ?_) (fun _ => ?_)
  · simp at h
  refine CallN.pure _ _ rfl eqNoteS_nil rfl _ rfl ?_
  refine Branch.mk (fun h => ?_) (fun _ => ?_)
  · simp at h
  refine Branch.mk (fun h => ?_) (fun _ => ?_)
  · simp at h
  exact Done.mk rfl
theorem rep_get {α : Type} {x : α} {n i : Nat} (h : i < n) : (List.replicate n x)[i]? = some x := by
  rw [List.getElem?_replicate, if_pos h]
theorem eqServerS_new (n : Nat) (hn : n ≤ 5) : CallF Try.prog 36 [.c (.ro 3 (List.replicate n srvR)), .c (.ro 3 (List.replicate n srvR))] (B true) := by
  refine callF_of_vc htb hm Try.func36 rfl rfl rfl rfl (ann := fun k => match k with | 4 => some { α := Nat, keep := [0, 1], ov := fun i => [(5, I i)], φ := fun i => i ≤ n, μ := fun i => n - i } | _ => none) (gh := fun _ => false) ?_
  refine Fact.mk fun _ => Fact.mk fun _ => ?_
  refine Branch.mk (fun h => ?_) (fun _ => ?_)
  · simp at h
  refine LoopN.mk (0 : Nat) (Nat.zero_le _) ⟨⟨rfl, rfl⟩, trivial⟩ ⟨⟨rfl, rfl⟩, ⟨rfl, rfl⟩, trivial⟩ trivial ?_ (fun _ => rfl)
  intro (i : Nat) (hi : i ≤ n)
  refine Fact.mk fun _ => ?_
  refine Branch.mk (fun h => ?_) (fun h => ?_)
  · have h := of_decide_eq_true h
    rw [List.length_replicate] at h
    have hi' : i < n := by omega
    refine Need.mk (by kernel_rfl) ?_
    refine Need.mk (by omega) (Index.mk srvR (rep_get hi') ?_)
    refine Need.mk (by omega) (Index.mk srvR (rep_get hi') ?_)
    refine CallN.pure _ _ rfl eqServer_new rfl _ rfl ?_
    refine Need.mk rfl ?_
    refine Branch.mk (fun hb => ?_) (fun hb => ?_)
    · simp at hb
    refine Arith.fit (wrap_fit (by omega) (by omega)) ?_
    exact Gh.go ⟨i + 1, hi', (by show n - (i + 1) < n - i; omega), ⟨⟨rfl, rfl⟩, trivial⟩, ⟨⟨rfl, rfl⟩, ⟨rfl, rfl⟩, trivial⟩, trivial⟩
  · exact Done.mk rfl
theorem eqArchive_new (a b : Int) (n : Nat) (hn : n ≤ 5) : CallF Try.prog 9 [.a 4 [J a, J b, .ro 3 (List.replicate n srvR), .ro 8 []], .a 4 [J a, J b, .ro 3 (List.replicate n srvR), .ro 8 []]] (B true) := by
  refine callF_of_vc htb hm Try.func9 rfl rfl rfl rfl (ann := fun _ => none) (gh := fun _ => false) ?_
  refine CallN.pure _ _ rfl (eqSig_ok _ _) rfl _ rfl ?_
  refine Branch.mk (fun h => ?_) (fun _ => ?_)
  · simp at h
  refine CallN.pure _ _ rfl (eqServerS_new n hn) rfl _ rfl ?_
  refine Branch.mk (fun h => ?_) (fun _ => ?_)
  · simp at h
  refine CallN.pure _ _ rfl eqPacketS_nil rfl _ rfl ?_
  refine Branch.mk (fun h => ?_) (fun _ => ?_)
  · simp at h
  exact Done.mk rfl
end Go.Proofs.Ytbbaadkgmdkjdaa
