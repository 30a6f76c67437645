/- Contract of the draws of programs. No conditions but bounds of size. -/
import Derived.Test.YtlfigjkddnncgaaGreatKAU
namespace Go.Proofs.YtlfigjkddnncgaaGreat
open Go Go.KA Go.Proofs
set_option maxHeartbeats 16000000
set_option maxRecDepth 100000
theorem endP_cd (g : XSig) (hg : 0 ≤ g.tests ∧ g.tests ≤ 3 ∧ 0 ≤ g.actions ∧ g.actions ≤ 4) (k : Int) (s : Src) : (endP g k s).2.code = s.code := by
  unfold endP
  split
  · exact pick_cd _ _
  · split
    · exact pick_cd _ _
    · split
      · simp only [condE_cd g hg, pick_cd]
      · exact pick_cd _ _
theorem progP_cd (g : XSig) (hg : 0 ≤ g.tests ∧ g.tests ≤ 3 ∧ 0 ≤ g.actions ∧ g.actions ≤ 4) : ∀ (d : Nat) (r : Gen), (progP g d r).2.s.code = r.s.code
  | 0, r => by show (endP g _ _).2.code = _; rw [endP_cd g hg, pick_cd]
  | d + 1, r => by
    have he : (endR g r).2.s.code = r.s.code := by show (endP g _ _).2.code = _; rw [endP_cd g hg, pick_cd]
    unfold progP
    simp only
    split
    · exact he
    · split
      · simp only [progP_cd g hg d, pick_cd]
      · split
        · simp only [progP_cd g hg d, condE_cd g hg, pick_cd]
        · simp only [progP_cd g hg d, condE_cd g hg, pick_cd]
theorem progP_left (g : XSig) : ∀ (d : Nat) (r : Gen), (progP g d r).2.left ≤ r.left ∧ r.left + 1 ≤ (progP g d r).2.left + (2 ^ (d + 1) : Nat)
  | 0, r => by show r.left - 1 ≤ r.left ∧ r.left + 1 ≤ r.left - 1 + (2 : Nat); omega
  | d + 1, r => by
    have hp := two_pow_succ (d + 1)
    have h0 : 2 ≤ 2 ^ (d + 1) := by have := two_pow_succ d; have : 0 < 2 ^ d := Nat.pow_pos (by omega); omega
    have he : (endR g r).2.left ≤ r.left ∧ r.left + 1 ≤ (endR g r).2.left + (2 ^ (d + 1 + 1) : Nat) := by
      show r.left - 1 ≤ r.left ∧ r.left + 1 ≤ r.left - 1 + (2 ^ (d + 1 + 1) : Nat); omega
    unfold progP
    simp only
    split
    · exact he
    · split
      · have h1 := progP_left g d ⟨pickS r.s 12, r.left - 1⟩
        simp only [] at h1
        generalize progP g d ⟨pickS r.s 12, r.left - 1⟩ = X at h1 ⊢
        have h2 := progP_left g d X.2
        show (progP g d X.2).2.left ≤ _ ∧ _ ≤ (progP g d X.2).2.left + _
        omega
      · have h1 := progP_left g d ⟨(condE g (pickS r.s 12)).2, r.left - 1⟩
        simp only [] at h1
        generalize progP g d ⟨(condE g (pickS r.s 12)).2, r.left - 1⟩ = X at h1 ⊢
        split
        · have h2 := progP_left g d X.2
          simp only []
          omega
        · simp only []
          omega
section
variable (g : XSig) (hg : 0 ≤ g.tests ∧ g.tests ≤ 3 ∧ 0 ≤ g.actions ∧ g.actions ≤ 4)
include hg
theorem progEnd_ok (dp : Int) (left : Int) (s : Src) (n : Int) (hs : Rd s n) (hn : n ≤ 680000) (hc : s.code.length ≤ 1000000) (hl : -100000 ≤ left ∧ left ≤ 100000) (hE : left - 1 < 1 ∨ dp < 1 ∨ pickV s 12 < 3) :
    CallX Tryz.prog 89 [.c (.op (genC ⟨s, left⟩ g)), I dp] [some [.op (genC (endR g ⟨s, left⟩).2 g)], none] (.a 6 (encProg (endR g ⟨s, left⟩).1)) := by
  have i12 : I64 12 := by unfold I64; omega
  have i4 : I64 4 := by unfold I64; omega
  have ia : I64 g.actions := by unfold I64; omega
  have p12 := pick_ok s (hs.mono (by omega)) hc 12 i12
  have b12 := pickV_in s (n := 12) (by omega)
  have hs1 : Rd (pickS s 12) (n + 2) := hs.pick 12
  have hc1 : (pickS s 12).code.length ≤ 1000000 := by rw [pick_cd]; exact hc
  unfold endR
  simp only []
  generalize pickV s 12 = k at p12 b12 hE ⊢
  generalize pickS s 12 = sA at p12 hs1 hc1 ⊢
  by_cases g1 : g.actions > 0 ∧ k ≠ 2
  · have q := pick_ok sA (hs1.mono (by omega)) hc1 g.actions ia
    have e : endP g k sA = (.mk 3 (pickV sA g.actions) noE [], pickS sA g.actions) := by unfold endP; rw [if_pos g1]
    rw [e]
    obtain ⟨gt, ga⟩ := g
    simp only [genC] at *
    refine progL_soft ?_
    refine callX_of_vc htb hm Tryz.func89 rfl rfl rfl rfl (ann := fun _ => none) (gh := fun _ => false) ?_
    repeat' ((conv => whnf); first | (guard_target = Done _; refine Done.mk ?_) | (guard_target = RetX _ _; refine RetX.mk ?_ ?_) | (guard_target = Fact _ _; refine Fact.mk fun hL => ?_; (try simp only [List.length_map, maxLen] at hL)) | (guard_target = Branch _ _ _; (first | refine Branch.dec ?_ ?_ | refine Branch.beq ?_ ?_ | refine Branch.bne ?_ ?_ | refine Branch.ndec ?_ ?_ | refine Branch.nb ?_ ?_ | refine Branch.mk ?_ ?_) <;> intro h <;> (try simp only [List.length_map] at h) <;> (try omega) <;> (try contradiction)) | (guard_target = CallN _ 35 _ _ _ _; (first | refine CallN.gen [true, false] _ _ _ rfl p12 rfl rfl _ rfl ?_ | refine CallN.gen [true, false] _ _ _ rfl q rfl rfl _ rfl ?_)) | (guard_target = Arith _ _ _; refine Arith.fit (wrap_fit (by omega) (by omega)) ?_) | (guard_target = Arith _ _ _; refine Arith.fit (wrap_fit (by first | omega | (simp only [List.length_map]; omega)) (by first | omega | (simp only [List.length_map]; omega))) ?_) | (guard_target = Arith _ _ _; refine Arith.fit (by decide) ?_) | (guard_target = Index _ _ _; first  | refine Index.mk _ (idx_map (by omega)) ?_) | (guard_target = Need (_ = true) _; refine Need.mk (by first | kernel_rfl | rfl) ?_) | (guard_target = LinkV _ _ _; first  | refine LinkV.no ?_) | (guard_target = GhO _ _ _ _; refine GhO.go ?_) | (guard_target = Need _ _; refine Need.mk (by first  | omega | (simp only [List.length_map]; omega)) ?_))
    all_goals first | rfl | exact ⟨rfl, trivial⟩ | (exfalso; simp at *; omega)
  have q := pick_ok sA (hs1.mono (by omega)) hc1 4 i4
  have b4 := pickV_in sA (n := 4) (by omega)
  have hs2 : Rd (pickS sA 4) (n + 4) := (hs1.pick 4).mono (by omega)
  have hc2 : (pickS sA 4).code.length ≤ 1000000 := by rw [pick_cd]; exact hc1
  have cd := cond_ok g hg (left - 1) (pickS sA 4) (n + 4) hs2 (by omega) hc2
  unfold endP
  rw [if_neg g1]
  generalize pickV sA 4 = j at q b4 ⊢
  generalize pickS sA 4 = sB at q cd ⊢
  generalize condE g sB = X at cd ⊢
  obtain ⟨⟨k1, n1, ks1⟩, s1⟩ := X
  have sk := l06Skip_ok
  by_cases g2 : j = 0
  · rw [if_pos g2]
    obtain ⟨gt, ga⟩ := g
    simp only [genC] at *
    refine progL_soft ?_
    refine callX_of_vc htb hm Tryz.func89 rfl rfl rfl rfl (ann := fun _ => none) (gh := fun _ => false) ?_
    repeat' ((conv => whnf); first | (guard_target = Done _; refine Done.mk ?_) | (guard_target = RetX _ _; refine RetX.mk ?_ ?_) | (guard_target = Fact _ _; refine Fact.mk fun hL => ?_; (try simp only [List.length_map, maxLen] at hL)) | (guard_target = Branch _ _ _; (first | refine Branch.dec ?_ ?_ | refine Branch.beq ?_ ?_ | refine Branch.bne ?_ ?_ | refine Branch.ndec ?_ ?_ | refine Branch.nb ?_ ?_ | refine Branch.mk ?_ ?_) <;> intro h <;> (try simp only [List.length_map] at h) <;> (try omega) <;> (try contradiction)) | (guard_target = CallN _ 35 _ _ _ _; (first | refine CallN.gen [true, false] _ _ _ rfl p12 rfl rfl _ rfl ?_ | refine CallN.gen [true, false] _ _ _ rfl q rfl rfl _ rfl ?_)) | (guard_target = Arith _ _ _; refine Arith.fit (wrap_fit (by omega) (by omega)) ?_) | (guard_target = Arith _ _ _; refine Arith.fit (wrap_fit (by first | omega | (simp only [List.length_map]; omega)) (by first | omega | (simp only [List.length_map]; omega))) ?_) | (guard_target = Arith _ _ _; refine Arith.fit (by decide) ?_) | (guard_target = Index _ _ _; first  | refine Index.mk _ (idx_map (by omega)) ?_) | (guard_target = Need (_ = true) _; refine Need.mk (by first | kernel_rfl | rfl) ?_) | (guard_target = LinkV _ _ _; first  | refine LinkV.no ?_) | (guard_target = GhO _ _ _ _; refine GhO.go ?_) | (guard_target = Need _ _; refine Need.mk (by first  | omega | (simp only [List.length_map]; omega)) ?_))
    all_goals first | rfl | exact ⟨rfl, trivial⟩ | (exfalso; simp at *; omega)
  rw [if_neg g2]
  by_cases g3 : j = 1
  · rw [if_pos g3]
    obtain ⟨gt, ga⟩ := g
    simp only [genC] at *
    refine progN_soft ?_
    rw [enc_mk] at cd
    refine callX_of_vc htb hm Tryz.func89 rfl rfl rfl rfl (ann := fun _ => none) (gh := fun _ => false) ?_
    repeat' ((conv => whnf); first | (guard_target = Done _; refine Done.mk ?_) | (guard_target = RetX _ _; refine RetX.mk ?_ ?_) | (guard_target = Fact _ _; refine Fact.mk fun hL => ?_; (try simp only [List.length_map, maxLen] at hL)) | (guard_target = Branch _ _ _; (first | refine Branch.dec ?_ ?_ | refine Branch.beq ?_ ?_ | refine Branch.bne ?_ ?_ | refine Branch.ndec ?_ ?_ | refine Branch.nb ?_ ?_ | refine Branch.mk ?_ ?_) <;> intro h <;> (try simp only [List.length_map] at h) <;> (try omega) <;> (try contradiction)) | (guard_target = CallN _ 35 _ _ _ _; (first | refine CallN.gen [true, false] _ _ _ rfl p12 rfl rfl _ rfl ?_ | refine CallN.gen [true, false] _ _ _ rfl q rfl rfl _ rfl ?_)) | (guard_target = CallN _ 90 _ _ _ _; refine CallN.gen [true] _ _ _ rfl cd rfl rfl _ rfl ?_) | (guard_target = Arith _ _ _; refine Arith.fit (wrap_fit (by omega) (by omega)) ?_) | (guard_target = Arith _ _ _; refine Arith.fit (wrap_fit (by first | omega | (simp only [List.length_map]; omega)) (by first | omega | (simp only [List.length_map]; omega))) ?_) | (guard_target = Arith _ _ _; refine Arith.fit (by decide) ?_) | (guard_target = Index _ _ _; first  | refine Index.mk _ (idx_map (by omega)) ?_) | (guard_target = Need (_ = true) _; refine Need.mk (by first | kernel_rfl | rfl) ?_) | (guard_target = LinkV _ _ _; first  | refine LinkV.no ?_) | (guard_target = GhO _ _ _ _; refine GhO.go ?_) | (guard_target = Need _ _; refine Need.mk (by first  | omega | (simp only [List.length_map]; omega)) ?_))
    all_goals first | rfl | exact ⟨rfl, trivial⟩ | (exfalso; simp at *; omega)
  · rw [if_neg g3]
    obtain ⟨gt, ga⟩ := g
    simp only [genC] at *
    refine callX_of_vc htb hm Tryz.func89 rfl rfl rfl rfl (ann := fun _ => none) (gh := fun _ => false) ?_
    repeat' ((conv => whnf); first | (guard_target = Done _; refine Done.mk ?_) | (guard_target = RetX _ _; refine RetX.mk ?_ ?_) | (guard_target = Fact _ _; refine Fact.mk fun hL => ?_; (try simp only [List.length_map, maxLen] at hL)) | (guard_target = Branch _ _ _; (first | refine Branch.dec ?_ ?_ | refine Branch.beq ?_ ?_ | refine Branch.bne ?_ ?_ | refine Branch.ndec ?_ ?_ | refine Branch.nb ?_ ?_ | refine Branch.mk ?_ ?_) <;> intro h <;> (try simp only [List.length_map] at h) <;> (try omega) <;> (try contradiction)) | (guard_target = CallN _ 35 _ _ _ _; (first | refine CallN.gen [true, false] _ _ _ rfl p12 rfl rfl _ rfl ?_ | refine CallN.gen [true, false] _ _ _ rfl q rfl rfl _ rfl ?_)) | (guard_target = CallN _ 44 _ _ _ _; refine CallN.gen [] _ _ _ rfl sk rfl rfl _ rfl ?_) | (guard_target = Arith _ _ _; refine Arith.fit (wrap_fit (by omega) (by omega)) ?_) | (guard_target = Arith _ _ _; refine Arith.fit (wrap_fit (by first | omega | (simp only [List.length_map]; omega)) (by first | omega | (simp only [List.length_map]; omega))) ?_) | (guard_target = Arith _ _ _; refine Arith.fit (by decide) ?_) | (guard_target = Index _ _ _; first  | refine Index.mk _ (idx_map (by omega)) ?_) | (guard_target = Need (_ = true) _; refine Need.mk (by first | kernel_rfl | rfl) ?_) | (guard_target = LinkV _ _ _; first  | refine LinkV.no ?_) | (guard_target = GhO _ _ _ _; refine GhO.go ?_) | (guard_target = Need _ _; refine Need.mk (by first  | omega | (simp only [List.length_map]; omega)) ?_))
    all_goals first | rfl | exact ⟨rfl, trivial⟩ | (exfalso; simp at *; omega)
def RoomP (d : Nat) (r : Gen) (n : Int) : Prop := Rd r.s n ∧ n + costP d ≤ 600000 ∧ r.s.code.length ≤ 1000000 ∧ -100000 ≤ r.left - (2 ^ (d + 1) : Nat) ∧ r.left ≤ 100000
theorem prog_bud (d : Nat) (hd : d ≤ 10) (r : Gen) : budProg (progP g d r).1 ≤ 1048576 := by
  have _ := hg
  have h := (progP_ok g d r).2
  have h2 : 2 ^ d ≤ 2 ^ 10 := Nat.pow_le_pow_right (by omega) hd
  have : (2 : Nat) ^ 10 = 1024 := by decide
  omega
theorem prog_ok : ∀ (d : Nat) (dp : Int) (r : Gen) (n : Int), dp = d → RoomP d r n → d ≤ 10 →
    CallX Tryz.prog 89 [.c (.op (genC r g)), I dp] [some [.op (genC (progP g d r).2 g)], none] (.a 6 (encProg (progP g d r).1))
  | 0, dp, ⟨s, left⟩, n, hdp, ⟨hs, hn, hc, hl, hu⟩, hd => by
    have h0 := costP_lo 0
    simp only [] at hs hc hl hu
    exact progEnd_ok g hg dp left s n hs (by omega) hc ⟨by omega, hu⟩ (.inr (.inl (by omega)))
  | d + 1, dp, ⟨s, left⟩, n, hdp, ⟨hs, hn, hc, hl, hu⟩, hd => by
    have h0 := costP_lo d
    have h1 := costP_succ d
    have hp := two_pow_succ (d + 1)
    have hq : 2 ≤ 2 ^ (d + 1) := by have := two_pow_succ d; have : 0 < 2 ^ d := Nat.pow_pos (by omega); omega
    simp only [] at hs hc hl hu
    by_cases g1 : left - 1 < 1 ∨ pickV s 12 < 3
    · have e : progP g (d + 1) ⟨s, left⟩ = endR g ⟨s, left⟩ := by rw [progP]; simp only []; rw [if_pos g1]
      rw [e]
      exact progEnd_ok g hg dp left s n hs (by omega) hc ⟨by omega, hu⟩ (by omega)
    have i12 : I64 12 := by unfold I64; omega
    have p12 := pick_ok s (hs.mono (by omega)) hc 12 i12
    have b12 := pickV_in s (n := 12) (by omega)
    have hs1 : Rd (pickS s 12) (n + 2) := hs.pick 12
    have hc1 : (pickS s 12).code.length ≤ 1000000 := by rw [pick_cd]; exact hc
    rw [progP]
    simp only []
    rw [if_neg g1]
    generalize pickV s 12 = k at p12 b12 g1 ⊢
    generalize pickS s 12 = sA at p12 hs1 hc1 ⊢
    by_cases g2 : k < 6
    · rw [if_pos g2]
      have ia := prog_ok d (dp - 1) ⟨sA, left - 1⟩ (n + 2) (by omega) ⟨hs1, by omega, hc1, by simp only []; omega, by simp only []; omega⟩ (by omega)
      have ra := Rd.prog g d ⟨sA, left - 1⟩ hs1
      have la := progP_left g d ⟨sA, left - 1⟩
      have ca := progP_cd g hg d ⟨sA, left - 1⟩
      have ba := prog_bud g hg d (by omega) ⟨sA, left - 1⟩
      generalize progP g d ⟨sA, left - 1⟩ = X at ia ra la ca ba ⊢
      obtain ⟨⟨k1, n1, ⟨k2, n2, ks2⟩, ks1⟩, ⟨s1, l1⟩⟩ := X
      simp only [] at ra la ca ia ba ⊢
      have ib := prog_ok d (dp - 1) ⟨s1, l1⟩ (n + 2 + costP d) (by omega) ⟨ra, by omega, by simp only []; rw [ca]; exact hc1, by simp only []; omega, by simp only []; omega⟩ (by omega)
      have bb := prog_bud g hg d (by omega) ⟨s1, l1⟩
      generalize progP g d ⟨s1, l1⟩ = Y at ib bb ⊢
      obtain ⟨⟨k3, n3, ⟨k4, n4, ks4⟩, ks3⟩, ⟨s2, l2⟩⟩ := Y
      have sq := l06Seq_ok _ _ ba bb
      simp only [genC] at ia ib sq ⊢
      refine callX_of_vc htb hm Tryz.func89 rfl rfl rfl rfl (ann := fun _ => none) (gh := fun _ => false) ?_
      repeat' ((conv => whnf); first | (guard_target = Done _; refine Done.mk ?_) | (guard_target = RetX _ _; refine RetX.mk ?_ ?_) | (guard_target = Fact _ _; refine Fact.mk fun hL => ?_; (try simp only [List.length_map, maxLen] at hL)) | (guard_target = Branch _ _ _; (first | refine Branch.dec ?_ ?_ | refine Branch.beq ?_ ?_ | refine Branch.bne ?_ ?_ | refine Branch.ndec ?_ ?_ | refine Branch.nb ?_ ?_ | refine Branch.mk ?_ ?_) <;> intro h <;> (try simp only [List.length_map] at h) <;> (try omega) <;> (try contradiction)) | (guard_target = CallN _ 35 _ _ _ _; refine CallN.gen [true, false] _ _ _ rfl p12 rfl rfl _ rfl ?_) | (guard_target = CallN _ 89 _ _ _ _; (first | refine CallN.gen [true, false] _ _ _ rfl ia rfl rfl _ rfl ?_ | refine CallN.gen [true, false] _ _ _ rfl ib rfl rfl _ rfl ?_)) | (guard_target = CallN _ 155 _ _ _ _; refine CallN.gen [] _ _ _ rfl sq rfl rfl _ rfl ?_) | (guard_target = Arith _ _ _; refine Arith.fit (wrap_fit (by omega) (by omega)) ?_) | (guard_target = Arith _ _ _; refine Arith.fit (wrap_fit (by first | omega | (simp only [List.length_map]; omega)) (by first | omega | (simp only [List.length_map]; omega))) ?_) | (guard_target = Arith _ _ _; refine Arith.fit (by decide) ?_) | (guard_target = Index _ _ _; first  | refine Index.mk _ (idx_map (by omega)) ?_) | (guard_target = Need (_ = true) _; refine Need.mk (by first | kernel_rfl | rfl) ?_) | (guard_target = LinkV _ _ _; first  | refine LinkV.no ?_) | (guard_target = GhO _ _ _ _; refine GhO.go ?_) | (guard_target = Need _ _; refine Need.mk (by first  | omega | (simp only [List.length_map]; omega)) ?_))
      all_goals first | rfl | exact ⟨rfl, trivial⟩ | (exfalso; simp at *; omega)
    rw [if_neg g2]
    have cd := cond_ok g hg (left - 1) sA (n + 2) hs1 (by omega) hc1
    have rc := Rd.cond hs1 g
    have cc := condE_cd g hg sA
    have bc := condE_bud g sA
    generalize condE g sA = C at cd rc cc bc ⊢
    obtain ⟨⟨k0, n0, ks0⟩, s0⟩ := C
    simp only [] at cd rc cc bc ⊢
    have hc0 : s0.code.length ≤ 1000000 := by rw [cc]; exact hc1
    have ia := prog_ok d (dp - 1) ⟨s0, left - 1⟩ (n + 602) (by omega) ⟨rc.mono (by omega), by omega, hc0, by simp only []; omega, by simp only []; omega⟩ (by omega)
    have ra := Rd.prog g d ⟨s0, left - 1⟩ rc
    have la := progP_left g d ⟨s0, left - 1⟩
    have ca := progP_cd g hg d ⟨s0, left - 1⟩
    have ba := prog_bud g hg d (by omega) ⟨s0, left - 1⟩
    generalize progP g d ⟨s0, left - 1⟩ = X at ia ra la ca ba ⊢
    obtain ⟨⟨k1, n1, ⟨k2, n2, ks2⟩, ks1⟩, ⟨s1, l1⟩⟩ := X
    simp only [] at ra la ca ia ba ⊢
    by_cases g3 : k < 9
    · rw [if_pos g3]
      have ib := prog_ok d (dp - 1) ⟨s1, l1⟩ (n + 2 + 600 + costP d) (by omega) ⟨ra, by omega, by simp only []; rw [ca]; exact hc0, by simp only []; omega, by simp only []; omega⟩ (by omega)
      have bb := prog_bud g hg d (by omega) ⟨s1, l1⟩
      generalize progP g d ⟨s1, l1⟩ = Y at ib bb ⊢
      obtain ⟨⟨k3, n3, ⟨k4, n4, ks4⟩, ks3⟩, ⟨s2, l2⟩⟩ := Y
      have sq := l06If_ok _ _ _ (show budExpr (.mk k0 n0 ks0) ≤ 1048576 by omega) ba bb
      simp only [genC] at cd ia ib sq ⊢
      refine callX_of_vc htb hm Tryz.func89 rfl rfl rfl rfl (ann := fun _ => none) (gh := fun _ => false) ?_
      repeat' ((conv => whnf); first | (guard_target = Done _; refine Done.mk ?_) | (guard_target = RetX _ _; refine RetX.mk ?_ ?_) | (guard_target = Fact _ _; refine Fact.mk fun hL => ?_; (try simp only [List.length_map, maxLen] at hL)) | (guard_target = Branch _ _ _; (first | refine Branch.dec ?_ ?_ | refine Branch.beq ?_ ?_ | refine Branch.bne ?_ ?_ | refine Branch.ndec ?_ ?_ | refine Branch.nb ?_ ?_ | refine Branch.mk ?_ ?_) <;> intro h <;> (try simp only [List.length_map] at h) <;> (try omega) <;> (try contradiction)) | (guard_target = CallN _ 35 _ _ _ _; refine CallN.gen [true, false] _ _ _ rfl p12 rfl rfl _ rfl ?_) | (guard_target = CallN _ 90 _ _ _ _; refine CallN.gen [true] _ _ _ rfl cd rfl rfl _ rfl ?_) | (guard_target = CallN _ 89 _ _ _ _; (first | refine CallN.gen [true, false] _ _ _ rfl ia rfl rfl _ rfl ?_ | refine CallN.gen [true, false] _ _ _ rfl ib rfl rfl _ rfl ?_)) | (guard_target = CallN _ 156 _ _ _ _; refine CallN.gen [] _ _ _ rfl sq rfl rfl _ rfl ?_) | (guard_target = Arith _ _ _; refine Arith.fit (wrap_fit (by omega) (by omega)) ?_) | (guard_target = Arith _ _ _; refine Arith.fit (wrap_fit (by first | omega | (simp only [List.length_map]; omega)) (by first | omega | (simp only [List.length_map]; omega))) ?_) | (guard_target = Arith _ _ _; refine Arith.fit (by decide) ?_) | (guard_target = Index _ _ _; first  | refine Index.mk _ (idx_map (by omega)) ?_) | (guard_target = Need (_ = true) _; refine Need.mk (by first | kernel_rfl | rfl) ?_) | (guard_target = LinkV _ _ _; first  | refine LinkV.no ?_) | (guard_target = GhO _ _ _ _; refine GhO.go ?_) | (guard_target = Need _ _; refine Need.mk (by first  | omega | (simp only [List.length_map]; omega)) ?_))
      all_goals first | rfl | exact ⟨rfl, trivial⟩ | (exfalso; simp at *; omega)
    · rw [if_neg g3]
      have sq := l06While_ok _ _ (show budExpr (.mk k0 n0 ks0) ≤ 1048576 by omega) ba
      simp only [genC] at cd ia sq ⊢
      refine callX_of_vc htb hm Tryz.func89 rfl rfl rfl rfl (ann := fun _ => none) (gh := fun _ => false) ?_
      repeat' ((conv => whnf); first | (guard_target = Done _; refine Done.mk ?_) | (guard_target = RetX _ _; refine RetX.mk ?_ ?_) | (guard_target = Fact _ _; refine Fact.mk fun hL => ?_; (try simp only [List.length_map, maxLen] at hL)) | (guard_target = Branch _ _ _; (first | refine Branch.dec ?_ ?_ | refine Branch.beq ?_ ?_ | refine Branch.bne ?_ ?_ | refine Branch.ndec ?_ ?_ | refine Branch.nb ?_ ?_ | refine Branch.mk ?_ ?_) <;> intro h <;> (try simp only [List.length_map] at h) <;> (try omega) <;> (try contradiction)) | (guard_target = CallN _ 35 _ _ _ _; refine CallN.gen [true, false] _ _ _ rfl p12 rfl rfl _ rfl ?_) | (guard_target = CallN _ 90 _ _ _ _; refine CallN.gen [true] _ _ _ rfl cd rfl rfl _ rfl ?_) | (guard_target = CallN _ 89 _ _ _ _; refine CallN.gen [true, false] _ _ _ rfl ia rfl rfl _ rfl ?_) | (guard_target = CallN _ 157 _ _ _ _; refine CallN.gen [] _ _ _ rfl sq rfl rfl _ rfl ?_) | (guard_target = Arith _ _ _; refine Arith.fit (wrap_fit (by omega) (by omega)) ?_) | (guard_target = Arith _ _ _; refine Arith.fit (wrap_fit (by first | omega | (simp only [List.length_map]; omega)) (by first | omega | (simp only [List.length_map]; omega))) ?_) | (guard_target = Arith _ _ _; refine Arith.fit (by decide) ?_) | (guard_target = Index _ _ _; first  | refine Index.mk _ (idx_map (by omega)) ?_) | (guard_target = Need (_ = true) _; refine Need.mk (by first | kernel_rfl | rfl) ?_) | (guard_target = LinkV _ _ _; first  | refine LinkV.no ?_) | (guard_target = GhO _ _ _ _; refine GhO.go ?_) | (guard_target = Need _ _; refine Need.mk (by first  | omega | (simp only [List.length_map]; omega)) ?_))
      all_goals first | rfl | exact ⟨rfl, trivial⟩ | (exfalso; simp at *; omega)
end
end Go.Proofs.YtlfigjkddnncgaaGreat
