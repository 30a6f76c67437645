/- Contract of the draws of programs. No conditions but bounds of size. -/
import Derived.Test.YtaajacnceocpoaaGreatKAL
namespace Go.Proofs.YtaajacnceocpoaaGreat
open Go Go.KA Go.Proofs
set_option maxHeartbeats 16000000
set_option maxRecDepth 100000
theorem endP_cd (g : XSig) (hg : 0 ≤ g.tests ∧ g.tests ≤ 3 ∧ 0 ≤ g.actions ∧ g.actions ≤ 4) (k : Int) (s : Src) : (endP g k s).2.code = s.code := by
  unfold endP
  split
  · exact pick_cd _ _
  · split
    · exact pick_cd _ _
    · split
      · simp only [condE_cd g hg, pick_cd]
      · exact pick_cd _ _
theorem progP_cd (g : XSig) (hg : 0 ≤ g.tests ∧ g.tests ≤ 3 ∧ 0 ≤ g.actions ∧ g.actions ≤ 4) : ∀ (d : Nat) (r : Gen), (progP g d r).2.s.code = r.s.code
  | 0, r => by show (endP g _ _).2.code = _; rw [endP_cd g hg, pick_cd]
  | d + 1, r => by
    have he : (endR g r).2.s.code = r.s.code := by show (endP g _ _).2.code = _; rw [endP_cd g hg, pick_cd]
    unfold progP
    simp only
    split
    · exact he
    · split
      · simp only [progP_cd g hg d, pick_cd]
      · split
        · simp only [progP_cd g hg d, condE_cd g hg, pick_cd]
        · simp only [progP_cd g hg d, condE_cd g hg, pick_cd]
theorem progP_left (g : XSig) : ∀ (d : Nat) (r : Gen), (progP g d r).2.left ≤ r.left ∧ r.left + 1 ≤ (progP g d r).2.left + (2 ^ (d + 1) : Nat)
  | 0, r => by show r.left - 1 ≤ r.left ∧ r.left + 1 ≤ r.left - 1 + (2 : Nat); omega
  | d + 1, r => by
    have hp := two_pow_succ (d + 1)
    have h0 : 2 ≤ 2 ^ (d + 1) := by have := two_pow_succ d; have : 0 < 2 ^ d := Nat.pow_pos (by omega); omega
    have he : (endR g r).2.left ≤ r.left ∧ r.left + 1 ≤ (endR g r).2.left + (2 ^ (d + 1 + 1) : Nat) := by
      show r.left - 1 ≤ r.left ∧ r.left + 1 ≤ r.left - 1 + (2 ^ (d + 1 + 1) : Nat); omega
    unfold progP
    simp only
    split
    · exact he
    · split
      · have h1 := progP_left g d ⟨pickS r.s 12, r.left - 1⟩
        simp only [] at h1
        generalize progP g d ⟨pickS r.s 12, r.left - 1⟩ = X at h1 ⊢
        have h2 := progP_left g d X.2
        show (progP g d X.2).2.left ≤ _ ∧ _ ≤ (progP g d X.2).2.left + _
        omega
      · have h1 := progP_left g d ⟨(condE g (pickS r.s 12)).2, r.left - 1⟩
        simp only [] at h1
        generalize progP g d ⟨(condE g (pickS r.s 12)).2, r.left - 1⟩ = X at h1 ⊢
        split
        · have h2 := progP_left g d X.2
          simp only []
          omega
        · simp only []
          omega
section
variable (g : XSig) (hg : 0 ≤ g.tests ∧ g.tests ≤ 3 ∧ 0 ≤ g.actions ∧ g.actions ≤ 4)
include hg
theorem progEnd_ok (dp : Int) (left : Int) (s : Src) (n : Int) (hs : Rd s n) (hn : n ≤ 680000) (hc : s.code.length ≤ 1000000) (hl : -100000 ≤ left ∧ left ≤ 100000) (hE : left - 1 < 1 ∨ dp < 1 ∨ pickV s 12 < 3) :
    CallX Tryz.prog 82 [.c (.op (genC ⟨s, left⟩ g)), I dp] [some [.op (genC (endR g ⟨s, left⟩).2 g)], none] (.a 6 (encProg (endR g ⟨s, left⟩).1)) := by
  have i12 : I64 12 := by unfold I64; omega
  have i4 : I64 4 := by unfold I64; omega
  have ia : I64 g.actions := by unfold I64; omega
  have p12 := pick_ok s (hs.mono (by omega)) hc 12 i12
  have b12 := pickV_in s (n := 12) (by omega)
  have hs1 : Rd (pickS s 12) (n + 2) := hs.pick 12
  have hc1 : (pickS s 12).code.length ≤ 1000000 := by rw [pick_cd]; exact hc
  unfold endR
  simp only []
  generalize pickV s 12 = k at p12 b12 hE ⊢
  generalize pickS s 12 = sA at p12 hs1 hc1 ⊢
  by_cases g1 : g.actions > 0 ∧ k ≠ 2
  · have q := pick_ok sA (hs1.mono (by omega)) hc1 g.actions ia
    have e : endP g k sA = (.mk 3 (pickV sA g.actions) noE [], pickS sA g.actions) := by unfold endP; rw [if_pos g1]
    rw [e]
    obtain ⟨gt, ga⟩ := g
    simp only [genC] at *
    refine progL_soft ?_
    refine callX_of_vc htb hm Tryz.func82 rfl rfl rfl rfl (ann := fun _ => none) (gh := fun _ => false) ?_
    repeat' ((conv => whnf); first | (guard_target = RetX _ _; refine RetX.mk ?_ ?_) | (guard_target = Branch _ _ _; (first | apply Branch.dec | apply Branch.beq | apply Branch.bne | apply Branch.ndec | apply Branch.nb | apply Branch.mk) <;> intro h <;> (try simp only [List.length_map] at h) <;> (try omega) <;> (try contradiction)) | (guard_target = CallN _ 57 _ _ _ _; (first | refine CallN.gen [true, false] _ _ _ rfl p12 rfl rfl _ rfl ?_ | refine CallN.gen [true, false] _ _ _ rfl q rfl rfl _ rfl ?_)) | (guard_target = Arith _ _ _; refine Arith.fit (wrap_fit (by omega) (by omega)) ?_) | (guard_target = Arith _ _ _; refine Arith.fit (by apply wrap_fit <;> first | omega | (simp only [List.length_map]; omega)) ?_) | (guard_target = Arith _ _ _; refine Arith.fit (by decide) ?_) | (guard_target = Index _ _ _; first  | refine Index.mk _ (idx_map (by omega)) ?_) | (guard_target = Need (_ = true) _; refine Need.mk (by first | kernel_rfl | rfl) ?_) | (guard_target = GhO _ _ _ _; refine GhO.go ?_) | (guard_target = Need _ _; refine Need.mk (by first  | omega | (simp only [List.length_map]; omega)) ?_))
    all_goals first | rfl | exact ⟨rfl, trivial⟩ | (exfalso; simp at *; omega)
  have q := pick_ok sA (hs1.mono (by omega)) hc1 4 i4
  have b4 := pickV_in sA (n := 4) (by omega)
  have hs2 : Rd (pickS sA 4) (n + 4) := (hs1.pick 4).mono (by omega)
  have hc2 : (pickS sA 4).code.length ≤ 1000000 := by rw [pick_cd]; exact hc1
  have cd := cond_ok g hg (left - 1) (pickS sA 4) (n + 4) hs2 (by omega) hc2
  unfold endP
  rw [if_neg g1]
  generalize pickV sA 4 = j at q b4 ⊢
  generalize pickS sA 4 = sB at q cd ⊢
  generalize condE g sB = X at cd ⊢
  obtain ⟨⟨k1, n1, ks1⟩, s1⟩ := X
  have sk := l06Skip_ok
  by_cases g2 : j = 0
  · rw [if_pos g2]
    obtain ⟨gt, ga⟩ := g
    simp only [genC] at *
    refine progL_soft ?_
    refine callX_of_vc htb hm Tryz.func82 rfl rfl rfl rfl (ann := fun _ => none) (gh := fun _ => false) ?_
    repeat' ((conv => whnf); first | (guard_target = RetX _ _; refine RetX.mk ?_ ?_) | (guard_target = Branch _ _ _; (first | apply Branch.dec | apply Branch.beq | apply Branch.bne | apply Branch.ndec | apply Branch.nb | apply Branch.mk) <;> intro h <;> (try simp only [List.length_map] at h) <;> (try omega) <;> (try contradiction)) | (guard_target = CallN _ 57 _ _ _ _; (first | refine CallN.gen [true, false] _ _ _ rfl p12 rfl rfl _ rfl ?_ | refine CallN.gen [true, false] _ _ _ rfl q rfl rfl _ rfl ?_)) | (guard_target = Arith _ _ _; refine Arith.fit (wrap_fit (by omega) (by omega)) ?_) | (guard_target = Arith _ _ _; refine Arith.fit (by apply wrap_fit <;> first | omega | (simp only [List.length_map]; omega)) ?_) | (guard_target = Arith _ _ _; refine Arith.fit (by decide) ?_) | (guard_target = Index _ _ _; first  | refine Index.mk _ (idx_map (by omega)) ?_) | (guard_target = Need (_ = true) _; refine Need.mk (by first | kernel_rfl | rfl) ?_) | (guard_target = GhO _ _ _ _; refine GhO.go ?_) | (guard_target = Need _ _; refine Need.mk (by first  | omega | (simp only [List.length_map]; omega)) ?_))
    all_goals first | rfl | exact ⟨rfl, trivial⟩ | (exfalso; simp at *; omega)
  rw [if_neg g2]
  by_cases g3 : j = 1
  · rw [if_pos g3]
    obtain ⟨gt, ga⟩ := g
    simp only [genC] at *
    refine progN_soft ?_
    rw [enc_mk] at cd
    refine callX_of_vc htb hm Tryz.func82 rfl rfl rfl rfl (ann := fun _ => none) (gh := fun _ => false) ?_
    repeat' ((conv => whnf); first | (guard_target = RetX _ _; refine RetX.mk ?_ ?_) | (guard_target = Branch _ _ _; (first | apply Branch.dec | apply Branch.beq | apply Branch.bne | apply Branch.ndec | apply Branch.nb | apply Branch.mk) <;> intro h <;> (try simp only [List.length_map] at h) <;> (try omega) <;> (try contradiction)) | (guard_target = CallN _ 57 _ _ _ _; (first | refine CallN.gen [true, false] _ _ _ rfl p12 rfl rfl _ rfl ?_ | refine CallN.gen [true, false] _ _ _ rfl q rfl rfl _ rfl ?_)) | (guard_target = CallN _ 119 _ _ _ _; refine CallN.gen [true] _ _ _ rfl cd rfl rfl _ rfl ?_) | (guard_target = Arith _ _ _; refine Arith.fit (wrap_fit (by omega) (by omega)) ?_) | (guard_target = Arith _ _ _; refine Arith.fit (by apply wrap_fit <;> first | omega | (simp only [List.length_map]; omega)) ?_) | (guard_target = Arith _ _ _; refine Arith.fit (by decide) ?_) | (guard_target = Index _ _ _; first  | refine Index.mk _ (idx_map (by omega)) ?_) | (guard_target = Need (_ = true) _; refine Need.mk (by first | kernel_rfl | rfl) ?_) | (guard_target = GhO _ _ _ _; refine GhO.go ?_) | (guard_target = Need _ _; refine Need.mk (by first  | omega | (simp only [List.length_map]; omega)) ?_))
    all_goals first | rfl | exact ⟨rfl, trivial⟩ | (exfalso; simp at *; omega)
  · rw [if_neg g3]
    obtain ⟨gt, ga⟩ := g
    simp only [genC] at *
    refine callX_of_vc htb hm Tryz.func82 rfl rfl rfl rfl (ann := fun _ => none) (gh := fun _ => false) ?_
    repeat' ((conv => whnf); first | (guard_target = RetX _ _; refine RetX.mk ?_ ?_) | (guard_target = Branch _ _ _; (first | apply Branch.dec | apply Branch.beq | apply Branch.bne | apply Branch.ndec | apply Branch.nb | apply Branch.mk) <;> intro h <;> (try simp only [List.length_map] at h) <;> (try omega) <;> (try contradiction)) | (guard_target = CallN _ 57 _ _ _ _; (first | refine CallN.gen [true, false] _ _ _ rfl p12 rfl rfl _ rfl ?_ | refine CallN.gen [true, false] _ _ _ rfl q rfl rfl _ rfl ?_)) | (guard_target = CallN _ 32 _ _ _ _; refine CallN.gen [] _ _ _ rfl sk rfl rfl _ rfl ?_) | (guard_target = Arith _ _ _; refine Arith.fit (wrap_fit (by omega) (by omega)) ?_) | (guard_target = Arith _ _ _; refine Arith.fit (by apply wrap_fit <;> first | omega | (simp only [List.length_map]; omega)) ?_) | (guard_target = Arith _ _ _; refine Arith.fit (by decide) ?_) | (guard_target = Index _ _ _; first  | refine Index.mk _ (idx_map (by omega)) ?_) | (guard_target = Need (_ = true) _; refine Need.mk (by first | kernel_rfl | rfl) ?_) | (guard_target = GhO _ _ _ _; refine GhO.go ?_) | (guard_target = Need _ _; refine Need.mk (by first  | omega | (simp only [List.length_map]; omega)) ?_))
    all_goals first | rfl | exact ⟨rfl, trivial⟩ | (exfalso; simp at *; omega)
def RoomP (d : Nat) (r : Gen) (n : Int) : Prop := Rd r.s n ∧ n + costP d ≤ 600000 ∧ r.s.code.length ≤ 1000000 ∧ -100000 ≤ r.left - (2 ^ (d + 1) : Nat) ∧ r.left ≤ 100000
theorem prog_bud (d : Nat) (hd : d ≤ 10) (r : Gen) : budProg (progP g d r).1 ≤ 1048576 := by
  have _ := hg
  have h := (progP_ok g d r).2
  have h2 : 2 ^ d ≤ 2 ^ 10 := Nat.pow_le_pow_right (by omega) hd
  have : (2 : Nat) ^ 10 = 1024 := by decide
  omega
theorem prog_ok : ∀ (d : Nat) (dp : Int) (r : Gen) (n : Int), dp = d → RoomP d r n → d ≤ 10 →
    CallX Tryz.prog 82 [.c (.op (genC r g)), I dp] [some [.op (genC (progP g d r).2 g)], none] (.a 6 (encProg (progP g d r).1))
  | 0, dp, ⟨s, left⟩, n, hdp, ⟨hs, hn, hc, hl, hu⟩, hd => by
    have h0 := costP_lo 0
    simp only [] at hs hc hl hu
    exact progEnd_ok g hg dp left s n hs (by omega) hc ⟨by omega, hu⟩ (.inr (.inl (by omega)))
  | d + 1, dp, ⟨s, left⟩, n, hdp, ⟨hs, hn, hc, hl, hu⟩, hd => by
    have h0 := costP_lo d
    have h1 := costP_succ d
    have hp := two_pow_succ (d + 1)
    have hq : 2 ≤ 2 ^ (d + 1) := by have := two_pow_succ d; have : 0 < 2 ^ d := Nat.pow_pos (by omega); omega
    simp only [] at hs hc hl hu
    by_cases g1 : left - 1 < 1 ∨ pickV s 12 < 3
    · have e : progP g (d + 1) ⟨s, left⟩ = endR g ⟨s, left⟩ := by rw [progP]; simp only []; rw [if_pos g1]
      rw [e]
      exact progEnd_ok g hg dp left s n hs (by omega) hc ⟨by omega, hu⟩ (by omega)
    have i12 : I64 12 := by unfold I64; omega
    have p12 := pick_ok s (hs.mono (by omega)) hc 12 i12
    have b12 := pickV_in s (n := 12) (by omega)
    have hs1 : Rd (pickS s 12) (n + 2) := hs.pick 12
    have hc1 : (pickS s 12).code.length ≤ 1000000 := by rw [pick_cd]; exact hc
    rw [progP]
    simp only []
    rw [if_neg g1]
    generalize pickV s 12 = k at p12 b12 g1 ⊢
    generalize pickS s 12 = sA at p12 hs1 hc1 ⊢
    by_cases g2 : k < 6
    · rw [if_pos g2]
      have ia := prog_ok d (dp - 1) ⟨sA, left - 1⟩ (n + 2) (by omega) ⟨hs1, by omega, hc1, by simp only []; omega, by simp only []; omega⟩ (by omega)
      have ra := Rd.prog g d ⟨sA, left - 1⟩ hs1
      have la := progP_left g d ⟨sA, left - 1⟩
      have ca := progP_cd g hg d ⟨sA, left - 1⟩
      have ba := prog_bud g hg d (by omega) ⟨sA, left - 1⟩
      generalize progP g d ⟨sA, left - 1⟩ = X at ia ra la ca ba ⊢
      obtain ⟨⟨k1, n1, ⟨k2, n2, ks2⟩, ks1⟩, ⟨s1, l1⟩⟩ := X
      simp only [] at ra la ca ia ba ⊢
      have ib := prog_ok d (dp - 1) ⟨s1, l1⟩ (n + 2 + costP d) (by omega) ⟨ra, by omega, by simp only []; rw [ca]; exact hc1, by simp only []; omega, by simp only []; omega⟩ (by omega)
      have bb := prog_bud g hg d (by omega) ⟨s1, l1⟩
      generalize progP g d ⟨s1, l1⟩ = Y at ib bb ⊢
      obtain ⟨⟨k3, n3, ⟨k4, n4, ks4⟩, ks3⟩, ⟨s2, l2⟩⟩ := Y
      have sq := l06Seq_ok _ _ ba bb
      simp only [genC] at ia ib sq ⊢
      refine callX_of_vc htb hm Tryz.func82 rfl rfl rfl rfl (ann := fun _ => none) (gh := fun _ => false) ?_
      repeat' ((conv => whnf); first | (guard_target = RetX _ _; refine RetX.mk ?_ ?_) | (guard_target = Branch _ _ _; (first | apply Branch.dec | apply Branch.beq | apply Branch.bne | apply Branch.ndec | apply Branch.nb | apply Branch.mk) <;> intro h <;> (try simp only [List.length_map] at h) <;> (try omega) <;> (try contradiction)) | (guard_target = CallN _ 57 _ _ _ _; refine CallN.gen [true, false] _ _ _ rfl p12 rfl rfl _ rfl ?_) | (guard_target = CallN _ 82 _ _ _ _; (first | refine CallN.gen [true, false] _ _ _ rfl ia rfl rfl _ rfl ?_ | refine CallN.gen [true, false] _ _ _ rfl ib rfl rfl _ rfl ?_)) | (guard_target = CallN _ 147 _ _ _ _; refine CallN.gen [] _ _ _ rfl sq rfl rfl _ rfl ?_) | (guard_target = Arith _ _ _; refine Arith.fit (wrap_fit (by omega) (by omega)) ?_) | (guard_target = Arith _ _ _; refine Arith.fit (by apply wrap_fit <;> first | omega | (simp only [List.length_map]; omega)) ?_) | (guard_target = Arith _ _ _; refine Arith.fit (by decide) ?_) | (guard_target = Index _ _ _; first  | refine Index.mk _ (idx_map (by omega)) ?_) | (guard_target = Need (_ = true) _; refine Need.mk (by first | kernel_rfl | rfl) ?_) | (guard_target = GhO _ _ _ _; refine GhO.go ?_) | (guard_target = Need _ _; refine Need.mk (by first  | omega | (simp only [List.length_map]; omega)) ?_))
      all_goals first | rfl | exact ⟨rfl, trivial⟩ | (exfalso; simp at *; omega)
    rw [if_neg g2]
    have cd := cond_ok g hg (left - 1) sA (n + 2) hs1 (by omega) hc1
    have rc := Rd.cond hs1 g
    have cc := condE_cd g hg sA
    have bc := condE_bud g sA
    generalize condE g sA = C at cd rc cc bc ⊢
    obtain ⟨⟨k0, n0, ks0⟩, s0⟩ := C
    simp only [] at cd rc cc bc ⊢
    have hc0 : s0.code.length ≤ 1000000 := by rw [cc]; exact hc1
    have ia := prog_ok d (dp - 1) ⟨s0, left - 1⟩ (n + 602) (by omega) ⟨rc.mono (by omega), by omega, hc0, by simp only []; omega, by simp only []; omega⟩ (by omega)
    have ra := Rd.prog g d ⟨s0, left - 1⟩ rc
    have la := progP_left g d ⟨s0, left - 1⟩
    have ca := progP_cd g hg d ⟨s0, left - 1⟩
    have ba := prog_bud g hg d (by omega) ⟨s0, left - 1⟩
    generalize progP g d ⟨s0, left - 1⟩ = X at ia ra la ca ba ⊢
    obtain ⟨⟨k1, n1, ⟨k2, n2, ks2⟩, ks1⟩, ⟨s1, l1⟩⟩ := X
    simp only [] at ra la ca ia ba ⊢
    by_cases g3 : k < 9
    · rw [if_pos g3]
      have ib := prog_ok d (dp - 1) ⟨s1, l1⟩ (n + 2 + 600 + costP d) (by omega) ⟨ra, by omega, by simp only []; rw [ca]; exact hc0, by simp only []; omega, by simp only []; omega⟩ (by omega)
      have bb := prog_bud g hg d (by omega) ⟨s1, l1⟩
      generalize progP g d ⟨s1, l1⟩ = Y at ib bb ⊢
      obtain ⟨⟨k3, n3, ⟨k4, n4, ks4⟩, ks3⟩, ⟨s2, l2⟩⟩ := Y
      have sq := l06If_ok _ _ _ (show budExpr (.mk k0 n0 ks0) ≤ 1048576 by omega) ba bb
      simp only [genC] at cd ia ib sq ⊢
      refine callX_of_vc htb hm Tryz.func82 rfl rfl rfl rfl (ann := fun _ => none) (gh := fun _ => false) ?_
      repeat' ((conv => whnf); first | (guard_target = RetX _ _; refine RetX.mk ?_ ?_) | (guard_target = Branch _ _ _; (first | apply Branch.dec | apply Branch.beq | apply Branch.bne | apply Branch.ndec | apply Branch.nb | apply Branch.mk) <;> intro h <;> (try simp only [List.length_map] at h) <;> (try omega) <;> (try contradiction)) | (guard_target = CallN _ 57 _ _ _ _; refine CallN.gen [true, false] _ _ _ rfl p12 rfl rfl _ rfl ?_) | (guard_target = CallN _ 119 _ _ _ _; refine CallN.gen [true] _ _ _ rfl cd rfl rfl _ rfl ?_) | (guard_target = CallN _ 82 _ _ _ _; (first | refine CallN.gen [true, false] _ _ _ rfl ia rfl rfl _ rfl ?_ | refine CallN.gen [true, false] _ _ _ rfl ib rfl rfl _ rfl ?_)) | (guard_target = CallN _ 148 _ _ _ _; refine CallN.gen [] _ _ _ rfl sq rfl rfl _ rfl ?_) | (guard_target = Arith _ _ _; refine Arith.fit (wrap_fit (by omega) (by omega)) ?_) | (guard_target = Arith _ _ _; refine Arith.fit (by apply wrap_fit <;> first | omega | (simp only [List.length_map]; omega)) ?_) | (guard_target = Arith _ _ _; refine Arith.fit (by decide) ?_) | (guard_target = Index _ _ _; first  | refine Index.mk _ (idx_map (by omega)) ?_) | (guard_target = Need (_ = true) _; refine Need.mk (by first | kernel_rfl | rfl) ?_) | (guard_target = GhO _ _ _ _; refine GhO.go ?_) | (guard_target = Need _ _; refine Need.mk (by first  | omega | (simp only [List.length_map]; omega)) ?_))
      all_goals first | rfl | exact ⟨rfl, trivial⟩ | (exfalso; simp at *; omega)
    · rw [if_neg g3]
      have sq := l06While_ok _ _ (show budExpr (.mk k0 n0 ks0) ≤ 1048576 by omega) ba
      simp only [genC] at cd ia sq ⊢
      refine callX_of_vc htb hm Tryz.func82 rfl rfl rfl rfl (ann := fun _ => none) (gh := fun _ => false) ?_
      repeat' ((conv => whnf); first | (guard_target = RetX _ _; refine RetX.mk ?_ ?_) | (guard_target = Branch _ _ _; (first | apply Branch.dec | apply Branch.beq | apply Branch.bne | apply Branch.ndec | apply Branch.nb | apply Branch.mk) <;> intro h <;> (try simp only [List.length_map] at h) <;> (try omega) <;> (try contradiction)) | (guard_target = CallN _ 57 _ _ _ _; refine CallN.gen [true, false] _ _ _ rfl p12 rfl rfl _ rfl ?_) | (guard_target = CallN _ 119 _ _ _ _; refine CallN.gen [true] _ _ _ rfl cd rfl rfl _ rfl ?_) | (guard_target = CallN _ 82 _ _ _ _; refine CallN.gen [true, false] _ _ _ rfl ia rfl rfl _ rfl ?_) | (guard_target = CallN _ 149 _ _ _ _; refine CallN.gen [] _ _ _ rfl sq rfl rfl _ rfl ?_) | (guard_target = Arith _ _ _; refine Arith.fit (wrap_fit (by omega) (by omega)) ?_) | (guard_target = Arith _ _ _; refine Arith.fit (by apply wrap_fit <;> first | omega | (simp only [List.length_map]; omega)) ?_) | (guard_target = Arith _ _ _; refine Arith.fit (by decide) ?_) | (guard_target = Index _ _ _; first  | refine Index.mk _ (idx_map (by omega)) ?_) | (guard_target = Need (_ = true) _; refine Need.mk (by first | kernel_rfl | rfl) ?_) | (guard_target = GhO _ _ _ _; refine GhO.go ?_) | (guard_target = Need _ _; refine Need.mk (by first  | omega | (simp only [List.length_map]; omega)) ?_))
      all_goals first | rfl | exact ⟨rfl, trivial⟩ | (exfalso; simp at *; omega)
end
end Go.Proofs.YtaajacnceocpoaaGreat

namespace Go.Proofs.YtaajacnceocpoaaGreat
open Go Go.KA Go.Proofs
set_option maxHeartbeats 16000000
set_option maxRecDepth 100000
abbrev eU8 (b : UInt8) : List CV := [.val (.int .u8 (b.toNat : Int))]
abbrev src0 (code : List UInt8) : Src := ⟨code, 0, 0⟩
theorem l00From_ok (code : List UInt8) : CallX Tryz.prog 26 [.c (.ro 1 (code.map eU8))] [] (.c (.op (srcC (src0 code)))) := by
  refine callX_of_vc htb hm Tryz.func26 rfl rfl rfl rfl (ann := fun _ => none) (gh := fun _ => false) ?_
  repeat' ((conv => whnf); first | (guard_target = RetX _ _; refine RetX.mk ?_ ?_) | (guard_target = Need _ _; refine Need.mk (by first  | omega | (simp only [List.length_map]; omega)) ?_))
  all_goals first | rfl | trivial
theorem among_ok (l : List Int) (hl : 0 < l.length ∧ l.length ≤ 1000) (s : Src) (hs : Rd s 900000) (hc : s.code.length ≤ 1000000) : CallX Tryz.prog 97 [.c (.op (srcC s)), .c (.ro 1 (l.map eI))] [some [.op (srcC (amongS l s))], none] (I (amongV l s)) := by
  have i : I64 (l.length : Int) := by unfold I64; omega
  have p := pick_ok s hs hc l.length i
  have b := pickV_in s (n := l.length) (by omega)
  unfold amongS amongV
  generalize pickV s (l.length : Int) = k at p b ⊢
  generalize pickS s (l.length : Int) = s1 at p ⊢
  rw [← List.length_map (f := eI)] at p
  refine callX_of_vc htb hm Tryz.func97 rfl rfl rfl rfl (ann := fun _ => none) (gh := fun _ => false) ?_
  repeat' ((conv => whnf); first | (guard_target = RetX _ _; refine RetX.mk ?_ ?_) | (guard_target = Fact _ _; refine Fact.mk fun hL => ?_; (try simp only [List.length_map, maxLen] at hL)) | (guard_target = CallN _ 57 _ _ _ _; refine CallN.gen [true, false] _ _ _ rfl p rfl rfl _ rfl ?_) | (guard_target = Index _ _ _; first | refine Index.mk _ (idx_getD (l := l) (d := 0) (i := k.toNat) (by omega)) ?_ | refine Index.mk _ (idx_map (by omega)) ?_) | (guard_target = LinkV _ _ _; refine LinkV.no ?_) | (guard_target = Need _ _; refine Need.mk (by first  | omega | (simp only [List.length_map]; omega)) ?_))
  all_goals first | rfl | exact ⟨rfl, trivial⟩ | (exfalso; simp at *; omega)
theorem sigS_cd (s : Src) : (sigS s).code = s.code := by simp [sigS, pick_cd]
theorem drawSig_cd (s : Src) : (drawSig s).2.code = s.code := by
  unfold drawSig
  simp only
  split
  · simp only [pick_cd, sigS_cd]
  · split
    · simp only [pick_cd, sigS_cd]
    · exact sigS_cd s
theorem drawSig_ok (s : Src) (hs : Rd s 800000) (hc : s.code.length ≤ 1000000) : CallX Tryz.prog 27 [.c (.op (srcC s))] [some [.op (srcC (drawSig s).2)]] (.a 2 [J (drawSig s).1.tests, J (drawSig s).1.actions]) := by
  have i2 : I64 2 := by unfold I64; omega
  have i12 : I64 12 := by unfold I64; omega
  have i4 : I64 4 := by unfold I64; omega
  have i5 : I64 5 := by unfold I64; omega
  have p1 := pick_ok s (hs.mono (by omega)) hc 2 i2
  have b1 := pickV_in s (n := 2) (by omega)
  have h1 : Rd (pickS s 2) 800002 := hs.pick 2
  have c1 : (pickS s 2).code.length ≤ 1000000 := by rw [pick_cd]; exact hc
  have p2 := pick_ok (pickS s 2) (h1.mono (by omega)) c1 2 i2
  have b2 := pickV_in (pickS s 2) (n := 2) (by omega)
  have h2 : Rd (pickS (pickS s 2) 2) 800004 := (h1.pick 2).mono (by omega)
  have c2 : (pickS (pickS s 2) 2).code.length ≤ 1000000 := by rw [pick_cd]; exact c1
  have p3 := pick_ok (pickS (pickS s 2) 2) (h2.mono (by omega)) c2 12 i12
  have h3 : Rd (sigS s) 800006 := (h2.pick 12).mono (by omega)
  have c3 : (sigS s).code.length ≤ 1000000 := by rw [sigS_cd]; exact hc
  have p4 := pick_ok (sigS s) (h3.mono (by omega)) c3 4 i4
  have p5 := pick_ok (sigS s) (h3.mono (by omega)) c3 5 i5
  unfold drawSig
  simp only []
  have e : pickS (pickS (pickS s 2) 2) 12 = sigS s := rfl
  rw [e] at p3
  generalize sigS s = s3 at p3 p4 p5 ⊢
  generalize pickV (pickS (pickS s 2) 2) 12 = k at p3 ⊢
  generalize pickS (pickS s 2) 2 = s2 at p2 p3 ⊢
  generalize pickV (pickS s 2) 2 = a at p2 b2 ⊢
  generalize pickS s 2 = s1 at p1 p2 ⊢
  generalize pickV s 2 = t at p1 b1 ⊢
  by_cases g1 : k = 0
  · rw [if_pos g1]
    refine callX_of_vc htb hm Tryz.func27 rfl rfl rfl rfl (ann := fun _ => none) (gh := fun _ => false) ?_
    repeat' ((conv => whnf); first | (guard_target = RetX _ _; refine RetX.mk ?_ ?_) | (guard_target = Branch _ _ _; (first | apply Branch.dec | apply Branch.beq | apply Branch.bne | apply Branch.ndec | apply Branch.nb | apply Branch.mk) <;> intro h <;> (try simp only [List.length_map] at h) <;> (try omega) <;> (try contradiction)) | (guard_target = CallN _ 57 _ _ _ _; (first | refine CallN.gen [true, false] _ _ _ rfl p1 rfl rfl _ rfl ?_ | refine CallN.gen [true, false] _ _ _ rfl p2 rfl rfl _ rfl ?_ | refine CallN.gen [true, false] _ _ _ rfl p3 rfl rfl _ rfl ?_ | refine CallN.gen [true, false] _ _ _ rfl p4 rfl rfl _ rfl ?_)) | (guard_target = Arith _ _ _; refine Arith.fit (by apply wrap_fit <;> first | omega | (simp only [List.length_map]; omega)) ?_) | (guard_target = Arith _ _ _; refine Arith.fit (by decide) ?_) | (guard_target = Index _ _ _; first  | refine Index.mk _ (idx_map (by omega)) ?_) | (guard_target = Need _ _; refine Need.mk (by first  | omega | (simp only [List.length_map]; omega)) ?_))
    all_goals first | rfl | exact ⟨rfl, trivial⟩ | (exfalso; simp at *; omega)
  rw [if_neg g1]
  by_cases g2 : k = 1
  · rw [if_pos g2]
    refine callX_of_vc htb hm Tryz.func27 rfl rfl rfl rfl (ann := fun _ => none) (gh := fun _ => false) ?_
    repeat' ((conv => whnf); first | (guard_target = RetX _ _; refine RetX.mk ?_ ?_) | (guard_target = Branch _ _ _; (first | apply Branch.dec | apply Branch.beq | apply Branch.bne | apply Branch.ndec | apply Branch.nb | apply Branch.mk) <;> intro h <;> (try simp only [List.length_map] at h) <;> (try omega) <;> (try contradiction)) | (guard_target = CallN _ 57 _ _ _ _; (first | refine CallN.gen [true, false] _ _ _ rfl p1 rfl rfl _ rfl ?_ | refine CallN.gen [true, false] _ _ _ rfl p2 rfl rfl _ rfl ?_ | refine CallN.gen [true, false] _ _ _ rfl p3 rfl rfl _ rfl ?_ | refine CallN.gen [true, false] _ _ _ rfl p5 rfl rfl _ rfl ?_)) | (guard_target = Arith _ _ _; refine Arith.fit (by apply wrap_fit <;> first | omega | (simp only [List.length_map]; omega)) ?_) | (guard_target = Arith _ _ _; refine Arith.fit (by decide) ?_) | (guard_target = Index _ _ _; first  | refine Index.mk _ (idx_map (by omega)) ?_) | (guard_target = Need _ _; refine Need.mk (by first  | omega | (simp only [List.length_map]; omega)) ?_))
    all_goals first | rfl | exact ⟨rfl, trivial⟩ | (exfalso; simp at *; omega)
  · rw [if_neg g2]
    refine callX_of_vc htb hm Tryz.func27 rfl rfl rfl rfl (ann := fun _ => none) (gh := fun _ => false) ?_
    repeat' ((conv => whnf); first | (guard_target = RetX _ _; refine RetX.mk ?_ ?_) | (guard_target = Branch _ _ _; (first | apply Branch.dec | apply Branch.beq | apply Branch.bne | apply Branch.ndec | apply Branch.nb | apply Branch.mk) <;> intro h <;> (try simp only [List.length_map] at h) <;> (try omega) <;> (try contradiction)) | (guard_target = CallN _ 57 _ _ _ _; (first | refine CallN.gen [true, false] _ _ _ rfl p1 rfl rfl _ rfl ?_ | refine CallN.gen [true, false] _ _ _ rfl p2 rfl rfl _ rfl ?_ | refine CallN.gen [true, false] _ _ _ rfl p3 rfl rfl _ rfl ?_)) | (guard_target = Arith _ _ _; refine Arith.fit (by apply wrap_fit <;> first | omega | (simp only [List.length_map]; omega)) ?_) | (guard_target = Arith _ _ _; refine Arith.fit (by decide) ?_) | (guard_target = Index _ _ _; first  | refine Index.mk _ (idx_map (by omega)) ?_) | (guard_target = Need _ _; refine Need.mk (by first  | omega | (simp only [List.length_map]; omega)) ?_))
    all_goals first | rfl | exact ⟨rfl, trivial⟩ | (exfalso; simp at *; omega)
theorem l06Drawn_ok (g : XSig) (hg : 0 ≤ g.tests ∧ g.tests ≤ 3 ∧ 0 ≤ g.actions ∧ g.actions ≤ 4) (s : Src) (hs : Rd s 100000) (hc : s.code.length ≤ 1000000) (n : Int) (hn : 0 ≤ n ∧ n ≤ 100) :
    CallX Tryz.prog 28 [.c (.op (srcC s)), .a 2 [J g.tests, J g.actions], I n] [some [.op (srcC (progP g 5 ⟨s, n⟩).2.s)], none, none] (.a 6 (encProg (progP g 5 ⟨s, n⟩).1)) := by
  have e : costP 5 = 170100 := rfl
  have h := prog_ok g hg 5 5 ⟨s, n⟩ 100000 rfl ⟨hs, by omega, hc, by simp only []; omega, by simp only []; omega⟩ (by omega)
  obtain ⟨gt, ga⟩ := g
  generalize progP ⟨gt, ga⟩ 5 ⟨s, n⟩ = X at h ⊢
  obtain ⟨⟨k1, n1, ⟨k2, n2, ks2⟩, ks1⟩, ⟨s1, l1⟩⟩ := X
  simp only [genC] at h ⊢
  refine callX_of_vc htb hm Tryz.func28 rfl rfl rfl rfl (ann := fun _ => none) (gh := fun _ => false) ?_
  repeat' ((conv => whnf); first | (guard_target = RetX _ _; refine RetX.mk ?_ ?_) | (guard_target = CallN _ 82 _ _ _ _; refine CallN.gen [true, false] _ _ _ rfl h rfl rfl _ rfl ?_) | (guard_target = Index _ _ _; first  | refine Index.mk _ (idx_map (by omega)) ?_) | (guard_target = Need _ _; refine Need.mk (by first  | omega | (simp only [List.length_map]; omega)) ?_))
  all_goals first | rfl | exact ⟨rfl, trivial⟩ | (exfalso; simp at *; omega)
end Go.Proofs.YtaajacnceocpoaaGreat
