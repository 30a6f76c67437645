/- Contracts of the draws of expressions. No conditions but bounds of size. -/
import Derived.Test.YtaajacnceocpoaaGreatKAJ
namespace Go.Proofs.YtaajacnceocpoaaGreat
open Go Go.KA Go.Proofs
set_option maxHeartbeats 16000000
set_option maxRecDepth 100000
theorem l02Pair_okX (k : Int) (a b : XExpr) : CallX Tryz.prog 85 [I k, .a 3 (encExpr a), .a 3 (encExpr b)] [] (.a 3 (encExpr (pairX k a b))) := by
  obtain ⟨a1, a2, a3⟩ := a
  obtain ⟨b1, b2, b3⟩ := b
  have h : CallX Tryz.prog 85 [I k, .a 3 (encExpr (.mk a1 a2 a3)), .a 3 (encExpr (.mk b1 b2 b3))] [] (.a 3 [J k, J 0, .ows 28 3 [encExpr (.mk a1 a2 a3), encExpr (.mk b1 b2 b3)]]) := by
    refine callX_of_vc htb hm Tryz.func85 rfl rfl rfl rfl (ann := fun _ => none) (gh := fun _ => false) ?_
    repeat' ((conv => whnf); first | (guard_target = RetX _ _; refine RetX.mk ?_ ?_) | (guard_target = Index _ _ _; first  | refine Index.mk _ (idx_map (by omega)) ?_) | (guard_target = Need _ _; refine Need.mk (by first  | omega | (simp only [List.length_map]; omega)) ?_))
    all_goals first | rfl | trivial
  exact h.soft (.v (.a (.same (.same (.ro .nil)))))
theorem node_soft {P : Program} {f : Nat} {args : List SV} {outs : List (Option (List CV))} {k n : Int} {x : XExpr} (h : CallX P f args outs (.a 3 [J k, J n, .ows 28 3 [encExpr x]])) : CallX P f args outs (.a 3 (encExpr (.mk k n [x]))) :=
  h.soft (.v (.a (.same (.same (.ro .nil)))))
theorem leafD_cd (g : XSig) (c : Bool) (s : Src) : (leafD g c s).2.code = s.code := by
  unfold leafD leaf1 leaf0
  split
  · split
    · split
      · split <;> simp [pick_cd]
      · simp [pick_cd]
    · simp [pick_cd]
  · split
    · split <;> simp [pick_cd]
    · simp [pick_cd]
theorem half_cd (c : Bool) (s : Src) (n : Int) : (halfS c s n).code = s.code := by
  unfold halfS
  split
  · rfl
  · exact pick_cd s n
theorem exprE_cd (g : XSig) : ∀ (d : Nat) (c : Bool) (r : Gen), (exprE g d c r).2.s.code = r.s.code
  | 0, c, r => leafD_cd g c r.s
  | d + 1, c, r => by
    unfold exprE
    split
    · exact leafD_cd g c r.s
    · split
      · exact (leafD_cd g c _).trans (pick_cd _ _)
      · simp only
        split
        · rw [exprE_cd]; simp [pick_cd]
        · split
          · rw [exprE_cd]; simp [pick_cd]
          · rw [exprE_cd, half_cd, exprE_cd, half_cd, pick_cd, pick_cd]
theorem exprE_left (g : XSig) : ∀ (d : Nat) (c : Bool) (r : Gen), (exprE g d c r).2.left ≤ r.left ∧ r.left + 1 ≤ (exprE g d c r).2.left + (2 ^ (d + 1) : Nat)
  | 0, c, r => by show r.left - 1 ≤ r.left ∧ r.left + 1 ≤ r.left - 1 + (2 : Nat); omega
  | d + 1, c, r => by
    have hp := two_pow_succ (d + 1)
    have h0 : 2 ≤ 2 ^ (d + 1) := by have := two_pow_succ d; have : 0 < 2 ^ d := Nat.pow_pos (by omega); omega
    unfold exprE
    split
    · show r.left - 1 ≤ r.left ∧ r.left + 1 ≤ r.left - 1 + (2 ^ (d + 1 + 1) : Nat); omega
    · split
      · show r.left - 1 ≤ r.left ∧ r.left + 1 ≤ r.left - 1 + (2 ^ (d + 1 + 1) : Nat); omega
      · simp only
        split
        · have := exprE_left g d true ⟨pickS (pickS r.s 6) 10, r.left - 1⟩
          simp only [] at this ⊢
          omega
        · split
          · have := exprE_left g d false ⟨pickS (pickS r.s 6) 10, r.left - 1⟩
            simp only [] at this ⊢
            omega
          · have h1 := exprE_left g d (halfB c (pickS (pickS r.s 6) 10) 5) ⟨halfS c (pickS (pickS r.s 6) 10) 5, r.left - 1⟩
            simp only [] at h1
            generalize exprE g d (halfB c (pickS (pickS r.s 6) 10) 5) ⟨halfS c (pickS (pickS r.s 6) 10) 5, r.left - 1⟩ = X at h1
            have h2 := exprE_left g d (halfB c X.2.s 6) ⟨halfS c X.2.s 6, X.2.left⟩
            simp only [] at h2 ⊢
            omega
section
variable (g : XSig) (hg : 0 ≤ g.tests ∧ g.tests ≤ 3 ∧ 0 ≤ g.actions ∧ g.actions ≤ 4)
include hg
def Room (d : Nat) (r : Gen) (n : Int) : Prop := Rd r.s n ∧ n + costE d ≤ 700000 ∧ r.s.code.length ≤ 1000000 ∧ -100000 ≤ r.left - (2 ^ (d + 1) : Nat) ∧ r.left ≤ 100000
theorem expr_ok : ∀ (d : Nat) (dp : Int) (c : Bool) (r : Gen) (n : Int), dp = d → Room d r n → d ≤ 1000 →
    CallX Tryz.prog 165 [.c (.op (genC r g)), B c, I dp] [some [.op (genC (exprE g d c r).2 g)], none, none] (.a 3 (encExpr (exprE g d c r).1))
  | 0, dp, c, ⟨s, left⟩, n, hdp, ⟨hs, hn, hc, hl, hu⟩, hd => by
    have h0 := costE_lo 0
    simp only [] at hs hc hl hu
    have lf := genLeaf_ok g hg (left - 1) s (hs.mono (by omega)) hc c
    have e1 : exprE g 0 c ⟨s, left⟩ = ((leafD g c s).1, ⟨(leafD g c s).2, left - 1⟩) := rfl
    rw [e1]
    generalize leafD g c s = X at lf ⊢
    obtain ⟨⟨k1, n1, ks1⟩, s1⟩ := X
    simp only [genC] at lf ⊢
    refine callX_of_vc htb hm Tryz.func165 rfl rfl rfl rfl (ann := fun _ => none) (gh := fun _ => false) ?_
    repeat' ((conv => whnf); first | (guard_target = RetX _ _; refine RetX.mk ?_ ?_) | (guard_target = Branch _ _ _; (first | apply Branch.dec | apply Branch.beq | apply Branch.bne | apply Branch.ndec | apply Branch.nb | apply Branch.mk) <;> intro h <;> (try simp only [List.length_map] at h) <;> (try omega) <;> (try contradiction)) | (guard_target = CallN _ 183 _ _ _ _; refine CallN.gen [true, false] _ _ _ rfl lf rfl rfl _ rfl ?_) | (guard_target = Arith _ _ _; refine Arith.fit (wrap_fit (by omega) (by omega)) ?_) | (guard_target = Arith _ _ _; refine Arith.fit (by apply wrap_fit <;> first | omega | (simp only [List.length_map]; omega)) ?_) | (guard_target = Arith _ _ _; refine Arith.fit (by decide) ?_) | (guard_target = Index _ _ _; first  | refine Index.mk _ (idx_map (by omega)) ?_) | (guard_target = Need _ _; refine Need.mk (by first  | omega | (simp only [List.length_map]; omega)) ?_))
    all_goals first | rfl | exact ⟨rfl, trivial⟩ | (exfalso; simp at *; omega)
  | d + 1, dp, c, ⟨s, left⟩, n, hdp, ⟨hs, hn, hc, hl, hu⟩, hd => by
    have h0 := costE_lo d
    have h1 := costE_succ d
    have hp := two_pow_succ (d + 1)
    have hq : 2 ≤ 2 ^ (d + 1) := by have := two_pow_succ d; have : 0 < 2 ^ d := Nat.pow_pos (by omega); omega
    simp only [] at hs hc hl hu
    have i6 : I64 6 := by unfold I64; omega
    have i5 : I64 5 := by unfold I64; omega
    have i10 : I64 10 := by unfold I64; omega
    by_cases g1 : left - 1 < 1
    · have lf := genLeaf_ok g hg (left - 1) s (hs.mono (by omega)) hc c
      have e1 : exprE g (d + 1) c ⟨s, left⟩ = ((leafD g c s).1, ⟨(leafD g c s).2, left - 1⟩) := by rw [exprE, if_pos g1]; rfl
      rw [e1]
      generalize leafD g c s = X at lf ⊢
      obtain ⟨⟨k1, n1, ks1⟩, s1⟩ := X
      simp only [genC] at lf ⊢
      refine callX_of_vc htb hm Tryz.func165 rfl rfl rfl rfl (ann := fun _ => none) (gh := fun _ => false) ?_
      repeat' ((conv => whnf); first | (guard_target = RetX _ _; refine RetX.mk ?_ ?_) | (guard_target = Branch _ _ _; (first | apply Branch.dec | apply Branch.beq | apply Branch.bne | apply Branch.ndec | apply Branch.nb | apply Branch.mk) <;> intro h <;> (try simp only [List.length_map] at h) <;> (try omega) <;> (try contradiction)) | (guard_target = CallN _ 183 _ _ _ _; refine CallN.gen [true, false] _ _ _ rfl lf rfl rfl _ rfl ?_) | (guard_target = Arith _ _ _; refine Arith.fit (wrap_fit (by omega) (by omega)) ?_) | (guard_target = Arith _ _ _; refine Arith.fit (by apply wrap_fit <;> first | omega | (simp only [List.length_map]; omega)) ?_) | (guard_target = Arith _ _ _; refine Arith.fit (by decide) ?_) | (guard_target = Index _ _ _; first  | refine Index.mk _ (idx_map (by omega)) ?_) | (guard_target = Need _ _; refine Need.mk (by first  | omega | (simp only [List.length_map]; omega)) ?_))
      all_goals first | rfl | exact ⟨rfl, trivial⟩ | (exfalso; simp at *; omega)
    have p6 := one_ok s (hs.mono (by omega)) hc 6 i6
    have hs6 : Rd (pickS s 6) (n + 2) := hs.pick 6
    have hc6 : (pickS s 6).code.length ≤ 1000000 := by rw [pick_cd]; exact hc
    cases h6 : oneB s 6 with
    | true =>
      rw [h6] at p6
      have lf := genLeaf_ok g hg (left - 1) (pickS s 6) (hs6.mono (by omega)) hc6 c
      have e1 : exprE g (d + 1) c ⟨s, left⟩ = ((leafD g c (pickS s 6)).1, ⟨(leafD g c (pickS s 6)).2, left - 1⟩) := by rw [exprE, if_neg g1, if_pos h6]; rfl
      rw [e1]
      generalize leafD g c (pickS s 6) = X at lf ⊢
      obtain ⟨⟨k1, n1, ks1⟩, s1⟩ := X
      simp only [genC] at lf ⊢
      refine callX_of_vc htb hm Tryz.func165 rfl rfl rfl rfl (ann := fun _ => none) (gh := fun _ => false) ?_
      repeat' ((conv => whnf); first | (guard_target = RetX _ _; refine RetX.mk ?_ ?_) | (guard_target = Branch _ _ _; (first | apply Branch.dec | apply Branch.beq | apply Branch.bne | apply Branch.ndec | apply Branch.nb | apply Branch.mk) <;> intro h <;> (try simp only [List.length_map] at h) <;> (try omega) <;> (try contradiction)) | (guard_target = CallN _ 78 _ _ _ _; refine CallN.gen [true, false] _ _ _ rfl p6 rfl rfl _ rfl ?_) | (guard_target = CallN _ 183 _ _ _ _; refine CallN.gen [true, false] _ _ _ rfl lf rfl rfl _ rfl ?_) | (guard_target = Arith _ _ _; refine Arith.fit (wrap_fit (by omega) (by omega)) ?_) | (guard_target = Arith _ _ _; refine Arith.fit (by apply wrap_fit <;> first | omega | (simp only [List.length_map]; omega)) ?_) | (guard_target = Arith _ _ _; refine Arith.fit (by decide) ?_) | (guard_target = Index _ _ _; first  | refine Index.mk _ (idx_map (by omega)) ?_) | (guard_target = Need _ _; refine Need.mk (by first  | omega | (simp only [List.length_map]; omega)) ?_))
      all_goals first | rfl | exact ⟨rfl, trivial⟩ | (exfalso; simp at *; omega)
    | false =>
      rw [h6] at p6
      have pk := pick_ok (pickS s 6) (hs6.mono (by omega)) hc6 10 i10
      have bk := pickV_in (pickS s 6) (n := 10) (by omega)
      have hsA : Rd (pickS (pickS s 6) 10) (n + 4) := (hs6.pick 10).mono (by omega)
      have hcA : (pickS (pickS s 6) 10).code.length ≤ 1000000 := by rw [pick_cd]; exact hc6
      rw [exprE, if_neg g1, if_neg (by show ¬ oneB s 6 = true; rw [h6]; simp)]
      simp only []
      generalize pickV (pickS s 6) 10 = k at pk bk ⊢
      generalize pickS (pickS s 6) 10 = sA at pk hsA hcA ⊢
      by_cases g2 : k = 0 ∨ (c = true ∧ k < 4)
      · rw [if_pos g2]
        have ih := expr_ok d (dp - 1) true ⟨sA, left - 1⟩ (n + 4) (by omega) ⟨hsA, by omega, hcA, by simp only []; omega, by simp only []; omega⟩ (by omega)
        generalize exprE g d true ⟨sA, left - 1⟩ = X at ih ⊢
        obtain ⟨⟨k1, n1, ks1⟩, ⟨s1, l1⟩⟩ := X
        simp only [genC] at ih ⊢
        refine node_soft ?_
        cases c
        · skip
          refine callX_of_vc htb hm Tryz.func165 rfl rfl rfl rfl (ann := fun _ => none) (gh := fun _ => false) ?_
          repeat' ((conv => whnf); first | (guard_target = RetX _ _; refine RetX.mk ?_ ?_) | (guard_target = Branch _ _ _; (first | apply Branch.dec | apply Branch.beq | apply Branch.bne | apply Branch.ndec | apply Branch.nb | apply Branch.mk) <;> intro h <;> (try simp only [List.length_map] at h) <;> (try omega) <;> (try contradiction)) | (guard_target = CallN _ 78 _ _ _ _; refine CallN.gen [true, false] _ _ _ rfl p6 rfl rfl _ rfl ?_) | (guard_target = CallN _ 57 _ _ _ _; refine CallN.gen [true, false] _ _ _ rfl pk rfl rfl _ rfl ?_) | (guard_target = CallN _ 165 _ _ _ _; refine CallN.gen [true, false, false] _ _ _ rfl ih rfl rfl _ rfl ?_) | (guard_target = Arith _ _ _; refine Arith.fit (wrap_fit (by omega) (by omega)) ?_) | (guard_target = Arith _ _ _; refine Arith.fit (by apply wrap_fit <;> first | omega | (simp only [List.length_map]; omega)) ?_) | (guard_target = Arith _ _ _; refine Arith.fit (by decide) ?_) | (guard_target = Index _ _ _; first  | refine Index.mk _ (idx_map (by omega)) ?_) | (guard_target = Need _ _; refine Need.mk (by first  | omega | (simp only [List.length_map]; omega)) ?_))
          all_goals first | rfl | exact ⟨rfl, trivial⟩ | (exfalso; simp at *; omega)
        · skip
          refine callX_of_vc htb hm Tryz.func165 rfl rfl rfl rfl (ann := fun _ => none) (gh := fun _ => false) ?_
          repeat' ((conv => whnf); first | (guard_target = RetX _ _; refine RetX.mk ?_ ?_) | (guard_target = Branch _ _ _; (first | apply Branch.dec | apply Branch.beq | apply Branch.bne | apply Branch.ndec | apply Branch.nb | apply Branch.mk) <;> intro h <;> (try simp only [List.length_map] at h) <;> (try omega) <;> (try contradiction)) | (guard_target = CallN _ 78 _ _ _ _; refine CallN.gen [true, false] _ _ _ rfl p6 rfl rfl _ rfl ?_) | (guard_target = CallN _ 57 _ _ _ _; refine CallN.gen [true, false] _ _ _ rfl pk rfl rfl _ rfl ?_) | (guard_target = CallN _ 165 _ _ _ _; refine CallN.gen [true, false, false] _ _ _ rfl ih rfl rfl _ rfl ?_) | (guard_target = Arith _ _ _; refine Arith.fit (wrap_fit (by omega) (by omega)) ?_) | (guard_target = Arith _ _ _; refine Arith.fit (by apply wrap_fit <;> first | omega | (simp only [List.length_map]; omega)) ?_) | (guard_target = Arith _ _ _; refine Arith.fit (by decide) ?_) | (guard_target = Index _ _ _; first  | refine Index.mk _ (idx_map (by omega)) ?_) | (guard_target = Need _ _; refine Need.mk (by first  | omega | (simp only [List.length_map]; omega)) ?_))
          all_goals first | rfl | exact ⟨rfl, trivial⟩ | (exfalso; simp at *; omega)
      rw [if_neg g2]
      by_cases g3 : k < 4
      · rw [if_pos g3]
        have ih := expr_ok d (dp - 1) false ⟨sA, left - 1⟩ (n + 4) (by omega) ⟨hsA, by omega, hcA, by simp only []; omega, by simp only []; omega⟩ (by omega)
        generalize exprE g d false ⟨sA, left - 1⟩ = X at ih ⊢
        obtain ⟨⟨k1, n1, ks1⟩, ⟨s1, l1⟩⟩ := X
        simp only [genC] at ih ⊢
        refine node_soft ?_
        cases c
        · skip
          refine callX_of_vc htb hm Tryz.func165 rfl rfl rfl rfl (ann := fun _ => none) (gh := fun _ => false) ?_
          repeat' ((conv => whnf); first | (guard_target = RetX _ _; refine RetX.mk ?_ ?_) | (guard_target = Branch _ _ _; (first | apply Branch.dec | apply Branch.beq | apply Branch.bne | apply Branch.ndec | apply Branch.nb | apply Branch.mk) <;> intro h <;> (try simp only [List.length_map] at h) <;> (try omega) <;> (try contradiction)) | (guard_target = CallN _ 78 _ _ _ _; refine CallN.gen [true, false] _ _ _ rfl p6 rfl rfl _ rfl ?_) | (guard_target = CallN _ 57 _ _ _ _; refine CallN.gen [true, false] _ _ _ rfl pk rfl rfl _ rfl ?_) | (guard_target = CallN _ 165 _ _ _ _; refine CallN.gen [true, false, false] _ _ _ rfl ih rfl rfl _ rfl ?_) | (guard_target = Arith _ _ _; refine Arith.fit (wrap_fit (by omega) (by omega)) ?_) | (guard_target = Arith _ _ _; refine Arith.fit (by apply wrap_fit <;> first | omega | (simp only [List.length_map]; omega)) ?_) | (guard_target = Arith _ _ _; refine Arith.fit (by decide) ?_) | (guard_target = Index _ _ _; first  | refine Index.mk _ (idx_map (by omega)) ?_) | (guard_target = Need _ _; refine Need.mk (by first  | omega | (simp only [List.length_map]; omega)) ?_))
          all_goals first | rfl | exact ⟨rfl, trivial⟩ | (exfalso; simp at *; omega)
        · skip
          refine callX_of_vc htb hm Tryz.func165 rfl rfl rfl rfl (ann := fun _ => none) (gh := fun _ => false) ?_
          repeat' ((conv => whnf); first | (guard_target = RetX _ _; refine RetX.mk ?_ ?_) | (guard_target = Branch _ _ _; (first | apply Branch.dec | apply Branch.beq | apply Branch.bne | apply Branch.ndec | apply Branch.nb | apply Branch.mk) <;> intro h <;> (try simp only [List.length_map] at h) <;> (try omega) <;> (try contradiction)) | (guard_target = CallN _ 78 _ _ _ _; refine CallN.gen [true, false] _ _ _ rfl p6 rfl rfl _ rfl ?_) | (guard_target = CallN _ 57 _ _ _ _; refine CallN.gen [true, false] _ _ _ rfl pk rfl rfl _ rfl ?_) | (guard_target = CallN _ 165 _ _ _ _; refine CallN.gen [true, false, false] _ _ _ rfl ih rfl rfl _ rfl ?_) | (guard_target = Arith _ _ _; refine Arith.fit (wrap_fit (by omega) (by omega)) ?_) | (guard_target = Arith _ _ _; refine Arith.fit (by apply wrap_fit <;> first | omega | (simp only [List.length_map]; omega)) ?_) | (guard_target = Arith _ _ _; refine Arith.fit (by decide) ?_) | (guard_target = Index _ _ _; first  | refine Index.mk _ (idx_map (by omega)) ?_) | (guard_target = Need _ _; refine Need.mk (by first  | omega | (simp only [List.length_map]; omega)) ?_))
          all_goals first | rfl | exact ⟨rfl, trivial⟩ | (exfalso; simp at *; omega)
      rw [if_neg g3]
      cases c with
      | true =>
        simp only [halfB, halfS, if_true]
        have ia := expr_ok d (dp - 1) true ⟨sA, left - 1⟩ (n + 4) (by omega) ⟨hsA, by omega, hcA, by simp only []; omega, by simp only []; omega⟩ (by omega)
        have ra := Rd.expr g d true ⟨sA, left - 1⟩ hsA
        have la := exprE_left g d true ⟨sA, left - 1⟩
        have ca := exprE_cd g d true ⟨sA, left - 1⟩
        generalize exprE g d true ⟨sA, left - 1⟩ = X at ia ra la ca ⊢
        obtain ⟨⟨k1, n1, ks1⟩, ⟨s1, l1⟩⟩ := X
        simp only [] at ra la ca ia ⊢
        have ib := expr_ok d (dp - 1) true ⟨s1, l1⟩ (n + 4 + costE d) (by omega) ⟨ra, by omega, by simp only []; rw [ca]; exact hcA, by simp only []; omega, by simp only []; omega⟩ (by omega)
        generalize exprE g d true ⟨s1, l1⟩ = Y at ib ⊢
        obtain ⟨⟨k2, n2, ks2⟩, ⟨s2, l2⟩⟩ := Y
        simp only [genC] at ia ib ⊢
        by_cases g4 : k < 6
        · rw [if_pos g4]
          have pr := l02Pair_okX 6 (.mk k1 n1 ks1) (.mk k2 n2 ks2)
          refine callX_of_vc htb hm Tryz.func165 rfl rfl rfl rfl (ann := fun _ => none) (gh := fun _ => false) ?_
          repeat' ((conv => whnf); first | (guard_target = RetX _ _; refine RetX.mk ?_ ?_) | (guard_target = Branch _ _ _; (first | apply Branch.dec | apply Branch.beq | apply Branch.bne | apply Branch.ndec | apply Branch.nb | apply Branch.mk) <;> intro h <;> (try simp only [List.length_map] at h) <;> (try omega) <;> (try contradiction)) | (guard_target = CallN _ 78 _ _ _ _; refine CallN.gen [true, false] _ _ _ rfl p6 rfl rfl _ rfl ?_) | (guard_target = CallN _ 57 _ _ _ _; refine CallN.gen [true, false] _ _ _ rfl pk rfl rfl _ rfl ?_) | (guard_target = CallN _ 165 _ _ _ _; (first | refine CallN.gen [true, false, false] _ _ _ rfl ia rfl rfl _ rfl ?_ | refine CallN.gen [true, false, false] _ _ _ rfl ib rfl rfl _ rfl ?_)) | (guard_target = CallN _ 85 _ _ _ _; refine CallN.pure _ _ rfl pr rfl _ rfl ?_) | (guard_target = Arith _ _ _; refine Arith.fit (wrap_fit (by omega) (by omega)) ?_) | (guard_target = Arith _ _ _; refine Arith.fit (by apply wrap_fit <;> first | omega | (simp only [List.length_map]; omega)) ?_) | (guard_target = Arith _ _ _; refine Arith.fit (by decide) ?_) | (guard_target = Index _ _ _; first  | refine Index.mk _ (idx_map (by omega)) ?_) | (guard_target = Need _ _; refine Need.mk (by first  | omega | (simp only [List.length_map]; omega)) ?_))
          all_goals first | rfl | exact ⟨rfl, trivial⟩ | (exfalso; simp at *; omega)
        · rw [if_neg g4]
          have pr := l02Pair_okX 7 (.mk k1 n1 ks1) (.mk k2 n2 ks2)
          refine callX_of_vc htb hm Tryz.func165 rfl rfl rfl rfl (ann := fun _ => none) (gh := fun _ => false) ?_
          repeat' ((conv => whnf); first | (guard_target = RetX _ _; refine RetX.mk ?_ ?_) | (guard_target = Branch _ _ _; (first | apply Branch.dec | apply Branch.beq | apply Branch.bne | apply Branch.ndec | apply Branch.nb | apply Branch.mk) <;> intro h <;> (try simp only [List.length_map] at h) <;> (try omega) <;> (try contradiction)) | (guard_target = CallN _ 78 _ _ _ _; refine CallN.gen [true, false] _ _ _ rfl p6 rfl rfl _ rfl ?_) | (guard_target = CallN _ 57 _ _ _ _; refine CallN.gen [true, false] _ _ _ rfl pk rfl rfl _ rfl ?_) | (guard_target = CallN _ 165 _ _ _ _; (first | refine CallN.gen [true, false, false] _ _ _ rfl ia rfl rfl _ rfl ?_ | refine CallN.gen [true, false, false] _ _ _ rfl ib rfl rfl _ rfl ?_)) | (guard_target = CallN _ 85 _ _ _ _; refine CallN.pure _ _ rfl pr rfl _ rfl ?_) | (guard_target = Arith _ _ _; refine Arith.fit (wrap_fit (by omega) (by omega)) ?_) | (guard_target = Arith _ _ _; refine Arith.fit (by apply wrap_fit <;> first | omega | (simp only [List.length_map]; omega)) ?_) | (guard_target = Arith _ _ _; refine Arith.fit (by decide) ?_) | (guard_target = Index _ _ _; first  | refine Index.mk _ (idx_map (by omega)) ?_) | (guard_target = Need _ _; refine Need.mk (by first  | omega | (simp only [List.length_map]; omega)) ?_))
          all_goals first | rfl | exact ⟨rfl, trivial⟩ | (exfalso; simp at *; omega)
      | false =>
        simp only [halfB, halfS, Bool.false_eq_true, if_false]
        have p5 := one_ok sA (hsA.mono (by omega)) hcA 5 i5
        have hs5 : Rd (pickS sA 5) (n + 6) := (hsA.pick 5).mono (by omega)
        have hc5 : (pickS sA 5).code.length ≤ 1000000 := by rw [pick_cd]; exact hcA
        generalize oneB sA 5 = b5 at p5 ⊢
        generalize pickS sA 5 = sB at p5 hs5 hc5 ⊢
        have ia := expr_ok d (dp - 1) b5 ⟨sB, left - 1⟩ (n + 6) (by omega) ⟨hs5, by omega, hc5, by simp only []; omega, by simp only []; omega⟩ (by omega)
        have ra := Rd.expr g d b5 ⟨sB, left - 1⟩ hs5
        have la := exprE_left g d b5 ⟨sB, left - 1⟩
        have ca := exprE_cd g d b5 ⟨sB, left - 1⟩
        generalize exprE g d b5 ⟨sB, left - 1⟩ = X at ia ra la ca ⊢
        obtain ⟨⟨k1, n1, ks1⟩, ⟨s1, l1⟩⟩ := X
        simp only [] at ra la ca ia ⊢
        have hc1 : s1.code.length ≤ 1000000 := by rw [ca]; exact hc5
        have p1 := one_ok s1 (ra.mono (by omega)) hc1 6 i6
        have rb : Rd (pickS s1 6) (n + 8 + costE d) := (ra.pick 6).mono (by omega)
        have hcb : (pickS s1 6).code.length ≤ 1000000 := by rw [pick_cd]; exact hc1
        generalize oneB s1 6 = b6 at p1 ⊢
        generalize pickS s1 6 = sC at p1 rb hcb ⊢
        have ib := expr_ok d (dp - 1) b6 ⟨sC, l1⟩ (n + 8 + costE d) (by omega) ⟨rb, by omega, hcb, by simp only []; omega, by simp only []; omega⟩ (by omega)
        generalize exprE g d b6 ⟨sC, l1⟩ = Y at ib ⊢
        obtain ⟨⟨k2, n2, ks2⟩, ⟨s2, l2⟩⟩ := Y
        simp only [genC] at ia ib ⊢
        by_cases g4 : k < 6
        · rw [if_pos g4]
          have pr := l02Pair_okX 6 (.mk k1 n1 ks1) (.mk k2 n2 ks2)
          refine callX_of_vc htb hm Tryz.func165 rfl rfl rfl rfl (ann := fun _ => none) (gh := fun _ => false) ?_
          repeat' ((conv => whnf); first | (guard_target = RetX _ _; refine RetX.mk ?_ ?_) | (guard_target = Branch _ _ _; (first | apply Branch.dec | apply Branch.beq | apply Branch.bne | apply Branch.ndec | apply Branch.nb | apply Branch.mk) <;> intro h <;> (try simp only [List.length_map] at h) <;> (try omega) <;> (try contradiction)) | (guard_target = CallN _ 78 _ _ _ _; (first | refine CallN.gen [true, false] _ _ _ rfl p6 rfl rfl _ rfl ?_ | refine CallN.gen [true, false] _ _ _ rfl p5 rfl rfl _ rfl ?_ | refine CallN.gen [true, false] _ _ _ rfl p1 rfl rfl _ rfl ?_)) | (guard_target = CallN _ 57 _ _ _ _; refine CallN.gen [true, false] _ _ _ rfl pk rfl rfl _ rfl ?_) | (guard_target = CallN _ 165 _ _ _ _; (first | refine CallN.gen [true, false, false] _ _ _ rfl ia rfl rfl _ rfl ?_ | refine CallN.gen [true, false, false] _ _ _ rfl ib rfl rfl _ rfl ?_)) | (guard_target = CallN _ 85 _ _ _ _; refine CallN.pure _ _ rfl pr rfl _ rfl ?_) | (guard_target = Arith _ _ _; refine Arith.fit (wrap_fit (by omega) (by omega)) ?_) | (guard_target = Arith _ _ _; refine Arith.fit (by apply wrap_fit <;> first | omega | (simp only [List.length_map]; omega)) ?_) | (guard_target = Arith _ _ _; refine Arith.fit (by decide) ?_) | (guard_target = Index _ _ _; first  | refine Index.mk _ (idx_map (by omega)) ?_) | (guard_target = Need _ _; refine Need.mk (by first  | omega | (simp only [List.length_map]; omega)) ?_))
          all_goals first | rfl | exact ⟨rfl, trivial⟩ | (exfalso; simp at *; omega)
        · rw [if_neg g4]
          have pr := l02Pair_okX 7 (.mk k1 n1 ks1) (.mk k2 n2 ks2)
          refine callX_of_vc htb hm Tryz.func165 rfl rfl rfl rfl (ann := fun _ => none) (gh := fun _ => false) ?_
          repeat' ((conv => whnf); first | (guard_target = RetX _ _; refine RetX.mk ?_ ?_) | (guard_target = Branch _ _ _; (first | apply Branch.dec | apply Branch.beq | apply Branch.bne | apply Branch.ndec | apply Branch.nb | apply Branch.mk) <;> intro h <;> (try simp only [List.length_map] at h) <;> (try omega) <;> (try contradiction)) | (guard_target = CallN _ 78 _ _ _ _; (first | refine CallN.gen [true, false] _ _ _ rfl p6 rfl rfl _ rfl ?_ | refine CallN.gen [true, false] _ _ _ rfl p5 rfl rfl _ rfl ?_ | refine CallN.gen [true, false] _ _ _ rfl p1 rfl rfl _ rfl ?_)) | (guard_target = CallN _ 57 _ _ _ _; refine CallN.gen [true, false] _ _ _ rfl pk rfl rfl _ rfl ?_) | (guard_target = CallN _ 165 _ _ _ _; (first | refine CallN.gen [true, false, false] _ _ _ rfl ia rfl rfl _ rfl ?_ | refine CallN.gen [true, false, false] _ _ _ rfl ib rfl rfl _ rfl ?_)) | (guard_target = CallN _ 85 _ _ _ _; refine CallN.pure _ _ rfl pr rfl _ rfl ?_) | (guard_target = Arith _ _ _; refine Arith.fit (wrap_fit (by omega) (by omega)) ?_) | (guard_target = Arith _ _ _; refine Arith.fit (by apply wrap_fit <;> first | omega | (simp only [List.length_map]; omega)) ?_) | (guard_target = Arith _ _ _; refine Arith.fit (by decide) ?_) | (guard_target = Index _ _ _; first  | refine Index.mk _ (idx_map (by omega)) ?_) | (guard_target = Need _ _; refine Need.mk (by first  | omega | (simp only [List.length_map]; omega)) ?_))
          all_goals first | rfl | exact ⟨rfl, trivial⟩ | (exfalso; simp at *; omega)
end
end Go.Proofs.YtaajacnceocpoaaGreat

namespace Go.Proofs.YtaajacnceocpoaaGreat
open Go Go.KA Go.Proofs
set_option maxHeartbeats 16000000
set_option maxRecDepth 100000
theorem l06Not_own (k n : Int) : CallX Tryz.prog 86 [.a 3 (encExpr (.mk k n []))] [] (.a 3 (ownT (.mk 5 0 [.mk k n []]))) := by
  have h := l01Own_ok (.mk k n []) (by simp [budExpr, budExprS])
  have hp : pureT (.a 3 (ownT (.mk k n []))) := by
    intro x hx
    simp only [ownT, List.mem_cons, List.not_mem_nil, or_false] at hx
    rcases hx with rfl | rfl | rfl <;> trivial
  refine callX_of_vc htb hm Tryz.func86 rfl rfl rfl rfl (ann := fun _ => none) (gh := fun _ => false) ?_
  repeat' ((conv => whnf); first | (guard_target = RetX _ _; refine RetX.mk ?_ ?_) | (guard_target = CallN _ 84 _ _ _ _; refine CallN.own _ _ rfl h hp _ rfl ?_) | (guard_target = Index _ _ _; first  | refine Index.mk _ (idx_map (by omega)) ?_) | (guard_target = Need _ _; refine Need.mk (by first  | omega | (simp only [List.length_map]; omega)) ?_))
  all_goals first | rfl | trivial
theorem notT_pure (k n : Int) : pureT (.a 3 (ownT (.mk 5 0 [.mk k n []]))) := by
  intro x hx
  simp only [ownT, List.mem_cons, List.not_mem_nil, or_false] at hx
  rcases hx with rfl | rfl | rfl
  · trivial
  · trivial
  · simp [XExpr.kids, ownExpr, ownExprS, pureC, pureLL, pureL]
end Go.Proofs.YtaajacnceocpoaaGreat
