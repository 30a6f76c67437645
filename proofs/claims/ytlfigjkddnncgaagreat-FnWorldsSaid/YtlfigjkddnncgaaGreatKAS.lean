/- Contracts of the draws of yes or no, of one of some numbers, of a signature and of leaves of expressions. No conditions but bounds of size. -/
import Derived.Test.YtlfigjkddnncgaaGreatKAR
namespace Go.Proofs.YtlfigjkddnncgaaGreat
open Go Go.KA Go.Proofs
set_option maxHeartbeats 16000000
set_option maxRecDepth 100000

theorem pick_cd (s : Src) (n : Int) : (pickS s n).code = s.code := by
  unfold pickS
  split
  · rfl
  · split <;> rfl
theorem one_ok (s : Src) (hs : Rd s 900000) (hc : s.code.length ≤ 1000000) (n : Int) (hn : I64 n) : CallX Tryz.prog 85 [.c (.op (srcC s)), I n] [some [.op (srcC (pickS s n))], none] (B (oneB s n)) := by
  have h1 := pick_ok s hs hc n hn
  refine callX_of_vc htb hm Tryz.func85 rfl rfl rfl rfl (ann := fun _ => none) (gh := fun _ => false) ?_
  repeat' ((conv => whnf); first | (guard_target = Done _; refine Done.mk ?_) | (guard_target = RetX _ _; refine RetX.mk ?_ ?_) | (guard_target = Fact _ _; refine Fact.mk fun hL => ?_; (try simp only [List.length_map, maxLen] at hL)) | (guard_target = Branch _ _ _; (first | refine Branch.dec ?_ ?_ | refine Branch.beq ?_ ?_ | refine Branch.bne ?_ ?_ | refine Branch.ndec ?_ ?_ | refine Branch.nb ?_ ?_ | refine Branch.mk ?_ ?_) <;> intro h <;> (try simp only [List.length_map] at h) <;> (try omega) <;> (try contradiction)) | (guard_target = CallN _ 35 _ _ _ _; refine CallN.gen [true, false] _ _ _ rfl h1 rfl rfl _ rfl ?_) | (guard_target = Arith _ _ _; refine Arith.fit (wrap_fit (by first | omega | (simp only [List.length_map]; omega)) (by first | omega | (simp only [List.length_map]; omega))) ?_) | (guard_target = Arith _ _ _; refine Arith.fit (by decide) ?_) | (guard_target = Index _ _ _; first  | refine Index.mk _ (idx_map (by omega)) ?_) | (guard_target = Need (_ = true) _; refine Need.mk (by first | kernel_rfl | rfl) ?_) | (guard_target = LinkV _ _ _; first  | refine LinkV.no ?_) | (guard_target = GhO _ _ _ _; refine GhO.go ?_) | (guard_target = Need _ _; refine Need.mk (by first  | omega | (simp only [List.length_map]; omega)) ?_))
  all_goals first | rfl | exact ⟨rfl, trivial⟩
theorem leaf_soft {P : Program} {f : Nat} {args : List SV} {outs : List (Option (List CV))} {k n : Int} (h : CallX P f args outs (.a 3 [J k, J n, .ows 29 3 []])) : CallX P f args outs (.a 3 (encExpr (.mk k n []))) :=
  h.soft (.v (.a (.same (.same (.ro .nil)))))
section
variable (g : XSig) (hg : 0 ≤ g.tests ∧ g.tests ≤ 3 ∧ 0 ≤ g.actions ∧ g.actions ≤ 4)
include hg
theorem genLeaf_ok (left : Int) (s : Src) (hs : Rd s 800000) (hc : s.code.length ≤ 1000000) (c : Bool) :
    CallX Tryz.prog 185 [.c (.op (genC ⟨s, left⟩ g)), B c] [some [.op (genC ⟨(leafD g c s).2, left⟩ g)], none] (.a 3 (encExpr (leafD g c s).1)) := by
  have ht : I64 g.tests := by unfold I64; omega
  have ha : I64 g.actions := by unfold I64; omega
  have i2 : I64 2 := by unfold I64; omega
  have i3 : I64 3 := by unfold I64; omega
  have i4 : I64 4 := by unfold I64; omega
  obtain ⟨gt, ga⟩ := g
  simp only [] at hg ht ha
  have p3 := one_ok s (hs.mono (by omega)) hc 3 i3
  have hs3 : Rd (pickS s 3) 800002 := hs.pick 3
  have hc3 : (pickS s 3).code.length ≤ 1000000 := by rw [pick_cd]; exact hc
  cases c with
  | true =>
    by_cases g2 : gt > 0
    · have p4 := one_ok s (hs.mono (by omega)) hc 4 i4
      have hs4 : Rd (pickS s 4) 800004 := (hs.pick 4).mono (by omega)
      have hc4 : (pickS s 4).code.length ≤ 1000000 := by rw [pick_cd]; exact hc
      cases h4 : oneB s 4 with
      | false =>
        rw [h4] at p4
        have q := pick_ok (pickS s 4) (hs4.mono (by omega)) hc4 gt ht
        have e : leafD ⟨gt, ga⟩ true s = (.mk 3 (pickV (pickS s 4) gt) [], pickS (pickS s 4) gt) := by simp [leafD, leaf1, leaf0, g2, h4]
        rw [e]
        simp only [genC]
        refine leaf_soft ?_
        refine callX_of_vc htb hm Tryz.func185 rfl rfl rfl rfl (ann := fun _ => none) (gh := fun _ => false) ?_
        repeat' ((conv => whnf); first | (guard_target = Done _; refine Done.mk ?_) | (guard_target = RetX _ _; refine RetX.mk ?_ ?_) | (guard_target = Fact _ _; refine Fact.mk fun hL => ?_; (try simp only [List.length_map, maxLen] at hL)) | (guard_target = Branch _ _ _; (first | refine Branch.dec ?_ ?_ | refine Branch.beq ?_ ?_ | refine Branch.bne ?_ ?_ | refine Branch.ndec ?_ ?_ | refine Branch.nb ?_ ?_ | refine Branch.mk ?_ ?_) <;> intro h <;> (try simp only [List.length_map] at h) <;> (try omega) <;> (try contradiction)) | (guard_target = CallN _ 85 _ _ _ _; refine CallN.gen [true, false] _ _ _ rfl p4 rfl rfl _ rfl ?_) | (guard_target = CallN _ 35 _ _ _ _; refine CallN.gen [true, false] _ _ _ rfl q rfl rfl _ rfl ?_) | (guard_target = Arith _ _ _; refine Arith.fit (wrap_fit (by omega) (by omega)) ?_) | (guard_target = Arith _ _ _; refine Arith.fit (wrap_fit (by first | omega | (simp only [List.length_map]; omega)) (by first | omega | (simp only [List.length_map]; omega))) ?_) | (guard_target = Arith _ _ _; refine Arith.fit (by decide) ?_) | (guard_target = Index _ _ _; first  | refine Index.mk _ (idx_map (by omega)) ?_) | (guard_target = Need (_ = true) _; refine Need.mk (by first | kernel_rfl | rfl) ?_) | (guard_target = LinkV _ _ _; first  | refine LinkV.no ?_) | (guard_target = GhO _ _ _ _; refine GhO.go ?_) | (guard_target = Need _ _; refine Need.mk (by first  | omega | (simp only [List.length_map]; omega)) ?_))
        all_goals first | rfl | exact ⟨rfl, trivial⟩ | (exfalso; simp at *; omega)
      | true =>
        rw [h4] at p4
        have q := pick_ok (pickS s 4) (hs4.mono (by omega)) hc4 2 i2
        have qb := pickV_in (pickS s 4) (n := 2) (by omega)
        have e : leafD ⟨gt, ga⟩ true s = (.mk (1 + pickV (pickS s 4) 2) 0 [], pickS (pickS s 4) 2) := by simp [leafD, leaf1, leaf0, g2, h4]
        rw [e]
        simp only [genC]
        refine leaf_soft ?_
        refine callX_of_vc htb hm Tryz.func185 rfl rfl rfl rfl (ann := fun _ => none) (gh := fun _ => false) ?_
        repeat' ((conv => whnf); first | (guard_target = Done _; refine Done.mk ?_) | (guard_target = RetX _ _; refine RetX.mk ?_ ?_) | (guard_target = Fact _ _; refine Fact.mk fun hL => ?_; (try simp only [List.length_map, maxLen] at hL)) | (guard_target = Branch _ _ _; (first | refine Branch.dec ?_ ?_ | refine Branch.beq ?_ ?_ | refine Branch.bne ?_ ?_ | refine Branch.ndec ?_ ?_ | refine Branch.nb ?_ ?_ | refine Branch.mk ?_ ?_) <;> intro h <;> (try simp only [List.length_map] at h) <;> (try omega) <;> (try contradiction)) | (guard_target = CallN _ 85 _ _ _ _; refine CallN.gen [true, false] _ _ _ rfl p4 rfl rfl _ rfl ?_) | (guard_target = CallN _ 35 _ _ _ _; refine CallN.gen [true, false] _ _ _ rfl q rfl rfl _ rfl ?_) | (guard_target = Arith _ _ _; refine Arith.fit (wrap_fit (by omega) (by omega)) ?_) | (guard_target = Arith _ _ _; refine Arith.fit (wrap_fit (by first | omega | (simp only [List.length_map]; omega)) (by first | omega | (simp only [List.length_map]; omega))) ?_) | (guard_target = Arith _ _ _; refine Arith.fit (by decide) ?_) | (guard_target = Index _ _ _; first  | refine Index.mk _ (idx_map (by omega)) ?_) | (guard_target = Need (_ = true) _; refine Need.mk (by first | kernel_rfl | rfl) ?_) | (guard_target = LinkV _ _ _; first  | refine LinkV.no ?_) | (guard_target = GhO _ _ _ _; refine GhO.go ?_) | (guard_target = Need _ _; refine Need.mk (by first  | omega | (simp only [List.length_map]; omega)) ?_))
        all_goals first | rfl | exact ⟨rfl, trivial⟩ | (exfalso; simp at *; omega)
    · have q := pick_ok s (hs.mono (by omega)) hc 2 i2
      have qb := pickV_in s (n := 2) (by omega)
      have e : leafD ⟨gt, ga⟩ true s = (.mk (1 + pickV s 2) 0 [], pickS s 2) := by simp [leafD, leaf1, leaf0, g2]
      rw [e]
      simp only [genC]
      refine leaf_soft ?_
      refine callX_of_vc htb hm Tryz.func185 rfl rfl rfl rfl (ann := fun _ => none) (gh := fun _ => false) ?_
      repeat' ((conv => whnf); first | (guard_target = Done _; refine Done.mk ?_) | (guard_target = RetX _ _; refine RetX.mk ?_ ?_) | (guard_target = Fact _ _; refine Fact.mk fun hL => ?_; (try simp only [List.length_map, maxLen] at hL)) | (guard_target = Branch _ _ _; (first | refine Branch.dec ?_ ?_ | refine Branch.beq ?_ ?_ | refine Branch.bne ?_ ?_ | refine Branch.ndec ?_ ?_ | refine Branch.nb ?_ ?_ | refine Branch.mk ?_ ?_) <;> intro h <;> (try simp only [List.length_map] at h) <;> (try omega) <;> (try contradiction)) | (guard_target = CallN _ 35 _ _ _ _; refine CallN.gen [true, false] _ _ _ rfl q rfl rfl _ rfl ?_) | (guard_target = Arith _ _ _; refine Arith.fit (wrap_fit (by omega) (by omega)) ?_) | (guard_target = Arith _ _ _; refine Arith.fit (wrap_fit (by first | omega | (simp only [List.length_map]; omega)) (by first | omega | (simp only [List.length_map]; omega))) ?_) | (guard_target = Arith _ _ _; refine Arith.fit (by decide) ?_) | (guard_target = Index _ _ _; first  | refine Index.mk _ (idx_map (by omega)) ?_) | (guard_target = Need (_ = true) _; refine Need.mk (by first | kernel_rfl | rfl) ?_) | (guard_target = LinkV _ _ _; first  | refine LinkV.no ?_) | (guard_target = GhO _ _ _ _; refine GhO.go ?_) | (guard_target = Need _ _; refine Need.mk (by first  | omega | (simp only [List.length_map]; omega)) ?_))
      all_goals first | rfl | exact ⟨rfl, trivial⟩ | (exfalso; simp at *; omega)
  | false =>
    by_cases g1 : ga > 0
    · cases h3 : oneB s 3 with
      | false =>
        rw [h3] at p3
        have q := pick_ok (pickS s 3) (hs3.mono (by omega)) hc3 ga ha
        have e : leafD ⟨gt, ga⟩ false s = (.mk 4 (pickV (pickS s 3) ga) [], pickS (pickS s 3) ga) := by simp [leafD, g1, h3]
        rw [e]
        simp only [genC]
        refine leaf_soft ?_
        refine callX_of_vc htb hm Tryz.func185 rfl rfl rfl rfl (ann := fun _ => none) (gh := fun _ => false) ?_
        repeat' ((conv => whnf); first | (guard_target = Done _; refine Done.mk ?_) | (guard_target = RetX _ _; refine RetX.mk ?_ ?_) | (guard_target = Fact _ _; refine Fact.mk fun hL => ?_; (try simp only [List.length_map, maxLen] at hL)) | (guard_target = Branch _ _ _; (first | refine Branch.dec ?_ ?_ | refine Branch.beq ?_ ?_ | refine Branch.bne ?_ ?_ | refine Branch.ndec ?_ ?_ | refine Branch.nb ?_ ?_ | refine Branch.mk ?_ ?_) <;> intro h <;> (try simp only [List.length_map] at h) <;> (try omega) <;> (try contradiction)) | (guard_target = CallN _ 85 _ _ _ _; refine CallN.gen [true, false] _ _ _ rfl p3 rfl rfl _ rfl ?_) | (guard_target = CallN _ 35 _ _ _ _; refine CallN.gen [true, false] _ _ _ rfl q rfl rfl _ rfl ?_) | (guard_target = Arith _ _ _; refine Arith.fit (wrap_fit (by omega) (by omega)) ?_) | (guard_target = Arith _ _ _; refine Arith.fit (wrap_fit (by first | omega | (simp only [List.length_map]; omega)) (by first | omega | (simp only [List.length_map]; omega))) ?_) | (guard_target = Arith _ _ _; refine Arith.fit (by decide) ?_) | (guard_target = Index _ _ _; first  | refine Index.mk _ (idx_map (by omega)) ?_) | (guard_target = Need (_ = true) _; refine Need.mk (by first | kernel_rfl | rfl) ?_) | (guard_target = LinkV _ _ _; first  | refine LinkV.no ?_) | (guard_target = GhO _ _ _ _; refine GhO.go ?_) | (guard_target = Need _ _; refine Need.mk (by first  | omega | (simp only [List.length_map]; omega)) ?_))
        all_goals first | rfl | exact ⟨rfl, trivial⟩ | (exfalso; simp at *; omega)
      | true =>
        rw [h3] at p3
        by_cases g2 : gt > 0
        · have p4 := one_ok (pickS s 3) (hs3.mono (by omega)) hc3 4 i4
          have hs4 : Rd (pickS (pickS s 3) 4) 800004 := (hs3.pick 4).mono (by omega)
          have hc4 : (pickS (pickS s 3) 4).code.length ≤ 1000000 := by rw [pick_cd]; exact hc3
          cases h4 : oneB (pickS s 3) 4 with
          | false =>
            rw [h4] at p4
            have q := pick_ok (pickS (pickS s 3) 4) (hs4.mono (by omega)) hc4 gt ht
            have e : leafD ⟨gt, ga⟩ false s = (.mk 3 (pickV (pickS (pickS s 3) 4) gt) [], pickS (pickS (pickS s 3) 4) gt) := by simp [leafD, leaf1, leaf0, g2, h4, g1, h3]
            rw [e]
            simp only [genC]
            refine leaf_soft ?_
            refine callX_of_vc htb hm Tryz.func185 rfl rfl rfl rfl (ann := fun _ => none) (gh := fun _ => false) ?_
            repeat' ((conv => whnf); first | (guard_target = Done _; refine Done.mk ?_) | (guard_target = RetX _ _; refine RetX.mk ?_ ?_) | (guard_target = Fact _ _; refine Fact.mk fun hL => ?_; (try simp only [List.length_map, maxLen] at hL)) | (guard_target = Branch _ _ _; (first | refine Branch.dec ?_ ?_ | refine Branch.beq ?_ ?_ | refine Branch.bne ?_ ?_ | refine Branch.ndec ?_ ?_ | refine Branch.nb ?_ ?_ | refine Branch.mk ?_ ?_) <;> intro h <;> (try simp only [List.length_map] at h) <;> (try omega) <;> (try contradiction)) | (guard_target = CallN _ 85 _ _ _ _; (first | refine CallN.gen [true, false] _ _ _ rfl p3 rfl rfl _ rfl ?_ | refine CallN.gen [true, false] _ _ _ rfl p4 rfl rfl _ rfl ?_)) | (guard_target = CallN _ 35 _ _ _ _; refine CallN.gen [true, false] _ _ _ rfl q rfl rfl _ rfl ?_) | (guard_target = Arith _ _ _; refine Arith.fit (wrap_fit (by omega) (by omega)) ?_) | (guard_target = Arith _ _ _; refine Arith.fit (wrap_fit (by first | omega | (simp only [List.length_map]; omega)) (by first | omega | (simp only [List.length_map]; omega))) ?_) | (guard_target = Arith _ _ _; refine Arith.fit (by decide) ?_) | (guard_target = Index _ _ _; first  | refine Index.mk _ (idx_map (by omega)) ?_) | (guard_target = Need (_ = true) _; refine Need.mk (by first | kernel_rfl | rfl) ?_) | (guard_target = LinkV _ _ _; first  | refine LinkV.no ?_) | (guard_target = GhO _ _ _ _; refine GhO.go ?_) | (guard_target = Need _ _; refine Need.mk (by first  | omega | (simp only [List.length_map]; omega)) ?_))
            all_goals first | rfl | exact ⟨rfl, trivial⟩ | (exfalso; simp at *; omega)
          | true =>
            rw [h4] at p4
            have q := pick_ok (pickS (pickS s 3) 4) (hs4.mono (by omega)) hc4 2 i2
            have qb := pickV_in (pickS (pickS s 3) 4) (n := 2) (by omega)
            have e : leafD ⟨gt, ga⟩ false s = (.mk (1 + pickV (pickS (pickS s 3) 4) 2) 0 [], pickS (pickS (pickS s 3) 4) 2) := by simp [leafD, leaf1, leaf0, g2, h4, g1, h3]
            rw [e]
            simp only [genC]
            refine leaf_soft ?_
            refine callX_of_vc htb hm Tryz.func185 rfl rfl rfl rfl (ann := fun _ => none) (gh := fun _ => false) ?_
            repeat' ((conv => whnf); first | (guard_target = Done _; refine Done.mk ?_) | (guard_target = RetX _ _; refine RetX.mk ?_ ?_) | (guard_target = Fact _ _; refine Fact.mk fun hL => ?_; (try simp only [List.length_map, maxLen] at hL)) | (guard_target = Branch _ _ _; (first | refine Branch.dec ?_ ?_ | refine Branch.beq ?_ ?_ | refine Branch.bne ?_ ?_ | refine Branch.ndec ?_ ?_ | refine Branch.nb ?_ ?_ | refine Branch.mk ?_ ?_) <;> intro h <;> (try simp only [List.length_map] at h) <;> (try omega) <;> (try contradiction)) | (guard_target = CallN _ 85 _ _ _ _; (first | refine CallN.gen [true, false] _ _ _ rfl p3 rfl rfl _ rfl ?_ | refine CallN.gen [true, false] _ _ _ rfl p4 rfl rfl _ rfl ?_)) | (guard_target = CallN _ 35 _ _ _ _; refine CallN.gen [true, false] _ _ _ rfl q rfl rfl _ rfl ?_) | (guard_target = Arith _ _ _; refine Arith.fit (wrap_fit (by omega) (by omega)) ?_) | (guard_target = Arith _ _ _; refine Arith.fit (wrap_fit (by first | omega | (simp only [List.length_map]; omega)) (by first | omega | (simp only [List.length_map]; omega))) ?_) | (guard_target = Arith _ _ _; refine Arith.fit (by decide) ?_) | (guard_target = Index _ _ _; first  | refine Index.mk _ (idx_map (by omega)) ?_) | (guard_target = Need (_ = true) _; refine Need.mk (by first | kernel_rfl | rfl) ?_) | (guard_target = LinkV _ _ _; first  | refine LinkV.no ?_) | (guard_target = GhO _ _ _ _; refine GhO.go ?_) | (guard_target = Need _ _; refine Need.mk (by first  | omega | (simp only [List.length_map]; omega)) ?_))
            all_goals first | rfl | exact ⟨rfl, trivial⟩ | (exfalso; simp at *; omega)
        · have q := pick_ok (pickS s 3) (hs3.mono (by omega)) hc3 2 i2
          have qb := pickV_in (pickS s 3) (n := 2) (by omega)
          have e : leafD ⟨gt, ga⟩ false s = (.mk (1 + pickV (pickS s 3) 2) 0 [], pickS (pickS s 3) 2) := by simp [leafD, leaf1, leaf0, g2, g1, h3]
          rw [e]
          simp only [genC]
          refine leaf_soft ?_
          refine callX_of_vc htb hm Tryz.func185 rfl rfl rfl rfl (ann := fun _ => none) (gh := fun _ => false) ?_
          repeat' ((conv => whnf); first | (guard_target = Done _; refine Done.mk ?_) | (guard_target = RetX _ _; refine RetX.mk ?_ ?_) | (guard_target = Fact _ _; refine Fact.mk fun hL => ?_; (try simp only [List.length_map, maxLen] at hL)) | (guard_target = Branch _ _ _; (first | refine Branch.dec ?_ ?_ | refine Branch.beq ?_ ?_ | refine Branch.bne ?_ ?_ | refine Branch.ndec ?_ ?_ | refine Branch.nb ?_ ?_ | refine Branch.mk ?_ ?_) <;> intro h <;> (try simp only [List.length_map] at h) <;> (try omega) <;> (try contradiction)) | (guard_target = CallN _ 85 _ _ _ _; refine CallN.gen [true, false] _ _ _ rfl p3 rfl rfl _ rfl ?_) | (guard_target = CallN _ 35 _ _ _ _; refine CallN.gen [true, false] _ _ _ rfl q rfl rfl _ rfl ?_) | (guard_target = Arith _ _ _; refine Arith.fit (wrap_fit (by omega) (by omega)) ?_) | (guard_target = Arith _ _ _; refine Arith.fit (wrap_fit (by first | omega | (simp only [List.length_map]; omega)) (by first | omega | (simp only [List.length_map]; omega))) ?_) | (guard_target = Arith _ _ _; refine Arith.fit (by decide) ?_) | (guard_target = Index _ _ _; first  | refine Index.mk _ (idx_map (by omega)) ?_) | (guard_target = Need (_ = true) _; refine Need.mk (by first | kernel_rfl | rfl) ?_) | (guard_target = LinkV _ _ _; first  | refine LinkV.no ?_) | (guard_target = GhO _ _ _ _; refine GhO.go ?_) | (guard_target = Need _ _; refine Need.mk (by first  | omega | (simp only [List.length_map]; omega)) ?_))
          all_goals first | rfl | exact ⟨rfl, trivial⟩ | (exfalso; simp at *; omega)
    · clear p3 hs3 hc3
      by_cases g2 : gt > 0
      · have p4 := one_ok s (hs.mono (by omega)) hc 4 i4
        have hs4 : Rd (pickS s 4) 800004 := (hs.pick 4).mono (by omega)
        have hc4 : (pickS s 4).code.length ≤ 1000000 := by rw [pick_cd]; exact hc
        cases h4 : oneB s 4 with
        | false =>
          rw [h4] at p4
          have q := pick_ok (pickS s 4) (hs4.mono (by omega)) hc4 gt ht
          have e : leafD ⟨gt, ga⟩ false s = (.mk 3 (pickV (pickS s 4) gt) [], pickS (pickS s 4) gt) := by simp [leafD, leaf1, leaf0, g2, h4, g1]
          rw [e]
          simp only [genC]
          refine leaf_soft ?_
          refine callX_of_vc htb hm Tryz.func185 rfl rfl rfl rfl (ann := fun _ => none) (gh := fun _ => false) ?_
          repeat' ((conv => whnf); first | (guard_target = Done _; refine Done.mk ?_) | (guard_target = RetX _ _; refine RetX.mk ?_ ?_) | (guard_target = Fact _ _; refine Fact.mk fun hL => ?_; (try simp only [List.length_map, maxLen] at hL)) | (guard_target = Branch _ _ _; (first | refine Branch.dec ?_ ?_ | refine Branch.beq ?_ ?_ | refine Branch.bne ?_ ?_ | refine Branch.ndec ?_ ?_ | refine Branch.nb ?_ ?_ | refine Branch.mk ?_ ?_) <;> intro h <;> (try simp only [List.length_map] at h) <;> (try omega) <;> (try contradiction)) | (guard_target = CallN _ 85 _ _ _ _; refine CallN.gen [true, false] _ _ _ rfl p4 rfl rfl _ rfl ?_) | (guard_target = CallN _ 35 _ _ _ _; refine CallN.gen [true, false] _ _ _ rfl q rfl rfl _ rfl ?_) | (guard_target = Arith _ _ _; refine Arith.fit (wrap_fit (by omega) (by omega)) ?_) | (guard_target = Arith _ _ _; refine Arith.fit (wrap_fit (by first | omega | (simp only [List.length_map]; omega)) (by first | omega | (simp only [List.length_map]; omega))) ?_) | (guard_target = Arith _ _ _; refine Arith.fit (by decide) ?_) | (guard_target = Index _ _ _; first  | refine Index.mk _ (idx_map (by omega)) ?_) | (guard_target = Need (_ = true) _; refine Need.mk (by first | kernel_rfl | rfl) ?_) | (guard_target = LinkV _ _ _; first  | refine LinkV.no ?_) | (guard_target = GhO _ _ _ _; refine GhO.go ?_) | (guard_target = Need _ _; refine Need.mk (by first  | omega | (simp only [List.length_map]; omega)) ?_))
          all_goals first | rfl | exact ⟨rfl, trivial⟩ | (exfalso; simp at *; omega)
        | true =>
          rw [h4] at p4
          have q := pick_ok (pickS s 4) (hs4.mono (by omega)) hc4 2 i2
          have qb := pickV_in (pickS s 4) (n := 2) (by omega)
          have e : leafD ⟨gt, ga⟩ false s = (.mk (1 + pickV (pickS s 4) 2) 0 [], pickS (pickS s 4) 2) := by simp [leafD, leaf1, leaf0, g2, h4, g1]
          rw [e]
          simp only [genC]
          refine leaf_soft ?_
          refine callX_of_vc htb hm Tryz.func185 rfl rfl rfl rfl (ann := fun _ => none) (gh := fun _ => false) ?_
          repeat' ((conv => whnf); first | (guard_target = Done _; refine Done.mk ?_) | (guard_target = RetX _ _; refine RetX.mk ?_ ?_) | (guard_target = Fact _ _; refine Fact.mk fun hL => ?_; (try simp only [List.length_map, maxLen] at hL)) | (guard_target = Branch _ _ _; (first | refine Branch.dec ?_ ?_ | refine Branch.beq ?_ ?_ | refine Branch.bne ?_ ?_ | refine Branch.ndec ?_ ?_ | refine Branch.nb ?_ ?_ | refine Branch.mk ?_ ?_) <;> intro h <;> (try simp only [List.length_map] at h) <;> (try omega) <;> (try contradiction)) | (guard_target = CallN _ 85 _ _ _ _; refine CallN.gen [true, false] _ _ _ rfl p4 rfl rfl _ rfl ?_) | (guard_target = CallN _ 35 _ _ _ _; refine CallN.gen [true, false] _ _ _ rfl q rfl rfl _ rfl ?_) | (guard_target = Arith _ _ _; refine Arith.fit (wrap_fit (by omega) (by omega)) ?_) | (guard_target = Arith _ _ _; refine Arith.fit (wrap_fit (by first | omega | (simp only [List.length_map]; omega)) (by first | omega | (simp only [List.length_map]; omega))) ?_) | (guard_target = Arith _ _ _; refine Arith.fit (by decide) ?_) | (guard_target = Index _ _ _; first  | refine Index.mk _ (idx_map (by omega)) ?_) | (guard_target = Need (_ = true) _; refine Need.mk (by first | kernel_rfl | rfl) ?_) | (guard_target = LinkV _ _ _; first  | refine LinkV.no ?_) | (guard_target = GhO _ _ _ _; refine GhO.go ?_) | (guard_target = Need _ _; refine Need.mk (by first  | omega | (simp only [List.length_map]; omega)) ?_))
          all_goals first | rfl | exact ⟨rfl, trivial⟩ | (exfalso; simp at *; omega)
      · have q := pick_ok s (hs.mono (by omega)) hc 2 i2
        have qb := pickV_in s (n := 2) (by omega)
        have e : leafD ⟨gt, ga⟩ false s = (.mk (1 + pickV s 2) 0 [], pickS s 2) := by simp [leafD, leaf1, leaf0, g2, g1]
        rw [e]
        simp only [genC]
        refine leaf_soft ?_
        refine callX_of_vc htb hm Tryz.func185 rfl rfl rfl rfl (ann := fun _ => none) (gh := fun _ => false) ?_
        repeat' ((conv => whnf); first | (guard_target = Done _; refine Done.mk ?_) | (guard_target = RetX _ _; refine RetX.mk ?_ ?_) | (guard_target = Fact _ _; refine Fact.mk fun hL => ?_; (try simp only [List.length_map, maxLen] at hL)) | (guard_target = Branch _ _ _; (first | refine Branch.dec ?_ ?_ | refine Branch.beq ?_ ?_ | refine Branch.bne ?_ ?_ | refine Branch.ndec ?_ ?_ | refine Branch.nb ?_ ?_ | refine Branch.mk ?_ ?_) <;> intro h <;> (try simp only [List.length_map] at h) <;> (try omega) <;> (try contradiction)) | (guard_target = CallN _ 35 _ _ _ _; refine CallN.gen [true, false] _ _ _ rfl q rfl rfl _ rfl ?_) | (guard_target = Arith _ _ _; refine Arith.fit (wrap_fit (by omega) (by omega)) ?_) | (guard_target = Arith _ _ _; refine Arith.fit (wrap_fit (by first | omega | (simp only [List.length_map]; omega)) (by first | omega | (simp only [List.length_map]; omega))) ?_) | (guard_target = Arith _ _ _; refine Arith.fit (by decide) ?_) | (guard_target = Index _ _ _; first  | refine Index.mk _ (idx_map (by omega)) ?_) | (guard_target = Need (_ = true) _; refine Need.mk (by first | kernel_rfl | rfl) ?_) | (guard_target = LinkV _ _ _; first  | refine LinkV.no ?_) | (guard_target = GhO _ _ _ _; refine GhO.go ?_) | (guard_target = Need _ _; refine Need.mk (by first  | omega | (simp only [List.length_map]; omega)) ?_))
        all_goals first | rfl | exact ⟨rfl, trivial⟩ | (exfalso; simp at *; omega)
end
end Go.Proofs.YtlfigjkddnncgaaGreat
