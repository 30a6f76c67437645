/- Contracts of the draws of signatures, of one of some numbers and of a valid program. No conditions but bounds of size. -/
import Derived.Test.YtlfigjkddnncgaaGreatKAV
namespace Go.Proofs.YtlfigjkddnncgaaGreat
open Go Go.KA Go.Proofs
set_option maxHeartbeats 16000000
set_option maxRecDepth 100000
abbrev eU8 (b : UInt8) : List CV := [.val (.int .u8 (b.toNat : Int))]
abbrev src0 (code : List UInt8) : Src := ⟨code, 0, 0⟩
theorem l00From_ok (code : List UInt8) : CallX Tryz.prog 30 [.c (.ro 1 (code.map eU8))] [] (.c (.op (srcC (src0 code)))) := by
  refine callX_of_vc htb hm Tryz.func30 rfl rfl rfl rfl (ann := fun _ => none) (gh := fun _ => false) ?_
  repeat' ((conv => whnf); first | (guard_target = Done _; refine Done.mk ?_) | (guard_target = RetX _ _; refine RetX.mk ?_ ?_) | (guard_target = Fact _ _; refine Fact.mk fun hL => ?_; (try simp only [List.length_map, maxLen] at hL)) | (guard_target = Branch _ _ _; (first | refine Branch.dec ?_ ?_ | refine Branch.beq ?_ ?_ | refine Branch.bne ?_ ?_ | refine Branch.ndec ?_ ?_ | refine Branch.nb ?_ ?_ | refine Branch.mk ?_ ?_) <;> intro h <;> (try simp only [List.length_map] at h) <;> (try omega) <;> (try contradiction)) | (guard_target = Arith _ _ _; refine Arith.fit (wrap_fit (by first | omega | (simp only [List.length_map]; omega)) (by first | omega | (simp only [List.length_map]; omega))) ?_) | (guard_target = Arith _ _ _; refine Arith.fit (by decide) ?_) | (guard_target = Index _ _ _; first  | refine Index.mk _ (idx_map (by omega)) ?_) | (guard_target = Need (_ = true) _; refine Need.mk (by first | kernel_rfl | rfl) ?_) | (guard_target = LinkV _ _ _; first  | refine LinkV.no ?_) | (guard_target = GhO _ _ _ _; refine GhO.go ?_) | (guard_target = Need _ _; refine Need.mk (by first  | omega | (simp only [List.length_map]; omega)) ?_))
  all_goals first | rfl | trivial
theorem among_ok (l : List Int) (hl : 0 < l.length ∧ l.length ≤ 1000) (s : Src) (hs : Rd s 900000) (hc : s.code.length ≤ 1000000) : CallX Tryz.prog 112 [.c (.op (srcC s)), .c (.ro 1 (l.map eI))] [some [.op (srcC (amongS l s))], none] (I (amongV l s)) := by
  have i : I64 (l.length : Int) := by unfold I64; omega
  have p := pick_ok s hs hc l.length i
  have b := pickV_in s (n := l.length) (by omega)
  unfold amongS amongV
  generalize pickV s (l.length : Int) = k at p b ⊢
  generalize pickS s (l.length : Int) = s1 at p ⊢
  rw [← List.length_map (f := eI)] at p
  refine callX_of_vc htb hm Tryz.func112 rfl rfl rfl rfl (ann := fun _ => none) (gh := fun _ => false) ?_
  repeat' ((conv => whnf); first | (guard_target = Done _; refine Done.mk ?_) | (guard_target = RetX _ _; refine RetX.mk ?_ ?_) | (guard_target = Fact _ _; refine Fact.mk fun hL => ?_; (try simp only [List.length_map, maxLen] at hL)) | (guard_target = Branch _ _ _; (first | refine Branch.dec ?_ ?_ | refine Branch.beq ?_ ?_ | refine Branch.bne ?_ ?_ | refine Branch.ndec ?_ ?_ | refine Branch.nb ?_ ?_ | refine Branch.mk ?_ ?_) <;> intro h <;> (try simp only [List.length_map] at h) <;> (try omega) <;> (try contradiction)) | (guard_target = CallN _ 35 _ _ _ _; refine CallN.gen [true, false] _ _ _ rfl p rfl rfl _ rfl ?_) | (guard_target = Arith _ _ _; refine Arith.fit (wrap_fit (by first | omega | (simp only [List.length_map]; omega)) (by first | omega | (simp only [List.length_map]; omega))) ?_) | (guard_target = Arith _ _ _; refine Arith.fit (by decide) ?_) | (guard_target = Index _ _ _; first | refine Index.mk _ (idx_getD (l := l) (d := 0) (i := k.toNat) (by omega)) ?_ | refine Index.mk _ (idx_map (by omega)) ?_) | (guard_target = Need (_ = true) _; refine Need.mk (by first | kernel_rfl | rfl) ?_) | (guard_target = LinkV _ _ _; first  | refine LinkV.no ?_) | (guard_target = GhO _ _ _ _; refine GhO.go ?_) | (guard_target = Need _ _; refine Need.mk (by first  | omega | (simp only [List.length_map]; omega)) ?_))
  all_goals first | rfl | exact ⟨rfl, trivial⟩ | (exfalso; simp at *; omega)
theorem sigS_cd (s : Src) : (sigS s).code = s.code := by simp [sigS, pick_cd]
theorem drawSig_cd (s : Src) : (drawSig s).2.code = s.code := by
  unfold drawSig
  simp only
  split
  · simp only [pick_cd, sigS_cd]
  · split
    · simp only [pick_cd, sigS_cd]
    · exact sigS_cd s
theorem drawSig_ok (s : Src) (hs : Rd s 800000) (hc : s.code.length ≤ 1000000) : CallX Tryz.prog 31 [.c (.op (srcC s))] [some [.op (srcC (drawSig s).2)]] (.a 2 [J (drawSig s).1.tests, J (drawSig s).1.actions]) := by
  have i2 : I64 2 := by unfold I64; omega
  have i12 : I64 12 := by unfold I64; omega
  have i4 : I64 4 := by unfold I64; omega
  have i5 : I64 5 := by unfold I64; omega
  have p1 := pick_ok s (hs.mono (by omega)) hc 2 i2
  have b1 := pickV_in s (n := 2) (by omega)
  have h1 : Rd (pickS s 2) 800002 := hs.pick 2
  have c1 : (pickS s 2).code.length ≤ 1000000 := by rw [pick_cd]; exact hc
  have p2 := pick_ok (pickS s 2) (h1.mono (by omega)) c1 2 i2
  have b2 := pickV_in (pickS s 2) (n := 2) (by omega)
  have h2 : Rd (pickS (pickS s 2) 2) 800004 := (h1.pick 2).mono (by omega)
  have c2 : (pickS (pickS s 2) 2).code.length ≤ 1000000 := by rw [pick_cd]; exact c1
  have p3 := pick_ok (pickS (pickS s 2) 2) (h2.mono (by omega)) c2 12 i12
  have h3 : Rd (sigS s) 800006 := (h2.pick 12).mono (by omega)
  have c3 : (sigS s).code.length ≤ 1000000 := by rw [sigS_cd]; exact hc
  have p4 := pick_ok (sigS s) (h3.mono (by omega)) c3 4 i4
  have p5 := pick_ok (sigS s) (h3.mono (by omega)) c3 5 i5
  unfold drawSig
  simp only []
  have e : pickS (pickS (pickS s 2) 2) 12 = sigS s := rfl
  rw [e] at p3
  generalize sigS s = s3 at p3 p4 p5 ⊢
  generalize pickV (pickS (pickS s 2) 2) 12 = k at p3 ⊢
  generalize pickS (pickS s 2) 2 = s2 at p2 p3 ⊢
  generalize pickV (pickS s 2) 2 = a at p2 b2 ⊢
  generalize pickS s 2 = s1 at p1 p2 ⊢
  generalize pickV s 2 = t at p1 b1 ⊢
  by_cases g1 : k = 0
  · rw [if_pos g1]
    refine callX_of_vc htb hm Tryz.func31 rfl rfl rfl rfl (ann := fun _ => none) (gh := fun _ => false) ?_
    repeat' ((conv => whnf); first | (guard_target = Done _; refine Done.mk ?_) | (guard_target = RetX _ _; refine RetX.mk ?_ ?_) | (guard_target = Fact _ _; refine Fact.mk fun hL => ?_; (try simp only [List.length_map, maxLen] at hL)) | (guard_target = Branch _ _ _; (first | refine Branch.dec ?_ ?_ | refine Branch.beq ?_ ?_ | refine Branch.bne ?_ ?_ | refine Branch.ndec ?_ ?_ | refine Branch.nb ?_ ?_ | refine Branch.mk ?_ ?_) <;> intro h <;> (try simp only [List.length_map] at h) <;> (try omega) <;> (try contradiction)) | (guard_target = CallN _ 35 _ _ _ _; (first | refine CallN.gen [true, false] _ _ _ rfl p1 rfl rfl _ rfl ?_ | refine CallN.gen [true, false] _ _ _ rfl p2 rfl rfl _ rfl ?_ | refine CallN.gen [true, false] _ _ _ rfl p3 rfl rfl _ rfl ?_ | refine CallN.gen [true, false] _ _ _ rfl p4 rfl rfl _ rfl ?_)) | (guard_target = Arith _ _ _; refine Arith.fit (wrap_fit (by first | omega | (simp only [List.length_map]; omega)) (by first | omega | (simp only [List.length_map]; omega))) ?_) | (guard_target = Arith _ _ _; refine Arith.fit (by decide) ?_) | (guard_target = Index _ _ _; first  | refine Index.mk _ (idx_map (by omega)) ?_) | (guard_target = Need (_ = true) _; refine Need.mk (by first | kernel_rfl | rfl) ?_) | (guard_target = LinkV _ _ _; first  | refine LinkV.no ?_) | (guard_target = GhO _ _ _ _; refine GhO.go ?_) | (guard_target = Need _ _; refine Need.mk (by first  | omega | (simp only [List.length_map]; omega)) ?_))
    all_goals first | rfl | exact ⟨rfl, trivial⟩ | (exfalso; simp at *; omega)
  rw [if_neg g1]
  by_cases g2 : k = 1
  · rw [if_pos g2]
    refine callX_of_vc htb hm Tryz.func31 rfl rfl rfl rfl (ann := fun _ => none) (gh := fun _ => false) ?_
    repeat' ((conv => whnf); first | (guard_target = Done _; refine Done.mk ?_) | (guard_target = RetX _ _; refine RetX.mk ?_ ?_) | (guard_target = Fact _ _; refine Fact.mk fun hL => ?_; (try simp only [List.length_map, maxLen] at hL)) | (guard_target = Branch _ _ _; (first | refine Branch.dec ?_ ?_ | refine Branch.beq ?_ ?_ | refine Branch.bne ?_ ?_ | refine Branch.ndec ?_ ?_ | refine Branch.nb ?_ ?_ | refine Branch.mk ?_ ?_) <;> intro h <;> (try simp only [List.length_map] at h) <;> (try omega) <;> (try contradiction)) | (guard_target = CallN _ 35 _ _ _ _; (first | refine CallN.gen [true, false] _ _ _ rfl p1 rfl rfl _ rfl ?_ | refine CallN.gen [true, false] _ _ _ rfl p2 rfl rfl _ rfl ?_ | refine CallN.gen [true, false] _ _ _ rfl p3 rfl rfl _ rfl ?_ | refine CallN.gen [true, false] _ _ _ rfl p5 rfl rfl _ rfl ?_)) | (guard_target = Arith _ _ _; refine Arith.fit (wrap_fit (by first | omega | (simp only [List.length_map]; omega)) (by first | omega | (simp only [List.length_map]; omega))) ?_) | (guard_target = Arith _ _ _; refine Arith.fit (by decide) ?_) | (guard_target = Index _ _ _; first  | refine Index.mk _ (idx_map (by omega)) ?_) | (guard_target = Need (_ = true) _; refine Need.mk (by first | kernel_rfl | rfl) ?_) | (guard_target = LinkV _ _ _; first  | refine LinkV.no ?_) | (guard_target = GhO _ _ _ _; refine GhO.go ?_) | (guard_target = Need _ _; refine Need.mk (by first  | omega | (simp only [List.length_map]; omega)) ?_))
    all_goals first | rfl | exact ⟨rfl, trivial⟩ | (exfalso; simp at *; omega)
  · rw [if_neg g2]
    refine callX_of_vc htb hm Tryz.func31 rfl rfl rfl rfl (ann := fun _ => none) (gh := fun _ => false) ?_
    repeat' ((conv => whnf); first | (guard_target = Done _; refine Done.mk ?_) | (guard_target = RetX _ _; refine RetX.mk ?_ ?_) | (guard_target = Fact _ _; refine Fact.mk fun hL => ?_; (try simp only [List.length_map, maxLen] at hL)) | (guard_target = Branch _ _ _; (first | refine Branch.dec ?_ ?_ | refine Branch.beq ?_ ?_ | refine Branch.bne ?_ ?_ | refine Branch.ndec ?_ ?_ | refine Branch.nb ?_ ?_ | refine Branch.mk ?_ ?_) <;> intro h <;> (try simp only [List.length_map] at h) <;> (try omega) <;> (try contradiction)) | (guard_target = CallN _ 35 _ _ _ _; (first | refine CallN.gen [true, false] _ _ _ rfl p1 rfl rfl _ rfl ?_ | refine CallN.gen [true, false] _ _ _ rfl p2 rfl rfl _ rfl ?_ | refine CallN.gen [true, false] _ _ _ rfl p3 rfl rfl _ rfl ?_)) | (guard_target = Arith _ _ _; refine Arith.fit (wrap_fit (by first | omega | (simp only [List.length_map]; omega)) (by first | omega | (simp only [List.length_map]; omega))) ?_) | (guard_target = Arith _ _ _; refine Arith.fit (by decide) ?_) | (guard_target = Index _ _ _; first  | refine Index.mk _ (idx_map (by omega)) ?_) | (guard_target = Need (_ = true) _; refine Need.mk (by first | kernel_rfl | rfl) ?_) | (guard_target = LinkV _ _ _; first  | refine LinkV.no ?_) | (guard_target = GhO _ _ _ _; refine GhO.go ?_) | (guard_target = Need _ _; refine Need.mk (by first  | omega | (simp only [List.length_map]; omega)) ?_))
    all_goals first | rfl | exact ⟨rfl, trivial⟩ | (exfalso; simp at *; omega)
theorem l06Drawn_ok (g : XSig) (hg : 0 ≤ g.tests ∧ g.tests ≤ 3 ∧ 0 ≤ g.actions ∧ g.actions ≤ 4) (s : Src) (hs : Rd s 100000) (hc : s.code.length ≤ 1000000) (n : Int) (hn : 0 ≤ n ∧ n ≤ 100) :
    CallX Tryz.prog 33 [.c (.op (srcC s)), .a 2 [J g.tests, J g.actions], I n] [some [.op (srcC (progP g 5 ⟨s, n⟩).2.s)], none, none] (.a 6 (encProg (progP g 5 ⟨s, n⟩).1)) := by
  have e : costP 5 = 170100 := rfl
  have h := prog_ok g hg 5 5 ⟨s, n⟩ 100000 rfl ⟨hs, by omega, hc, by simp only []; omega, by simp only []; omega⟩ (by omega)
  obtain ⟨gt, ga⟩ := g
  generalize progP ⟨gt, ga⟩ 5 ⟨s, n⟩ = X at h ⊢
  obtain ⟨⟨k1, n1, ⟨k2, n2, ks2⟩, ks1⟩, ⟨s1, l1⟩⟩ := X
  simp only [genC] at h ⊢
  refine callX_of_vc htb hm Tryz.func33 rfl rfl rfl rfl (ann := fun _ => none) (gh := fun _ => false) ?_
  repeat' ((conv => whnf); first | (guard_target = Done _; refine Done.mk ?_) | (guard_target = RetX _ _; refine RetX.mk ?_ ?_) | (guard_target = Fact _ _; refine Fact.mk fun hL => ?_; (try simp only [List.length_map, maxLen] at hL)) | (guard_target = Branch _ _ _; (first | refine Branch.dec ?_ ?_ | refine Branch.beq ?_ ?_ | refine Branch.bne ?_ ?_ | refine Branch.ndec ?_ ?_ | refine Branch.nb ?_ ?_ | refine Branch.mk ?_ ?_) <;> intro h <;> (try simp only [List.length_map] at h) <;> (try omega) <;> (try contradiction)) | (guard_target = CallN _ 89 _ _ _ _; refine CallN.gen [true, false] _ _ _ rfl h rfl rfl _ rfl ?_) | (guard_target = Arith _ _ _; refine Arith.fit (wrap_fit (by first | omega | (simp only [List.length_map]; omega)) (by first | omega | (simp only [List.length_map]; omega))) ?_) | (guard_target = Arith _ _ _; refine Arith.fit (by decide) ?_) | (guard_target = Index _ _ _; first  | refine Index.mk _ (idx_map (by omega)) ?_) | (guard_target = Need (_ = true) _; refine Need.mk (by first | kernel_rfl | rfl) ?_) | (guard_target = LinkV _ _ _; first  | refine LinkV.no ?_) | (guard_target = GhO _ _ _ _; refine GhO.go ?_) | (guard_target = Need _ _; refine Need.mk (by first  | omega | (simp only [List.length_map]; omega)) ?_))
  all_goals first | rfl | exact ⟨rfl, trivial⟩ | (exfalso; simp at *; omega)
end Go.Proofs.YtlfigjkddnncgaaGreat
