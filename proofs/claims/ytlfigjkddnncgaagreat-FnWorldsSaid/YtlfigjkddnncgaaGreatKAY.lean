/- Contracts: the expression of a program, the reference's and the program's. No conditions but the form and bounds of size. -/
import Derived.Test.YtlfigjkddnncgaaGreatKAX
namespace Go.Proofs.YtlfigjkddnncgaaGreat
open Go Go.KA Go.Proofs
set_option maxHeartbeats 16000000
set_option maxRecDepth 100000
theorem ex_mkE (e : XExpr) : ∃ k n ks, e = .mk k n ks := by cases e; exact ⟨_, _, _, rfl⟩
theorem l02One_okX : CallX Tryz.prog 43 [] [] (.a 3 (encExpr (.mk 2 0 []))) := by
  refine leaf_soft ?_
  refine callX_of_vc htb hm Tryz.func43 rfl rfl rfl rfl (ann := fun _ => none) (gh := fun _ => false) ?_
  repeat' ((conv => whnf); first | (guard_target = Done _; refine Done.mk ?_) | (guard_target = RetX _ _; refine RetX.mk ?_ ?_) | (guard_target = Fact _ _; refine Fact.mk fun hL => ?_; (try simp only [List.length_map, maxLen] at hL)) | (guard_target = Branch _ _ _; (first | refine Branch.dec ?_ ?_ | refine Branch.beq ?_ ?_ | refine Branch.bne ?_ ?_ | refine Branch.ndec ?_ ?_ | refine Branch.nb ?_ ?_ | refine Branch.mk ?_ ?_) <;> intro h <;> (try simp only [List.length_map] at h) <;> (try omega) <;> (try contradiction)) | (guard_target = Arith _ _ _; refine Arith.fit (wrap_fit (by first | omega | (simp only [List.length_map]; omega)) (by first | omega | (simp only [List.length_map]; omega))) ?_) | (guard_target = Arith _ _ _; refine Arith.fit (by decide) ?_) | (guard_target = Index _ _ _; first  | refine Index.mk _ (idx_map (by omega)) ?_) | (guard_target = Need (_ = true) _; refine Need.mk (by first | kernel_rfl | rfl) ?_) | (guard_target = LinkV _ _ _; first  | refine LinkV.no ?_) | (guard_target = GhO _ _ _ _; refine GhO.go ?_) | (guard_target = Need _ _; refine Need.mk (by first  | omega | (simp only [List.length_map]; omega)) ?_))
  all_goals first | rfl | trivial
theorem l02Zero_okX : CallX Tryz.prog 92 [] [] (.a 3 (encExpr (.mk 1 0 []))) := by
  refine leaf_soft ?_
  refine callX_of_vc htb hm Tryz.func92 rfl rfl rfl rfl (ann := fun _ => none) (gh := fun _ => false) ?_
  repeat' ((conv => whnf); first | (guard_target = Done _; refine Done.mk ?_) | (guard_target = RetX _ _; refine RetX.mk ?_ ?_) | (guard_target = Fact _ _; refine Fact.mk fun hL => ?_; (try simp only [List.length_map, maxLen] at hL)) | (guard_target = Branch _ _ _; (first | refine Branch.dec ?_ ?_ | refine Branch.beq ?_ ?_ | refine Branch.bne ?_ ?_ | refine Branch.ndec ?_ ?_ | refine Branch.nb ?_ ?_ | refine Branch.mk ?_ ?_) <;> intro h <;> (try simp only [List.length_map] at h) <;> (try omega) <;> (try contradiction)) | (guard_target = Arith _ _ _; refine Arith.fit (wrap_fit (by first | omega | (simp only [List.length_map]; omega)) (by first | omega | (simp only [List.length_map]; omega))) ?_) | (guard_target = Arith _ _ _; refine Arith.fit (by decide) ?_) | (guard_target = Index _ _ _; first  | refine Index.mk _ (idx_map (by omega)) ?_) | (guard_target = Need (_ = true) _; refine Need.mk (by first | kernel_rfl | rfl) ?_) | (guard_target = LinkV _ _ _; first  | refine LinkV.no ?_) | (guard_target = GhO _ _ _ _; refine GhO.go ?_) | (guard_target = Need _ _; refine Need.mk (by first  | omega | (simp only [List.length_map]; omega)) ?_))
  all_goals first | rfl | trivial
theorem l01Own_toldR (k n ck cn : Int) (cs : List XExpr) (ks : List XProg) (hb : budExpr (.mk ck cn cs) ≤ 1048576) : CallX Tryz.prog 102 [.c (.rp 4 [J ck, J cn, .ro 3 (cs.map encExpr), .ro 6 (ks.map encProg)])] [] (.a 3 [J ck, J cn, .ro 3 (cs.map encExpr)]) := by
  have h : CallX Tryz.prog 102 [.c (.rp 4 [J ck, J cn, .ro 3 (cs.map encExpr), .ro 6 (ks.map encProg)])] [] (.a 3 (encExpr (.mk ck cn cs))) := (l01Own_toldP (.mk k n (.mk ck cn cs) ks) hb).soft (own_soft _)
  rwa [enc_mk] at h
theorem encP_mk (k n ck cn : Int) (cs : List XExpr) (ks : List XProg) : encProg (.mk k n (.mk ck cn cs) ks) = [J k, J n, J ck, J cn, .ro 3 (cs.map encExpr), .ro 6 (ks.map encProg)] := encProg_eq _
theorem prog_parts {k n : Int} {c : XExpr} {ks : List XProg} {m : Nat} (hb : budProg (.mk k n c ks) ≤ m) : budExpr c ≤ m ∧ ∀ x ∈ ks, budProg x ≤ m := by
  have h1 : budExpr c + budS budProg ks ≤ budProg (.mk k n c ks) := by
    simp only [budProg, budProgS_eq]
    exact Nat.le_refl _
  exact ⟨by omega, fun x hx => by have := budS_mem budProg hx; omega⟩
theorem l02Pair_own (k k1 n1 : Int) (y b : XExpr) : CallX Tryz.prog 93 [I k, .m [.c (J k1), .c (J n1), .c (.ows 29 3 [encExpr y])], .a 3 (encExpr b)] [] (.a 3 (encExpr (pairE k (.mk k1 n1 [y]) b))) := by
  have h : CallX Tryz.prog 93 [I k, .m [.c (J k1), .c (J n1), .c (.ows 29 3 [encExpr y])], .a 3 (encExpr b)] [] (.a 3 [J k, J 0, .own 29 3 [[J k1, J n1, .ows 29 3 [encExpr y]], encExpr b]]) := by
    cases y
    cases b
    refine callX_of_vc htb hm Tryz.func93 rfl rfl rfl rfl (ann := fun _ => none) (gh := fun _ => false) ?_
    repeat' ((conv => whnf); first | (guard_target = Done _; refine Done.mk ?_) | (guard_target = RetX _ _; refine RetX.mk ?_ ?_) | (guard_target = Fact _ _; refine Fact.mk fun hL => ?_; (try simp only [List.length_map, maxLen] at hL)) | (guard_target = Branch _ _ _; (first | refine Branch.dec ?_ ?_ | refine Branch.beq ?_ ?_ | refine Branch.bne ?_ ?_ | refine Branch.ndec ?_ ?_ | refine Branch.nb ?_ ?_ | refine Branch.mk ?_ ?_) <;> intro h <;> (try simp only [List.length_map] at h) <;> (try omega) <;> (try contradiction)) | (guard_target = Arith _ _ _; refine Arith.fit (wrap_fit (by first | omega | (simp only [List.length_map]; omega)) (by first | omega | (simp only [List.length_map]; omega))) ?_) | (guard_target = Arith _ _ _; refine Arith.fit (by decide) ?_) | (guard_target = Index _ _ _; first  | refine Index.mk _ (idx_map (by omega)) ?_) | (guard_target = Need (_ = true) _; refine Need.mk (by first | kernel_rfl | rfl) ?_) | (guard_target = LinkV _ _ _; first  | refine LinkV.no ?_) | (guard_target = GhO _ _ _ _; refine GhO.go ?_) | (guard_target = Need _ _; refine Need.mk (by first  | omega | (simp only [List.length_map]; omega)) ?_))
    all_goals first | rfl | trivial
  rw [enc_mk]
  have e : (([.mk k1 n1 [y], b] : List XExpr).map encExpr) = roLL [[J k1, J n1, .ows 29 3 [encExpr y]], encExpr b] := by
    cases b
    simp only [List.map_cons, List.map_nil, enc_mk, roLL, roL, roC]
  rw [e]
  exact h.soft (.v (.a (.same (.same (.ro .nil)))))
theorem l06Expr_ok {p : XProg} (hf : FormP p) : budProg p ≤ 1048576 → CallX Tryz.prog 40 [.c (.rp 6 (encProg p))] [] (.a 3 (encExpr (progE p))) := by
  have o1 := l02One_okX
  have o0 := l02Zero_okX
  induction hf with
  | @leaf k n c ks h hk =>
    intro hb
    subst hk
    obtain ⟨ck, cn, cs⟩ := c
    have oc := l01Own_toldR k n ck cn cs [] (prog_parts hb).1
    rw [encP_mk]
    rcases h with rfl | rfl | rfl | rfl
    · rw [show progE (.mk 1 n (.mk ck cn cs) []) = .mk 2 0 [] by simp [progE, progK]]
      refine callX_of_vc htb hm Tryz.func40 rfl rfl rfl rfl (ann := fun _ => none) (gh := fun _ => false) ?_
      repeat' ((conv => whnf); first | (guard_target = Done _; refine Done.mk ?_) | (guard_target = RetX _ _; refine RetX.mk ?_ ?_) | (guard_target = Fact _ _; refine Fact.mk fun hL => ?_; (try simp only [List.length_map, maxLen] at hL)) | (guard_target = Branch _ _ _; (first | refine Branch.dec ?_ ?_ | refine Branch.beq ?_ ?_ | refine Branch.bne ?_ ?_ | refine Branch.ndec ?_ ?_ | refine Branch.nb ?_ ?_ | refine Branch.mk ?_ ?_) <;> intro h <;> (try simp only [List.length_map] at h) <;> (try omega) <;> (try contradiction)) | (guard_target = CallN _ 43 _ _ _ _; refine CallN.gen [] _ _ _ rfl (o1) rfl rfl _ rfl ?_) | (guard_target = Arith _ _ _; refine Arith.fit (wrap_fit (by first | omega | (simp only [List.length_map]; omega)) (by first | omega | (simp only [List.length_map]; omega))) ?_) | (guard_target = Arith _ _ _; refine Arith.fit (by decide) ?_) | (guard_target = Index _ _ _; first  | refine Index.mk _ (idx_map (by omega)) ?_) | (guard_target = Need (_ = true) _; refine Need.mk (by first | kernel_rfl | rfl) ?_) | (guard_target = LinkV _ _ _; first  | refine LinkV.no ?_) | (guard_target = GhO _ _ _ _; refine GhO.go ?_) | (guard_target = Need _ _; refine Need.mk (by first  | omega | (simp only [List.length_map]; omega)) ?_))
      all_goals first | rfl | trivial
    · rw [show progE (.mk 2 n (.mk ck cn cs) []) = .mk 1 0 [] by simp [progE, progK]]
      refine callX_of_vc htb hm Tryz.func40 rfl rfl rfl rfl (ann := fun _ => none) (gh := fun _ => false) ?_
      repeat' ((conv => whnf); first | (guard_target = Done _; refine Done.mk ?_) | (guard_target = RetX _ _; refine RetX.mk ?_ ?_) | (guard_target = Fact _ _; refine Fact.mk fun hL => ?_; (try simp only [List.length_map, maxLen] at hL)) | (guard_target = Branch _ _ _; (first | refine Branch.dec ?_ ?_ | refine Branch.beq ?_ ?_ | refine Branch.bne ?_ ?_ | refine Branch.ndec ?_ ?_ | refine Branch.nb ?_ ?_ | refine Branch.mk ?_ ?_) <;> intro h <;> (try simp only [List.length_map] at h) <;> (try omega) <;> (try contradiction)) | (guard_target = CallN _ 92 _ _ _ _; refine CallN.gen [] _ _ _ rfl (o0) rfl rfl _ rfl ?_) | (guard_target = Arith _ _ _; refine Arith.fit (wrap_fit (by first | omega | (simp only [List.length_map]; omega)) (by first | omega | (simp only [List.length_map]; omega))) ?_) | (guard_target = Arith _ _ _; refine Arith.fit (by decide) ?_) | (guard_target = Index _ _ _; first  | refine Index.mk _ (idx_map (by omega)) ?_) | (guard_target = Need (_ = true) _; refine Need.mk (by first | kernel_rfl | rfl) ?_) | (guard_target = LinkV _ _ _; first  | refine LinkV.no ?_) | (guard_target = GhO _ _ _ _; refine GhO.go ?_) | (guard_target = Need _ _; refine Need.mk (by first  | omega | (simp only [List.length_map]; omega)) ?_))
      all_goals first | rfl | trivial
    · rw [show progE (.mk 3 n (.mk ck cn cs) []) = .mk 4 n [] by simp [progE, progK]]
      refine leaf_soft ?_
      refine callX_of_vc htb hm Tryz.func40 rfl rfl rfl rfl (ann := fun _ => none) (gh := fun _ => false) ?_
      repeat' ((conv => whnf); first | (guard_target = Done _; refine Done.mk ?_) | (guard_target = RetX _ _; refine RetX.mk ?_ ?_) | (guard_target = Fact _ _; refine Fact.mk fun hL => ?_; (try simp only [List.length_map, maxLen] at hL)) | (guard_target = Branch _ _ _; (first | refine Branch.dec ?_ ?_ | refine Branch.beq ?_ ?_ | refine Branch.bne ?_ ?_ | refine Branch.ndec ?_ ?_ | refine Branch.nb ?_ ?_ | refine Branch.mk ?_ ?_) <;> intro h <;> (try simp only [List.length_map] at h) <;> (try omega) <;> (try contradiction)) | (guard_target = Arith _ _ _; refine Arith.fit (wrap_fit (by first | omega | (simp only [List.length_map]; omega)) (by first | omega | (simp only [List.length_map]; omega))) ?_) | (guard_target = Arith _ _ _; refine Arith.fit (by decide) ?_) | (guard_target = Index _ _ _; first  | refine Index.mk _ (idx_map (by omega)) ?_) | (guard_target = Need (_ = true) _; refine Need.mk (by first | kernel_rfl | rfl) ?_) | (guard_target = LinkV _ _ _; first  | refine LinkV.no ?_) | (guard_target = GhO _ _ _ _; refine GhO.go ?_) | (guard_target = Need _ _; refine Need.mk (by first  | omega | (simp only [List.length_map]; omega)) ?_))
      all_goals first | rfl | trivial
    · rw [show progE (.mk 4 n (.mk ck cn cs) []) = .mk ck cn cs by simp [progE, progK], enc_mk]
      refine callX_of_vc htb hm Tryz.func40 rfl rfl rfl rfl (ann := fun _ => none) (gh := fun _ => false) ?_
      repeat' ((conv => whnf); first | (guard_target = Done _; refine Done.mk ?_) | (guard_target = RetX _ _; refine RetX.mk ?_ ?_) | (guard_target = Fact _ _; refine Fact.mk fun hL => ?_; (try simp only [List.length_map, maxLen] at hL)) | (guard_target = Branch _ _ _; (first | refine Branch.dec ?_ ?_ | refine Branch.beq ?_ ?_ | refine Branch.bne ?_ ?_ | refine Branch.ndec ?_ ?_ | refine Branch.nb ?_ ?_ | refine Branch.mk ?_ ?_) <;> intro h <;> (try simp only [List.length_map] at h) <;> (try omega) <;> (try contradiction)) | (guard_target = CallN _ 102 _ _ _ _; refine CallN.gen [] _ _ _ rfl (oc) rfl rfl _ rfl ?_) | (guard_target = Arith _ _ _; refine Arith.fit (wrap_fit (by first | omega | (simp only [List.length_map]; omega)) (by first | omega | (simp only [List.length_map]; omega))) ?_) | (guard_target = Arith _ _ _; refine Arith.fit (by decide) ?_) | (guard_target = Index _ _ _; first  | refine Index.mk _ (idx_map (by omega)) ?_) | (guard_target = Need (_ = true) _; refine Need.mk (by first | kernel_rfl | rfl) ?_) | (guard_target = LinkV _ _ _; first  | refine LinkV.no ?_) | (guard_target = GhO _ _ _ _; refine GhO.go ?_) | (guard_target = Need _ _; refine Need.mk (by first  | omega | (simp only [List.length_map]; omega)) ?_))
      all_goals first | rfl | trivial
  | @two k n c a b h ha hb' iha ihb =>
    intro hb
    obtain ⟨hc, hks⟩ := prog_parts hb
    have ia := iha (hks a (by simp))
    have ib := ihb (hks b (by simp))
    obtain ⟨ck, cn, cs⟩ := c
    have oc := l01Own_toldR k n ck cn cs [a, b] hc
    have nt := l06Not_ok (.mk ck cn cs) hc
    rw [enc_mk ck cn cs] at nt
    rw [encP_mk k n]
    obtain ⟨k1, n1, ks1, e1⟩ := ex_mkE (progE a)
    obtain ⟨k2, n2, ks2, e2⟩ := ex_mkE (progE b)
    rw [e1] at ia
    rw [e2] at ib
    have pc1 := l02Pair_ok 7 (.mk ck cn cs) (.mk k1 n1 ks1)
    rw [enc_mk ck cn cs] at pc1
    have pn := l02Pair_ok 7 (notE (.mk ck cn cs)) (.mk k2 n2 ks2)
    have ps := l02Pair_ok 6 (pairE 7 (.mk ck cn cs) (.mk k1 n1 ks1)) (pairE 7 (notE (.mk ck cn cs)) (.mk k2 n2 ks2))
    have pd := l02Pair_ok 7 (.mk k1 n1 ks1) (.mk k2 n2 ks2)
    rcases h with rfl | rfl
    · rw [show progE (.mk 5 n (.mk ck cn cs) [a, b]) = pairE 7 (.mk k1 n1 ks1) (.mk k2 n2 ks2) by simp [progE, progK, progL, e1, e2]]
      refine callX_of_vc htb hm Tryz.func40 rfl rfl rfl rfl (ann := fun _ => none) (gh := fun _ => false) ?_
      repeat' ((conv => whnf); first | (guard_target = Done _; refine Done.mk ?_) | (guard_target = RetX _ _; refine RetX.mk ?_ ?_) | (guard_target = Fact _ _; refine Fact.mk fun hL => ?_; (try simp only [List.length_map, maxLen] at hL)) | (guard_target = Branch _ _ _; (first | refine Branch.dec ?_ ?_ | refine Branch.beq ?_ ?_ | refine Branch.bne ?_ ?_ | refine Branch.ndec ?_ ?_ | refine Branch.nb ?_ ?_ | refine Branch.mk ?_ ?_) <;> intro h <;> (try simp only [List.length_map] at h) <;> (try omega) <;> (try contradiction)) | (guard_target = CallN _ 93 _ _ _ _; refine CallN.gen [] _ _ _ rfl (pd) rfl rfl _ rfl ?_) | (guard_target = Index _ _ _; (first | refine Index.mk (encProg a) rfl ?_ | refine Index.mk (encProg b) rfl ?_)) | (guard_target = CallN _ 40 _ _ _ _; (first | refine CallN.gen [] _ _ _ rfl ia rfl rfl _ rfl ?_ | refine CallN.gen [] _ _ _ rfl ib rfl rfl _ rfl ?_)) | (guard_target = Arith _ _ _; refine Arith.fit (wrap_fit (by first | omega | (simp only [List.length_map]; omega)) (by first | omega | (simp only [List.length_map]; omega))) ?_) | (guard_target = Arith _ _ _; refine Arith.fit (by decide) ?_) | (guard_target = Index _ _ _; first  | refine Index.mk _ (idx_map (by omega)) ?_) | (guard_target = Need (_ = true) _; refine Need.mk (by first | kernel_rfl | rfl) ?_) | (guard_target = LinkV _ _ _; first  | refine LinkV.no ?_) | (guard_target = GhO _ _ _ _; refine GhO.go ?_) | (guard_target = Need _ _; refine Need.mk (by first  | omega | (simp only [List.length_map]; omega)) ?_))
      all_goals first | rfl | trivial
    · rw [show progE (.mk 6 n (.mk ck cn cs) [a, b]) = pairE 6 (pairE 7 (.mk ck cn cs) (.mk k1 n1 ks1)) (pairE 7 (notE (.mk ck cn cs)) (.mk k2 n2 ks2)) by simp [progE, progK, progL, e1, e2]]
      refine callX_of_vc htb hm Tryz.func40 rfl rfl rfl rfl (ann := fun _ => none) (gh := fun _ => false) ?_
      repeat' ((conv => whnf); first | (guard_target = Done _; refine Done.mk ?_) | (guard_target = RetX _ _; refine RetX.mk ?_ ?_) | (guard_target = Fact _ _; refine Fact.mk fun hL => ?_; (try simp only [List.length_map, maxLen] at hL)) | (guard_target = Branch _ _ _; (first | refine Branch.dec ?_ ?_ | refine Branch.beq ?_ ?_ | refine Branch.bne ?_ ?_ | refine Branch.ndec ?_ ?_ | refine Branch.nb ?_ ?_ | refine Branch.mk ?_ ?_) <;> intro h <;> (try simp only [List.length_map] at h) <;> (try omega) <;> (try contradiction)) | (guard_target = CallN _ 102 _ _ _ _; refine CallN.gen [] _ _ _ rfl (oc) rfl rfl _ rfl ?_) | (guard_target = CallN _ 103 _ _ _ _; refine CallN.gen [] _ _ _ rfl (nt) rfl rfl _ rfl ?_) | (guard_target = Index _ _ _; (first | refine Index.mk (encProg a) rfl ?_ | refine Index.mk (encProg b) rfl ?_)) | (guard_target = CallN _ 40 _ _ _ _; (first | refine CallN.gen [] _ _ _ rfl ia rfl rfl _ rfl ?_ | refine CallN.gen [] _ _ _ rfl ib rfl rfl _ rfl ?_)) | (guard_target = CallN _ 93 _ _ _ _; (first | refine CallN.gen [] _ _ _ rfl pc1 rfl rfl _ rfl ?_ | refine CallN.gen [] _ _ _ rfl pn rfl rfl _ rfl ?_ | refine CallN.gen [] _ _ _ rfl ps rfl rfl _ rfl ?_)) | (guard_target = Arith _ _ _; refine Arith.fit (wrap_fit (by first | omega | (simp only [List.length_map]; omega)) (by first | omega | (simp only [List.length_map]; omega))) ?_) | (guard_target = Arith _ _ _; refine Arith.fit (by decide) ?_) | (guard_target = Index _ _ _; first  | refine Index.mk _ (idx_map (by omega)) ?_) | (guard_target = Need (_ = true) _; refine Need.mk (by first | kernel_rfl | rfl) ?_) | (guard_target = LinkV _ _ _; first  | refine LinkV.no ?_) | (guard_target = GhO _ _ _ _; refine GhO.go ?_) | (guard_target = Need _ _; refine Need.mk (by first  | omega | (simp only [List.length_map]; omega)) ?_))
      all_goals first | rfl | trivial
  | @loop n c a ha iha =>
    intro hb
    obtain ⟨hc, hks⟩ := prog_parts hb
    have ia := iha (hks a (by simp))
    obtain ⟨ck, cn, cs⟩ := c
    have oc := l01Own_toldR 7 n ck cn cs [a] hc
    have nt := l06Not_ok (.mk ck cn cs) hc
    rw [enc_mk ck cn cs] at nt
    rw [encP_mk 7 n]
    obtain ⟨k1, n1, ks1, e1⟩ := ex_mkE (progE a)
    rw [e1] at ia
    have pc1 := l02Pair_ok 7 (.mk ck cn cs) (.mk k1 n1 ks1)
    rw [enc_mk ck cn cs] at pc1
    have pd := l02Pair_own 7 8 0 (pairE 7 (.mk ck cn cs) (.mk k1 n1 ks1)) (notE (.mk ck cn cs))
    rw [show progE (.mk 7 n (.mk ck cn cs) [a]) = pairE 7 (.mk 8 0 [pairE 7 (.mk ck cn cs) (.mk k1 n1 ks1)]) (notE (.mk ck cn cs)) by simp [progE, progK, progL, e1]]
    refine callX_of_vc htb hm Tryz.func40 rfl rfl rfl rfl (ann := fun _ => none) (gh := fun _ => false) ?_
    repeat' ((conv => whnf); first | (guard_target = Done _; refine Done.mk ?_) | (guard_target = RetX _ _; refine RetX.mk ?_ ?_) | (guard_target = Fact _ _; refine Fact.mk fun hL => ?_; (try simp only [List.length_map, maxLen] at hL)) | (guard_target = Branch _ _ _; (first | refine Branch.dec ?_ ?_ | refine Branch.beq ?_ ?_ | refine Branch.bne ?_ ?_ | refine Branch.ndec ?_ ?_ | refine Branch.nb ?_ ?_ | refine Branch.mk ?_ ?_) <;> intro h <;> (try simp only [List.length_map] at h) <;> (try omega) <;> (try contradiction)) | (guard_target = CallN _ 40 _ _ _ _; refine CallN.gen [] _ _ _ rfl (ia) rfl rfl _ rfl ?_) | (guard_target = CallN _ 102 _ _ _ _; refine CallN.gen [] _ _ _ rfl (oc) rfl rfl _ rfl ?_) | (guard_target = CallN _ 103 _ _ _ _; refine CallN.gen [] _ _ _ rfl (nt) rfl rfl _ rfl ?_) | (guard_target = Index _ _ _; refine Index.mk (encProg a) rfl ?_) | (guard_target = CallN _ 93 _ _ _ _; (first | refine CallN.gen [] _ _ _ rfl pc1 rfl rfl _ rfl ?_ | refine CallN.gen [false, true, false] _ _ _ rfl pd rfl rfl _ rfl ?_)) | (guard_target = Arith _ _ _; refine Arith.fit (wrap_fit (by first | omega | (simp only [List.length_map]; omega)) (by first | omega | (simp only [List.length_map]; omega))) ?_) | (guard_target = Arith _ _ _; refine Arith.fit (by decide) ?_) | (guard_target = Index _ _ _; first  | refine Index.mk _ (idx_map (by omega)) ?_) | (guard_target = Need (_ = true) _; refine Need.mk (by first | kernel_rfl | rfl) ?_) | (guard_target = LinkV _ _ _; first  | refine LinkV.no ?_) | (guard_target = GhO _ _ _ _; refine GhO.go ?_) | (guard_target = Need _ _; refine Need.mk (by first  | omega | (simp only [List.length_map]; omega)) ?_))
    all_goals first | rfl | trivial
end Go.Proofs.YtlfigjkddnncgaaGreat

namespace Go.Proofs.YtlfigjkddnncgaaGreat
open Go Go.KA Go.Proofs
set_option maxHeartbeats 16000000
set_option maxRecDepth 100000
section
variable {n : Int} {c : XExpr} (hc : budExpr c ≤ 1048576)
include hc
end
end Go.Proofs.YtlfigjkddnncgaaGreat

namespace Go.Proofs.YtlfigjkddnncgaaGreat
open Go Go.KA Go.Proofs
set_option maxHeartbeats 16000000
set_option maxRecDepth 100000
theorem DrawnP.form {p : XProg} (h : DrawnP p) : FormP p := by
  induction h with
  | leaf h => exact .leaf h rfl
  | seq _ _ ha hb => exact .two (.inl rfl) ha hb
  | cond _ _ ha hb => exact .two (.inr rfl) ha hb
  | loop _ ha => exact .loop ha
theorem progE_bud {p : XProg} (h : FormP p) : budExpr (progE p) ≤ 8 * budProg p + 8 := by
  induction h with
  | @leaf k n c ks h hk =>
    subst hk
    rcases h with rfl | rfl | rfl | rfl
    all_goals (simp [progE, progK, budExpr, budExprS, budProg, budProgS]; try omega)
  | @two k n c a b h ha hb iha ihb =>
    rcases h with rfl | rfl
    all_goals (simp [progE, progK, progL, budExpr, budExprS, budProg, budProgS]; omega)
  | @loop n c a ha iha =>
    simp [progE, progK, progL, budExpr, budExprS, budProg, budProgS]
    omega
def a2pr (code : List UInt8) : XSig × XProg × Src :=
  let g := drawSig (src0 code)
  let p := progP g.1 5 ⟨g.2, 9⟩
  (g.1, p.1, p.2.s)
def skipP : XProg := .mk 1 0 noE []
def a2prog (code : List UInt8) : XSig × XProg :=
  let x := a2pr code
  if (goodP x.1.tests x.1.actions x.2.1 && goodE x.1.tests x.1.actions (progE x.2.1)) = true then (x.1, x.2.1) else (x.1, skipP)
theorem src0_rd (code : List UInt8) : Rd (src0 code) 0 := ⟨Int.le_refl _, Int.le_refl _⟩
theorem sig_good {g : XSig} (h : 0 ≤ g.tests ∧ g.tests ≤ 3 ∧ 0 ≤ g.actions ∧ g.actions ≤ 4) : goodSig g.tests g.actions = true := by
  simp only [goodSig, rng, Bool.and_eq_true, decide_eq_true_eq]
  omega
def a2wd (g : XSig) (more : List UInt8) : XWorld := ⟨(worldD (atomsN g.tests) g (src0 more)).1, (worldD (atomsN g.tests) g (src0 more)).2⟩
def a2world (g : XSig) (more : List UInt8) : XWorld := if goodWorld g.tests g.actions (a2wd g more) = true then a2wd g more else ⟨[0], List.replicate g.actions.toNat [0]⟩
theorem atomsN_in {t : Int} (h : 0 ≤ t ∧ t ≤ 3) : 1 ≤ atomsN t ∧ atomsN t ≤ 8 := by
  have : t = 0 ∨ t = 1 ∨ t = 2 ∨ t = 3 := by omega
  rcases this with rfl | rfl | rfl | rfl <;> decide
theorem l01AtomsOf_ok {g : XSig} (h : 0 ≤ g.tests ∧ g.tests ≤ 3) : CallF Tryz.prog 109 [.a 2 [J g.tests, J g.actions]] (I (atomsN g.tests)) := by
  have h1 := l01Atoms_ok g.tests g.actions h
  have h2 := l00In_ok g.tests 0 3
  rw [show rng 0 3 g.tests = true by simp only [rng, Bool.and_eq_true, decide_eq_true_eq]; omega] at h2
  refine callF_of_vc htb hm Tryz.func109 rfl rfl rfl rfl (ann := fun _ => none) (gh := fun _ => false) ?_
  repeat' ((conv => whnf); first | (guard_target = Done _; refine Done.mk ?_) | (guard_target = RetX _ _; refine RetX.mk ?_ ?_) | (guard_target = Fact _ _; refine Fact.mk fun hL => ?_; (try simp only [List.length_map, maxLen] at hL)) | (guard_target = Branch _ _ _; (first | refine Branch.dec ?_ ?_ | refine Branch.beq ?_ ?_ | refine Branch.bne ?_ ?_ | refine Branch.ndec ?_ ?_ | refine Branch.nb ?_ ?_ | refine Branch.mk ?_ ?_) <;> intro h <;> (try simp only [List.length_map] at h) <;> (try omega) <;> (try contradiction)) | (guard_target = CallN _ 113 _ _ _ _; refine CallN.pure _ _ rfl (h2) rfl _ rfl ?_) | (guard_target = CallN _ 95 _ _ _ _; refine CallN.pure _ _ rfl (h1) rfl _ rfl ?_) | (guard_target = Arith _ _ _; refine Arith.fit (wrap_fit (by first | omega | (simp only [List.length_map]; omega)) (by first | omega | (simp only [List.length_map]; omega))) ?_) | (guard_target = Arith _ _ _; refine Arith.fit (by decide) ?_) | (guard_target = Index _ _ _; first  | refine Index.mk _ (idx_map (by omega)) ?_) | (guard_target = Need (_ = true) _; refine Need.mk (by first | kernel_rfl | rfl) ?_) | (guard_target = LinkV _ _ _; first  | refine LinkV.no ?_) | (guard_target = GhO _ _ _ _; refine GhO.go ?_) | (guard_target = Need _ _; refine Need.mk (by first  | omega | (simp only [List.length_map]; omega)) ?_))
  all_goals first | rfl | trivial | (exfalso; simp_all; done)
theorem a2world_good {g : XSig} (h : 0 ≤ g.tests ∧ g.tests ≤ 3 ∧ 0 ≤ g.actions ∧ g.actions ≤ 4) (more : List UInt8) : goodWorld g.tests g.actions (a2world g more) = true := by
  unfold a2world
  split
  · assumption
  · have := atomsN_in (t := g.tests) (by omega)
    simp only [goodWorld, Bool.and_eq_true, List.all_cons, List.all_nil, rng, decide_eq_true_eq, List.length_replicate, beq_iff_eq, List.length_cons, List.length_nil]
    refine ⟨by omega, ⟨by omega, trivial⟩, by omega, ?_⟩
    rw [List.all_eq_true]
    intro x hx
    rw [List.eq_of_mem_replicate hx]
    rfl
end Go.Proofs.YtlfigjkddnncgaaGreat
