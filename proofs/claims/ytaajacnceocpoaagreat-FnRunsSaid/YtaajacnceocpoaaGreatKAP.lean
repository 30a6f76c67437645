/- Contracts: the expression of a program, the reference's and the program's. No conditions but the form and bounds of size. -/
import Derived.Test.YtaajacnceocpoaaGreatKAN
namespace Go.Proofs.YtaajacnceocpoaaGreat
open Go Go.KA Go.Proofs
set_option maxHeartbeats 16000000
set_option maxRecDepth 100000
theorem ex_mkE (e : XExpr) : ∃ k n ks, e = .mk k n ks := by cases e; exact ⟨_, _, _, rfl⟩
theorem l02One_okX : CallX Tryz.prog 63 [] [] (.a 3 (encExpr (.mk 2 0 []))) := by
  refine leaf_soft ?_
  refine callX_of_vc htb hm Tryz.func63 rfl rfl rfl rfl (ann := fun _ => none) (gh := fun _ => false) ?_
  repeat' ((conv => whnf); first | (guard_target = RetX _ _; refine RetX.mk ?_ ?_) | (guard_target = Index _ _ _; first  | refine Index.mk _ (idx_map (by omega)) ?_) | (guard_target = Need _ _; refine Need.mk (by first  | omega | (simp only [List.length_map]; omega)) ?_))
  all_goals first | rfl | trivial
theorem l02Zero_okX : CallX Tryz.prog 83 [] [] (.a 3 (encExpr (.mk 1 0 []))) := by
  refine leaf_soft ?_
  refine callX_of_vc htb hm Tryz.func83 rfl rfl rfl rfl (ann := fun _ => none) (gh := fun _ => false) ?_
  repeat' ((conv => whnf); first | (guard_target = RetX _ _; refine RetX.mk ?_ ?_) | (guard_target = Index _ _ _; first  | refine Index.mk _ (idx_map (by omega)) ?_) | (guard_target = Need _ _; refine Need.mk (by first  | omega | (simp only [List.length_map]; omega)) ?_))
  all_goals first | rfl | trivial
theorem l01Own_toldR (k n ck cn : Int) (cs : List XExpr) (ks : List XProg) (hb : budExpr (.mk ck cn cs) ≤ 1048576) : CallX Tryz.prog 84 [.c (.rp 4 [J ck, J cn, .ro 3 (cs.map encExpr), .ro 6 (ks.map encProg)])] [] (.a 3 [J ck, J cn, .ro 3 (cs.map encExpr)]) := by
  have h : CallX Tryz.prog 84 [.c (.rp 4 [J ck, J cn, .ro 3 (cs.map encExpr), .ro 6 (ks.map encProg)])] [] (.a 3 (encExpr (.mk ck cn cs))) := (l01Own_toldP (.mk k n (.mk ck cn cs) ks) hb).soft (own_soft _)
  rwa [enc_mk] at h
theorem encP_mk (k n ck cn : Int) (cs : List XExpr) (ks : List XProg) : encProg (.mk k n (.mk ck cn cs) ks) = [J k, J n, J ck, J cn, .ro 3 (cs.map encExpr), .ro 6 (ks.map encProg)] := encProg_eq _
theorem prog_parts {k n : Int} {c : XExpr} {ks : List XProg} {m : Nat} (hb : budProg (.mk k n c ks) ≤ m) : budExpr c ≤ m ∧ ∀ x ∈ ks, budProg x ≤ m := by
  have h1 : budExpr c + budS budProg ks ≤ budProg (.mk k n c ks) := by
    simp only [budProg, budProgS_eq]
    exact Nat.le_refl _
  exact ⟨by omega, fun x hx => by have := budS_mem budProg hx; omega⟩
theorem l02Pair_own (k k1 n1 : Int) (y b : XExpr) : CallX Tryz.prog 85 [I k, .m [.c (J k1), .c (J n1), .c (.ows 28 3 [encExpr y])], .a 3 (encExpr b)] [] (.a 3 (encExpr (pairE k (.mk k1 n1 [y]) b))) := by
  have h : CallX Tryz.prog 85 [I k, .m [.c (J k1), .c (J n1), .c (.ows 28 3 [encExpr y])], .a 3 (encExpr b)] [] (.a 3 [J k, J 0, .own 28 3 [[J k1, J n1, .ows 28 3 [encExpr y]], encExpr b]]) := by
    cases y
    cases b
    refine callX_of_vc htb hm Tryz.func85 rfl rfl rfl rfl (ann := fun _ => none) (gh := fun _ => false) ?_
    repeat' ((conv => whnf); first | (guard_target = RetX _ _; refine RetX.mk ?_ ?_) | (guard_target = Index _ _ _; first  | refine Index.mk _ (idx_map (by omega)) ?_) | (guard_target = Need _ _; refine Need.mk (by first  | omega | (simp only [List.length_map]; omega)) ?_))
    all_goals first | rfl | trivial
  rw [enc_mk]
  have e : (([.mk k1 n1 [y], b] : List XExpr).map encExpr) = roLL [[J k1, J n1, .ows 28 3 [encExpr y]], encExpr b] := by
    cases b
    simp only [List.map_cons, List.map_nil, enc_mk, roLL, roL, roC]
  rw [e]
  exact h.soft (.v (.a (.same (.same (.ro .nil)))))
theorem l06Expr_ok {p : XProg} (hf : FormP p) : budProg p ≤ 1048576 → CallX Tryz.prog 29 [.c (.rp 6 (encProg p))] [] (.a 3 (encExpr (progE p))) := by
  have o1 := l02One_okX
  have o0 := l02Zero_okX
  induction hf with
  | @leaf k n c ks h hk =>
    intro hb
    subst hk
    obtain ⟨ck, cn, cs⟩ := c
    have oc := l01Own_toldR k n ck cn cs [] (prog_parts hb).1
    rw [encP_mk]
    rcases h with rfl | rfl | rfl | rfl
    · rw [show progE (.mk 1 n (.mk ck cn cs) []) = .mk 2 0 [] by simp [progE, progK]]
      refine callX_of_vc htb hm Tryz.func29 rfl rfl rfl rfl (ann := fun _ => none) (gh := fun _ => false) ?_
      repeat' ((conv => whnf); first | (guard_target = RetX _ _; refine RetX.mk ?_ ?_) | (guard_target = Branch _ _ _; (first | apply Branch.dec | apply Branch.beq | apply Branch.bne | apply Branch.ndec | apply Branch.nb | apply Branch.mk) <;> intro h <;> (try simp only [List.length_map] at h) <;> (try omega) <;> (try contradiction)) | (guard_target = CallN _ 63 _ _ _ _; refine CallN.gen [] _ _ _ rfl (o1) rfl rfl _ rfl ?_) | (guard_target = Index _ _ _; first  | refine Index.mk _ (idx_map (by omega)) ?_) | (guard_target = Need (_ = true) _; refine Need.mk (by first | kernel_rfl | rfl) ?_) | (guard_target = LinkV _ _ _; refine LinkV.no ?_) | (guard_target = GhO _ _ _ _; refine GhO.go ?_) | (guard_target = Need _ _; refine Need.mk (by first  | omega | (simp only [List.length_map]; omega)) ?_))
      all_goals first | rfl | trivial
    · rw [show progE (.mk 2 n (.mk ck cn cs) []) = .mk 1 0 [] by simp [progE, progK]]
      refine callX_of_vc htb hm Tryz.func29 rfl rfl rfl rfl (ann := fun _ => none) (gh := fun _ => false) ?_
      repeat' ((conv => whnf); first | (guard_target = RetX _ _; refine RetX.mk ?_ ?_) | (guard_target = Branch _ _ _; (first | apply Branch.dec | apply Branch.beq | apply Branch.bne | apply Branch.ndec | apply Branch.nb | apply Branch.mk) <;> intro h <;> (try simp only [List.length_map] at h) <;> (try omega) <;> (try contradiction)) | (guard_target = CallN _ 83 _ _ _ _; refine CallN.gen [] _ _ _ rfl (o0) rfl rfl _ rfl ?_) | (guard_target = Index _ _ _; first  | refine Index.mk _ (idx_map (by omega)) ?_) | (guard_target = Need (_ = true) _; refine Need.mk (by first | kernel_rfl | rfl) ?_) | (guard_target = LinkV _ _ _; refine LinkV.no ?_) | (guard_target = GhO _ _ _ _; refine GhO.go ?_) | (guard_target = Need _ _; refine Need.mk (by first  | omega | (simp only [List.length_map]; omega)) ?_))
      all_goals first | rfl | trivial
    · rw [show progE (.mk 3 n (.mk ck cn cs) []) = .mk 4 n [] by simp [progE, progK]]
      refine leaf_soft ?_
      refine callX_of_vc htb hm Tryz.func29 rfl rfl rfl rfl (ann := fun _ => none) (gh := fun _ => false) ?_
      repeat' ((conv => whnf); first | (guard_target = RetX _ _; refine RetX.mk ?_ ?_) | (guard_target = Branch _ _ _; (first | apply Branch.dec | apply Branch.beq | apply Branch.bne | apply Branch.ndec | apply Branch.nb | apply Branch.mk) <;> intro h <;> (try simp only [List.length_map] at h) <;> (try omega) <;> (try contradiction)) | (guard_target = Index _ _ _; first  | refine Index.mk _ (idx_map (by omega)) ?_) | (guard_target = Need (_ = true) _; refine Need.mk (by first | kernel_rfl | rfl) ?_) | (guard_target = LinkV _ _ _; refine LinkV.no ?_) | (guard_target = GhO _ _ _ _; refine GhO.go ?_) | (guard_target = Need _ _; refine Need.mk (by first  | omega | (simp only [List.length_map]; omega)) ?_))
      all_goals first | rfl | trivial
    · rw [show progE (.mk 4 n (.mk ck cn cs) []) = .mk ck cn cs by simp [progE, progK], enc_mk]
      refine callX_of_vc htb hm Tryz.func29 rfl rfl rfl rfl (ann := fun _ => none) (gh := fun _ => false) ?_
      repeat' ((conv => whnf); first | (guard_target = RetX _ _; refine RetX.mk ?_ ?_) | (guard_target = Branch _ _ _; (first | apply Branch.dec | apply Branch.beq | apply Branch.bne | apply Branch.ndec | apply Branch.nb | apply Branch.mk) <;> intro h <;> (try simp only [List.length_map] at h) <;> (try omega) <;> (try contradiction)) | (guard_target = CallN _ 84 _ _ _ _; refine CallN.gen [] _ _ _ rfl (oc) rfl rfl _ rfl ?_) | (guard_target = Index _ _ _; first  | refine Index.mk _ (idx_map (by omega)) ?_) | (guard_target = Need (_ = true) _; refine Need.mk (by first | kernel_rfl | rfl) ?_) | (guard_target = LinkV _ _ _; refine LinkV.no ?_) | (guard_target = GhO _ _ _ _; refine GhO.go ?_) | (guard_target = Need _ _; refine Need.mk (by first  | omega | (simp only [List.length_map]; omega)) ?_))
      all_goals first | rfl | trivial
  | @two k n c a b h ha hb' iha ihb =>
    intro hb
    obtain ⟨hc, hks⟩ := prog_parts hb
    have ia := iha (hks a (by simp))
    have ib := ihb (hks b (by simp))
    obtain ⟨ck, cn, cs⟩ := c
    have oc := l01Own_toldR k n ck cn cs [a, b] hc
    have nt := l06Not_ok (.mk ck cn cs) hc
    rw [enc_mk ck cn cs] at nt
    rw [encP_mk k n]
    obtain ⟨k1, n1, ks1, e1⟩ := ex_mkE (progE a)
    obtain ⟨k2, n2, ks2, e2⟩ := ex_mkE (progE b)
    rw [e1] at ia
    rw [e2] at ib
    have pc1 := l02Pair_ok 7 (.mk ck cn cs) (.mk k1 n1 ks1)
    rw [enc_mk ck cn cs] at pc1
    have pn := l02Pair_ok 7 (notE (.mk ck cn cs)) (.mk k2 n2 ks2)
    have ps := l02Pair_ok 6 (pairE 7 (.mk ck cn cs) (.mk k1 n1 ks1)) (pairE 7 (notE (.mk ck cn cs)) (.mk k2 n2 ks2))
    have pd := l02Pair_ok 7 (.mk k1 n1 ks1) (.mk k2 n2 ks2)
    rcases h with rfl | rfl
    · rw [show progE (.mk 5 n (.mk ck cn cs) [a, b]) = pairE 7 (.mk k1 n1 ks1) (.mk k2 n2 ks2) by simp [progE, progK, progL, e1, e2]]
      refine callX_of_vc htb hm Tryz.func29 rfl rfl rfl rfl (ann := fun _ => none) (gh := fun _ => false) ?_
      repeat' ((conv => whnf); first | (guard_target = RetX _ _; refine RetX.mk ?_ ?_) | (guard_target = Branch _ _ _; (first | apply Branch.dec | apply Branch.beq | apply Branch.bne | apply Branch.ndec | apply Branch.nb | apply Branch.mk) <;> intro h <;> (try simp only [List.length_map] at h) <;> (try omega) <;> (try contradiction)) | (guard_target = CallN _ 85 _ _ _ _; refine CallN.gen [] _ _ _ rfl (pd) rfl rfl _ rfl ?_) | (guard_target = Index _ _ _; (first | refine Index.mk (encProg a) rfl ?_ | refine Index.mk (encProg b) rfl ?_)) | (guard_target = CallN _ 29 _ _ _ _; (first | refine CallN.gen [] _ _ _ rfl ia rfl rfl _ rfl ?_ | refine CallN.gen [] _ _ _ rfl ib rfl rfl _ rfl ?_)) | (guard_target = Index _ _ _; first  | refine Index.mk _ (idx_map (by omega)) ?_) | (guard_target = Need (_ = true) _; refine Need.mk (by first | kernel_rfl | rfl) ?_) | (guard_target = LinkV _ _ _; refine LinkV.no ?_) | (guard_target = GhO _ _ _ _; refine GhO.go ?_) | (guard_target = Need _ _; refine Need.mk (by first  | omega | (simp only [List.length_map]; omega)) ?_))
      all_goals first | rfl | trivial
    · rw [show progE (.mk 6 n (.mk ck cn cs) [a, b]) = pairE 6 (pairE 7 (.mk ck cn cs) (.mk k1 n1 ks1)) (pairE 7 (notE (.mk ck cn cs)) (.mk k2 n2 ks2)) by simp [progE, progK, progL, e1, e2]]
      refine callX_of_vc htb hm Tryz.func29 rfl rfl rfl rfl (ann := fun _ => none) (gh := fun _ => false) ?_
      repeat' ((conv => whnf); first | (guard_target = RetX _ _; refine RetX.mk ?_ ?_) | (guard_target = Branch _ _ _; (first | apply Branch.dec | apply Branch.beq | apply Branch.bne | apply Branch.ndec | apply Branch.nb | apply Branch.mk) <;> intro h <;> (try simp only [List.length_map] at h) <;> (try omega) <;> (try contradiction)) | (guard_target = CallN _ 84 _ _ _ _; refine CallN.gen [] _ _ _ rfl (oc) rfl rfl _ rfl ?_) | (guard_target = CallN _ 86 _ _ _ _; refine CallN.gen [] _ _ _ rfl (nt) rfl rfl _ rfl ?_) | (guard_target = Index _ _ _; (first | refine Index.mk (encProg a) rfl ?_ | refine Index.mk (encProg b) rfl ?_)) | (guard_target = CallN _ 29 _ _ _ _; (first | refine CallN.gen [] _ _ _ rfl ia rfl rfl _ rfl ?_ | refine CallN.gen [] _ _ _ rfl ib rfl rfl _ rfl ?_)) | (guard_target = CallN _ 85 _ _ _ _; (first | refine CallN.gen [] _ _ _ rfl pc1 rfl rfl _ rfl ?_ | refine CallN.gen [] _ _ _ rfl pn rfl rfl _ rfl ?_ | refine CallN.gen [] _ _ _ rfl ps rfl rfl _ rfl ?_)) | (guard_target = Index _ _ _; first  | refine Index.mk _ (idx_map (by omega)) ?_) | (guard_target = Need (_ = true) _; refine Need.mk (by first | kernel_rfl | rfl) ?_) | (guard_target = LinkV _ _ _; refine LinkV.no ?_) | (guard_target = GhO _ _ _ _; refine GhO.go ?_) | (guard_target = Need _ _; refine Need.mk (by first  | omega | (simp only [List.length_map]; omega)) ?_))
      all_goals first | rfl | trivial
  | @loop n c a ha iha =>
    intro hb
    obtain ⟨hc, hks⟩ := prog_parts hb
    have ia := iha (hks a (by simp))
    obtain ⟨ck, cn, cs⟩ := c
    have oc := l01Own_toldR 7 n ck cn cs [a] hc
    have nt := l06Not_ok (.mk ck cn cs) hc
    rw [enc_mk ck cn cs] at nt
    rw [encP_mk 7 n]
    obtain ⟨k1, n1, ks1, e1⟩ := ex_mkE (progE a)
    rw [e1] at ia
    have pc1 := l02Pair_ok 7 (.mk ck cn cs) (.mk k1 n1 ks1)
    rw [enc_mk ck cn cs] at pc1
    have pd := l02Pair_own 7 8 0 (pairE 7 (.mk ck cn cs) (.mk k1 n1 ks1)) (notE (.mk ck cn cs))
    rw [show progE (.mk 7 n (.mk ck cn cs) [a]) = pairE 7 (.mk 8 0 [pairE 7 (.mk ck cn cs) (.mk k1 n1 ks1)]) (notE (.mk ck cn cs)) by simp [progE, progK, progL, e1]]
    refine callX_of_vc htb hm Tryz.func29 rfl rfl rfl rfl (ann := fun _ => none) (gh := fun _ => false) ?_
    repeat' ((conv => whnf); first | (guard_target = RetX _ _; refine RetX.mk ?_ ?_) | (guard_target = Branch _ _ _; (first | apply Branch.dec | apply Branch.beq | apply Branch.bne | apply Branch.ndec | apply Branch.nb | apply Branch.mk) <;> intro h <;> (try simp only [List.length_map] at h) <;> (try omega) <;> (try contradiction)) | (guard_target = CallN _ 29 _ _ _ _; refine CallN.gen [] _ _ _ rfl (ia) rfl rfl _ rfl ?_) | (guard_target = CallN _ 84 _ _ _ _; refine CallN.gen [] _ _ _ rfl (oc) rfl rfl _ rfl ?_) | (guard_target = CallN _ 86 _ _ _ _; refine CallN.gen [] _ _ _ rfl (nt) rfl rfl _ rfl ?_) | (guard_target = Index _ _ _; refine Index.mk (encProg a) rfl ?_) | (guard_target = CallN _ 85 _ _ _ _; (first | refine CallN.gen [] _ _ _ rfl pc1 rfl rfl _ rfl ?_ | refine CallN.gen [false, true, false] _ _ _ rfl pd rfl rfl _ rfl ?_)) | (guard_target = Index _ _ _; first  | refine Index.mk _ (idx_map (by omega)) ?_) | (guard_target = Need (_ = true) _; refine Need.mk (by first | kernel_rfl | rfl) ?_) | (guard_target = LinkV _ _ _; refine LinkV.no ?_) | (guard_target = GhO _ _ _ _; refine GhO.go ?_) | (guard_target = Need _ _; refine Need.mk (by first  | omega | (simp only [List.length_map]; omega)) ?_))
    all_goals first | rfl | trivial
end Go.Proofs.YtaajacnceocpoaaGreat

namespace Go.Proofs.YtaajacnceocpoaaGreat
open Go Go.KA Go.Proofs
set_option maxHeartbeats 16000000
set_option maxRecDepth 100000
theorem copyExpr_all (x : XExpr) (hl : x.kids.length ≤ 1048576) (hx : ∀ k ∈ x.kids, CallX Tryz.prog 110 [.a 3 (encExpr k)] [] (.a 3 (ownT k))) : CallX Tryz.prog 110 [.a 3 (toldE x)] [] (.a 3 (ownT x)) := by
  refine callX_of_vc htb hm Tryz.func110 rfl rfl rfl rfl (ann := fun _ => none) (gh := fun _ => false) ?_
  repeat' ((conv => whnf); first | (guard_target = RetX _ _; refine RetX.mk ?_ ?_) | (guard_target =~ LoopE 3 _ _ _ _ _ _; refine LoopE.mk { α := Nat × List (List CV), keep := [2, 3, 12, 13], ov := fun ⟨i, rows⟩ => [(14, I (i : Nat))], hv := fun ⟨i, rows⟩ => [(5, .cells [.c (J x.kind), .c (J x.num), .lw 3]), (3, .orow none 28 3 rows)], φ := fun ⟨i, rows⟩ => i ≤ x.kids.length ∧ rows = (x.kids.take i).map ownExpr, μ := fun ⟨i, rows⟩ => x.kids.length - i } (LoopN.mk ((0, []) : Nat × List (List CV)) (by exact ⟨Nat.zero_le _, rfl⟩) (by repeat' ((conv => whnf) <;> first | exact trivial | kernel_rfl | constructor)) (by repeat' ((conv => whnf) <;> first | exact trivial | kernel_rfl | constructor)) (by repeat' ((conv => whnf) <;> first | exact trivial | refine ⟨?_, ?_⟩ | exact rfl | (simp only [List.map_append, List.map_cons, List.map_nil, List.map_set]; first | done | rfl))) (fun A ha => ?_) (by intro A; first | rfl | (obtain ⟨_, _⟩ := A; rfl) | (obtain ⟨_, _, _⟩ := A; rfl))); obtain ⟨i, rows⟩ := A; have ha : i ≤ x.kids.length ∧ rows = (x.kids.take i).map ownExpr := ha; have hrl : rows.length = i := (by rw [ha.2, List.length_map, List.length_take]; omega)) | (guard_target = Gh _ _ _ _ _; refine Gh.go ⟨((i + 1, rows ++ [ownT x.kids[i]]) : Nat × List (List CV)), (by exact ⟨by show i + 1 ≤ _; omega, own_next (by omega) ha.2⟩), (by first | (show _ < _; simp only []; omega) | omega | (simp; omega)), (by repeat' ((conv => whnf) <;> first | exact trivial | kernel_rfl | constructor)), (by repeat' ((conv => whnf) <;> first | exact trivial | kernel_rfl | constructor)), (by repeat' ((conv => whnf) <;> first | exact trivial | refine ⟨?_, ?_⟩ | exact rfl | (simp only [List.map_append, List.map_cons, List.map_nil, List.map_set]; first | done | rfl)))⟩) | (guard_target = Fact _ _; refine Fact.mk fun hL => ?_; (try simp only [List.length_map, maxLen] at hL)) | (guard_target = Branch _ _ _; (first | apply Branch.dec | apply Branch.beq | apply Branch.bne | apply Branch.ndec | apply Branch.nb | apply Branch.mk) <;> intro h <;> (try simp only [List.length_map] at h) <;> (try omega) <;> (try contradiction)) | (guard_target = CallN _ 110 _ _ _ _; refine CallN.gen [] _ _ _ rfl (hx _ (List.getElem_mem (by omega))) rfl rfl _ rfl ?_) | (guard_target = Arith _ _ _; refine Arith.fit (by apply wrap_fit <;> first | omega | (simp only [List.length_map]; omega)) ?_) | (guard_target = Arith _ _ _; refine Arith.fit (by decide) ?_) | (guard_target = Index _ _ _; first | refine Index.mk _ (idx_map (i := i) (by omega)) ?_ | refine Index.mk _ (idx_map (by omega)) ?_) | (guard_target = Need (_ = true) _; refine Need.mk (by first | kernel_rfl | rfl) ?_) | (guard_target = LinkV _ _ _; refine LinkV.no ?_) | (guard_target = GhO _ _ _ _; refine GhO.go ?_) | (guard_target = Need _ _; refine Need.mk (by first | ((simp only [List.length_cons, List.length_nil, maxLen]; constructor <;> omega)) | omega | (simp only [List.length_map]; omega)) ?_))
  all_goals first | rfl | trivial | (have h9 := ha.2; rw [List.take_of_length_le (by omega)] at h9; rw [h9]; rfl)
theorem copyExpr_ok (x : XExpr) (hb : budExpr x ≤ 1048576) : CallX Tryz.prog 110 [.a 3 (encExpr x)] [] (.a 3 (ownT x)) := by
  rw [encExpr_eq]
  have h1 : budS budExpr x.kids ≤ budExpr x := by
    cases x
    simp only [budExpr, budExprS_eq, XExpr.kids]
    exact Nat.le_refl _
  exact copyExpr_all x (by have := budS_len budExpr x.kids; omega) fun k _hk => copyExpr_ok k (by have := budS_mem budExpr _hk; omega)
  termination_by SizeOf.sizeOf x
  decreasing_by
    have := List.sizeOf_lt_of_mem _hk
    cases x
    simp only [XExpr.mk.sizeOf_spec]
    show SizeOf.sizeOf k < _
    simp only [XExpr.kids] at this
    omega
theorem copyExpr_ro (x : XExpr) (hb : budExpr x ≤ 1048576) : CallX Tryz.prog 110 [.a 3 (encExpr x)] [] (.a 3 (encExpr x)) := (copyExpr_ok x hb).soft (own_soft x)
abbrev leafE (k n : Int) : XExpr := .mk k n []
theorem leaf_ok (k n : Int) : CallX Tryz.prog 109 [I k, I n] [] (.a 3 (encExpr (leafE k n))) := by
  refine leaf_soft ?_
  refine callX_of_vc htb hm Tryz.func109 rfl rfl rfl rfl (ann := fun _ => none) (gh := fun _ => false) ?_
  repeat' ((conv => whnf); first | (guard_target = RetX _ _; refine RetX.mk ?_ ?_) | (guard_target = Index _ _ _; first  | refine Index.mk _ (idx_map (by omega)) ?_) | (guard_target = Need _ _; refine Need.mk (by first  | omega | (simp only [List.length_map]; omega)) ?_))
  all_goals first | rfl | trivial
theorem tree_ro (k : Int) (ks : List XExpr) : CallX Tryz.prog 111 [I k, .c (.ro 3 (ks.map encExpr))] [] (.a 3 (encExpr (.mk k 0 ks))) := by
  rw [enc_mk]
  refine callX_of_vc htb hm Tryz.func111 rfl rfl rfl rfl (ann := fun _ => none) (gh := fun _ => false) ?_
  repeat' ((conv => whnf); first | (guard_target = RetX _ _; refine RetX.mk ?_ ?_) | (guard_target = Index _ _ _; first  | refine Index.mk _ (idx_map (by omega)) ?_) | (guard_target = Need _ _; refine Need.mk (by first  | omega | (simp only [List.length_map]; omega)) ?_))
  all_goals first | rfl | trivial
theorem tree_ok (k : Int) (ks : List XExpr) : CallX Tryz.prog 111 [I k, .c (.ows 28 3 (ks.map encExpr))] [] (.a 3 (encExpr (.mk k 0 ks))) := (tree_ro k ks).give (.same (.c .nil))
theorem copyExpr_mk (k n : Int) (ks : List XExpr) (hb : budExpr (.mk k n ks) ≤ 1048576) : CallX Tryz.prog 110 [.a 3 [J k, J n, .ro 3 (ks.map encExpr)]] [] (.a 3 [J k, J n, .ro 3 (ks.map encExpr)]) := by
  have h := copyExpr_ro _ hb
  rwa [enc_mk] at h
theorem prog_next {ks : List XProg} {es : List XExpr} {i : Nat} {x : XExpr} (ha : i ≤ ks.length ∧ es = (ks.take i).map progE) (hi : i < ks.length) (hx : progE ks[i] = x) : i + 1 ≤ ks.length ∧ es ++ [x] = (ks.take (i + 1)).map progE := by
  refine ⟨hi, ?_⟩
  rw [take_map_next hi, ha.2, hx]
section
variable {n : Int} {c : XExpr} (hc : budExpr c ≤ 1048576)
include hc
theorem progExpr_leaf {k : Int} (h : k = 1 ∨ k = 2 ∨ k = 3 ∨ k = 4) : CallX Tryz.prog 46 [.a 6 (encProg (.mk k n c []))] [] (.a 3 (encExpr (progE (.mk k n c [])))) := by
  obtain ⟨ck, cn, cs⟩ := c
  have oc := copyExpr_mk ck cn cs hc
  have l2 := leaf_ok 2 0
  have l1 := leaf_ok 1 0
  have l4 := leaf_ok 4 n
  rw [encP_mk]
  rcases h with rfl | rfl | rfl | rfl
  · rw [show progE (.mk 1 n (.mk ck cn cs) []) = .mk 2 0 [] by simp [progE, progK]]
    refine callX_of_vc htb hm Tryz.func46 rfl rfl rfl rfl (ann := fun _ => none) (gh := fun _ => false) ?_
    repeat' ((conv => whnf); first | (guard_target = RetX _ _; refine RetX.mk ?_ ?_) | (guard_target =~ LoopE 3 _ _ _ _ _ _; refine LoopE.mk { α := Nat, keep := [1, 2, 9, 10], ov := fun i => [(3, .lw 3), (11, I (i : Nat))], φ := fun i => i ≤ 0, μ := fun i => 0 - i } (LoopN.mk (0 : Nat) (by exact Nat.le_refl _) (by repeat' ((conv => whnf) <;> first | exact trivial | kernel_rfl | constructor)) (by repeat' ((conv => whnf) <;> first | exact trivial | kernel_rfl | constructor)) (by repeat' ((conv => whnf) <;> first | exact trivial | refine ⟨?_, ?_⟩ | exact rfl | (simp only [List.map_append, List.map_cons, List.map_nil, List.map_set]; first | done | rfl))) (fun (i : Nat) ha => ?_) (by intro A; first | rfl | (obtain ⟨_, _⟩ := A; rfl) | (obtain ⟨_, _, _⟩ := A; rfl))); have ha : i ≤ 0 := ha) | (guard_target = Fact _ _; refine Fact.mk fun hL => ?_; (try simp only [List.length_map, maxLen] at hL)) | (guard_target = Branch _ _ _; (first | apply Branch.dec | apply Branch.beq | apply Branch.bne | apply Branch.ndec | apply Branch.nb | apply Branch.mk) <;> intro h <;> (try simp only [List.length_map] at h) <;> (try omega) <;> (try contradiction)) | (guard_target = CallN _ 109 _ _ _ _; refine CallN.gen [] _ _ _ rfl (l2) rfl rfl _ rfl ?_) | (guard_target = Arith _ _ _; refine Arith.fit (by apply wrap_fit <;> first | omega | (simp only [List.length_map]; omega)) ?_) | (guard_target = Arith _ _ _; refine Arith.fit (by decide) ?_) | (guard_target = Index _ _ _; first  | refine Index.mk _ (idx_map (by omega)) ?_) | (guard_target = Need (_ = true) _; refine Need.mk (by first | kernel_rfl | rfl) ?_) | (guard_target = LinkV _ _ _; refine LinkV.no ?_) | (guard_target = GhO _ _ _ _; refine GhO.go ?_) | (guard_target = Need _ _; refine Need.mk (by first  | omega | (simp only [List.length_map]; omega)) ?_))
    all_goals first | rfl | trivial
  · rw [show progE (.mk 2 n (.mk ck cn cs) []) = .mk 1 0 [] by simp [progE, progK]]
    refine callX_of_vc htb hm Tryz.func46 rfl rfl rfl rfl (ann := fun _ => none) (gh := fun _ => false) ?_
    repeat' ((conv => whnf); first | (guard_target = RetX _ _; refine RetX.mk ?_ ?_) | (guard_target =~ LoopE 3 _ _ _ _ _ _; refine LoopE.mk { α := Nat, keep := [1, 2, 9, 10], ov := fun i => [(3, .lw 3), (11, I (i : Nat))], φ := fun i => i ≤ 0, μ := fun i => 0 - i } (LoopN.mk (0 : Nat) (by exact Nat.le_refl _) (by repeat' ((conv => whnf) <;> first | exact trivial | kernel_rfl | constructor)) (by repeat' ((conv => whnf) <;> first | exact trivial | kernel_rfl | constructor)) (by repeat' ((conv => whnf) <;> first | exact trivial | refine ⟨?_, ?_⟩ | exact rfl | (simp only [List.map_append, List.map_cons, List.map_nil, List.map_set]; first | done | rfl))) (fun (i : Nat) ha => ?_) (by intro A; first | rfl | (obtain ⟨_, _⟩ := A; rfl) | (obtain ⟨_, _, _⟩ := A; rfl))); have ha : i ≤ 0 := ha) | (guard_target = Fact _ _; refine Fact.mk fun hL => ?_; (try simp only [List.length_map, maxLen] at hL)) | (guard_target = Branch _ _ _; (first | apply Branch.dec | apply Branch.beq | apply Branch.bne | apply Branch.ndec | apply Branch.nb | apply Branch.mk) <;> intro h <;> (try simp only [List.length_map] at h) <;> (try omega) <;> (try contradiction)) | (guard_target = CallN _ 109 _ _ _ _; refine CallN.gen [] _ _ _ rfl (l1) rfl rfl _ rfl ?_) | (guard_target = Arith _ _ _; refine Arith.fit (by apply wrap_fit <;> first | omega | (simp only [List.length_map]; omega)) ?_) | (guard_target = Arith _ _ _; refine Arith.fit (by decide) ?_) | (guard_target = Index _ _ _; first  | refine Index.mk _ (idx_map (by omega)) ?_) | (guard_target = Need (_ = true) _; refine Need.mk (by first | kernel_rfl | rfl) ?_) | (guard_target = LinkV _ _ _; refine LinkV.no ?_) | (guard_target = GhO _ _ _ _; refine GhO.go ?_) | (guard_target = Need _ _; refine Need.mk (by first  | omega | (simp only [List.length_map]; omega)) ?_))
    all_goals first | rfl | trivial
  · rw [show progE (.mk 3 n (.mk ck cn cs) []) = .mk 4 n [] by simp [progE, progK]]
    refine callX_of_vc htb hm Tryz.func46 rfl rfl rfl rfl (ann := fun _ => none) (gh := fun _ => false) ?_
    repeat' ((conv => whnf); first | (guard_target = RetX _ _; refine RetX.mk ?_ ?_) | (guard_target =~ LoopE 3 _ _ _ _ _ _; refine LoopE.mk { α := Nat, keep := [1, 2, 9, 10], ov := fun i => [(3, .lw 3), (11, I (i : Nat))], φ := fun i => i ≤ 0, μ := fun i => 0 - i } (LoopN.mk (0 : Nat) (by exact Nat.le_refl _) (by repeat' ((conv => whnf) <;> first | exact trivial | kernel_rfl | constructor)) (by repeat' ((conv => whnf) <;> first | exact trivial | kernel_rfl | constructor)) (by repeat' ((conv => whnf) <;> first | exact trivial | refine ⟨?_, ?_⟩ | exact rfl | (simp only [List.map_append, List.map_cons, List.map_nil, List.map_set]; first | done | rfl))) (fun (i : Nat) ha => ?_) (by intro A; first | rfl | (obtain ⟨_, _⟩ := A; rfl) | (obtain ⟨_, _, _⟩ := A; rfl))); have ha : i ≤ 0 := ha) | (guard_target = Fact _ _; refine Fact.mk fun hL => ?_; (try simp only [List.length_map, maxLen] at hL)) | (guard_target = Branch _ _ _; (first | apply Branch.dec | apply Branch.beq | apply Branch.bne | apply Branch.ndec | apply Branch.nb | apply Branch.mk) <;> intro h <;> (try simp only [List.length_map] at h) <;> (try omega) <;> (try contradiction)) | (guard_target = CallN _ 109 _ _ _ _; refine CallN.gen [] _ _ _ rfl (l4) rfl rfl _ rfl ?_) | (guard_target = Arith _ _ _; refine Arith.fit (by apply wrap_fit <;> first | omega | (simp only [List.length_map]; omega)) ?_) | (guard_target = Arith _ _ _; refine Arith.fit (by decide) ?_) | (guard_target = Index _ _ _; first  | refine Index.mk _ (idx_map (by omega)) ?_) | (guard_target = Need (_ = true) _; refine Need.mk (by first | kernel_rfl | rfl) ?_) | (guard_target = LinkV _ _ _; refine LinkV.no ?_) | (guard_target = GhO _ _ _ _; refine GhO.go ?_) | (guard_target = Need _ _; refine Need.mk (by first  | omega | (simp only [List.length_map]; omega)) ?_))
    all_goals first | rfl | trivial
  · rw [show progE (.mk 4 n (.mk ck cn cs) []) = .mk ck cn cs by simp [progE, progK], enc_mk]
    refine callX_of_vc htb hm Tryz.func46 rfl rfl rfl rfl (ann := fun _ => none) (gh := fun _ => false) ?_
    repeat' ((conv => whnf); first | (guard_target = RetX _ _; refine RetX.mk ?_ ?_) | (guard_target =~ LoopE 3 _ _ _ _ _ _; refine LoopE.mk { α := Nat, keep := [1, 2, 9, 10], ov := fun i => [(3, .lw 3), (11, I (i : Nat))], φ := fun i => i ≤ 0, μ := fun i => 0 - i } (LoopN.mk (0 : Nat) (by exact Nat.le_refl _) (by repeat' ((conv => whnf) <;> first | exact trivial | kernel_rfl | constructor)) (by repeat' ((conv => whnf) <;> first | exact trivial | kernel_rfl | constructor)) (by repeat' ((conv => whnf) <;> first | exact trivial | refine ⟨?_, ?_⟩ | exact rfl | (simp only [List.map_append, List.map_cons, List.map_nil, List.map_set]; first | done | rfl))) (fun (i : Nat) ha => ?_) (by intro A; first | rfl | (obtain ⟨_, _⟩ := A; rfl) | (obtain ⟨_, _, _⟩ := A; rfl))); have ha : i ≤ 0 := ha) | (guard_target = Fact _ _; refine Fact.mk fun hL => ?_; (try simp only [List.length_map, maxLen] at hL)) | (guard_target = Branch _ _ _; (first | apply Branch.dec | apply Branch.beq | apply Branch.bne | apply Branch.ndec | apply Branch.nb | apply Branch.mk) <;> intro h <;> (try simp only [List.length_map] at h) <;> (try omega) <;> (try contradiction)) | (guard_target = CallN _ 110 _ _ _ _; refine CallN.gen [] _ _ _ rfl (oc) rfl rfl _ rfl ?_) | (guard_target = Arith _ _ _; refine Arith.fit (by apply wrap_fit <;> first | omega | (simp only [List.length_map]; omega)) ?_) | (guard_target = Arith _ _ _; refine Arith.fit (by decide) ?_) | (guard_target = Index _ _ _; first  | refine Index.mk _ (idx_map (by omega)) ?_) | (guard_target = Need (_ = true) _; refine Need.mk (by first | kernel_rfl | rfl) ?_) | (guard_target = LinkV _ _ _; refine LinkV.no ?_) | (guard_target = GhO _ _ _ _; refine GhO.go ?_) | (guard_target = Need _ _; refine Need.mk (by first  | omega | (simp only [List.length_map]; omega)) ?_))
    all_goals first | rfl | trivial
theorem progExpr_two {k : Int} {a b : XProg} (h : k = 5 ∨ k = 6) (ia : CallX Tryz.prog 46 [.a 6 (encProg a)] [] (.a 3 (encExpr (progE a)))) (ib : CallX Tryz.prog 46 [.a 6 (encProg b)] [] (.a 3 (encExpr (progE b)))) :
    CallX Tryz.prog 46 [.a 6 (encProg (.mk k n c [a, b]))] [] (.a 3 (encExpr (progE (.mk k n c [a, b])))) := by
  obtain ⟨ck, cn, cs⟩ := c
  have oc := copyExpr_mk ck cn cs hc
  have h2 : [a, b].length = 2 := rfl
  have hx : ∀ i, (hi : i < [a, b].length) → CallX Tryz.prog 46 [.a 6 (encProg [a, b][i])] [] (.a 3 (encExpr (progE [a, b][i]))) := fun i hi => by
    match i, hi with
    | 0, _ => exact ia
    | 1, _ => exact ib
  obtain ⟨k1, n1, ks1, e1⟩ := ex_mkE (progE a)
  obtain ⟨k2, n2, ks2, e2⟩ := ex_mkE (progE b)
  have tc := tree_ok 5 [.mk ck cn cs]
  have ta := tree_ok 7 [.mk ck cn cs, .mk k1 n1 ks1]
  have tb := tree_ok 7 [.mk 5 0 [.mk ck cn cs], .mk k2 n2 ks2]
  have ts := tree_ok 6 [.mk 7 0 [.mk ck cn cs, .mk k1 n1 ks1], .mk 7 0 [.mk 5 0 [.mk ck cn cs], .mk k2 n2 ks2]]
  have td := tree_ok 7 [.mk k1 n1 ks1, .mk k2 n2 ks2]
  simp only [List.map_cons, List.map_nil] at tc ta tb ts td
  rw [enc_mk ck cn cs] at tc ta
  rw [encP_mk]
  rcases h with rfl | rfl
  · rw [show progE (.mk 5 n (.mk ck cn cs) [a, b]) = .mk 7 0 [.mk k1 n1 ks1, .mk k2 n2 ks2] by simp [progE, progK, progL, e1, e2]]
    refine callX_of_vc htb hm Tryz.func46 rfl rfl rfl rfl (ann := fun _ => none) (gh := fun reg_ => match reg_ with | 7 => true | _ => false) ?_
    repeat' ((conv => whnf); first | (guard_target = RetX _ _; refine RetX.mk ?_ ?_) | (guard_target =~ LoopE 3 _ _ _ _ _ _; refine LoopE.mk { α := Nat × List XExpr, keep := [1, 2, 9, 10], ov := fun ⟨i, es⟩ => [(3, .lw 3), (11, I (i : Nat))], hv := fun ⟨i, es⟩ => [(3, .row none 28 3 (es.map encExpr))], φ := fun ⟨i, es⟩ => i ≤ [a, b].length ∧ es = ([a, b].take i).map progE, μ := fun ⟨i, es⟩ => [a, b].length - i } (LoopN.mk ((0, []) : Nat × List XExpr) (by exact ⟨Nat.zero_le _, rfl⟩) (by repeat' ((conv => whnf) <;> first | exact trivial | kernel_rfl | constructor)) (by repeat' ((conv => whnf) <;> first | exact trivial | kernel_rfl | constructor)) (by repeat' ((conv => whnf) <;> first | exact trivial | refine ⟨?_, ?_⟩ | exact rfl | (simp only [List.map_append, List.map_cons, List.map_nil, List.map_set]; first | done | rfl))) (fun A ha => ?_) (by intro A; first | rfl | (obtain ⟨_, _⟩ := A; rfl) | (obtain ⟨_, _, _⟩ := A; rfl))); obtain ⟨i, es⟩ := A; have ha : i ≤ [a, b].length ∧ es = ([a, b].take i).map progE := ha; have hrl : es.length = i := (by rw [ha.2, List.length_map, List.length_take]; exact Nat.min_eq_left ha.1); have hi3 : i ≤ 2 := ha.1) | (guard_target = Gh _ _ _ _ _; refine Gh.go ⟨((i + 1, es ++ [.mk k9 n9 ks9]) : Nat × List XExpr), (by exact prog_next ha hi e9), (by first | (show _ < _; simp only []; omega) | omega | (simp; omega)), (by repeat' ((conv => whnf) <;> first | exact trivial | kernel_rfl | constructor)), (by repeat' ((conv => whnf) <;> first | exact trivial | kernel_rfl | constructor)), (by repeat' ((conv => whnf) <;> first | exact trivial | refine ⟨?_, ?_⟩ | exact rfl | (simp only [List.map_append, List.map_cons, List.map_nil, List.map_set]; first | done | rfl)))⟩) | (guard_target = Fact _ _; refine Fact.mk fun hL => ?_; (try simp only [List.length_map, maxLen] at hL)) | (guard_target = Branch _ _ _; (first | apply Branch.dec | apply Branch.beq | apply Branch.bne | apply Branch.ndec | apply Branch.nb | apply Branch.mk) <;> intro h <;> (try simp only [List.length_map] at h) <;> (try omega) <;> (try contradiction)) | (guard_target = CallN _ 111 _ _ _ _; refine CallN.gen [false, true] _ _ _ rfl (td) rfl rfl _ rfl ?_) | (guard_target = CallN _ 46 _ _ _ _; (have hi : i < [a, b].length := (by omega); have hq := hx i hi; obtain ⟨k9, n9, ks9, e9⟩ := ex_mkE (progE [a, b][i]); rw [e9] at hq; refine CallN.gen [] _ _ _ rfl hq rfl rfl _ rfl ?_)) | (guard_target = Gh _ _ _ _ _; (obtain rfl : es = [.mk k1 n1 ks1, .mk k2 n2 ks2] := (by rw [ha.2, show i = 2 by omega]; simp [e1, e2]); refine Gh.go ?_)) | (guard_target = Arith _ _ _; refine Arith.fit (by apply wrap_fit <;> first | omega | (simp only [List.length_map]; omega)) ?_) | (guard_target = Arith _ _ _; refine Arith.fit (by decide) ?_) | (guard_target = Index _ _ _; first  | refine Index.mk _ (idx_map (by omega)) ?_) | (guard_target = Need (_ = true) _; refine Need.mk (by first | kernel_rfl | rfl) ?_) | (guard_target = LinkV _ _ _; refine LinkV.no ?_) | (guard_target = GhO _ _ _ _; refine GhO.go ?_) | (guard_target = Need _ _; refine Need.mk (by first | ((simp only [List.length_map, List.length_cons, List.length_nil, maxLen]; constructor <;> omega)) | omega | (simp only [List.length_map]; omega)) ?_))
    all_goals first | rfl | trivial
  · rw [show progE (.mk 6 n (.mk ck cn cs) [a, b]) = .mk 6 0 [.mk 7 0 [.mk ck cn cs, .mk k1 n1 ks1], .mk 7 0 [.mk 5 0 [.mk ck cn cs], .mk k2 n2 ks2]] by simp [progE, progK, progL, e1, e2]]
    refine callX_of_vc htb hm Tryz.func46 rfl rfl rfl rfl (ann := fun _ => none) (gh := fun reg_ => match reg_ with | 7 => true | _ => false) ?_
    repeat' ((conv => whnf); first | (guard_target = RetX _ _; refine RetX.mk ?_ ?_) | (guard_target =~ LoopE 3 _ _ _ _ _ _; refine LoopE.mk { α := Nat × List XExpr, keep := [1, 2, 9, 10], ov := fun ⟨i, es⟩ => [(3, .lw 3), (11, I (i : Nat))], hv := fun ⟨i, es⟩ => [(3, .row none 28 3 (es.map encExpr))], φ := fun ⟨i, es⟩ => i ≤ [a, b].length ∧ es = ([a, b].take i).map progE, μ := fun ⟨i, es⟩ => [a, b].length - i } (LoopN.mk ((0, []) : Nat × List XExpr) (by exact ⟨Nat.zero_le _, rfl⟩) (by repeat' ((conv => whnf) <;> first | exact trivial | kernel_rfl | constructor)) (by repeat' ((conv => whnf) <;> first | exact trivial | kernel_rfl | constructor)) (by repeat' ((conv => whnf) <;> first | exact trivial | refine ⟨?_, ?_⟩ | exact rfl | (simp only [List.map_append, List.map_cons, List.map_nil, List.map_set]; first | done | rfl))) (fun A ha => ?_) (by intro A; first | rfl | (obtain ⟨_, _⟩ := A; rfl) | (obtain ⟨_, _, _⟩ := A; rfl))); obtain ⟨i, es⟩ := A; have ha : i ≤ [a, b].length ∧ es = ([a, b].take i).map progE := ha; have hrl : es.length = i := (by rw [ha.2, List.length_map, List.length_take]; exact Nat.min_eq_left ha.1); have hi3 : i ≤ 2 := ha.1) | (guard_target = Gh _ _ _ _ _; refine Gh.go ⟨((i + 1, es ++ [.mk k9 n9 ks9]) : Nat × List XExpr), (by exact prog_next ha hi e9), (by first | (show _ < _; simp only []; omega) | omega | (simp; omega)), (by repeat' ((conv => whnf) <;> first | exact trivial | kernel_rfl | constructor)), (by repeat' ((conv => whnf) <;> first | exact trivial | kernel_rfl | constructor)), (by repeat' ((conv => whnf) <;> first | exact trivial | refine ⟨?_, ?_⟩ | exact rfl | (simp only [List.map_append, List.map_cons, List.map_nil, List.map_set]; first | done | rfl)))⟩) | (guard_target = Fact _ _; refine Fact.mk fun hL => ?_; (try simp only [List.length_map, maxLen] at hL)) | (guard_target = Branch _ _ _; (first | apply Branch.dec | apply Branch.beq | apply Branch.bne | apply Branch.ndec | apply Branch.nb | apply Branch.mk) <;> intro h <;> (try simp only [List.length_map] at h) <;> (try omega) <;> (try contradiction)) | (guard_target = CallN _ 110 _ _ _ _; refine CallN.gen [] _ _ _ rfl (oc) rfl rfl _ rfl ?_) | (guard_target = CallN _ 46 _ _ _ _; (have hi : i < [a, b].length := (by omega); have hq := hx i hi; obtain ⟨k9, n9, ks9, e9⟩ := ex_mkE (progE [a, b][i]); rw [e9] at hq; refine CallN.gen [] _ _ _ rfl hq rfl rfl _ rfl ?_)) | (guard_target = Gh _ _ _ _ _; (obtain rfl : es = [.mk k1 n1 ks1, .mk k2 n2 ks2] := (by rw [ha.2, show i = 2 by omega]; simp [e1, e2]); refine Gh.go ?_)) | (guard_target = CallN _ 111 _ _ _ _; (first | refine CallN.gen [false, true] _ _ _ rfl tc rfl rfl _ rfl ?_ | refine CallN.gen [false, true] _ _ _ rfl ta rfl rfl _ rfl ?_ | refine CallN.gen [false, true] _ _ _ rfl tb rfl rfl _ rfl ?_ | refine CallN.gen [false, true] _ _ _ rfl ts rfl rfl _ rfl ?_)) | (guard_target = Arith _ _ _; refine Arith.fit (by apply wrap_fit <;> first | omega | (simp only [List.length_map]; omega)) ?_) | (guard_target = Arith _ _ _; refine Arith.fit (by decide) ?_) | (guard_target = Index _ _ _; first  | refine Index.mk _ (idx_map (by omega)) ?_) | (guard_target = Need (_ = true) _; refine Need.mk (by first | kernel_rfl | rfl) ?_) | (guard_target = LinkV _ _ _; refine LinkV.no ?_) | (guard_target = GhO _ _ _ _; refine GhO.go ?_) | (guard_target = Need _ _; refine Need.mk (by first | ((simp only [List.length_map, List.length_cons, List.length_nil, maxLen]; constructor <;> omega)) | omega | (simp only [List.length_map]; omega)) ?_))
    all_goals first | rfl | trivial
theorem progExpr_loop {a : XProg} (ia : CallX Tryz.prog 46 [.a 6 (encProg a)] [] (.a 3 (encExpr (progE a)))) :
    CallX Tryz.prog 46 [.a 6 (encProg (.mk 7 n c [a]))] [] (.a 3 (encExpr (progE (.mk 7 n c [a])))) := by
  obtain ⟨ck, cn, cs⟩ := c
  have oc := copyExpr_mk ck cn cs hc
  have h2 : [a].length = 1 := rfl
  have hx : ∀ i, (hi : i < [a].length) → CallX Tryz.prog 46 [.a 6 (encProg [a][i])] [] (.a 3 (encExpr (progE [a][i]))) := fun i hi => by
    match i, hi with
    | 0, _ => exact ia
  obtain ⟨k1, n1, ks1, e1⟩ := ex_mkE (progE a)
  have tc := tree_ok 5 [.mk ck cn cs]
  have ta := tree_ok 7 [.mk ck cn cs, .mk k1 n1 ks1]
  have ts := tree_ok 8 [.mk 7 0 [.mk ck cn cs, .mk k1 n1 ks1]]
  have td := tree_ok 7 [.mk 8 0 [.mk 7 0 [.mk ck cn cs, .mk k1 n1 ks1]], .mk 5 0 [.mk ck cn cs]]
  simp only [List.map_cons, List.map_nil] at tc ta ts td
  rw [enc_mk ck cn cs] at tc ta
  rw [encP_mk]
  rw [show progE (.mk 7 n (.mk ck cn cs) [a]) = .mk 7 0 [.mk 8 0 [.mk 7 0 [.mk ck cn cs, .mk k1 n1 ks1]], .mk 5 0 [.mk ck cn cs]] by simp [progE, progK, progL, e1]]
  refine callX_of_vc htb hm Tryz.func46 rfl rfl rfl rfl (ann := fun _ => none) (gh := fun reg_ => match reg_ with | 7 => true | _ => false) ?_
  repeat' ((conv => whnf); first | (guard_target = RetX _ _; refine RetX.mk ?_ ?_) | (guard_target =~ LoopE 3 _ _ _ _ _ _; refine LoopE.mk { α := Nat × List XExpr, keep := [1, 2, 9, 10], ov := fun ⟨i, es⟩ => [(3, .lw 3), (11, I (i : Nat))], hv := fun ⟨i, es⟩ => [(3, .row none 28 3 (es.map encExpr))], φ := fun ⟨i, es⟩ => i ≤ [a].length ∧ es = ([a].take i).map progE, μ := fun ⟨i, es⟩ => [a].length - i } (LoopN.mk ((0, []) : Nat × List XExpr) (by exact ⟨Nat.zero_le _, rfl⟩) (by repeat' ((conv => whnf) <;> first | exact trivial | kernel_rfl | constructor)) (by repeat' ((conv => whnf) <;> first | exact trivial | kernel_rfl | constructor)) (by repeat' ((conv => whnf) <;> first | exact trivial | refine ⟨?_, ?_⟩ | exact rfl | (simp only [List.map_append, List.map_cons, List.map_nil, List.map_set]; first | done | rfl))) (fun A ha => ?_) (by intro A; first | rfl | (obtain ⟨_, _⟩ := A; rfl) | (obtain ⟨_, _, _⟩ := A; rfl))); obtain ⟨i, es⟩ := A; have ha : i ≤ [a].length ∧ es = ([a].take i).map progE := ha; have hrl : es.length = i := (by rw [ha.2, List.length_map, List.length_take]; exact Nat.min_eq_left ha.1); have hi3 : i ≤ 1 := ha.1) | (guard_target = Gh _ _ _ _ _; refine Gh.go ⟨((i + 1, es ++ [.mk k9 n9 ks9]) : Nat × List XExpr), (by exact prog_next ha hi e9), (by first | (show _ < _; simp only []; omega) | omega | (simp; omega)), (by repeat' ((conv => whnf) <;> first | exact trivial | kernel_rfl | constructor)), (by repeat' ((conv => whnf) <;> first | exact trivial | kernel_rfl | constructor)), (by repeat' ((conv => whnf) <;> first | exact trivial | refine ⟨?_, ?_⟩ | exact rfl | (simp only [List.map_append, List.map_cons, List.map_nil, List.map_set]; first | done | rfl)))⟩) | (guard_target = Fact _ _; refine Fact.mk fun hL => ?_; (try simp only [List.length_map, maxLen] at hL)) | (guard_target = Branch _ _ _; (first | apply Branch.dec | apply Branch.beq | apply Branch.bne | apply Branch.ndec | apply Branch.nb | apply Branch.mk) <;> intro h <;> (try simp only [List.length_map] at h) <;> (try omega) <;> (try contradiction)) | (guard_target = CallN _ 110 _ _ _ _; refine CallN.gen [] _ _ _ rfl (oc) rfl rfl _ rfl ?_) | (guard_target = CallN _ 46 _ _ _ _; (have hi : i < [a].length := (by omega); have hq := hx i hi; obtain ⟨k9, n9, ks9, e9⟩ := ex_mkE (progE [a][i]); rw [e9] at hq; refine CallN.gen [] _ _ _ rfl hq rfl rfl _ rfl ?_)) | (guard_target = Gh _ _ _ _ _; (obtain rfl : es = [.mk k1 n1 ks1] := (by rw [ha.2, show i = 1 by omega]; simp [e1]); refine Gh.go ?_)) | (guard_target = CallN _ 111 _ _ _ _; (first | refine CallN.gen [false, true] _ _ _ rfl tc rfl rfl _ rfl ?_ | refine CallN.gen [false, true] _ _ _ rfl ta rfl rfl _ rfl ?_ | refine CallN.gen [false, true] _ _ _ rfl ts rfl rfl _ rfl ?_ | refine CallN.gen [false, true] _ _ _ rfl td rfl rfl _ rfl ?_)) | (guard_target = Arith _ _ _; refine Arith.fit (by apply wrap_fit <;> first | omega | (simp only [List.length_map]; omega)) ?_) | (guard_target = Arith _ _ _; refine Arith.fit (by decide) ?_) | (guard_target = Index _ _ _; first  | refine Index.mk _ (idx_map (by omega)) ?_) | (guard_target = Need (_ = true) _; refine Need.mk (by first | kernel_rfl | rfl) ?_) | (guard_target = LinkV _ _ _; refine LinkV.no ?_) | (guard_target = GhO _ _ _ _; refine GhO.go ?_) | (guard_target = Need _ _; refine Need.mk (by first | ((simp only [List.length_map, List.length_cons, List.length_nil, maxLen]; constructor <;> omega)) | omega | (simp only [List.length_map]; omega)) ?_))
  all_goals first | rfl | trivial
end
theorem progExpr_ok {p : XProg} (hf : FormP p) : budProg p ≤ 1048576 → CallX Tryz.prog 46 [.a 6 (encProg p)] [] (.a 3 (encExpr (progE p))) := by
  induction hf with
  | @leaf k n c ks h hk => intro hb; subst hk; exact progExpr_leaf (prog_parts hb).1 h
  | @two k n c a b h ha hb' iha ihb => intro hb; exact progExpr_two (prog_parts hb).1 h (iha ((prog_parts hb).2 a (by simp))) (ihb ((prog_parts hb).2 b (by simp)))
  | @loop n c a ha iha => intro hb; exact progExpr_loop (prog_parts hb).1 (iha ((prog_parts hb).2 a (by simp)))
end Go.Proofs.YtaajacnceocpoaaGreat
