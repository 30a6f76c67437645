/- Contracts: a valid world that is drawn; a number below a bound; the expression of a valid program. No conditions but that no more than 3000 bytes are read. -/
import Derived.Test.YtlfigjkddnncgaaGreatKAY
namespace Go.Proofs.YtlfigjkddnncgaaGreat
open Go Go.KA Go.Proofs
set_option maxHeartbeats 16000000
set_option maxRecDepth 100000
theorem rep_next {l : List (List Int)} {i : Nat} {m : Nat} (ha : i ≤ m ∧ l = List.replicate i [0]) (hi : i < m) : i + 1 ≤ m ∧ l ++ [[0]] = List.replicate (i + 1) [0] := by
  rw [ha.2, List.replicate_succ']
  exact ⟨hi, rfl⟩
theorem A2World_ok {g : XSig} (hg : 0 ≤ g.tests ∧ g.tests ≤ 3 ∧ 0 ≤ g.actions ∧ g.actions ≤ 4) (code : List UInt8) (hc : code.length ≤ 3000) : CallX Tryz.prog 8 [.c (.ro 1 (code.map eU8)), .a 2 [J g.tests, J g.actions]] [] (.a 2 (encWorld (a2world g code))) := by
  have fr := l00From_ok code
  have dw := world_ro g hg (src0 code) 0 (src0_rd code) (by omega) (by show code.length ≤ _; omega) (atomsN g.tests) (atomsN_in ⟨hg.1, hg.2.1⟩) (l01AtomsOf_ok ⟨hg.1, hg.2.1⟩)
  have lw := l06World_ok g.tests g.actions (a2wd g code)
  rw [sig_good hg, Bool.true_and] at lw
  unfold a2world
  change CallX _ _ _ _ (.a 2 (encWorld (a2wd g code))) at dw
  generalize a2wd g code = w at dw lw ⊢
  obtain ⟨gt, ga⟩ := g
  cases h1 : goodWorld gt ga w with
  | true =>
    rw [h1] at lw
    rw [if_pos rfl]
    refine callX_of_vc htb hm Tryz.func8 rfl rfl rfl rfl (ann := fun _ => none) (gh := fun _ => false) ?_
    repeat' ((conv => whnf); first | (guard_target = Done _; refine Done.mk ?_) | (guard_target = RetX _ _; refine RetX.mk ?_ ?_) | (guard_target = Fact _ _; refine Fact.mk fun hL => ?_; (try simp only [List.length_map, maxLen] at hL)) | (guard_target = Branch _ _ _; (first | refine Branch.dec ?_ ?_ | refine Branch.beq ?_ ?_ | refine Branch.bne ?_ ?_ | refine Branch.ndec ?_ ?_ | refine Branch.nb ?_ ?_ | refine Branch.mk ?_ ?_) <;> intro h <;> (try simp only [List.length_map] at h) <;> (try omega) <;> (try contradiction)) | (guard_target = CallN _ 30 _ _ _ _; refine CallN.gen [] _ _ _ rfl (fr) rfl rfl _ rfl ?_) | (guard_target = CallN _ 45 _ _ _ _; refine CallN.gen [true, false] _ _ _ rfl (dw) rfl rfl _ rfl ?_) | (guard_target = CallN _ 46 _ _ _ _; refine CallN.pure _ _ rfl (lw) rfl _ rfl ?_) | (guard_target = Arith _ _ _; refine Arith.fit (wrap_fit (by first | omega | (simp only [List.length_map]; omega)) (by first | omega | (simp only [List.length_map]; omega))) ?_) | (guard_target = Arith _ _ _; refine Arith.fit (by decide) ?_) | (guard_target = Index _ _ _; first  | refine Index.mk _ (idx_map (by omega)) ?_) | (guard_target = Need (_ = true) _; refine Need.mk (by first | kernel_rfl | rfl) ?_) | (guard_target = LinkV _ _ _; first  | refine LinkV.no ?_) | (guard_target = GhO _ _ _ _; refine GhO.go ?_) | (guard_target = Need _ _; refine Need.mk (by first  | omega | (simp only [List.length_map]; omega)) ?_))
    all_goals first | rfl | trivial | (exfalso; simp_all; done)
  | false =>
    rw [h1] at lw
    simp only [] at lw h1
    rw [if_neg (by simp)]
    have h : CallX Tryz.prog 8 [.c (.ro 1 (code.map eU8)), .a 2 [J gt, J ga]] [] (.a 2 [.ows 2 1 [eI 0], .own 37 1 ((List.replicate ga.toNat [0]).map fun l => [.ows 2 1 (l.map eI)])]) := by
      simp only [] at hg
      refine callX_of_vc htb hm Tryz.func8 rfl rfl rfl rfl (ann := fun _ => none) (gh := fun _ => false) ?_
      repeat' ((conv => whnf); first | (guard_target = Done _; refine Done.mk ?_) | (guard_target = RetX _ _; refine RetX.mk ?_ ?_) | (guard_target =~ LoopE 7 _ _ _ _ _ _; refine LoopE.mk { α := Nat × List (List Int), keep := [3, 4, 7], ov := fun ⟨i, l⟩ => [(8, I (i : Nat))], hv := fun ⟨i, l⟩ => [(10, .orow none 37 1 (l.map fun l => [.ows 2 1 (l.map eI)])), (13, .cells [.lw 8, .lw 10])], φ := fun ⟨i, l⟩ => i ≤ ga.toNat ∧ l = List.replicate i [0], μ := fun ⟨i, l⟩ => ga.toNat - i } (LoopN.mk ((0, []) : Nat × List (List Int)) (by exact ⟨Nat.zero_le _, rfl⟩) (by (repeat' ((conv => whnf) <;> (first | exact trivial | refine ⟨?_, ?_⟩ | kernel_rfl))); done) (by (repeat' ((conv => whnf) <;> (first | exact trivial | refine ⟨?_, ?_⟩ | kernel_rfl))); done) (by (repeat' ((conv => whnf) <;> (first | exact trivial | refine ⟨?_, ?_⟩ | exact rfl | (simp only [List.map_append, List.map_cons, List.map_nil, List.map_set]; first | done | rfl)))); done) (fun A ha => ?_) (by intro A; first | rfl | (obtain ⟨_, _⟩ := A; rfl) | (obtain ⟨_, _, _⟩ := A; rfl))); obtain ⟨i, l⟩ := A; have ha : i ≤ ga.toNat ∧ l = List.replicate i [0] := ha; have hrl : l.length = i := (by rw [ha.2, List.length_replicate])) | (guard_target = Gh _ _ _ _ _; refine Gh.go ⟨((i + 1, l ++ [[0]]) : Nat × List (List Int)), (by exact rep_next ha (by omega)), (by first | (show _ < _; simp only []; omega) | omega | (simp; omega)), (by (repeat' ((conv => whnf) <;> (first | exact trivial | refine ⟨?_, ?_⟩ | kernel_rfl))); done), (by (repeat' ((conv => whnf) <;> (first | exact trivial | refine ⟨?_, ?_⟩ | kernel_rfl))); done), (by (repeat' ((conv => whnf) <;> (first | exact trivial | refine ⟨?_, ?_⟩ | exact rfl | (simp only [List.map_append, List.map_cons, List.map_nil, List.map_set]; first | done | rfl)))); done)⟩) | (guard_target = Fact _ _; refine Fact.mk fun hL => ?_; (try simp only [List.length_map, maxLen] at hL)) | (guard_target = Branch _ _ _; (first | refine Branch.dec ?_ ?_ | refine Branch.beq ?_ ?_ | refine Branch.bne ?_ ?_ | refine Branch.ndec ?_ ?_ | refine Branch.nb ?_ ?_ | refine Branch.mk ?_ ?_) <;> intro h <;> (try simp only [List.length_map] at h) <;> (try omega) <;> (try contradiction)) | (guard_target = CallN _ 30 _ _ _ _; refine CallN.gen [] _ _ _ rfl (fr) rfl rfl _ rfl ?_) | (guard_target = CallN _ 45 _ _ _ _; refine CallN.gen [true, false] _ _ _ rfl (dw) rfl rfl _ rfl ?_) | (guard_target = CallN _ 46 _ _ _ _; refine CallN.pure _ _ rfl (lw) rfl _ rfl ?_) | (guard_target = Arith _ _ _; refine Arith.fit (wrap_fit (by first | omega | (simp only [List.length_map]; omega)) (by first | omega | (simp only [List.length_map]; omega))) ?_) | (guard_target = Arith _ _ _; refine Arith.fit (by decide) ?_) | (guard_target = Index _ _ _; first  | refine Index.mk _ (idx_map (by omega)) ?_) | (guard_target = Need (_ = true) _; refine Need.mk (by first | kernel_rfl | rfl) ?_) | (guard_target = LinkV _ _ _; first  | refine LinkV.no ?_) | (guard_target = GhO _ _ _ _; refine GhO.go ?_) | (guard_target = Need _ _; refine Need.mk (by first | ((simp only [List.length_map, List.length_cons, List.length_nil, maxLen]; constructor <;> omega)) | omega | (simp only [List.length_map]; omega)) ?_))
      all_goals first | rfl | trivial | (obtain rfl : l = List.replicate ga.toNat [0] := (by rw [ha.2, show i = ga.toNat by omega]); rfl) | (exfalso; simp_all; done)
    refine h.soft ?_
    show SoftT _ (SV.a 2 [_, _])
    rw [show ((List.replicate ga.toNat [0]).map fun l => [CV.ro 1 (l.map eI)]) = roLL ((List.replicate ga.toNat [0]).map fun l => [CV.ows 2 1 (l.map eI)]) from (roLL_of (f := fun (l : List Int) => [CV.ows 2 1 (l.map eI)]) (g := fun l => [CV.ro 1 (l.map eI)]) (fun l => rfl) _).symm]
    exact .v (.a (.ro (.ro .nil)))
def a2at (code : List UInt8) (n : Int) : Int := if 0 ≥ (code.length : Int) ∨ n < 1 then 0 else ((code.getD 0 0).toNat : Int).tmod n
end Go.Proofs.YtlfigjkddnncgaaGreat

namespace Go.Proofs.YtlfigjkddnncgaaGreat
open Go Go.KA
theorem leftE_bud : ∀ (e : XExpr) (n : Int), (budExpr e : Int) + 1 ≤ n → leftE e n = n - budExpr e - 1
  | .mk k num kids, n, h => by
    rw [leftE]
    have h1 : (budExprS kids : Int) ≤ n - 1 := by
      simp only [budExpr] at h
      omega
    rw [leftS_bud kids (n - 1) h1]
    simp only [budExpr]
    omega
  where leftS_bud : ∀ (l : List XExpr) (n : Int), (budExprS l : Int) ≤ n → leftS l n = n - budExprS l
  | [], n, h => by simp [leftS, budExprS]
  | x :: xs, n, h => by
    rw [leftS, if_neg (by have : (0 : Int) ≤ budExprS (x :: xs) := by omega
                          omega)]
    simp only [budExprS] at h ⊢
    rw [leftE_bud x n (by omega), leftS_bud xs _ (by omega)]
    omega
structure DrawnE (t a : Int) (c : Bool) (d : Nat) (e : XExpr) : Prop where
  tree : treeB t a e = true
  cond : c = true → condB e = true
  depth : depthE e ≤ d + 1
theorem DrawnE.mono {t a : Int} {c : Bool} {d d' : Nat} {e : XExpr} (h : DrawnE t a c d e) (hd : d ≤ d') : DrawnE t a c d' e := ⟨h.tree, h.cond, by have := h.depth; omega⟩
theorem DrawnE.any {t a : Int} {d : Nat} {e : XExpr} (h : DrawnE t a true d e) (c : Bool) : DrawnE t a c d e := ⟨h.tree, fun _ => h.cond rfl, h.depth⟩
section
variable (g : XSig)
theorem leaf0_drawn (s : Src) (c : Bool) : DrawnE g.tests g.actions c 0 (leaf0 s).1 := by
  have h := pickV_in s (n := 2) (by omega)
  have : pickV s 2 = 0 ∨ pickV s 2 = 1 := by omega
  unfold leaf0
  rcases this with h1 | h1 <;> rw [h1]
  · exact ⟨rfl, fun _ => rfl, Nat.le_refl 1⟩
  · exact ⟨rfl, fun _ => rfl, Nat.le_refl 1⟩
theorem test_drawn {n : Int} (hn : 0 ≤ n ∧ n < g.tests) (c : Bool) : DrawnE g.tests g.actions c 0 (.mk 3 n []) := by
  refine ⟨?_, fun _ => rfl, Nat.le_refl 1⟩
  simp [treeB, treeS, kidsN, rng]
  omega
theorem act_drawn {n : Int} (hn : 0 ≤ n ∧ n < g.actions) : DrawnE g.tests g.actions false 0 (.mk 4 n []) := by
  refine ⟨?_, (fun h => by cases h), Nat.le_refl 1⟩
  simp [treeB, treeS, kidsN, rng]
  omega
theorem leaf1_drawn (s : Src) (c : Bool) : DrawnE g.tests g.actions c 0 (leaf1 g s).1 := by
  unfold leaf1
  split
  · split
    · exact leaf0_drawn g _ c
    · exact test_drawn g (pickV_in _ (by omega)) c
  · exact leaf0_drawn g _ c
theorem leafD_drawn (c : Bool) (s : Src) : DrawnE g.tests g.actions c 0 (leafD g c s).1 := by
  unfold leafD
  split
  · rename_i h
    obtain ⟨rfl, h⟩ := h
    split
    · exact leaf1_drawn g _ _
    · exact act_drawn g (pickV_in _ (by omega))
  · exact leaf1_drawn g _ c
theorem not_drawn {e : XExpr} {d : Nat} (h : DrawnE g.tests g.actions true d e) (c : Bool) : DrawnE g.tests g.actions c (d + 1) (.mk 5 0 [e]) := by
  have h1 := h.tree
  have h2 := h.cond rfl
  have h3 := h.depth
  refine ⟨?_, fun _ => ?_, ?_⟩
  · simp [treeB, treeS, kidsN, condS, h1, h2]
  · simp [condB, condS, rng, h2]
  · simp [depthE, depthS]; omega
theorem star_drawn {e : XExpr} {d : Nat} (h : DrawnE g.tests g.actions false d e) : DrawnE g.tests g.actions false (d + 1) (.mk 8 0 [e]) := by
  have h1 := h.tree
  have h3 := h.depth
  refine ⟨?_, (fun h => by cases h), ?_⟩
  · simp [treeB, treeS, kidsN, h1]
  · simp [depthE, depthS]; omega
theorem pair_drawn {k : Int} (hk : k = 6 ∨ k = 7) {c c1 c2 : Bool} {e f : XExpr} {d : Nat} (h : DrawnE g.tests g.actions c1 d e) (h' : DrawnE g.tests g.actions c2 d f) (hc : c = true → c1 = true ∧ c2 = true) : DrawnE g.tests g.actions c (d + 1) (pairX k e f) := by
  have h1 := h.tree
  have h1' := h'.tree
  have h3 := h.depth
  have h3' := h'.depth
  refine ⟨?_, fun hc' => ?_, ?_⟩
  · rcases hk with rfl | rfl <;> simp [pairX, treeB, treeS, kidsN, h1, h1']
  · have h2 := h.cond (hc hc').1
    have h2' := h'.cond (hc hc').2
    rcases hk with rfl | rfl <;> simp [pairX, condB, condS, rng, h2, h2']
  · simp [pairX, depthE, depthS]; omega
theorem exprE_drawn : ∀ (d : Nat) (c : Bool) (r : Gen), DrawnE g.tests g.actions c d (exprE g d c r).1
  | 0, c, r => leafD_drawn g c r.s
  | d + 1, c, r => by
    unfold exprE
    split
    · exact (leafD_drawn g c r.s).mono (by omega)
    · split
      · exact (leafD_drawn g c (pickS r.s 6)).mono (by omega)
      · simp only
        split
        · exact not_drawn g (exprE_drawn d true _) c
        · split
          · rename_i h1 h2
            have hc : c = false := by
              cases c with
              | false => rfl
              | true => exact absurd (.inr ⟨rfl, h2⟩) h1
            subst hc
            exact star_drawn g (exprE_drawn d false _)
          · exact pair_drawn g (by split <;> simp) (exprE_drawn d _ _) (exprE_drawn d _ _) (by intro hc; subst hc; exact ⟨rfl, rfl⟩)
theorem condE_drawn (s : Src) : DrawnE g.tests g.actions true 3 (condE g s).1 := by
  unfold condE
  split
  · split
    · exact exprE_drawn g 3 true _
    · split
      · exact (not_drawn g (test_drawn g (pickV_in _ (by omega)) true) true).mono (by omega)
      · exact (test_drawn g (pickV_in _ (by omega)) true).mono (by omega)
  · exact exprE_drawn g 3 true _
theorem drawn_good {c : Bool} {d : Nat} {e : XExpr} (h : DrawnE g.tests g.actions c d e) (hd : d ≤ 39) (hb : budExpr e ≤ 199) : goodE g.tests g.actions e = true := by
  have h1 := leftE_bud e 200 (by omega)
  have h2 := h.depth
  simp only [goodE, Bool.and_eq_true, decide_eq_true_eq]
  exact ⟨by omega, by omega, h.tree⟩
theorem condE_good (s : Src) : condG g.tests g.actions (condE g s).1 = true := by
  have h := condE_drawn g s
  have hb := condE_bud g s
  simp only [condG, Bool.and_eq_true]
  exact ⟨drawn_good g h (by omega) (by omega), h.cond rfl⟩
theorem endP_tree (k : Int) (s : Src) : ptE g.tests g.actions (endP g k s).1 = true := by
  unfold endP
  split
  · rename_i h
    have := pickV_in s (n := g.actions) (by omega)
    simp [ptE, ptS, pkN, pnode, askB, noE, noneB, rng, XExpr.kind, XExpr.num, XExpr.kids]
    omega
  · split
    · simp [ptE, ptS, pkN, pnode, askB, noE, noneB, XExpr.kind, XExpr.num, XExpr.kids]
    · split
      · have := condE_good g (pickS s 4)
        simp [ptE, ptS, pkN, pnode, askB, this]
      · simp [ptE, ptS, pkN, pnode, askB, noE, noneB, XExpr.kind, XExpr.num, XExpr.kids]
theorem progP_tree : ∀ (d : Nat) (r : Gen), ptE g.tests g.actions (progP g d r).1 = true
  | 0, r => endP_tree g _ _
  | d + 1, r => by
    unfold progP
    simp only
    split
    · exact endP_tree g _ _
    · split
      · have h1 := progP_tree d ⟨pickS r.s 12, r.left - 1⟩
        have h2 := progP_tree d (progP g d ⟨pickS r.s 12, r.left - 1⟩).2
        simp [ptE, ptS, pkN, pnode, askB, noE, noneB, XExpr.kind, XExpr.num, XExpr.kids, h1, h2]
      · have hc := condE_good g (pickS r.s 12)
        have h1 := progP_tree d ⟨(condE g (pickS r.s 12)).2, r.left - 1⟩
        split
        · have h2 := progP_tree d (progP g d ⟨(condE g (pickS r.s 12)).2, r.left - 1⟩).2
          simp [ptE, ptS, pkN, pnode, askB, hc, h1, h2]
        · simp [ptE, ptS, pkN, pnode, askB, hc, h1]
end
end Go.Proofs.YtlfigjkddnncgaaGreat

namespace Go.Proofs.YtlfigjkddnncgaaGreat
open Go Go.KA Go.Proofs
set_option maxHeartbeats 16000000
set_option maxRecDepth 100000
def premV (g : XSig) (s : Src) : XPremise := ⟨(condE g s).1, pickV (condE g (condE g s).2).2 g.actions, (condE g (condE g s).2).1⟩
def premS (g : XSig) (s : Src) : Src := pickS (condE g (condE g s).2).2 g.actions
def premN (g : XSig) (s : Src) : Nat := if g.actions > 0 then (pickV s 4).toNat else 0
def premsV (g : XSig) (s : Src) : List XPremise := runV (premV g) (premS g) (pickS s 4) (premN g s)
def premsS (g : XSig) (s : Src) : Src := iterS (premS g) (pickS s 4) (premN g s)
theorem premN_le (g : XSig) (s : Src) : premN g s ≤ 3 := by
  have := pickV_in s (n := 4) (by omega)
  unfold premN
  split <;> omega
theorem Rd.prem {s : Src} {m : Int} (h : Rd s m) (g : XSig) : Rd (premS g s) (m + 1202) := (((h.cond g).cond g).pick g.actions).mono (by omega)
theorem Rd.prems {s : Src} {m : Int} (h : Rd s m) (g : XSig) : Rd (premsS g s) (m + 4000) := by
  have h1 := Rd.iter (f := premS g) (k := 1202) (by omega) (fun _ _ h => h.prem g) (h.pick 4) (premN g s)
  have := premN_le g s
  exact h1.mono (by omega)
theorem prems_good (g : XSig) (s : Src) : goodL g.tests g.actions (premsV g s) = true := by
  have h1 := premN_le g s
  have h2 : (premsV g s).length = premN g s := runV_len _ _ _ _
  simp only [goodL, Bool.and_eq_true, decide_eq_true_eq, List.all_eq_true]
  refine ⟨by omega, fun x hx => ?_⟩
  unfold premsV runV at hx
  obtain ⟨i, hi, rfl⟩ := List.mem_map.1 hx
  have hi := List.mem_range.1 hi
  have ha : g.actions > 0 := by
    unfold premN at hi
    split at hi
    · assumption
    · omega
  have hp := pickV_in (condE g (condE g (iterS (premS g) (pickS s 4) i)).2).2 (n := g.actions) ha
  simp only [goodPr, premV, Bool.and_eq_true, rng, decide_eq_true_eq]
  exact ⟨condE_good g _, condE_good g _, decide_eq_true hp.1, decide_eq_true (Int.le_sub_one_of_lt hp.2)⟩
theorem prem_zero {g : XSig} {s0 : Src} {k0 : Int} (h : 0 ≤ k0) : 0 ≤ k0 ∧ k0 ≤ k0 ∧ ([] : List XPremise) = runV (premV g) (premS g) s0 (k0 - k0).toNat ∧ s0 = iterS (premS g) s0 (k0 - k0).toNat := by
  rw [show (k0 - k0).toNat = 0 by omega]
  exact ⟨h, Int.le_refl _, rfl, rfl⟩
section
variable (g : XSig) (hg : 0 ≤ g.tests ∧ g.tests ≤ 3 ∧ 0 ≤ g.actions ∧ g.actions ≤ 4)
include hg
theorem premS_cd (s : Src) : (premS g s).code = s.code := by
  unfold premS
  rw [pick_cd, condE_cd g hg, condE_cd g hg]
theorem premsS_cd (s : Src) : (premsS g s).code = s.code := by
  unfold premsS
  rw [iterS_cd (premS_cd g hg), pick_cd]
theorem l07Cond_ok (s : Src) (n : Int) (hs : Rd s n) (hn : n ≤ 690000) (hc : s.code.length ≤ 1000000) : CallX Tryz.prog 34 [.c (.op (srcC s)), .a 2 [J g.tests, J g.actions]] [some [.op (srcC (condE g s).2)], none] (.a 3 (encExpr (condE g s).1)) := by
  have h := cond_ok g hg 4 s n hs hn hc
  obtain ⟨gt, ga⟩ := g
  generalize condE ⟨gt, ga⟩ s = X at h ⊢
  obtain ⟨⟨k1, n1, ks1⟩, s1⟩ := X
  simp only [genC] at h ⊢
  refine callX_of_vc htb hm Tryz.func34 rfl rfl rfl rfl (ann := fun _ => none) (gh := fun _ => false) ?_
  repeat' ((conv => whnf); first | (guard_target = Done _; refine Done.mk ?_) | (guard_target = RetX _ _; refine RetX.mk ?_ ?_) | (guard_target = Fact _ _; refine Fact.mk fun hL => ?_; (try simp only [List.length_map, maxLen] at hL)) | (guard_target = Branch _ _ _; (first | refine Branch.dec ?_ ?_ | refine Branch.beq ?_ ?_ | refine Branch.bne ?_ ?_ | refine Branch.ndec ?_ ?_ | refine Branch.nb ?_ ?_ | refine Branch.mk ?_ ?_) <;> intro h <;> (try simp only [List.length_map] at h) <;> (try omega) <;> (try contradiction)) | (guard_target = CallN _ 90 _ _ _ _; refine CallN.gen [true] _ _ _ rfl h rfl rfl _ rfl ?_) | (guard_target = Arith _ _ _; refine Arith.fit (wrap_fit (by first | omega | (simp only [List.length_map]; omega)) (by first | omega | (simp only [List.length_map]; omega))) ?_) | (guard_target = Arith _ _ _; refine Arith.fit (by decide) ?_) | (guard_target = Index _ _ _; first  | refine Index.mk _ (idx_map (by omega)) ?_) | (guard_target = Need (_ = true) _; refine Need.mk (by first | kernel_rfl | rfl) ?_) | (guard_target = LinkV _ _ _; first  | refine LinkV.no ?_) | (guard_target = GhO _ _ _ _; refine GhO.go ?_) | (guard_target = Need _ _; refine Need.mk (by first  | omega | (simp only [List.length_map]; omega)) ?_))
  all_goals first | rfl | exact ⟨rfl, trivial⟩ | (exfalso; simp at *; omega)
theorem prem_next {s0 sx : Src} {k0 k : Int} {ls : List XPremise} (ha : 0 ≤ k ∧ k ≤ k0 ∧ ls = runV (premV g) (premS g) s0 (k0 - k).toNat ∧ sx = iterS (premS g) s0 (k0 - k).toNat) (hk : k > 0) :
    0 ≤ k - 1 ∧ k - 1 ≤ k0 ∧ ls ++ [premV g sx] = runV (premV g) (premS g) s0 (k0 - (k - 1)).toNat ∧ premS g sx = iterS (premS g) s0 (k0 - (k - 1)).toNat := by
  have _ := hg
  obtain ⟨h1, h2, rfl, rfl⟩ := ha
  have e : (k0 - (k - 1)).toNat = (k0 - k).toNat + 1 := by omega
  rw [e]
  exact ⟨by omega, by omega, (runV_succ _ _ _ _).symm, rfl⟩
theorem l07DrawPremises_ok (s : Src) (n : Int) (hs : Rd s n) (hn : n ≤ 400000) (hc : s.code.length ≤ 1000000) : CallX Tryz.prog 32 [.c (.op (srcC s)), .a 2 [J g.tests, J g.actions]] [some [.op (srcC (premsS g s))], none] (.c (.ro 7 ((premsV g s).map encPremise))) := by
  have i4 : I64 4 := by unfold I64; omega
  have ia : I64 g.actions := by unfold I64; omega
  have p4 := pick_ok s (hs.mono (by omega)) hc 4 i4
  have b4 := pickV_in s (n := 4) (by omega)
  have r4 : Rd (pickS s 4) (n + 2) := hs.pick 4
  have c4 : (pickS s 4).code.length ≤ 1000000 := by rw [pick_cd]; exact hc
  have rI : ∀ i : Nat, i ≤ 3 → Rd (iterS (premS g) (pickS s 4) i) (n + 4000) := fun i hi => (Rd.iter (f := premS g) (k := 1202) (by omega) (fun _ _ h => h.prem g) r4 i).mono (by omega)
  have cI : ∀ i : Nat, (iterS (premS g) (pickS s 4) i).code.length ≤ 1000000 := fun i => by rw [iterS_cd (premS_cd g hg)]; exact c4
  have pn : premN g s = if g.actions > 0 then (pickV s 4).toNat else 0 := rfl
  have hst : ∀ sx : Src, Rd sx (n + 4000) → sx.code.length ≤ 1000000 → _ := fun sx h1 h2 => And.intro (l07Cond_ok g hg sx (n + 4000) h1 (by omega) h2) (And.intro (l07Cond_ok g hg (condE g sx).2 (n + 4600) ((h1.cond g).mono (by omega)) (by omega) (by rw [condE_cd g hg]; exact h2)) (pick_ok (condE g (condE g sx).2).2 (((h1.cond g).cond g).mono (by omega)) (by rw [condE_cd g hg, condE_cd g hg]; exact h2) g.actions ia))
  have hV : ∀ sx : Src, premV g sx = ⟨(condE g sx).1, pickV (condE g (condE g sx).2).2 g.actions, (condE g (condE g sx).2).1⟩ := fun _ => rfl
  have hS : ∀ sx : Src, premS g sx = pickS (condE g (condE g sx).2).2 g.actions := fun _ => rfl
  have h : CallX Tryz.prog 32 [.c (.op (srcC s)), .a 2 [J g.tests, J g.actions]] [some [.op (srcC (premsS g s))], none] (.c (.ows 45 7 ((premsV g s).map encPremise))) := by
    unfold premsV premsS
    rw [pn]
    have nx := @prem_next g hg
    obtain ⟨gt, ga⟩ := g
    simp only [] at *
    generalize pickV s 4 = k0 at p4 b4 ⊢
    generalize pickS s 4 = s4 at p4 r4 c4 rI cI ⊢
    refine callX_of_vc htb hm Tryz.func32 rfl rfl rfl rfl (ann := fun _ => none) (gh := fun _ => false) ?_
    repeat' ((conv => whnf); first | (guard_target = Done _; refine Done.mk ?_) | (guard_target = RetX _ _; refine RetX.mk ?_ ?_) | (guard_target =~ LoopE 3 _ _ _ _ _ _; refine LoopE.mk { α := Int × List XPremise × Src, keep := [0, 3], ov := fun ⟨k, ls, sx⟩ => [(5, .lw 3), (6, I k)], hv := fun ⟨k, ls, sx⟩ => [(0, .cc 3 (srcC sx)), (3, .row none 45 7 (ls.map encPremise))], φ := fun ⟨k, ls, sx⟩ => (ga > 0 ∨ k = k0) ∧ 0 ≤ k ∧ k ≤ k0 ∧ ls = runV (premV ⟨gt, ga⟩) (premS ⟨gt, ga⟩) s4 (k0 - k).toNat ∧ sx = iterS (premS ⟨gt, ga⟩) s4 (k0 - k).toNat, μ := fun ⟨k, ls, sx⟩ => k.toNat } (LoopN.mk ((k0, [], s4) : Int × List XPremise × Src) (by (exact ⟨.inr rfl, prem_zero b4.1⟩)) (by (repeat' ((conv => whnf) <;> (first | exact trivial | refine ⟨?_, ?_⟩ | kernel_rfl))); done) (by (repeat' ((conv => whnf) <;> (first | exact trivial | refine ⟨?_, ?_⟩ | kernel_rfl))); done) (by (repeat' ((conv => whnf) <;> (first | exact trivial | refine ⟨?_, ?_⟩ | exact rfl | (simp only [List.map_append, List.map_cons, List.map_nil, List.map_set]; first | done | rfl)))); done) (fun A ha => ?_) (by intro A; first | rfl | (obtain ⟨_, _⟩ := A; rfl) | (obtain ⟨_, _, _⟩ := A; rfl))); obtain ⟨k, ls, sx⟩ := A; have ha : (ga > 0 ∨ k = k0) ∧ 0 ≤ k ∧ k ≤ k0 ∧ ls = runV (premV ⟨gt, ga⟩) (premS ⟨gt, ga⟩) s4 (k0 - k).toNat ∧ sx = iterS (premS ⟨gt, ga⟩) s4 (k0 - k).toNat := ha; have hA0 := ha.1; have ha := ha.2; have hlen : ls.length = (k0 - k).toNat := (by rw [ha.2.2.1, runV_len]); obtain ⟨q1, q2, q3⟩ := hst sx (by rw [ha.2.2.2]; exact rI _ (by omega)) (by rw [ha.2.2.2]; exact cI _); have hv1 := hV sx; have hs1 := hS sx; (generalize condE ⟨gt, ga⟩ (condE ⟨gt, ga⟩ sx).2 = Y at q2 q3 hv1 hs1); (generalize condE ⟨gt, ga⟩ sx = X at q1 q2 hv1 hs1); (generalize pickV Y.2 ga = z at q3 hv1); (generalize pickS Y.2 ga = s9 at q3 hs1); obtain ⟨⟨k1, n1, ks1⟩, s1⟩ := X; obtain ⟨⟨k2, n2, ks2⟩, s2⟩ := Y; simp only [] at q1 q2 q3 hv1 hs1; rw [enc_mk] at q1 q2) | (guard_target = Gh _ _ _ _ _; refine Gh.go ⟨((k - 1, ls ++ [⟨.mk k1 n1 ks1, z, .mk k2 n2 ks2⟩], s9) : Int × List XPremise × Src), (by (have h9 := nx ha (by omega); rw [hv1, hs1] at h9; exact ⟨.inl (by omega), h9⟩)), (by first | (show _ < _; simp only []; omega) | omega | (simp; omega)), (by (repeat' ((conv => whnf) <;> (first | exact trivial | refine ⟨?_, ?_⟩ | kernel_rfl))); done), (by (repeat' ((conv => whnf) <;> (first | exact trivial | refine ⟨?_, ?_⟩ | kernel_rfl))); done), (by (repeat' ((conv => whnf) <;> (first | exact trivial | refine ⟨?_, ?_⟩ | exact rfl | (simp only [List.map_append, List.map_cons, List.map_nil, List.map_set]; first | done | rfl)))); done)⟩) | (guard_target = Fact _ _; refine Fact.mk fun hL => ?_; (try simp only [List.length_map, maxLen] at hL)) | (guard_target = Branch _ _ _; (first | refine Branch.dec ?_ ?_ | refine Branch.beq ?_ ?_ | refine Branch.bne ?_ ?_ | refine Branch.ndec ?_ ?_ | refine Branch.nb ?_ ?_ | refine Branch.mk ?_ ?_) <;> intro h <;> (try simp only [List.length_map] at h) <;> (try omega) <;> (try contradiction)) | (guard_target = CallN _ 35 _ _ _ _; (first | refine CallN.gen [true, false] _ _ _ rfl p4 rfl rfl _ rfl ?_ | refine CallN.gen [true, false] _ _ _ rfl q3 rfl rfl _ rfl ?_)) | (guard_target = CallN _ 34 _ _ _ _; (first | refine CallN.gen [true, false] _ _ _ rfl q1 rfl rfl _ rfl ?_ | refine CallN.gen [true, false] _ _ _ rfl q2 rfl rfl _ rfl ?_)) | (guard_target = Arith _ _ _; refine Arith.fit (wrap_fit (by first | omega | (simp only [List.length_map]; omega)) (by first | omega | (simp only [List.length_map]; omega))) ?_) | (guard_target = Arith _ _ _; refine Arith.fit (by decide) ?_) | (guard_target = Index _ _ _; first  | refine Index.mk _ (idx_map (by omega)) ?_) | (guard_target = Need (_ = true) _; refine Need.mk (by first | kernel_rfl | rfl) ?_) | (guard_target = LinkV _ _ _; first  | refine LinkV.no ?_) | (guard_target = GhO _ _ _ _; refine GhO.go ?_) | (guard_target = Need _ _; refine Need.mk (by first | ((simp only [List.length_map, List.length_cons, List.length_nil, maxLen]; constructor <;> omega)) | omega | (simp only [List.length_map]; omega)) ?_))
    all_goals first | rfl | trivial | (obtain ⟨h1, h2, h3, h4⟩ := ha; rw [show (if ga > 0 then k0.toNat else 0) = (k0 - k).toNat by split <;> omega, ← h4]; exact ⟨rfl, trivial⟩) | (obtain ⟨h1, h2, h3, h4⟩ := ha; rw [show (if ga > 0 then k0.toNat else 0) = (k0 - k).toNat by split <;> omega, ← h3]; rfl) | (obtain ⟨h1, h2, h3, h4⟩ := ha; rw [show (if ga > 0 then k0.toNat else 0) = (k0 - k).toNat by split <;> omega, ← h3]; done)
  exact h.soft (.v (.c (.ro .nil)))
end
end Go.Proofs.YtlfigjkddnncgaaGreat

namespace Go.Proofs.YtlfigjkddnncgaaGreat
open Go Go.KA Go.Proofs
set_option maxHeartbeats 16000000
set_option maxRecDepth 100000
theorem goodL_prem {t a : Int} {l : List XPremise} (h : goodL t a l = true) : PremOk t a l ∧ ∀ x ∈ l, 0 ≤ x.act ∧ x.act < a := by
  simp only [goodL, goodPr, Bool.and_eq_true, decide_eq_true_eq, List.all_eq_true, rng] at h
  refine ⟨fun x hx => ⟨condG_ok (h.2 x hx).1, condG_ok (h.2 x hx).2.1⟩, fun x hx => ?_⟩
  have := (h.2 x hx).2.2
  omega
theorem isAtom_ok (t a : Int) (ht : 0 ≤ t ∧ t ≤ 3) (x : Int) : CallF Tryz.prog 56 [.a 2 [J t, J a], I x] (B (rng 0 (atomsN t - 1) x)) := by
  have h := atomsIn_ok t a ht
  have hb := atoms_b ht
  refine callF_of_vc htb hm Tryz.func56 rfl rfl rfl rfl (ann := fun _ => none) (gh := fun _ => false) ?_
  repeat' ((conv => whnf); first | (guard_target = Done _; refine Done.mk ?_) | (guard_target = RetX _ _; refine RetX.mk ?_ ?_) | (guard_target = Fact _ _; refine Fact.mk fun hL => ?_; (try simp only [List.length_map, maxLen] at hL)) | (guard_target = Branch _ _ _; (first | refine Branch.dec ?_ ?_ | refine Branch.beq ?_ ?_ | refine Branch.bne ?_ ?_ | refine Branch.ndec ?_ ?_ | refine Branch.nb ?_ ?_ | refine Branch.mk ?_ ?_) <;> intro h <;> (try simp only [List.length_map] at h) <;> (try omega) <;> (try contradiction)) | (guard_target = CallN _ 123 _ _ _ _; refine CallN.pure _ _ rfl (h) rfl _ rfl ?_) | (guard_target = CallN _ 72 _ _ _ _; refine CallN.pure _ _ rfl (within_ok _ _ _) rfl _ rfl ?_) | (guard_target = Arith _ _ _; refine Arith.fit (wrap_fit (by first | omega | (simp only [List.length_map]; omega)) (by first | omega | (simp only [List.length_map]; omega))) ?_) | (guard_target = Arith _ _ _; refine Arith.fit (by decide) ?_) | (guard_target = Index _ _ _; first  | refine Index.mk _ (idx_map (by omega)) ?_) | (guard_target = Need (_ = true) _; refine Need.mk (by first | kernel_rfl | rfl) ?_) | (guard_target = LinkV _ _ _; first  | refine LinkV.no ?_) | (guard_target = GhO _ _ _ _; refine GhO.go ?_) | (guard_target = Need _ _; refine Need.mk (by first  | omega | (simp only [List.length_map]; omega)) ?_))
  all_goals first | rfl | trivial
theorem ValidExpr_ok (t a : Int) (hs : goodSig t a = true) (e : XExpr) : CallF Tryz.prog 54 [.a 2 [J t, J a], .a 3 (encExpr e)] (B (goodE t a e)) := by
  have h1 := validSig_ok t a
  rw [hs] at h1
  have h2 := isExpr_ok t a (sig_bounds hs).1 (sig_bounds hs).2 e
  generalize goodE t a e = b at h2 ⊢
  obtain ⟨k, n, ks⟩ := e
  refine callF_of_vc htb hm Tryz.func54 rfl rfl rfl rfl (ann := fun _ => none) (gh := fun _ => false) ?_
  repeat' ((conv => whnf); first | (guard_target = Done _; refine Done.mk ?_) | (guard_target = RetX _ _; refine RetX.mk ?_ ?_) | (guard_target = Fact _ _; refine Fact.mk fun hL => ?_; (try simp only [List.length_map, maxLen] at hL)) | (guard_target = Branch _ _ _; (first | refine Branch.dec ?_ ?_ | refine Branch.beq ?_ ?_ | refine Branch.bne ?_ ?_ | refine Branch.ndec ?_ ?_ | refine Branch.nb ?_ ?_ | refine Branch.mk ?_ ?_) <;> intro h <;> (try simp only [List.length_map] at h) <;> (try omega) <;> (try contradiction)) | (guard_target = CallN _ 115 _ _ _ _; refine CallN.pure _ _ rfl (h1) rfl _ rfl ?_) | (guard_target = CallN _ 69 _ _ _ _; refine CallN.pure _ _ rfl (h2) rfl _ rfl ?_) | (guard_target = Arith _ _ _; refine Arith.fit (wrap_fit (by first | omega | (simp only [List.length_map]; omega)) (by first | omega | (simp only [List.length_map]; omega))) ?_) | (guard_target = Arith _ _ _; refine Arith.fit (by decide) ?_) | (guard_target = Index _ _ _; first  | refine Index.mk _ (idx_map (by omega)) ?_) | (guard_target = Need (_ = true) _; refine Need.mk (by first | kernel_rfl | rfl) ?_) | (guard_target = LinkV _ _ _; first  | refine LinkV.no ?_) | (guard_target = GhO _ _ _ _; refine GhO.go ?_) | (guard_target = Need _ _; refine Need.mk (by first  | omega | (simp only [List.length_map]; omega)) ?_))
  all_goals first | rfl | trivial | (exfalso; simp_all; done)
theorem TruthAt_ok (t a : Int) (hs : goodSig t a = true) (e : XExpr) (hc : condG t a e = true) (x : Int) (hx : 0 ≤ x ∧ x < atomsN t) : CallF Tryz.prog 12 [.a 2 [J t, J a], .a 3 (toldE e), I x] (.tup [B (truthE e x), I 0]) := by
  have hok := condG_ok hc
  simp only [condG, Bool.and_eq_true] at hc
  have h1 := ValidExpr_ok t a hs e
  rw [hc.1, encExpr_eq] at h1
  have h2 := isCondition_ok e
  rw [hc.2, encExpr_eq] at h2
  have h3 := isAtom_ok t a (sig_bounds hs).1 x
  rw [show rng 0 (atomsN t - 1) x = true by simp only [rng, Bool.and_eq_true, decide_eq_true_eq]; omega] at h3
  have h4 := truth_told t a x e hok
  generalize truthE e x = b at h4 ⊢
  obtain ⟨k, n, ks⟩ := e
  refine callF_of_vc htb hm Tryz.func12 rfl rfl rfl rfl (ann := fun _ => none) (gh := fun _ => false) ?_
  repeat' ((conv => whnf); first | (guard_target = Done _; refine Done.mk ?_) | (guard_target = RetX _ _; refine RetX.mk ?_ ?_) | (guard_target = Fact _ _; refine Fact.mk fun hL => ?_; (try simp only [List.length_map, maxLen] at hL)) | (guard_target = Branch _ _ _; (first | refine Branch.dec ?_ ?_ | refine Branch.beq ?_ ?_ | refine Branch.bne ?_ ?_ | refine Branch.ndec ?_ ?_ | refine Branch.nb ?_ ?_ | refine Branch.mk ?_ ?_) <;> intro h <;> (try simp only [List.length_map] at h) <;> (try omega) <;> (try contradiction)) | (guard_target = CallN _ 54 _ _ _ _; refine CallN.pure _ _ rfl (h1) rfl _ rfl ?_) | (guard_target = CallN _ 55 _ _ _ _; refine CallN.pure _ _ rfl (h2) rfl _ rfl ?_) | (guard_target = CallN _ 56 _ _ _ _; refine CallN.pure _ _ rfl (h3) rfl _ rfl ?_) | (guard_target = CallN _ 49 _ _ _ _; refine CallN.pure _ _ rfl (h4) rfl _ rfl ?_) | (guard_target = Arith _ _ _; refine Arith.fit (wrap_fit (by first | omega | (simp only [List.length_map]; omega)) (by first | omega | (simp only [List.length_map]; omega))) ?_) | (guard_target = Arith _ _ _; refine Arith.fit (by decide) ?_) | (guard_target = Index _ _ _; first  | refine Index.mk _ (idx_map (by omega)) ?_) | (guard_target = Need (_ = true) _; refine Need.mk (by first | kernel_rfl | rfl) ?_) | (guard_target = LinkV _ _ _; first  | refine LinkV.no ?_) | (guard_target = GhO _ _ _ _; refine GhO.go ?_) | (guard_target = Need _ _; refine Need.mk (by first  | omega | (simp only [List.length_map]; omega)) ?_))
  all_goals first | rfl | trivial | (exfalso; simp_all; done)
def stB (w : XWorld) (x : XPremise) (s : Nat) : Bool := !(truthE x.pre (w.atoms.getD s 0) && (decide ((w.acts.getD x.act.toNat []).getD s 0 ≥ 0) && !(truthE x.post (w.atoms.getD ((w.acts.getD x.act.toNat []).getD s 0).toNat 0))))
def premB (w : XWorld) (x : XPremise) : Bool := (List.range w.atoms.length).all (stB w x)
def modelsB (w : XWorld) (l : List XPremise) : Bool := l.all (premB w)
theorem range_all {N : Nat} {p : Nat → Bool} (h : ∀ u, u < N → p u = true) : (List.range N).all p = true := by
  rw [List.all_eq_true]
  intro x hx
  exact h x (List.mem_range.1 hx)
theorem range_no {N i : Nat} {p : Nat → Bool} (hi : i < N) (h : p i = false) : (List.range N).all p = false := by
  rw [Bool.eq_false_iff]
  intro ha
  rw [List.all_eq_true] at ha
  have := ha i (List.mem_range.2 hi)
  rw [h] at this
  cases this
theorem ModelsPremises_ok (t a : Int) (hs : goodSig t a = true) (w : XWorld) (hw : goodWorld t a w = true) (l : List XPremise) (hl : goodL t a l = true) : CallF Tryz.prog 9 [.a 2 [J t, J a], .a 2 (encWorld w), .c (.ro 7 (l.map encPremise))] (.tup [B (modelsB w l), I 0]) := by
  have h1 := ValidWorld_ok t a w
  rw [hs, hw] at h1
  have h2 := ValidPremises_ok t a l
  rw [hs, hl] at h2
  obtain ⟨hp, hact⟩ := goodL_prem hl
  have hWk := (worldOk hw).1
  have hWa := (worldOk hw).2
  have hP : ∀ i, i < l.length → (okC t a (l.getD i pn0).pre ∧ okC t a (l.getD i pn0).post) ∧ (0 ≤ (l.getD i pn0).act ∧ (l.getD i pn0).act < a) := fun i hi => ⟨hp.at hi, hact _ (by rw [getD_eq hi]; exact List.getElem_mem hi)⟩
  have hr : ∀ i, i < l.length → ∀ s, s < w.atoms.length → (w.acts.getD (l.getD i pn0).act.toNat []).length = w.atoms.length ∧ (w.acts.getD (l.getD i pn0).act.toNat []).getD s 0 < w.atoms.length := fun i hi s hx => by
    have h4 := (hP i hi).2
    have h5 : (l.getD i pn0).act.toNat < w.acts.length := by omega
    have h6 := hWk.row (w.acts.getD (l.getD i pn0).act.toNat []) (by rw [getD_eq h5]; exact List.getElem_mem h5)
    refine ⟨h6.1, ?_⟩
    have h7 : s < (w.acts.getD (l.getD i pn0).act.toNat []).length := by omega
    rw [getD_eq h7]
    exact (h6.2 _ (List.getElem_mem h7)).2
  refine callF_of_vc htb hm Tryz.func9 rfl rfl rfl rfl (ann := fun _ => none) (gh := fun _ => false) ?_
  repeat' ((conv => whnf); first | (guard_target = Done _; refine Done.mk ?_; first | ((rw [show modelsB w l = true from all_getD (d := pn0) fun u hu => ha.2 u (by omega)]; rfl); done) | ((rw [show modelsB w l = false from all_getD_no (i := i) (d := pn0) (by omega) (range_no (i := s) (by omega) (by unfold stB; simp_all))]; rfl); done) | skip) | (guard_target = RetX _ _; refine RetX.mk ?_ ?_) | (guard_target =~ LoopE 4 _ _ _ _ _ _; refine LoopE.mk { α := Nat, keep := [4, 23, 24], ov := fun i => [(25, I (i : Nat))], φ := fun i => i ≤ l.length ∧ ∀ u, u < i → premB w (l.getD u pn0) = true, μ := fun i => l.length - i } (LoopN.mk (0 : Nat) (by exact ⟨Nat.zero_le _, fun u hu => by omega⟩) (by (repeat' ((conv => whnf) <;> (first | exact trivial | refine ⟨?_, ?_⟩ | kernel_rfl))); done) (by (repeat' ((conv => whnf) <;> (first | exact trivial | refine ⟨?_, ?_⟩ | kernel_rfl))); done) (by (repeat' ((conv => whnf) <;> (first | exact trivial | refine ⟨?_, ?_⟩ | exact rfl | (simp only [List.map_append, List.map_cons, List.map_nil, List.map_set]; first | done | rfl)))); done) (fun (i : Nat) ha => ?_) (by intro A; first | rfl | (obtain ⟨_, _⟩ := A; rfl) | (obtain ⟨_, _, _⟩ := A; rfl))); have ha : i ≤ l.length ∧ ∀ u, u < i → premB w (l.getD u pn0) = true := ha; have hA1 := ha; have hPi := hP i; have hri := hr i) | (guard_target =~ LoopE 7 _ _ _ _ _ _; refine LoopE.mk { α := Nat, keep := [4, 9, 23, 24, 25, 30, 31], ov := fun s => [(32, I (s : Nat))], φ := fun s => s ≤ w.atoms.length ∧ ∀ u, u < s → stB w (l.getD i pn0) u = true, μ := fun s => w.atoms.length - s } (LoopN.mk (0 : Nat) (by exact ⟨Nat.zero_le _, fun u hu => by omega⟩) (by (repeat' ((conv => whnf) <;> (first | exact trivial | refine ⟨?_, ?_⟩ | kernel_rfl))); done) (by (repeat' ((conv => whnf) <;> (first | exact trivial | refine ⟨?_, ?_⟩ | kernel_rfl))); done) (by (repeat' ((conv => whnf) <;> (first | exact trivial | refine ⟨?_, ?_⟩ | exact rfl | (simp only [List.map_append, List.map_cons, List.map_nil, List.map_set]; first | done | rfl)))); done) (fun (s : Nat) ha => ?_) (by intro A; first | rfl | (obtain ⟨_, _⟩ := A; rfl) | (obtain ⟨_, _, _⟩ := A; rfl))); have ha : s ≤ w.atoms.length ∧ ∀ u, u < s → stB w (l.getD i pn0) u = true := ha; have hA2 := ha; have hrs := hri (by omega) s) | (guard_target = Gh _ _ _ _ _; refine Gh.go ⟨(s + 1 : Nat), (by exact ⟨by show s + 1 ≤ _; omega, by intro u hu; by_cases e : u = s; (subst e; unfold stB; simp_all); exact ha.2 u (by omega)⟩), (by first | (show _ < _; simp only []; omega) | omega | (simp; omega)), (by (repeat' ((conv => whnf) <;> (first | exact trivial | refine ⟨?_, ?_⟩ | kernel_rfl))); done), (by (repeat' ((conv => whnf) <;> (first | exact trivial | refine ⟨?_, ?_⟩ | kernel_rfl))); done), (by (repeat' ((conv => whnf) <;> (first | exact trivial | refine ⟨?_, ?_⟩ | exact rfl | (simp only [List.map_append, List.map_cons, List.map_nil, List.map_set]; first | done | rfl)))); done)⟩) | (guard_target = Gh _ _ _ _ _; refine Gh.go ⟨(i + 1 : Nat), (by exact ⟨by show i + 1 ≤ _; omega, by intro u hu; by_cases e : u = i; (subst e; exact range_all fun u hu => ha.2 u (by omega)); exact hA1.2 u (by omega)⟩), (by first | (show _ < _; simp only []; omega) | omega | (simp; omega)), (by (repeat' ((conv => whnf) <;> (first | exact trivial | refine ⟨?_, ?_⟩ | kernel_rfl))); done), (by (repeat' ((conv => whnf) <;> (first | exact trivial | refine ⟨?_, ?_⟩ | kernel_rfl))); done), (by (repeat' ((conv => whnf) <;> (first | exact trivial | refine ⟨?_, ?_⟩ | exact rfl | (simp only [List.map_append, List.map_cons, List.map_nil, List.map_set]; first | done | rfl)))); done)⟩) | (guard_target = Fact _ _; refine Fact.mk fun hL => ?_; (try simp only [List.length_map, maxLen] at hL)) | (guard_target = Branch _ _ _; (first | refine Branch.dec ?_ ?_ | refine Branch.beq ?_ ?_ | refine Branch.bne ?_ ?_ | refine Branch.ndec ?_ ?_ | refine Branch.nb ?_ ?_ | refine Branch.mk ?_ ?_) <;> intro h <;> (try simp only [List.length_map] at h) <;> (try omega) <;> (try contradiction)) | (guard_target = CallN _ 47 _ _ _ _; refine CallN.pure _ _ rfl (h1) rfl _ rfl ?_) | (guard_target = CallN _ 48 _ _ _ _; refine CallN.pure _ _ rfl (h2) rfl _ rfl ?_) | (guard_target = CallN _ 49 _ _ _ _; refine CallN.pure _ _ rfl (truth_told t a _ _ (hPi (by omega)).1.1) rfl _ rfl ?_) | (guard_target = CallN _ 49 _ _ _ _; refine CallN.pure _ _ rfl (truth_told t a _ _ (hPi (by omega)).1.2) rfl _ rfl ?_) | (guard_target = Arith _ _ _; refine Arith.fit (wrap_fit (by first | omega | (simp only [List.length_map]; omega)) (by first | omega | (simp only [List.length_map]; omega))) ?_) | (guard_target = Arith _ _ _; refine Arith.fit (by decide) ?_) | (guard_target = Index _ _ _; first | refine Index.mk _ (idx_getD (d := pn0) (i := i) (by omega)) ?_ | refine Index.mk _ (idx_getD (l := w.atoms) (d := 0) (i := s) (by omega)) ?_ | refine Index.mk _ (idx_getD (l := w.acts) (d := []) (i := (l.getD i pn0).act.toNat) (by omega)) ?_ | refine Index.mk _ (idx_getD (l := w.acts.getD (l.getD i pn0).act.toNat []) (d := 0) (i := s) (by omega)) ?_ | refine Index.mk _ (idx_getD (l := w.atoms) (d := 0) (i := ((w.acts.getD (l.getD i pn0).act.toNat []).getD s 0).toNat) (by omega)) ?_ | refine Index.mk _ (idx_map (by omega)) ?_) | (guard_target = Need (_ = true) _; refine Need.mk (by first | kernel_rfl | rfl) ?_) | (guard_target = LinkV _ _ _; first  | refine LinkV.no ?_) | (guard_target = GhO _ _ _ _; refine GhO.go ?_) | (guard_target = Need _ _; refine Need.mk (by first  | omega | (simp only [List.length_map]; omega)) ?_))
  all_goals first | rfl | trivial | (exfalso; simp_all; done)
section
variable (t a : Int) (hs : goodSig t a = true) (l : List XPremise) (hl : goodL t a l = true) (x : XTriple) (hx : goodT t a x = true) (N : Nat) (hN : atomsN t = N ∧ 1 ≤ N ∧ N ≤ 8)
include hs hl hx hN
theorem implUnder_ok : CallX Tryz.prog 10 [.a 2 [J t, J a], .c (.ro 7 (l.map encPremise)), .a 12 (encTriple x)] [] (.tup [B (holdsT N l x), I 0]) := by
  have h1 := ValidPremises_ok t a l
  rw [hs, hl] at h1
  have h2 := ValidTriple_ok t a x
  rw [hs, hx] at h2
  have hg : POk t a x.prog ∧ okC t a x.pre ∧ okC t a x.post := by
    simp only [goodT, Bool.and_eq_true] at hx
    exact ⟨progOk hx.1, condG_ok hx.2.1, condG_ok hx.2.2⟩
  have h3 := holdsUnder_ok t a (sig_bounds hs).1 l (goodL_prem hl).1 N hN x hg.2.1 hg.1 hg.2.2
  generalize holdsT N l x = b at h3 ⊢
  refine callX_of_vc htb hm Tryz.func10 rfl rfl rfl rfl (ann := fun _ => none) (gh := fun _ => false) ?_
  repeat' ((conv => whnf); first | (guard_target = Done _; refine Done.mk ?_) | (guard_target = RetX _ _; refine RetX.mk ?_ ?_) | (guard_target = Fact _ _; refine Fact.mk fun hL => ?_; (try simp only [List.length_map, maxLen] at hL)) | (guard_target = Branch _ _ _; (first | refine Branch.dec ?_ ?_ | refine Branch.beq ?_ ?_ | refine Branch.bne ?_ ?_ | refine Branch.ndec ?_ ?_ | refine Branch.nb ?_ ?_ | refine Branch.mk ?_ ?_) <;> intro h <;> (try simp only [List.length_map] at h) <;> (try omega) <;> (try contradiction)) | (guard_target = CallN _ 48 _ _ _ _; refine CallN.pure _ _ rfl (h1) rfl _ rfl ?_) | (guard_target = CallN _ 50 _ _ _ _; refine CallN.pure _ _ rfl (h2) rfl _ rfl ?_) | (guard_target = CallN _ 51 _ _ _ _; refine CallN.gen [] _ _ _ rfl (h3) rfl rfl _ rfl ?_) | (guard_target = Arith _ _ _; refine Arith.fit (wrap_fit (by first | omega | (simp only [List.length_map]; omega)) (by first | omega | (simp only [List.length_map]; omega))) ?_) | (guard_target = Arith _ _ _; refine Arith.fit (by decide) ?_) | (guard_target = Index _ _ _; first  | refine Index.mk _ (idx_map (by omega)) ?_) | (guard_target = Need (_ = true) _; refine Need.mk (by first | kernel_rfl | rfl) ?_) | (guard_target = LinkV _ _ _; first  | refine LinkV.no ?_) | (guard_target = GhO _ _ _ _; refine GhO.go ?_) | (guard_target = Need _ _; refine Need.mk (by first  | omega | (simp only [List.length_map]; omega)) ?_))
  all_goals first | rfl | trivial | (exfalso; simp_all; done)
theorem specUnder_ok (b1 : budS budPremise l ≤ 1048576) (b2 : budTriple x ≤ 1048576) : CallX Tryz.prog 11 [.a 2 [J t, J a], .c (.ro 7 (l.map encPremise)), .a 12 (encTriple x)] [] (.tup [B (holdsT N l x), I 0]) := by
  have h1 := l07Premises_ok t a l b1
  rw [hs, hl] at h1
  have h2 := l07Triple_ok t a x b2
  rw [hs, hx] at h2
  have hg : POk t a x.prog ∧ okC t a x.pre ∧ okC t a x.post := by
    simp only [goodT, Bool.and_eq_true] at hx
    exact ⟨progOk hx.1, condG_ok hx.2.1, condG_ok hx.2.2⟩
  have h3 := l07Holds_ok t a (sig_bounds hs).1 l (goodL_prem hl).1 N hN x hg.2.1 hg.1 hg.2.2
  generalize holdsT N l x = b at h3 ⊢
  refine callX_of_vc htb hm Tryz.func11 rfl rfl rfl rfl (ann := fun _ => none) (gh := fun _ => false) ?_
  repeat' ((conv => whnf); first | (guard_target = Done _; refine Done.mk ?_) | (guard_target = RetX _ _; refine RetX.mk ?_ ?_) | (guard_target = Fact _ _; refine Fact.mk fun hL => ?_; (try simp only [List.length_map, maxLen] at hL)) | (guard_target = Branch _ _ _; (first | refine Branch.dec ?_ ?_ | refine Branch.beq ?_ ?_ | refine Branch.bne ?_ ?_ | refine Branch.ndec ?_ ?_ | refine Branch.nb ?_ ?_ | refine Branch.mk ?_ ?_) <;> intro h <;> (try simp only [List.length_map] at h) <;> (try omega) <;> (try contradiction)) | (guard_target = CallN _ 52 _ _ _ _; refine CallN.pure _ _ rfl (h1) rfl _ rfl ?_) | (guard_target = CallN _ 41 _ _ _ _; refine CallN.pure _ _ rfl (h2) rfl _ rfl ?_) | (guard_target = CallN _ 53 _ _ _ _; refine CallN.pure _ _ rfl (h3) rfl _ rfl ?_) | (guard_target = Arith _ _ _; refine Arith.fit (wrap_fit (by first | omega | (simp only [List.length_map]; omega)) (by first | omega | (simp only [List.length_map]; omega))) ?_) | (guard_target = Arith _ _ _; refine Arith.fit (by decide) ?_) | (guard_target = Index _ _ _; first  | refine Index.mk _ (idx_map (by omega)) ?_) | (guard_target = Need (_ = true) _; refine Need.mk (by first | kernel_rfl | rfl) ?_) | (guard_target = LinkV _ _ _; first  | refine LinkV.no ?_) | (guard_target = GhO _ _ _ _; refine GhO.go ?_) | (guard_target = Need _ _; refine Need.mk (by first  | omega | (simp only [List.length_map]; omega)) ?_))
  all_goals first | rfl | trivial | (exfalso; simp_all; done)
end
end Go.Proofs.YtlfigjkddnncgaaGreat

namespace Go.Proofs.YtlfigjkddnncgaaGreat
open Go Go.KA Go.Proofs
set_option maxHeartbeats 16000000
set_option maxRecDepth 100000
abbrev natN (t : Int) : Nat := (atomsN t).toNat
def strE (t : Int) (N : Nat) (l : List XPremise) (p : XProg) (c : XExpr) : XExpr := ofE t.toNat (selR N (imgR N (ldR N l p) (trP c)))
structure Tri where
  g : XSig
  l : List XPremise
  p : XProg
  pre : XExpr
  post : XExpr
  k : Int
def a2tri (code : List UInt8) : Tri :=
  let g := drawSig (src0 code)
  let p := progP g.1 5 ⟨premsS g.1 g.2, 7⟩
  let c := condE g.1 p.2.s
  let d := condE g.1 c.2
  ⟨g.1, premsV g.1 g.2, p.1, c.1, d.1, pickV d.2 3⟩
def triT (x : Tri) : XTriple :=
  if x.k = 0 then ⟨weakE x.g.tests (natN x.g.tests) x.l x.p x.post, x.p, x.post⟩
  else if x.k = 1 then ⟨x.pre, x.p, strE x.g.tests (natN x.g.tests) x.l x.p x.pre⟩
  else ⟨x.pre, x.p, x.post⟩
def noT : XTriple := ⟨.mk 2 0 [], skipP, .mk 2 0 []⟩
def a2trip (code : List UInt8) : XTriple := if (goodT (a2tri code).g.tests (a2tri code).g.actions (triT (a2tri code)) && goodE (a2tri code).g.tests (a2tri code).g.actions (progE (a2tri code).p)) = true then triT (a2tri code) else noT
theorem a2trip_good (code : List UInt8) : goodT (a2tri code).g.tests (a2tri code).g.actions (a2trip code) = true := by
  unfold a2trip
  split
  · rename_i h
    simp only [Bool.and_eq_true] at h
    exact h.1
  · rfl
theorem atomsN_nat {t : Int} (h : 0 ≤ t ∧ t ≤ 3) : atomsN t = (natN t : Int) ∧ 1 ≤ natN t ∧ natN t ≤ 8 := by
  have := atomsN_in h
  unfold natN
  omega
theorem bud_sel {t : Int} (ht : 0 ≤ t ∧ t ≤ 3) {N : Nat} (hN : N ≤ 8) (P : Nat → Bool) : budExpr (ofE t.toNat (selR N P)) ≤ 200 := by
  unfold ofE sumE
  have h1 := selR_len N P
  have h2 := bud_sum 12 ((selR N P).map fun z => atE z t.toNat) (leafE 1 0) fun e he => by
    obtain ⟨z, _, rfl⟩ := List.mem_map.1 he
    have := bud_at z t.toNat
    omega
  rw [List.length_map] at h2
  have h3 : budExpr (leafE 1 0) = 0 := by simp [budExpr, budExprS]
  omega
theorem pure_int (ty : Nat) (L : List Int) : pureT (.c (.ows ty 1 (L.map eI))) := by
  show pureLL (L.map eI)
  rw [pureLL_iff]
  intro r hr x hx
  obtain ⟨b, _, rfl⟩ := List.mem_map.1 hr
  obtain rfl := List.mem_singleton.1 hx
  trivial
section
variable (code : List UInt8) (hc : code.length ≤ 3000)
include hc
theorem A2Triple_ok : CallX Tryz.prog 7 [.c (.ro 1 (code.map eU8))] [] (.tup [.a 2 [J (a2tri code).g.tests, J (a2tri code).g.actions], .c (.ro 7 ((a2tri code).l.map encPremise)), .a 12 (encTriple (a2trip code))]) := by
  have fr := l00From_ok code
  have hc' : code.length ≤ 1000000 := by omega
  have ds := drawSig_ok (src0 code) ((src0_rd code).mono (by omega)) hc'
  have gi := drawSig_in (src0 code)
  have r1 : Rd (drawSig (src0 code)).2 8 := (src0_rd code).sig
  have c1 : (drawSig (src0 code)).2.code.length ≤ 1000000 := by rw [drawSig_cd]; exact hc'
  have e : a2trip code = if (goodT (a2tri code).g.tests (a2tri code).g.actions (triT (a2tri code)) && goodE (a2tri code).g.tests (a2tri code).g.actions (progE (a2tri code).p)) = true then triT (a2tri code) else noT := rfl
  rw [e]
  clear e
  unfold a2tri
  generalize drawSig (src0 code) = G at ds gi r1 c1 ⊢
  obtain ⟨g, s1⟩ := G
  simp only [] at ds gi r1 c1 ⊢
  have pr := l07DrawPremises_ok g gi s1 8 r1 (by omega) c1
  have r2 := r1.prems g
  have c2 : (premsS g s1).code.length ≤ 1000000 := by rw [premsS_cd g gi]; exact c1
  have hL := prems_good g s1
  generalize premsV g s1 = l at pr hL ⊢
  generalize premsS g s1 = s2 at pr r2 c2 ⊢
  have dp := l06Drawn_ok g gi s2 (r2.mono (by omega)) c2 7 (by omega)
  have po := progP_ok g 5 ⟨s2, 7⟩
  have pt := progP_tree g 5 ⟨s2, 7⟩
  have r3 := Rd.prog g 5 ⟨s2, 7⟩ r2
  have c3 : (progP g 5 ⟨s2, 7⟩).2.s.code.length ≤ 1000000 := by rw [progP_cd g gi]; exact c2
  have e5 : costP 5 = 170100 := rfl
  rw [e5] at r3
  generalize progP g 5 ⟨s2, 7⟩ = X at dp po pt r3 c3 ⊢
  obtain ⟨p, ⟨s3, l3⟩⟩ := X
  simp only [] at dp po pt r3 c3 ⊢
  have q1 := l07Cond_ok g gi s3 _ r3 (by omega) c3
  have g1 := condE_good g s3
  have b1 := condE_bud g s3
  have r4 := r3.cond g
  have c4 : (condE g s3).2.code.length ≤ 1000000 := by rw [condE_cd g gi]; exact c3
  generalize condE g s3 = C at q1 g1 b1 r4 c4 ⊢
  obtain ⟨pre, s4⟩ := C
  simp only [] at q1 g1 b1 r4 c4 ⊢
  have q2 := l07Cond_ok g gi s4 _ r4 (by omega) c4
  have g2 := condE_good g s4
  have b2 := condE_bud g s4
  have r5 := r4.cond g
  have c5 : (condE g s4).2.code.length ≤ 1000000 := by rw [condE_cd g gi]; exact c4
  generalize condE g s4 = D at q2 g2 b2 r5 c5 ⊢
  obtain ⟨post, s5⟩ := D
  simp only [] at q2 g2 b2 r5 c5 ⊢
  have pk := pick_ok s5 (r5.mono (by omega)) c5 3 (by unfold I64; omega)
  generalize pickV s5 3 = k at pk ⊢
  generalize pickS s5 3 = s6 at pk
  have hf := po.1.form
  have hb : budProg p ≤ 960 := by have := po.2; omega
  have eb := progE_bud hf
  have ex := l06Expr_ok hf (by omega)
  have gs : goodSig g.tests g.actions = true := sig_good gi
  obtain ⟨t, a⟩ := g
  simp only [] at *
  have ht := (sig_bounds gs).1
  have hN := atomsN_nat ht
  have hpok : POk t a p := ⟨pt⟩
  have hprem := (goodL_prem hL).1
  have sure := l07Sure_ows t a ht l hprem (natN t) hN p hpok post (condG_ok g2)
  have from0 := l07From_ok t a ht l hprem (natN t) hN p hpok (trP pre)
  have atoms := l07Atoms_ows t a ht (natN t) hN pre (condG_ok g1)
  have ok2 := l01Ok_ok t a (progE p) (by omega)
  rw [gs, Bool.true_and] at ok2
  have sk := l06Skip_ok
  have on := l02One_okX
  have bw := bud_weak (t := t) ht hN.2.2 l p post
  have bs := bud_sel (t := t) ht hN.2.2 (imgR (natN t) (ldR (natN t) l p) (trP pre))
  have tri0 := fun T hT => l07Triple_ok t a T hT
  rw [gs] at tri0
  simp only [Bool.true_and] at tri0
  have ofW : ∀ L : List Int, ∀ e, ofE t.toNat L = e → CallX Tryz.prog 36 [.a 2 [J t, J a], .c (.ows 2 1 (L.map eI))] [] (.a 3 (encExpr e)) := fun L e he => (l07Of_ok t a ht L e he).give (.same (.c .nil))
  have ofR : ∀ L : List Int, ∀ e, ofE t.toNat L = e → CallX Tryz.prog 36 [.a 2 [J t, J a], .c (.ro 1 (L.map eI))] [] (.a 3 (encExpr e)) := fun L e he => l07Of_ok t a ht L e he
  have of0 := ofW _ _ (rfl : weakE t (natN t) l p post = _)
  have of1 := ofR _ _ (rfl : strE t (natN t) l p pre = _)
  have bW : budExpr (weakE t (natN t) l p post) ≤ 200 := bw
  have bS : budExpr (strE t (natN t) l p pre) ≤ 200 := bs
  have eT : triT ⟨⟨t, a⟩, l, p, pre, post, k⟩ = if k = 0 then ⟨weakE t (natN t) l p post, p, post⟩ else if k = 1 then ⟨pre, p, strE t (natN t) l p pre⟩ else ⟨pre, p, post⟩ := rfl
  rw [eT]
  clear eT bw bs ofW ofR
  generalize weakE t (natN t) l p post = W at of0 bW ⊢
  generalize strE t (natN t) l p pre = Z at of1 bS ⊢
  have bT : ∀ a b : XExpr, budExpr a ≤ 200 → budExpr b ≤ 200 → budTriple ⟨a, p, b⟩ ≤ 1048576 := fun a b h1 h2 => by
    simp only [budTriple]; omega
  have triW := tri0 ⟨W, p, post⟩ (bT _ _ bW (by omega))
  have triZ := tri0 ⟨pre, p, Z⟩ (bT _ _ (by omega) bS)
  have triN := tri0 ⟨pre, p, post⟩ (bT _ _ (by omega) (by omega))
  clear tri0 bT hf eb po pt r1 r2 r3 r4 r5 c1 c2 c3 c4 c5 g1 g2 hL
  have fromO : CallX Tryz.prog 38 [.a 2 [J t, J a], .c (.ro 7 (l.map encPremise)), .c (.rp 6 (encProg p)), .c (.ows 2 1 ((selR (natN t) (trP pre)).map eI))] [] (eS (natN t) (imgR (natN t) (ldR (natN t) l p) (trP pre))) := from0.give (.same (.same (.same (.c .nil))))
  obtain ⟨pk1, pn1, ⟨ck1, cn1, cs1⟩, ks1⟩ := p
  obtain ⟨a1, a2, a3⟩ := pre
  obtain ⟨v1, v2, v3⟩ := post
  obtain ⟨w1, w2, w3⟩ := W
  obtain ⟨z1, z2, z3⟩ := Z
  obtain ⟨e1, e2, e3, he⟩ := ex_mkE (progE (.mk pk1 pn1 (.mk ck1 cn1 cs1) ks1))
  rw [he] at ex ok2 ⊢
  generalize goodE t a (.mk e1 e2 e3) = g2 at ok2 ⊢
  have atoms' : CallX Tryz.prog 39 [.a 2 [J t, J a], .c (.rp 12 (encTriple ⟨.mk a1 a2 a3, .mk pk1 pn1 (.mk ck1 cn1 cs1) ks1, .mk v1 v2 v3⟩))] [] (.c (.ows 2 1 ((selR (natN t) (trP (.mk a1 a2 a3))).map eI))) := by
    rw [encExpr_eq] at atoms
    exact atoms.cut (.same (.cut (k := 3) (by omega) .nil))
  rw [encP_mk] at dp sure fromO ex
  rw [enc_mk] at q1 q2 sure of0 of1
  generalize selR (natN t) (sureP (natN t) (ldR (natN t) l (.mk pk1 pn1 (.mk ck1 cn1 cs1) ks1)) (.mk v1 v2 v3)) = L0 at sure of0
  by_cases h0 : k = 0
  · rw [if_pos h0]
    generalize goodT t a ⟨.mk w1 w2 w3, .mk pk1 pn1 (.mk ck1 cn1 cs1) ks1, .mk v1 v2 v3⟩ = g1 at triW ⊢
    have tri := triW
    refine callX_of_vc htb hm Tryz.func7 rfl rfl rfl rfl (ann := fun _ => none) (gh := fun reg_ => match reg_ with | 6 => true | _ => false) ?_
    repeat' ((conv => whnf); first | (guard_target = Done _; refine Done.mk ?_) | (guard_target = RetX _ _; refine RetX.mk ?_ ?_) | (guard_target = Fact _ _; refine Fact.mk fun hL => ?_; (try simp only [List.length_map, maxLen] at hL)) | (guard_target = Branch _ _ _; (first | refine Branch.dec ?_ ?_ | refine Branch.beq ?_ ?_ | refine Branch.bne ?_ ?_ | refine Branch.ndec ?_ ?_ | refine Branch.nb ?_ ?_ | refine Branch.mk ?_ ?_) <;> intro h <;> (try simp only [List.length_map] at h) <;> (try omega) <;> (try contradiction)) | (guard_target = CallN _ 30 _ _ _ _; refine CallN.gen [] _ _ _ rfl (fr) rfl rfl _ rfl ?_) | (guard_target = CallN _ 31 _ _ _ _; refine CallN.gen [true] _ _ _ rfl (ds) rfl rfl _ rfl ?_) | (guard_target = CallN _ 32 _ _ _ _; refine CallN.gen [true, false] _ _ _ rfl (pr) rfl rfl _ rfl ?_) | (guard_target = CallN _ 33 _ _ _ _; refine CallN.gen [true, false, false] _ _ _ rfl (dp) rfl rfl _ rfl ?_) | (guard_target = CallN _ 35 _ _ _ _; refine CallN.gen [true, false] _ _ _ rfl (pk) rfl rfl _ rfl ?_) | (guard_target = CallN _ 40 _ _ _ _; refine CallN.gen [] _ _ _ rfl (ex) rfl rfl _ rfl ?_) | (guard_target = CallN _ 41 _ _ _ _; refine CallN.pure _ _ rfl (tri) rfl _ rfl ?_) | (guard_target = CallN _ 42 _ _ _ _; refine CallN.pure _ _ rfl (ok2) rfl _ rfl ?_) | (guard_target = CallN _ 43 _ _ _ _; refine CallN.gen [] _ _ _ rfl (on) rfl rfl _ rfl ?_) | (guard_target = CallN _ 44 _ _ _ _; refine CallN.gen [] _ _ _ rfl (sk) rfl rfl _ rfl ?_) | (guard_target = CallN _ 36 _ _ _ _; refine CallN.gen [false, true] _ _ _ rfl (of0) rfl rfl _ rfl ?_) | (guard_target = Gh _ _ _ _ _; (first | refine Gh.frzp 11 _ rfl (Gh.go ?_) | refine Gh.soft 11 (.cc rfl) (Gh.frzp 11 _ rfl (Gh.go ?_)))) | (guard_target = CallN _ 34 _ _ _ _; (first | refine CallN.gen [true, false] _ _ _ rfl q1 rfl rfl _ rfl ?_ | refine CallN.gen [true, false] _ _ _ rfl q2 rfl rfl _ rfl ?_)) | (guard_target = CallN _ 37 _ _ _ _; refine CallN.own _ _ rfl sure (pure_int _ _) _ rfl ?_) | (guard_target = Arith _ _ _; refine Arith.fit (wrap_fit (by first | omega | (simp only [List.length_map]; omega)) (by first | omega | (simp only [List.length_map]; omega))) ?_) | (guard_target = Arith _ _ _; refine Arith.fit (by decide) ?_) | (guard_target = Index _ _ _; first  | refine Index.mk _ (idx_map (by omega)) ?_) | (guard_target = Need (_ = true) _; refine Need.mk (by first | kernel_rfl | rfl) ?_) | (guard_target = LinkV _ _ _; first  | refine LinkV.no ?_) | (guard_target = GhO _ _ _ _; refine GhO.go ?_) | (guard_target = Need _ _; refine Need.mk (by first  | omega | (simp only [List.length_map]; omega)) ?_))
    all_goals first | rfl | trivial | (rw [if_neg (by simp_all)]; rfl) | (rw [if_pos (by simp_all)]; rfl) | (exfalso; simp_all; done)
  rw [if_neg h0]
  by_cases h1 : k = 1
  · rw [if_pos h1]
    generalize goodT t a ⟨.mk a1 a2 a3, .mk pk1 pn1 (.mk ck1 cn1 cs1) ks1, .mk z1 z2 z3⟩ = g1 at triZ ⊢
    have tri := triZ
    refine callX_of_vc htb hm Tryz.func7 rfl rfl rfl rfl (ann := fun _ => none) (gh := fun reg_ => match reg_ with | 6 => true | _ => false) ?_
    repeat' ((conv => whnf); first | (guard_target = Done _; refine Done.mk ?_) | (guard_target = RetX _ _; refine RetX.mk ?_ ?_) | (guard_target = Fact _ _; refine Fact.mk fun hL => ?_; (try simp only [List.length_map, maxLen] at hL)) | (guard_target = Branch _ _ _; (first | refine Branch.dec ?_ ?_ | refine Branch.beq ?_ ?_ | refine Branch.bne ?_ ?_ | refine Branch.ndec ?_ ?_ | refine Branch.nb ?_ ?_ | refine Branch.mk ?_ ?_) <;> intro h <;> (try simp only [List.length_map] at h) <;> (try omega) <;> (try contradiction)) | (guard_target = CallN _ 30 _ _ _ _; refine CallN.gen [] _ _ _ rfl (fr) rfl rfl _ rfl ?_) | (guard_target = CallN _ 31 _ _ _ _; refine CallN.gen [true] _ _ _ rfl (ds) rfl rfl _ rfl ?_) | (guard_target = CallN _ 32 _ _ _ _; refine CallN.gen [true, false] _ _ _ rfl (pr) rfl rfl _ rfl ?_) | (guard_target = CallN _ 33 _ _ _ _; refine CallN.gen [true, false, false] _ _ _ rfl (dp) rfl rfl _ rfl ?_) | (guard_target = CallN _ 35 _ _ _ _; refine CallN.gen [true, false] _ _ _ rfl (pk) rfl rfl _ rfl ?_) | (guard_target = CallN _ 40 _ _ _ _; refine CallN.gen [] _ _ _ rfl (ex) rfl rfl _ rfl ?_) | (guard_target = CallN _ 41 _ _ _ _; refine CallN.pure _ _ rfl (tri) rfl _ rfl ?_) | (guard_target = CallN _ 42 _ _ _ _; refine CallN.pure _ _ rfl (ok2) rfl _ rfl ?_) | (guard_target = CallN _ 43 _ _ _ _; refine CallN.gen [] _ _ _ rfl (on) rfl rfl _ rfl ?_) | (guard_target = CallN _ 44 _ _ _ _; refine CallN.gen [] _ _ _ rfl (sk) rfl rfl _ rfl ?_) | (guard_target = CallN _ 38 _ _ _ _; refine CallN.gen [false, false, false, true] _ _ _ rfl (fromO) rfl rfl _ rfl ?_) | (guard_target = CallN _ 36 _ _ _ _; refine CallN.gen [] _ _ _ rfl (of1) rfl rfl _ rfl ?_) | (guard_target = Gh _ _ _ _ _; (first | refine Gh.frzp 11 _ rfl (Gh.go ?_) | refine Gh.soft 11 (.cc rfl) (Gh.frzp 11 _ rfl (Gh.go ?_)))) | (guard_target = CallN _ 34 _ _ _ _; (first | refine CallN.gen [true, false] _ _ _ rfl q1 rfl rfl _ rfl ?_ | refine CallN.gen [true, false] _ _ _ rfl q2 rfl rfl _ rfl ?_)) | (guard_target = CallN _ 39 _ _ _ _; refine CallN.own _ _ rfl atoms' (pure_int _ _) _ rfl ?_) | (guard_target = Arith _ _ _; refine Arith.fit (wrap_fit (by first | omega | (simp only [List.length_map]; omega)) (by first | omega | (simp only [List.length_map]; omega))) ?_) | (guard_target = Arith _ _ _; refine Arith.fit (by decide) ?_) | (guard_target = Index _ _ _; first  | refine Index.mk _ (idx_map (by omega)) ?_) | (guard_target = Need (_ = true) _; refine Need.mk (by first | kernel_rfl | rfl) ?_) | (guard_target = LinkV _ _ _; first  | refine LinkV.no ?_) | (guard_target = GhO _ _ _ _; refine GhO.go ?_) | (guard_target = Need _ _; refine Need.mk (by first  | omega | (simp only [List.length_map]; omega)) ?_))
    all_goals first | rfl | trivial | (rw [if_neg (by simp_all)]; rfl) | (rw [if_pos (by simp_all)]; rfl) | (exfalso; simp_all; done)
  · rw [if_neg h1]
    generalize goodT t a ⟨.mk a1 a2 a3, .mk pk1 pn1 (.mk ck1 cn1 cs1) ks1, .mk v1 v2 v3⟩ = g1 at triN ⊢
    have tri := triN
    refine callX_of_vc htb hm Tryz.func7 rfl rfl rfl rfl (ann := fun _ => none) (gh := fun reg_ => match reg_ with | 6 => true | _ => false) ?_
    repeat' ((conv => whnf); first | (guard_target = Done _; refine Done.mk ?_) | (guard_target = RetX _ _; refine RetX.mk ?_ ?_) | (guard_target = Fact _ _; refine Fact.mk fun hL => ?_; (try simp only [List.length_map, maxLen] at hL)) | (guard_target = Branch _ _ _; (first | refine Branch.dec ?_ ?_ | refine Branch.beq ?_ ?_ | refine Branch.bne ?_ ?_ | refine Branch.ndec ?_ ?_ | refine Branch.nb ?_ ?_ | refine Branch.mk ?_ ?_) <;> intro h <;> (try simp only [List.length_map] at h) <;> (try omega) <;> (try contradiction)) | (guard_target = CallN _ 30 _ _ _ _; refine CallN.gen [] _ _ _ rfl (fr) rfl rfl _ rfl ?_) | (guard_target = CallN _ 31 _ _ _ _; refine CallN.gen [true] _ _ _ rfl (ds) rfl rfl _ rfl ?_) | (guard_target = CallN _ 32 _ _ _ _; refine CallN.gen [true, false] _ _ _ rfl (pr) rfl rfl _ rfl ?_) | (guard_target = CallN _ 33 _ _ _ _; refine CallN.gen [true, false, false] _ _ _ rfl (dp) rfl rfl _ rfl ?_) | (guard_target = CallN _ 35 _ _ _ _; refine CallN.gen [true, false] _ _ _ rfl (pk) rfl rfl _ rfl ?_) | (guard_target = CallN _ 40 _ _ _ _; refine CallN.gen [] _ _ _ rfl (ex) rfl rfl _ rfl ?_) | (guard_target = CallN _ 41 _ _ _ _; refine CallN.pure _ _ rfl (tri) rfl _ rfl ?_) | (guard_target = CallN _ 42 _ _ _ _; refine CallN.pure _ _ rfl (ok2) rfl _ rfl ?_) | (guard_target = CallN _ 43 _ _ _ _; refine CallN.gen [] _ _ _ rfl (on) rfl rfl _ rfl ?_) | (guard_target = CallN _ 44 _ _ _ _; refine CallN.gen [] _ _ _ rfl (sk) rfl rfl _ rfl ?_) | (guard_target = Gh _ _ _ _ _; (first | refine Gh.frzp 11 _ rfl (Gh.go ?_) | refine Gh.soft 11 (.cc rfl) (Gh.frzp 11 _ rfl (Gh.go ?_)))) | (guard_target = CallN _ 34 _ _ _ _; (first | refine CallN.gen [true, false] _ _ _ rfl q1 rfl rfl _ rfl ?_ | refine CallN.gen [true, false] _ _ _ rfl q2 rfl rfl _ rfl ?_)) | (guard_target = Arith _ _ _; refine Arith.fit (wrap_fit (by first | omega | (simp only [List.length_map]; omega)) (by first | omega | (simp only [List.length_map]; omega))) ?_) | (guard_target = Arith _ _ _; refine Arith.fit (by decide) ?_) | (guard_target = Index _ _ _; first  | refine Index.mk _ (idx_map (by omega)) ?_) | (guard_target = Need (_ = true) _; refine Need.mk (by first | kernel_rfl | rfl) ?_) | (guard_target = LinkV _ _ _; first  | refine LinkV.no ?_) | (guard_target = GhO _ _ _ _; refine GhO.go ?_) | (guard_target = Need _ _; refine Need.mk (by first  | omega | (simp only [List.length_map]; omega)) ?_))
    all_goals first | rfl | trivial | (rw [if_neg (by simp_all)]; rfl) | (rw [if_pos (by simp_all)]; rfl) | (exfalso; simp_all; done)
end
end Go.Proofs.YtlfigjkddnncgaaGreat

namespace Go.Proofs.YtlfigjkddnncgaaGreat
open Go Go.KA
abbrev atN (w : XWorld) (s : Int) : Nat := (at0 w s).toNat
theorem kidL {N : Nat} {l : List XPremise} {ks : List XProg} {i : Nat} {k : XProg} (h : ks[i]? = some k) : (ks.map (ldR N l)).getD i noR = ldR N l k := by
  rw [List.getD_eq_getElem?_getD, List.getElem?_map, h]
  rfl
theorem Star.ahead {N : Nat} {S : Rel} {x z : Nat} (hx : x < N) (hs : S x z = true) {y : Nat} (h : Star N S z y) : Star N S x y := Star.trans (.step .refl hx hs) h
section
variable {t a : Int} {w : XWorld} {l : List XPremise} {fuel : Int} (hs : goodSig t a = true) (hw : goodWorld t a w = true)
include hs hw
theorem atN_in {s : Int} (h : 0 ≤ s ∧ s < w.atoms.length) : ((atN w s : Nat) : Int) = at0 w s ∧ atN w s < natN t := by
  have hn := atomsN_nat (sig_bounds hs).1
  simp only [goodWorld, Bool.and_eq_true, List.all_eq_true, rng, decide_eq_true_eq] at hw
  have h1 : s.toNat < w.atoms.length := by omega
  have h2 := hw.2.1 (at0 w s) (by unfold at0; rw [getD_eq h1]; exact List.getElem_mem h1)
  unfold atN
  omega
variable (hm : modelsB w l = true)
include hm
theorem act_alB {s n : Int} (h : 0 ≤ s ∧ s < w.atoms.length) (hn : ¬ (w.acts.getD n.toNat []).getD s.toNat 0 < 0) (ha : 0 ≤ n) (hl : goodL t a l = true) : alB l n (at0 w s) (at0 w ((w.acts.getD n.toNat []).getD s.toNat 0)) = true := by
  have _ := hs
  have _ := hw
  have hp := (goodL_prem hl).2
  unfold alB
  rw [List.all_eq_true]
  intro x hx
  unfold modelsB at hm
  rw [List.all_eq_true] at hm
  have h1 := hm x hx
  unfold premB at h1
  rw [List.all_eq_true] at h1
  have h2 := h1 s.toNat (List.mem_range.2 (by omega))
  unfold stB at h2
  by_cases e : x.act = n
  · subst e
    simp only [at0] at *
    simp_all
    rcases h2 with h2 | h2 | h2
    · exact .inl h2
    · omega
    · exact .inr h2
  · rw [show (x.act == n) = false by rw [beq_eq_false_iff_ne]; exact e]
    rfl
variable (hl : goodL t a l = true) (hfu : fuel ≤ 500)
include hl hfu
theorem run_ld {p : XProg} {r : RS} {c : Int} {r' : RS} (h : Run w fuel p r c r') : POk t a p → RB w fuel r → c = 0 → ldR (natN t) l p (atN w r.st) (atN w r'.st) = true := by
  have hW := worldOk hw
  have inc : ∀ {r : RS}, RB w fuel r → ¬ r.steps = fuel → RB w fuel (more r) := fun {r} hr hs => ⟨hr.st.inc (by have := hr.le; omega), by show r.steps + 1 ≤ fuel; have := hr.le; omega⟩
  have at' : ∀ {r : RS}, RB w fuel r → ((atN w r.st : Nat) : Int) = at0 w r.st ∧ atN w r.st < natN t := fun hr => atN_in hs hw hr.st.st
  induction h with
  | seqBad hk g0 h hc ih => intro _ _ h0; exact absurd h0 hc
  | @seqOk p k0 k1 r r1 c r2 hk g0 g1 h h2 ih1 ih2 =>
    intro hp hr h0
    have m0 := hp.kid (List.mem_of_getElem? g0)
    have m1 := hp.kid (List.mem_of_getElem? g1)
    have hr1 := (Run.keeps hW.1 hW.2 hfu h m0 hr).1
    rw [ldR_eq]
    unfold ldK
    rw [hk, if_neg (by decide), if_pos rfl, cmpR_iff, kidL g0, kidL g1]
    exact ⟨_, (at' hr1).2, ih1 m0 hr rfl, ih2 m1 hr1 h0⟩
  | budget hk hs => intro _ _ h0; cases h0
  | @skip p r hk hs =>
    intro _ _ _
    rw [ldR_eq]
    unfold ldK
    rw [hk, if_neg (by decide), if_neg (by decide), if_neg (by decide), if_pos rfl]
    show (atN w r.st == atN w r.st) = true
    simp
  | fail hk hs => intro _ _ h0; cases h0
  | actBad hk hs hn => intro _ _ h0; cases h0
  | @actOk p r hk hs' hn =>
    intro hp hr _
    have ha := hp.act hk
    have h1 := at' hr
    have h2 : RB w fuel (done w (more r) p.num) := (Run.keeps hW.1 hW.2 hfu (.actOk hk hs' hn) hp hr).1
    have h3 := at' h2
    rw [ldR_eq]
    unfold ldK
    rw [hk, if_pos rfl]
    show alB l p.num ((atN w r.st : Nat) : Int) ((atN w (done w (more r) p.num).st : Nat) : Int) = true
    rw [h1.1, h3.1]
    exact act_alB hs hw hm hr.st.st hn ha.1 hl
  | assertNo hk hs ht => intro _ _ h0; cases h0
  | @assertYes p r hk hs' ht =>
    intro _ hr _
    have h1 := at' hr
    rw [ldR_eq]
    unfold ldK
    rw [hk, if_neg (by decide), if_neg (by decide), if_neg (by decide), if_neg (by decide), if_pos rfl]
    show ((atN w r.st == atN w r.st) && truthE p.cond ((atN w r.st : Nat) : Int)) = true
    rw [h1.1, ht]
    simp
  | @ifYes p k0 r c r2 hk hs' ht g0 h ih =>
    intro hp hr h0
    have h1 := at' hr
    have m0 := hp.kid (List.mem_of_getElem? g0)
    have h2 := ih m0 (inc hr hs') h0
    rw [ldR_eq]
    unfold ldK
    rw [hk, if_neg (by decide), if_neg (by decide), if_neg (by decide), if_neg (by decide), if_neg (by decide), if_pos rfl, kidL g0]
    show (if truthE p.cond ((atN w r.st : Nat) : Int) = true then _ else _) = true
    rw [h1.1, if_pos ht]
    exact h2
  | @ifNo p k1 r c r2 hk hs' ht g1 h ih =>
    intro hp hr h0
    have h1 := at' hr
    have m1 := hp.kid (List.mem_of_getElem? g1)
    have h2 := ih m1 (inc hr hs') h0
    rw [ldR_eq]
    unfold ldK
    rw [hk, if_neg (by decide), if_neg (by decide), if_neg (by decide), if_neg (by decide), if_neg (by decide), if_pos rfl, kidL g1]
    show (if truthE p.cond ((atN w r.st : Nat) : Int) = true then _ else _) = true
    rw [h1.1, if_neg (by rw [ht]; simp)]
    exact h2
  | @whileNo p r hk hs' ht =>
    intro _ hr _
    have h1 := at' hr
    rw [ldR_eq]
    unfold ldK
    rw [hk, if_neg (by decide), if_neg (by decide), if_pos rfl]
    show (sqI _ _ _ (atN w r.st) (atN w r.st) && !(truthE p.cond ((atN w r.st : Nat) : Int))) = true
    rw [h1.1, ht, (sq_path h1.2 h1.2).2 .refl]
    rfl
  | whileBad hk hs ht g0 h hc => intro _ _ h0; exact absurd h0 hc
  | @whileOk p k0 r r1 c r2 hk hs' ht g0 h h2 ih1 ih2 =>
    intro hp hr h0
    have m0 := hp.kid (List.mem_of_getElem? g0)
    have hr1 := (Run.keeps hW.1 hW.2 hfu h m0 (inc hr hs')).1
    have hr2 := (Run.keeps hW.1 hW.2 hfu h2 hp hr1).1
    have b1 := ih1 m0 (inc hr hs') rfl
    have b2 := ih2 hp hr1 h0
    have h1 := at' hr
    have a1 := at' hr1
    have a2 := at' hr2
    rw [ldR_eq] at b2 ⊢
    unfold ldK at b2 ⊢
    rw [hk, if_neg (by decide), if_neg (by decide), if_pos rfl] at b2 ⊢
    simp only [Bool.and_eq_true] at b2 ⊢
    refine ⟨?_, b2.2⟩
    rw [sq_path h1.2 a2.2]
    refine Star.ahead h1.2 ?_ ((sq_path a1.2 a2.2).1 b2.1)
    rw [kidL g0]
    show ((truthE p.cond ((atN w r.st : Nat) : Int) && ldR (natN t) l k0 (atN w r.st) (atN w r1.st)) && decide (atN w r1.st < natN t)) = true
    rw [h1.1, ht, show ldR (natN t) l k0 (atN w r.st) (atN w r1.st) = true from b1]
    simp [a1.2]
theorem worlds_core {x : XTriple} (hx : goodT t a x = true) (hh : holdsT (natN t) l x = true) {s : Int} (hst : 0 ≤ s ∧ s < w.atoms.length) (hb : truthE x.pre (at0 w s) = true) {r' : RS} (hr : RB w fuel ⟨s, [at0 w s], [], 0⟩) (h : Run w fuel x.prog ⟨s, [at0 w s], [], 0⟩ 0 r') : (0 ≤ r'.st ∧ r'.st < w.atoms.length) ∧ truthE x.post (at0 w r'.st) = true := by
  have hW := worldOk hw
  have hp : POk t a x.prog := by
    simp only [goodT, Bool.and_eq_true] at hx
    exact progOk hx.1
  have h1 := (Run.keeps hW.1 hW.2 hfu h hp hr).1
  have h2 := run_ld hs hw hm hl hfu h hp hr rfl
  have a1 := atN_in hs hw hst
  have a2 := atN_in hs hw h1.st.st
  refine ⟨h1.st.st, ?_⟩
  unfold holdsT at hh
  rw [List.all_eq_true] at hh
  have h3 := hh ((atN w s : Nat) : Int) (selR_mem.2 ⟨atN w s, a1.2, by unfold trP; rw [a1.1]; exact hb, rfl⟩)
  rw [mem_sel a1.2] at h3
  unfold sureP at h3
  rw [List.all_eq_true] at h3
  have h4 := h3 (atN w r'.st) (List.mem_range.2 a2.2)
  rw [show ldR (natN t) l x.prog (atN w s) (atN w r'.st) = true from h2, a2.1] at h4
  simpa using h4
end
end Go.Proofs.YtlfigjkddnncgaaGreat

namespace Go.Proofs.YtlfigjkddnncgaaGreat
open Go Go.KA Go.Proofs
set_option maxHeartbeats 16000000
set_option maxRecDepth 100000
inductive OwnUp : List CV → List CV → Prop
  | nil : OwnUp [] []
  | same {c cs cs'} (h : OwnUp cs cs') : OwnUp (c :: cs) (c :: cs')
  | up {ty sz rows cs cs'} (h : OwnUp cs cs') : OwnUp (.ows ty sz rows :: cs) (.own ty sz rows :: cs')
theorem OwnUp.den {w : World} {ok : Nat → Prop} {cs cs' : List CV} (h : OwnUp cs cs') : ∀ {vs : List Value} {f : List Nat}, Den w ok cs vs f → Den w ok cs' vs f := by
  induction h with
  | nil => intro vs f h; exact h
  | same h ih =>
    intro vs f hd
    cases hd with
    | any h1 ht => exact .any h1 (ih ht)
    | val h1 ht => exact .val h1 (ih ht)
    | cb ht => exact .cb (ih ht)
    | ro a b c d e f ht => exact .ro a b c d e f (ih ht)
    | rp a b c d ht => exact .rp a b c d (ih ht)
    | own a b c ht => exact .own a b c (ih ht)
    | ows a b c ht => exact .ows a b c (ih ht)
    | ownp a b c ht => exact .ownp a b c (ih ht)
    | op a b ht => exact .op a b (ih ht)
    | bld a b c ht => exact .bld a b c (ih ht)
  | up h ih =>
    intro vs f hd
    cases hd with
    | ows a b c ht =>
      have := Den.own a b c (ih ht)
      simpa using this
theorem OwnUp.len {cs cs' : List CV} (h : OwnUp cs cs') : cs.length = cs'.length := by
  induction h <;> simp_all
end Go.Proofs.YtlfigjkddnncgaaGreat

namespace Go.Proofs.YtlfigjkddnncgaaGreat
open Go Go.KA Go.Proofs
set_option maxHeartbeats 16000000
set_option maxRecDepth 100000
end Go.Proofs.YtlfigjkddnncgaaGreat

namespace Go.Proofs.YtlfigjkddnncgaaGreat
open Go Go.KA Go.Proofs
set_option maxHeartbeats 16000000
set_option maxRecDepth 100000
/-! ### valid things are small -/
mutual
theorem left_bud : ∀ (e : XExpr) (n : Int), 0 ≤ leftE e n → leftE e n + budExpr e + 1 ≤ n
  | .mk k m ks, n, h => by
    rw [leftE] at h ⊢
    have := lefts_bud ks (n - 1) h
    rw [budExpr]
    omega
theorem lefts_bud : ∀ (l : List XExpr) (n : Int), 0 ≤ leftS l n → leftS l n + budExprS l ≤ n
  | [], n, h => by simp [leftS, budExprS]
  | x :: xs, n, h => by
    rw [leftS] at h ⊢
    by_cases hn : n < 0
    · rw [if_pos hn] at h; omega
    · rw [if_neg hn] at h ⊢
      have h1 := lefts_bud xs _ h
      by_cases h2 : 0 ≤ leftE x n
      · have := left_bud x n h2
        rw [budExprS]
        omega
      · rw [leftS_neg (by omega)] at h
        omega
end
theorem goodE_bud {t a : Int} {e : XExpr} (h : goodE t a e = true) : budExpr e ≤ 200 := by
  unfold goodE at h
  simp only [Bool.and_eq_true, decide_eq_true_eq] at h
  have := left_bud e 200 h.1
  omega
theorem condG_bud {t a : Int} {e : XExpr} (h : condG t a e = true) : budExpr e ≤ 200 := by
  unfold condG at h
  simp only [Bool.and_eq_true] at h
  exact goodE_bud h.1
theorem noneB_bud {e : XExpr} (h : noneB e = true) : budExpr e = 0 := by
  unfold noneB at h
  simp only [Bool.and_eq_true, beq_iff_eq] at h
  have : e.kids = [] := List.length_eq_zero_iff.1 (by omega)
  cases e
  simp only [XExpr.kids] at this
  rw [this]
  simp [budExpr, budExprS]
theorem pnode_bud {t a k n : Int} {c : XExpr} (h : pnode t a k n c = true) : budExpr c ≤ 200 := by
  unfold pnode at h
  simp only [Bool.and_eq_true] at h
  have h2 := h.2
  split at h2
  · exact condG_bud h2
  · rw [noneB_bud h2]; omega
mutual
theorem pl_bud {t a : Int} : ∀ (p : XProg) (n : Int), ptE t a p = true → 0 ≤ plE p n → 201 * plE p n + budProg p + 1 ≤ 201 * n
  | .mk k m c ks, n, hp, h => by
    rw [ptE_eq] at hp
    simp only [Bool.and_eq_true, XProg.kids, XProg.kind, XProg.num, XProg.cond] at hp
    rw [plE] at h ⊢
    have h1 := pls_bud ks (n - 1) (by rw [ptS_all]; exact hp.2.2) h
    have h2 := pnode_bud hp.2.1
    rw [budProg]
    omega
theorem pls_bud {t a : Int} : ∀ (l : List XProg) (n : Int), ptS t a l = true → 0 ≤ plS l n → 201 * plS l n + budProgS l ≤ 201 * n
  | [], n, _, h => by simp [plS, budProgS]
  | x :: xs, n, hp, h => by
    rw [plS] at h ⊢
    rw [ptS, Bool.and_eq_true] at hp
    by_cases hn : n < 0
    · rw [if_pos hn] at h; omega
    · rw [if_neg hn] at h ⊢
      have h1 := pls_bud xs _ hp.2 h
      by_cases h2 : 0 ≤ plE x n
      · have := pl_bud x n hp.1 h2
        rw [budProgS]
        omega
      · rw [plS_neg (by omega)] at h
        omega
end
theorem goodP_bud {t a : Int} {p : XProg} (h : goodP t a p = true) : budProg p ≤ 12060 := by
  unfold goodP at h
  simp only [Bool.and_eq_true, decide_eq_true_eq] at h
  have := pl_bud p 60 h.2.2 h.1
  omega
theorem goodT_bud {t a : Int} {x : XTriple} (h : goodT t a x = true) : budExpr x.pre ≤ 200 ∧ budProg x.prog ≤ 12060 ∧ budExpr x.post ≤ 200 := by
  unfold goodT at h
  simp only [Bool.and_eq_true] at h
  exact ⟨condG_bud h.2.1, goodP_bud h.1, condG_bud h.2.2⟩
/-! ### how many nodes are found -/
end Go.Proofs.YtlfigjkddnncgaaGreat

namespace Go.Proofs.YtlfigjkddnncgaaGreat
open Go Go.KA Go.Proofs
set_option maxHeartbeats 16000000
set_option maxRecDepth 100000
theorem a2Long_ok (code more : List UInt8) : CallF Tryz.prog 6 [.c (.ro 1 (code.map eU8)), .c (.ro 1 (more.map eU8))] (B (decide (3000 < code.length) || decide (3000 < more.length))) := by
  refine callF_of_vc htb hm Tryz.func6 rfl rfl rfl rfl (ann := fun _ => none) (gh := fun _ => false) ?_
  repeat' ((conv => whnf); first | (guard_target = Done _; refine Done.mk ?_; first | (rfl; done) | (simp_all [normS, normV]; done) | (simp_all [normS, normV]; omega; done) | (simp_all [normS, normV]; intros; omega; done) | (simp_all [-List.all_eq_true, -List.all_eq_false, normS, normV]; done) | (simp_all [-List.all_eq_true, -List.all_eq_false, normS, normV]; omega; done) | skip) | (guard_target = RetX _ _; refine RetX.mk ?_ ?_) | (guard_target = Fact _ _; refine Fact.mk fun hL => ?_; (try simp only [List.length_map, maxLen] at hL)) | (guard_target = Branch _ _ _; (first | refine Branch.dec ?_ ?_ | refine Branch.beq ?_ ?_ | refine Branch.bne ?_ ?_ | refine Branch.ndec ?_ ?_ | refine Branch.nb ?_ ?_ | refine Branch.mk ?_ ?_) <;> intro h <;> (try simp only [List.length_map] at h) <;> (try omega) <;> (try contradiction)) | (guard_target = Arith _ _ _; refine Arith.fit (wrap_fit (by first | omega | (simp only [List.length_map]; omega)) (by first | omega | (simp only [List.length_map]; omega))) ?_) | (guard_target = Arith _ _ _; refine Arith.fit (by decide) ?_) | (guard_target = Index _ _ _; first  | refine Index.mk _ (idx_map (by omega)) ?_) | (guard_target = Need (_ = true) _; refine Need.mk (by first | kernel_rfl | rfl) ?_) | (guard_target = LinkV _ _ _; first  | refine LinkV.no ?_) | (guard_target = GhO _ _ _ _; refine GhO.go ?_) | (guard_target = Need _ _; refine Need.mk (by first  | omega | (simp only [List.length_map]; omega)) ?_))
  all_goals first | rfl | trivial | (simp_all [normS, normV]; done) | (simp_all [normS, normV]; omega) | (rw [show decide (3000 < code.length) = false by simp; omega, Bool.false_or, List.length_map]; exact congrArg B (decide_eq_decide.2 (by omega)))
theorem runProg_ok {t a : Int} {w : XWorld} {p : XProg} (hs : goodSig t a = true) (hw : goodWorld t a w = true) (hp : goodP t a p = true) {s : Nat} (hx : s < w.atoms.length) :
    ∃ c r', Run w 500 p ⟨(s : Int), [at0 w (s : Int)], [], 0⟩ c r' ∧ CallX Tryz.prog 13 [.a 2 [J t, J a], .a 2 (encWorld w), .a 6 (encProg p), I s, I 500] [] (if c = 0 then runT r' else noneT c) := by
  have h4 : runOk w s 500 = true := by
    simp only [runOk, rng, Bool.and_eq_true, decide_eq_true_eq]
    omega
  obtain ⟨c, r', hr⟩ := Run.ex (worldOk hw).1 (worldOk hw).2 (Int.le_refl 500) _ _ p ⟨(s : Int), [at0 w (s : Int)], [], 0⟩ (Nat.le_refl _) (Nat.le_refl _) (progOk hp) (run_begin h4)
  refine ⟨c, r', hr, ?_⟩
  by_cases hc : c = 0
  · subst hc
    rw [if_pos rfl]
    exact implProg_run t a w p s 500 hs hw hp h4 hr
  · rw [if_neg hc]
    exact implProg_bad t a w p s 500 hs hw hp h4 hr hc
end Go.Proofs.YtlfigjkddnncgaaGreat

namespace Go.Proofs.YtlfigjkddnncgaaGreat
open Go Go.KA Go.Proofs
set_option maxHeartbeats 16000000
set_option maxRecDepth 100000
theorem budS_leN {α : Type} {f : α → Nat} {m : Nat} : ∀ (l : List α), (∀ x ∈ l, f x ≤ m) → budS f l ≤ l.length * (m + 1)
  | [], _ => by simp [budS, bsum]
  | x :: xs, h => by
    have h1 := budS_leN xs fun y hy => h y (by simp [hy])
    have h2 := h x (by simp)
    simp only [budS, bsum, List.length_cons, Nat.add_mul] at *
    omega
theorem goodL_budN {t a : Int} {l : List XPremise} (h : goodL t a l = true) : budS budPremise l ≤ 1048576 := by
  simp only [goodL, goodPr, Bool.and_eq_true, decide_eq_true_eq, List.all_eq_true] at h
  have h1 := budS_leN (f := budPremise) (m := 400) l fun x hx => by
    have h2 := h.2 x hx
    have h3 := condG_bud h2.1
    have h4 := condG_bud h2.2.1
    simp only [budPremise]
    omega
  omega
theorem goodT_budN {t a : Int} {x : XTriple} (h : goodT t a x = true) : budTriple x ≤ 1048576 := by
  have := goodT_bud h
  simp only [budTriple]
  omega
theorem goodL_filter {t a : Int} {l : List XPremise} (h : goodL t a l = true) (P : XPremise → Bool) : goodL t a (l.filter P) = true := by
  simp only [goodL, Bool.and_eq_true, decide_eq_true_eq, List.all_eq_true] at h ⊢
  have h1 := List.length_filter_le P l
  exact ⟨by omega, fun x hx => h.2 x (List.mem_filter.1 hx).1⟩
theorem goodL_one {t a : Int} {l : List XPremise} (h : goodL t a l = true) {x : XPremise} (hx : x ∈ l) : goodL t a [x] = true := by
  simp only [goodL, Bool.and_eq_true, decide_eq_true_eq, List.all_eq_true] at h ⊢
  exact ⟨by simp, fun y hy => by rw [List.mem_singleton.1 hy]; exact h.2 x hx⟩
theorem models_filter (w : XWorld) (l : List XPremise) : modelsB w (l.filter (premB w)) = true := by
  unfold modelsB
  rw [List.all_eq_true]
  intro x hx
  exact (List.mem_filter.1 hx).2
theorem one_slice {l : List XPremise} {i : Nat} (h : i < l.length) : ((l.map encPremise).drop (i : Int).toNat).take (((i : Int) + 1).toNat - (i : Int).toNat) = [l.getD i pn0].map encPremise := by
  rw [show (i : Int).toNat = i from rfl, show ((i : Int) + 1).toNat - i = 1 by omega, getD_eq h, List.drop_eq_getElem_cons (by simpa using h)]
  simp
theorem keep_yes {w : XWorld} {l ks : List XPremise} {i : Nat} (ha : i ≤ l.length ∧ ks = (l.take i).filter (premB w)) (hi : i < l.length) (h : premB w (l.getD i pn0) = true) : i + 1 ≤ l.length ∧ ks ++ [l.getD i pn0] = (l.take (i + 1)).filter (premB w) := by
  rw [List.take_add_one, List.getElem?_eq_getElem hi, ha.2]
  rw [getD_eq hi] at h ⊢
  refine ⟨hi, ?_⟩
  show _ = List.filter _ (_ ++ [l[i]])
  rw [List.filter_append, List.filter_cons, if_pos h]
  rfl
theorem keep_no {w : XWorld} {l ks : List XPremise} {i : Nat} (ha : i ≤ l.length ∧ ks = (l.take i).filter (premB w)) (hi : i < l.length) (h : premB w (l.getD i pn0) = false) : i + 1 ≤ l.length ∧ ks = (l.take (i + 1)).filter (premB w) := by
  rw [List.take_add_one, List.getElem?_eq_getElem hi, ha.2]
  rw [getD_eq hi] at h
  refine ⟨hi, ?_⟩
  show _ = List.filter _ (_ ++ [l[i]])
  rw [List.filter_append, List.filter_cons, if_neg (by rw [h]; simp)]
  simp
theorem Worlds_law (code more : List UInt8) : CallF Tryz.prog 3 [.c (.ro 1 (code.map eU8)), .c (.ro 1 (more.map eU8))] (B true) := by
  have lg := a2Long_ok code more
  by_cases hb : 3000 < code.length ∨ 3000 < more.length
  · rw [show (decide (3000 < code.length) || decide (3000 < more.length)) = true by simpa using hb] at lg
    refine callF_of_vc htb hm Tryz.func3 rfl rfl rfl rfl (ann := fun _ => none) (gh := fun _ => false) ?_
    repeat' ((conv => whnf); first | (guard_target = Done _; refine Done.mk ?_) | (guard_target = RetX _ _; refine RetX.mk ?_ ?_) | (guard_target = Fact _ _; refine Fact.mk fun hL => ?_; (try simp only [List.length_map, maxLen] at hL)) | (guard_target = Branch _ _ _; (first | refine Branch.dec ?_ ?_ | refine Branch.beq ?_ ?_ | refine Branch.bne ?_ ?_ | refine Branch.ndec ?_ ?_ | refine Branch.nb ?_ ?_ | refine Branch.mk ?_ ?_) <;> intro h <;> (try simp only [List.length_map] at h) <;> (try omega) <;> (try contradiction)) | (guard_target = CallN _ 6 _ _ _ _; refine CallN.pure _ _ rfl (lg) rfl _ rfl ?_) | (guard_target = Arith _ _ _; refine Arith.fit (wrap_fit (by first | omega | (simp only [List.length_map]; omega)) (by first | omega | (simp only [List.length_map]; omega))) ?_) | (guard_target = Arith _ _ _; refine Arith.fit (by decide) ?_) | (guard_target = Index _ _ _; first  | refine Index.mk _ (idx_map (by omega)) ?_) | (guard_target = Need (_ = true) _; refine Need.mk (by first | kernel_rfl | rfl) ?_) | (guard_target = LinkV _ _ _; first  | refine LinkV.no ?_) | (guard_target = GhO _ _ _ _; refine GhO.go ?_) | (guard_target = Need _ _; refine Need.mk (by first  | omega | (simp only [List.length_map]; omega)) ?_))
    all_goals first | rfl | trivial
  rw [show (decide (3000 < code.length) || decide (3000 < more.length)) = false by simpa [Nat.not_lt] using hb] at lg
  have hc : code.length ≤ 3000 ∧ more.length ≤ 3000 := by omega
  have c1 := A2Triple_ok code hc.1
  have gT := a2trip_good code
  have gi := drawSig_in (src0 code)
  have gL : goodL (a2tri code).g.tests (a2tri code).g.actions (a2tri code).l = true := prems_good _ _
  change 0 ≤ (a2tri code).g.tests ∧ (a2tri code).g.tests ≤ 3 ∧ 0 ≤ (a2tri code).g.actions ∧ (a2tri code).g.actions ≤ 4 at gi
  generalize a2trip code = x at c1 gT
  generalize (a2tri code).l = l at c1 gL
  generalize (a2tri code).g = g at c1 gT gi gL
  obtain ⟨t, a⟩ := g
  have hs := sig_good gi
  have c2 := A2World_ok gi more hc.2
  have hw := a2world_good gi more
  generalize a2world ⟨t, a⟩ more = w at c2 hw
  simp only [] at c1 gi gT gL hs c2 hw
  have ht := (sig_bounds hs).1
  have hN := atomsN_nat ht
  have m1 : ∀ i, i < l.length → CallF Tryz.prog 9 [.a 2 [J t, J a], .a 2 (encWorld w), .c (.ro 7 (((l.map encPremise).drop (i : Int).toNat).take (((i : Int) + 1).toNat - (i : Int).toNat)))] (.tup [B (premB w (l.getD i pn0)), I 0]) := fun i hi => by
    have := ModelsPremises_ok t a hs w hw [l.getD i pn0] (goodL_one gL (by rw [getD_eq hi]; exact List.getElem_mem hi))
    rw [one_slice hi]
    rwa [show modelsB w [l.getD i pn0] = premB w (l.getD i pn0) by simp [modelsB]] at this
  have gK := goodL_filter gL (premB w)
  have hl12 : l.length ≤ 12 := by
    simp only [goodL, Bool.and_eq_true, decide_eq_true_eq] at gL
    exact gL.1
  have m2 := ModelsPremises_ok t a hs w hw (l.filter (premB w)) gK
  rw [models_filter] at m2
  have u1 := implUnder_ok t a hs (l.filter (premB w)) gK x gT (natN t) hN
  have u2 := specUnder_ok t a hs (l.filter (premB w)) gK x gT (natN t) hN (goodL_budN gK) (goodT_budN gT)
  have gg : goodP t a x.prog = true ∧ condG t a x.pre = true ∧ condG t a x.post = true := by
    simp only [goodT, Bool.and_eq_true] at gT
    exact ⟨gT.1, gT.2.1, gT.2.2⟩
  have hat : ∀ s : Int, 0 ≤ s → s < w.atoms.length → 0 ≤ w.atoms.getD s.toNat 0 ∧ w.atoms.getD s.toNat 0 < atomsN t := fun s h0 h1 => by
    have h := atN_in hs hw (s := s) ⟨h0, h1⟩
    have : ((atN w s : Nat) : Int) = w.atoms.getD s.toNat 0 := h.1
    omega
  have t1 : ∀ s : Nat, s < w.atoms.length → CallF Tryz.prog 12 [.a 2 [J t, J a], .a 3 (toldE x.pre), I (w.atoms.getD s 0)] (.tup [B (truthE x.pre (w.atoms.getD s 0)), I 0]) := fun s hi => TruthAt_ok t a hs x.pre gg.2.1 _ (hat s (by omega) (by omega))
  have t2 : ∀ s : Int, 0 ≤ s → s < w.atoms.length → CallF Tryz.prog 12 [.a 2 [J t, J a], .a 3 (toldE x.post), I (w.atoms.getD s.toNat 0)] (.tup [B (truthE x.post (w.atoms.getD s.toNat 0)), I 0]) := fun s h0 h1 => TruthAt_ok t a hs x.post gg.2.2 _ (hat s h0 h1)
  have hrun : ∀ s : Nat, s < w.atoms.length → _ := fun s hx => runProg_ok hs hw gg.1 hx
  have core : holdsT (natN t) (l.filter (premB w)) x = true → ∀ s : Nat, s < w.atoms.length → truthE x.pre (w.atoms.getD s 0) = true → ∀ r', Run w 500 x.prog ⟨(s : Int), [at0 w (s : Int)], [], 0⟩ 0 r' → (0 ≤ r'.st ∧ r'.st < w.atoms.length) ∧ truthE x.post (w.atoms.getD r'.st.toNat 0) = true := fun hh s hi hb r' hr =>
    worlds_core hs hw (models_filter w l) gK (Int.le_refl 500) gT hh (s := s) ⟨by omega, by omega⟩ hb (run_begin (show runOk w s 500 = true by simp only [runOk, rng, Bool.and_eq_true, decide_eq_true_eq]; omega)) hr
  generalize holdsT (natN t) (l.filter (premB w)) x = hold at u1 u2 core
  obtain ⟨⟨a1, a2, a3⟩, ⟨pk1, pn1, ⟨ck1, cn1, cs1⟩, ks1⟩, ⟨b1, b2, b3⟩⟩ := x
  simp only [encP_mk] at hrun
  refine callF_of_vc htb hm Tryz.func3 rfl rfl rfl rfl (ann := fun _ => none) (gh := fun _ => false) ?_
  repeat' ((conv => whnf); first | (guard_target = Done _; refine Done.mk ?_) | (guard_target = RetX _ _; refine RetX.mk ?_ ?_) | (guard_target =~ LoopE 7 _ _ _ _ _ _; refine LoopE.mk { α := Nat × List XPremise, keep := [5, 6, 7, 8], ov := fun ⟨i, ks⟩ => [(9, .lw 9), (10, I (i : Nat))], hv := fun ⟨i, ks⟩ => [(9, .row none 45 7 (ks.map encPremise))], φ := fun ⟨i, ks⟩ => i ≤ l.length ∧ ks = (l.take i).filter (premB w), μ := fun ⟨i, ks⟩ => l.length - i } (LoopN.mk ((0, []) : Nat × List XPremise) (by exact ⟨Nat.zero_le _, rfl⟩) (by (repeat' ((conv => whnf) <;> (first | exact trivial | refine ⟨?_, ?_⟩ | kernel_rfl))); done) (by (repeat' ((conv => whnf) <;> (first | exact trivial | refine ⟨?_, ?_⟩ | kernel_rfl))); done) (by (repeat' ((conv => whnf) <;> (first | exact trivial | refine ⟨?_, ?_⟩ | exact rfl | (simp only [List.map_append, List.map_cons, List.map_nil, List.map_set]; first | done | rfl)))); done) (fun A ha => ?_) (by intro A; first | rfl | (obtain ⟨_, _⟩ := A; rfl) | (obtain ⟨_, _, _⟩ := A; rfl))); obtain ⟨i, ks⟩ := A; have ha : i ≤ l.length ∧ ks = (l.take i).filter (premB w) := ha; have hA1 := ha; have hkl : ks.length ≤ i := (by rw [ha.2]; exact Nat.le_trans (List.length_filter_le _ _) (by rw [List.length_take]; omega))) | (guard_target =~ LoopE 20 _ _ _ _ _ _; refine LoopE.mk { α := Nat, keep := [5, 7, 8, 15], ov := fun s => [(19, I (s : Nat))], φ := fun s => s ≤ w.atoms.length, μ := fun s => w.atoms.length - s } (LoopN.mk (0 : Nat) (by exact Nat.zero_le _) (by (repeat' ((conv => whnf) <;> (first | exact trivial | refine ⟨?_, ?_⟩ | kernel_rfl))); done) (by (repeat' ((conv => whnf) <;> (first | exact trivial | refine ⟨?_, ?_⟩ | kernel_rfl))); done) (by (repeat' ((conv => whnf) <;> (first | exact trivial | refine ⟨?_, ?_⟩ | exact rfl | (simp only [List.map_append, List.map_cons, List.map_nil, List.map_set]; first | done | rfl)))); done) (fun (s : Nat) ha => ?_) (by intro A; first | rfl | (obtain ⟨_, _⟩ := A; rfl) | (obtain ⟨_, _, _⟩ := A; rfl))); have ha : s ≤ w.atoms.length := ha) | (guard_target = Gh _ _ _ _ _; refine Gh.go ⟨((i + 1, ks ++ [l.getD i pn0]) : Nat × List XPremise), (by exact keep_yes ha (by omega) (by assumption)), (by first | (show _ < _; simp only []; omega) | omega | (simp; omega)), (by (repeat' ((conv => whnf) <;> (first | exact trivial | refine ⟨?_, ?_⟩ | kernel_rfl))); done), (by (repeat' ((conv => whnf) <;> (first | exact trivial | refine ⟨?_, ?_⟩ | kernel_rfl))); done), (by (repeat' ((conv => whnf) <;> (first | exact trivial | refine ⟨?_, ?_⟩ | exact rfl | (simp only [List.map_append, List.map_cons, List.map_nil, List.map_set]; first | done | rfl)))); done)⟩) | (guard_target = Gh _ _ _ _ _; refine Gh.go ⟨((i + 1, ks) : Nat × List XPremise), (by exact keep_no ha (by omega) (by assumption)), (by first | (show _ < _; simp only []; omega) | omega | (simp; omega)), (by (repeat' ((conv => whnf) <;> (first | exact trivial | refine ⟨?_, ?_⟩ | kernel_rfl))); done), (by (repeat' ((conv => whnf) <;> (first | exact trivial | refine ⟨?_, ?_⟩ | kernel_rfl))); done), (by (repeat' ((conv => whnf) <;> (first | exact trivial | refine ⟨?_, ?_⟩ | exact rfl | (simp only [List.map_append, List.map_cons, List.map_nil, List.map_set]; first | done | rfl)))); done)⟩) | (guard_target = Gh _ _ _ _ _; refine Gh.go ⟨(s + 1 : Nat), (by (show s + 1 ≤ _; omega)), (by first | (show _ < _; simp only []; omega) | omega | (simp; omega)), (by (repeat' ((conv => whnf) <;> (first | exact trivial | refine ⟨?_, ?_⟩ | kernel_rfl))); done), (by (repeat' ((conv => whnf) <;> (first | exact trivial | refine ⟨?_, ?_⟩ | kernel_rfl))); done), (by (repeat' ((conv => whnf) <;> (first | exact trivial | refine ⟨?_, ?_⟩ | exact rfl | (simp only [List.map_append, List.map_cons, List.map_nil, List.map_set]; first | done | rfl)))); done)⟩) | (guard_target = Fact _ _; refine Fact.mk fun hL => ?_; (try simp only [List.length_map, maxLen] at hL)) | (guard_target = Branch _ _ _; (first | refine Branch.dec ?_ ?_ | refine Branch.beq ?_ ?_ | refine Branch.bne ?_ ?_ | refine Branch.ndec ?_ ?_ | refine Branch.nb ?_ ?_ | refine Branch.mk ?_ ?_) <;> intro h <;> (try simp only [List.length_map] at h) <;> (try omega) <;> (try contradiction)) | (guard_target = CallN _ 6 _ _ _ _; refine CallN.pure _ _ rfl (lg) rfl _ rfl ?_) | (guard_target = CallN _ 7 _ _ _ _; refine CallN.gen [] _ _ _ rfl (c1) rfl rfl _ rfl ?_) | (guard_target = CallN _ 8 _ _ _ _; refine CallN.gen [] _ _ _ rfl (c2) rfl rfl _ rfl ?_) | (guard_target = CallN _ 9 _ _ _ _; (first | refine CallN.pure _ _ rfl (m1 i (by omega)) rfl _ rfl ?_ | ((obtain rfl : ks = l.filter (premB w) := (by rw [ha.2, List.take_of_length_le (by omega)])); refine CallN.pure _ _ rfl m2 rfl _ rfl ?_))) | (guard_target = CallN _ 10 _ _ _ _; refine CallN.pure _ _ rfl u1 rfl _ rfl ?_) | (guard_target = CallN _ 11 _ _ _ _; refine CallN.pure _ _ rfl u2 rfl _ rfl ?_) | (guard_target = CallN _ 12 _ _ _ _; (first | refine CallN.pure _ _ rfl (t1 s (by omega)) rfl _ rfl ?_ | refine CallN.pure _ _ rfl (t2 r'.st (by omega) (by omega)) rfl _ rfl ?_)) | (guard_target = CallN _ 13 _ _ _ _; (obtain ⟨c, r', hr, hcl⟩ := hrun s (by omega); rcases Decidable.em (c = 0) with h0 | h0 <;> (first | (rw [if_pos h0] at hcl; subst h0) | rw [if_neg h0] at hcl) <;> refine CallN.gen [] _ _ _ rfl hcl rfl rfl _ rfl ?_)) | (guard_target = Arith _ _ _; refine Arith.fit (wrap_fit (by first | omega | (simp only [List.length_map]; omega)) (by first | omega | (simp only [List.length_map]; omega))) ?_) | (guard_target = Arith _ _ _; refine Arith.fit (by decide) ?_) | (guard_target = Index _ _ _; first | refine Index.mk _ (idx_getD (d := pn0) (i := i) (by omega)) ?_ | refine Index.mk _ (idx_getD (l := w.atoms) (d := 0) (i := s) (by omega)) ?_ | refine Index.mk _ (idx_getD (l := w.atoms) (d := 0) (i := r'.st.toNat) (by omega)) ?_ | refine Index.mk _ (idx_map (by omega)) ?_) | (guard_target = Need (_ = true) _; refine Need.mk (by first | kernel_rfl | rfl) ?_) | (guard_target = LinkV _ _ _; first  | refine LinkV.no ?_) | (guard_target = GhO _ _ _ _; refine GhO.go ?_) | (guard_target = Need _ _; refine Need.mk (by first | ((simp only [List.length_map, List.length_cons, List.length_nil, maxLen]; constructor <;> omega)) | omega | (simp only [List.length_map]; omega)) ?_))
  all_goals first | rfl | trivial | (exfalso; obtain ⟨g1, g2⟩ := core (by assumption) s (by omega) (by assumption) r' hr; first | omega | (rw [h] at g2; cases g2) | contradiction)
end Go.Proofs.YtlfigjkddnncgaaGreat
