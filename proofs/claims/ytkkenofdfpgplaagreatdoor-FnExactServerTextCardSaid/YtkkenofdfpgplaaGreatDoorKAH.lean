/- Contract of the reference's function that counts down the nodes of a proof. No conditions. -/
import Derived.Test.YtkkenofdfpgplaaGreatDoorKAG
namespace Go.Proofs.YtkkenofdfpgplaaGreatDoor
open Go Go.KA Go.Proofs
set_option maxHeartbeats 16000000
set_option maxRecDepth 100000
structure Cnt (f : Int → Int) (s k : Nat) : Prop where
  iff : ∀ m, 0 ≤ f m ↔ (s : Int) ≤ m
  eq : ∀ m, 0 ≤ f m → f m = m - s
  lo : ∀ m, min m 0 - k ≤ f m
  hi : ∀ m, f m ≤ m
theorem Cnt.id : Cnt (fun m => m) 0 0 := ⟨fun m => by simp, fun m _ => by simp, fun m => by omega, fun m => Int.le_refl _⟩
theorem Cnt.comp {f g : Int → Int} {s t k j : Nat} (hf : Cnt f s k) (hg : Cnt g t j) : Cnt (fun m => g (f m)) (s + t) (k + j) := by
  refine ⟨fun m => ?_, fun m h => ?_, fun m => ?_, fun m => ?_⟩
  · have h1 := hf.iff m
    have h2 := hg.iff (f m)
    have h3 := hf.eq m
    constructor
    · intro h
      have := h2.1 h
      have h4 := h3 (by omega)
      omega
    · intro h
      refine h2.2 ?_
      have h4 := h3 (h1.2 (by omega))
      omega
  · have h2 := (hg.iff (f m)).1 h
    have h3 := hf.eq m (by omega)
    have h4 := hg.eq (f m) h
    show g (f m) = _
    omega
  · have h1 := hf.lo m
    have h2 := hg.lo (f m)
    omega
  · have h1 := hf.hi m
    have h2 := hg.hi (f m)
    omega
theorem Cnt.guard {f : Int → Int} {s k : Nat} (hf : Cnt f s k) : Cnt (fun m => if m < 0 then m else f m) s k := by
  refine ⟨fun m => ?_, fun m h => ?_, fun m => ?_, fun m => ?_⟩ <;> (try dsimp only at *)
  · have := hf.iff m
    by_cases hm : m < 0
    · rw [if_pos hm]; omega
    · rw [if_neg hm]; exact this
  · by_cases hm : m < 0
    · rw [if_pos hm] at h; omega
    · rw [if_neg hm] at h ⊢; exact hf.eq m h
  · have := hf.lo m
    by_cases hm : m < 0
    · rw [if_pos hm]; omega
    · rw [if_neg hm]; exact this
  · have := hf.hi m
    by_cases hm : m < 0
    · rw [if_pos hm]; omega
    · rw [if_neg hm]; exact this
mutual
theorem leftE_cnt : ∀ e : XExpr, (∀ m, 0 ≤ leftE e m ↔ (esz e : Int) ≤ m) ∧ (∀ m, 0 ≤ leftE e m → leftE e m = m - esz e)
  | .mk k n kids => by
    have h := leftS_cnt kids
    have he : esz (.mk k n kids) = 1 + bsum esz kids := esz_eq _
    refine ⟨fun m => ?_, fun m hm => ?_⟩
    · show 0 ≤ leftS kids (m - 1) ↔ _
      have := h.1 (m - 1)
      omega
    · have h2 : leftE (.mk k n kids) m = leftS kids (m - 1) := rfl
      rw [h2] at hm ⊢
      have := h.2 (m - 1) hm
      omega
theorem leftS_cnt : ∀ l : List XExpr, (∀ m, 0 ≤ leftS l m ↔ (bsum esz l : Int) ≤ m) ∧ (∀ m, 0 ≤ leftS l m → leftS l m = m - bsum esz l)
  | [] => ⟨fun m => by simp [leftS, bsum], fun m _ => by simp [leftS, bsum]⟩
  | x :: xs => by
    have h1 := leftE_cnt x
    have h2 := leftS_cnt xs
    have he : bsum esz (x :: xs) = esz x + bsum esz xs := rfl
    refine ⟨fun m => ?_, fun m hm => ?_⟩
    · have a1 := h1.1 m
      have a2 := h1.2 m
      have a3 := h2.1 (leftE x m)
      have hp : 1 ≤ esz x := Nat.le_add_left _ _
      simp only [leftS]
      by_cases hm : m < 0
      · rw [if_pos hm]; omega
      · rw [if_neg hm]
        constructor
        · intro h
          have := a3.1 h
          have := a2 (by omega)
          omega
        · intro h
          have := a2 (a1.2 (by omega))
          exact a3.2 (by omega)
    · have a1 := h1.1 m
      have a2 := h1.2 m
      have a3 := h2.1 (leftE x m)
      have a4 := h2.2 (leftE x m)
      simp only [leftS] at hm ⊢
      by_cases hm0 : m < 0
      · rw [if_pos hm0] at hm; omega
      · rw [if_neg hm0] at hm ⊢
        have := a3.1 hm
        have := a2 (by omega)
        have := a4 hm
        omega
end
theorem leftE_low (e : XExpr) {m : Int} (h : m < 0) : leftE e m = m - 1 := by rw [leftE_eq, leftS_neg (by omega)]
theorem cntE (e : XExpr) : Cnt (leftE e) (esz e) 1 := by
  refine ⟨(leftE_cnt e).1, (leftE_cnt e).2, fun m => ?_, fun m => ?_⟩
  · by_cases h : m < 0
    · rw [leftE_low e h]; omega
    · have := leftE_range e m (by omega); omega
  · by_cases h : m < 0
    · rw [leftE_low e h]; omega
    · have := leftE_range e m (by omega); omega
def lE (l : List XExpr) (m : Int) : Int := l.foldl (fun m e => leftE e m) m
theorem lE_next {l : List XExpr} {i : Nat} (h : i < l.length) (m : Int) : lE (l.take (i + 1)) m = leftE l[i] (lE (l.take i) m) := by
  unfold lE
  rw [List.take_add_one, List.getElem?_eq_getElem h, List.foldl_append]
  rfl
theorem cntL : ∀ l : List XExpr, Cnt (lE l) (bsum esz l) l.length
  | [] => Cnt.id
  | x :: xs => by
    have := (cntE x).comp (cntL xs)
    have e : bsum esz (x :: xs) = esz x + bsum esz xs := rfl
    rw [e, List.length_cons, Nat.add_comm xs.length 1]
    exact this
def lS (s : XProofStep) (m : Int) : Int := lE s.acts (lE s.tests m)
def lSs : List XProofStep → Int → Int
  | [], m => m
  | s :: r, m => if m < 0 then m else lSs r (lS s m)
def lC (c : XClaim) (m : Int) : Int := lSs c.steps (leftE c.right (leftE c.left m))
def lCs : List XClaim → Int → Int
  | [], m => m
  | c :: r, m => if m < 0 then m else lCs r (lC c m)
theorem cntS (s : XProofStep) : Cnt (lS s) (psStep s) (s.tests.length + s.acts.length) := (cntL s.tests).comp (cntL s.acts)
theorem cntSs : ∀ l : List XProofStep, ∃ k, Cnt (lSs l) (bsum psStep l) k
  | [] => ⟨0, Cnt.id⟩
  | s :: r => by
    obtain ⟨k, h⟩ := cntSs r
    exact ⟨_, ((cntS s).comp h).guard⟩
theorem cntC (c : XClaim) : ∃ k, Cnt (lC c) (psClaim c) k := by
  obtain ⟨k, h⟩ := cntSs c.steps
  exact ⟨_, ((cntE c.left).comp (cntE c.right)).comp h⟩
theorem cntCs : ∀ l : List XClaim, ∃ k, Cnt (lCs l) (bsum psClaim l) k
  | [] => ⟨0, Cnt.id⟩
  | c :: r => by
    obtain ⟨k1, h1⟩ := cntC c
    obtain ⟨k2, h2⟩ := cntCs r
    exact ⟨_, (h1.comp h2).guard⟩
theorem lSs_append : ∀ (l r : List XProofStep) (m : Int), lSs (l ++ r) m = lSs r (lSs l m)
  | [], r, m => rfl
  | s :: l, r, m => by
    simp only [List.cons_append, lSs]
    by_cases h : m < 0
    · rw [if_pos h, if_pos h]; cases r <;> simp [lSs, h]
    · rw [if_neg h, if_neg h, lSs_append l r]
theorem lCs_append : ∀ (l r : List XClaim) (m : Int), lCs (l ++ r) m = lCs r (lCs l m)
  | [], r, m => rfl
  | s :: l, r, m => by
    simp only [List.cons_append, lCs]
    by_cases h : m < 0
    · rw [if_pos h, if_pos h]; cases r <;> simp [lCs, h]
    · rw [if_neg h, if_neg h, lCs_append l r]
theorem lSs_next {l : List XProofStep} {i : Nat} (h : i < l.length) {m : Int} (hm : 0 ≤ lSs (l.take i) m) : lSs (l.take (i + 1)) m = lS l[i] (lSs (l.take i) m) := by
  rw [List.take_add_one, List.getElem?_eq_getElem h, lSs_append]
  simp only [Option.toList_some, lSs]
  rw [if_neg (by omega)]
theorem lCs_next {l : List XClaim} {i : Nat} (h : i < l.length) {m : Int} (hm : 0 ≤ lCs (l.take i) m) : lCs (l.take (i + 1)) m = lC l[i] (lCs (l.take i) m) := by
  rw [List.take_add_one, List.getElem?_eq_getElem h, lCs_append]
  simp only [Option.toList_some, lCs]
  rw [if_neg (by omega)]
theorem lSs_stop {l : List XProofStep} {i : Nat} {m : Int} (hm : lSs (l.take i) m < 0) : lSs l m = lSs (l.take i) m := by
  conv => lhs; rw [← List.take_append_drop i l, lSs_append]
  cases l.drop i <;> simp [lSs, hm]
theorem lCs_stop {l : List XClaim} {i : Nat} {m : Int} (hm : lCs (l.take i) m < 0) : lCs l m = lCs (l.take i) m := by
  conv => lhs; rw [← List.take_append_drop i l, lCs_append]
  cases l.drop i <;> simp [lCs, hm]
theorem l01Left_low (e : XExpr) (left : Int) (h0 : -1099511627776 ≤ left) (h1 : left < 0) : CallF Tryz.prog 106 [.c (.rp 3 (encExpr e)), I left] (I (leftE e left)) := by
  rw [encExpr_eq, leftE_low e h1]
  refine callF_of_vc htb hm Tryz.func106 rfl rfl rfl rfl (ann := fun _ => none) (gh := fun _ => false) ?_
  repeat' ((conv => whnf); first | (guard_target = Done _; refine Done.mk ?_; first | (rfl; done) | skip) | (guard_target = RetX _ _; refine RetX.mk ?_ ?_) | (guard_target =~ LoopE 3 _ _ _ _ _ _; refine LoopE.mk { α := Nat, keep := [0], ov := fun i => [(1, I (left - 1)), (5, I i)], φ := fun i => i = 0, μ := fun i => 0 } (LoopN.mk (0 : Nat) (by exact rfl) (by (repeat' ((conv => whnf) <;> (first | exact trivial | refine ⟨?_, ?_⟩ | kernel_rfl))); done) (by (repeat' ((conv => whnf) <;> (first | exact trivial | refine ⟨?_, ?_⟩ | kernel_rfl))); done) (by (repeat' ((conv => whnf) <;> (first | exact trivial | refine ⟨?_, ?_⟩ | exact rfl | (simp only [List.map_append, List.map_cons, List.map_nil, List.map_set]; first | done | rfl)))); done) (fun (i : Nat) ha => ?_) (by intro A; first | rfl | (obtain ⟨_, _⟩ := A; rfl) | (obtain ⟨_, _, _⟩ := A; rfl))); have ha : i = 0 := ha) | (guard_target = Fact _ _; refine Fact.mk fun hL => ?_; (try simp only [List.length_map, maxLen] at hL)) | (guard_target = Branch _ _ _; (first | refine Branch.dec ?_ ?_ | refine Branch.beq ?_ ?_ | refine Branch.bne ?_ ?_ | refine Branch.ndec ?_ ?_ | refine Branch.nb ?_ ?_ | refine Branch.mk ?_ ?_) <;> intro h <;> (try simp only [List.length_map] at h) <;> (try omega) <;> (try contradiction)) | (guard_target = Arith _ _ _; refine Arith.fit (wrap_fit (by first | omega | (simp only [List.length_map]; omega)) (by first | omega | (simp only [List.length_map]; omega))) ?_) | (guard_target = Arith _ _ _; refine Arith.fit (by decide) ?_) | (guard_target = Index _ _ _; first  | refine Index.mk _ (idx_map (by omega)) ?_) | (guard_target = Need (_ = true) _; refine Need.mk (by first | kernel_rfl | rfl) ?_) | (guard_target = LinkV _ _ _; first  | refine LinkV.no ?_) | (guard_target = GhO _ _ _ _; refine GhO.go ?_) | (guard_target = Need _ _; refine Need.mk (by first  | omega | (simp only [List.length_map]; omega)) ?_))
theorem l01Left_any (e : XExpr) (left : Int) (h0 : -1099511627776 ≤ left) (h1 : left ≤ 1048576) : CallF Tryz.prog 106 [.c (.rp 3 (encExpr e)), I left] (I (leftE e left)) := by
  by_cases h : left < 0
  · exact l01Left_low e left h0 h
  · exact l01Left_ok e left (by omega) h1
abbrev s0 : XProofStep := ⟨0, false, [], [], []⟩
theorem l08Left_ok (p : XProof) (hl : budProof p ≤ 1048576) (left : Int) (h0 : 0 ≤ left) (h1 : left ≤ 1048576) : CallF Tryz.prog 83 [.c (.rp 3 (encProof p)), I left] (I (lCs p.claims left)) := by
  have hcb : ∀ i (h : i < p.claims.length), budClaim (p.claims.getD i c0) ≤ 1048576 := fun i h => by
    rw [getD_eq h]
    have := budS_mem budClaim (List.getElem_mem h)
    simp only [budProof] at hl
    omega
  have hsb : ∀ i (h : i < p.claims.length) k (h : k < (p.claims.getD i c0).steps.length), ((p.claims.getD i c0).steps.getD k s0).tests.length ≤ 1048576 ∧ ((p.claims.getD i c0).steps.getD k s0).acts.length ≤ 1048576 := fun i h k hk => by
    have h2 := hcb i h
    rw [getD_eq hk]
    have h3 := budS_mem budProofStep (List.getElem_mem hk)
    simp only [budClaim] at h2
    generalize (p.claims.getD i c0).steps[k] = q at *
    have h4 := budS_len budExpr q.tests
    have h5 := budS_len budExpr q.acts
    simp only [budProofStep] at h3
    omega
  have hlt : ∀ (c : XClaim) (m : Int), -1099511627776 ≤ m → m ≤ 1048576 → CallF Tryz.prog 106 [.c (.rp 9 (encClaim c)), I m] (I (leftE c.left m)) := fun c m g1 g2 => by
    have := l01Left_any c.left m g1 g2
    rw [encExpr_eq] at this
    exact this.cut (.cut (k := 3) (by omega) (.same .nil))
  have hrt : ∀ (c : XClaim) (m : Int), -1099511627776 ≤ m → m ≤ 1048576 → CallF Tryz.prog 106 [.c (.rp 6 ((encClaim c).drop 3)), I m] (I (leftE c.right m)) := fun c m g1 g2 => by
    have := l01Left_any c.right m g1 g2
    rw [encExpr_eq] at this
    exact this.cut (.cut (k := 3) (by omega) (.same .nil))
  have hfin : ∀ (c : XClaim) (k : Nat) (n m : Int), k ≤ c.steps.length → n = lSs (c.steps.take k) (leftE c.right (leftE c.left m)) → (¬ (k : Int) < (c.steps.length : Int) ∨ n < 0) → lSs (c.steps.take k) (leftE c.right (leftE c.left m)) = lC c m := by
    intro c k n m g1 g2 g3
    unfold lC
    rcases g3 with g3 | g3
    · rw [List.take_of_length_le (by omega)]
    · exact (lSs_stop (by rw [← g2]; exact g3)).symm
  refine callF_of_vc htb hm Tryz.func83 rfl rfl rfl rfl (ann := fun _ => none) (gh := fun _ => false) ?_
  repeat' ((conv => whnf); first | (guard_target = Done _; refine Done.mk ?_; first | ((have e := ha.2.1; first | (rw [lCs_stop (i := i) (by rw [← e]; omega), ← e]; rfl) | (rw [List.take_of_length_le (by omega)] at e; rw [← e]; rfl)); done) | skip) | (guard_target = RetX _ _; refine RetX.mk ?_ ?_) | (guard_target =~ LoopE 2 _ _ _ _ _ _; refine LoopE.mk { α := Nat × Int, keep := [0], ov := fun ⟨i, m⟩ => [(1, I m), (5, I i)], φ := fun ⟨i, m⟩ => i ≤ p.claims.length ∧ m = lCs (p.claims.take i) left ∧ -4000000 ≤ m ∧ m ≤ 1048576, μ := fun ⟨i, m⟩ => p.claims.length - i } (LoopN.mk ((0, left) : Nat × Int) (by exact ⟨Nat.zero_le _, rfl, by show -4000000 ≤ left; omega, h1⟩) (by (repeat' ((conv => whnf) <;> (first | exact trivial | refine ⟨?_, ?_⟩ | kernel_rfl))); done) (by (repeat' ((conv => whnf) <;> (first | exact trivial | refine ⟨?_, ?_⟩ | kernel_rfl))); done) (by (repeat' ((conv => whnf) <;> (first | exact trivial | refine ⟨?_, ?_⟩ | exact rfl | (simp only [List.map_append, List.map_cons, List.map_nil, List.map_set]; first | done | rfl)))); done) (fun A ha => ?_) (by intro A; first | rfl | (obtain ⟨_, _⟩ := A; rfl) | (obtain ⟨_, _, _⟩ := A; rfl))); obtain ⟨i, m⟩ := A; have ha : i ≤ p.claims.length ∧ m = lCs (p.claims.take i) left ∧ -4000000 ≤ m ∧ m ≤ 1048576 := ha) | (guard_target =~ LoopE 7 _ _ _ _ _ _; refine LoopE.mk { α := Nat × Int, keep := [0, 5, 6], ov := fun ⟨k, n⟩ => [(1, I n), (7, I k)], φ := fun ⟨k, n⟩ => k ≤ (p.claims.getD i c0).steps.length ∧ n = lSs ((p.claims.getD i c0).steps.take k) (leftE (p.claims.getD i c0).right (leftE (p.claims.getD i c0).left m)) ∧ -4000000 ≤ n ∧ n ≤ 1048576, μ := fun ⟨k, n⟩ => (p.claims.getD i c0).steps.length - k } (LoopN.mk ((0, leftE (p.claims.getD i c0).right (leftE (p.claims.getD i c0).left m)) : Nat × Int) (by have a1 := (cntE (p.claims.getD i c0).left).lo m; have a2 := (cntE (p.claims.getD i c0).left).hi m; have a3 := (cntE (p.claims.getD i c0).right).lo (leftE (p.claims.getD i c0).left m); have a4 := (cntE (p.claims.getD i c0).right).hi (leftE (p.claims.getD i c0).left m); exact ⟨Nat.zero_le _, rfl, by show -4000000 ≤ leftE _ _; omega, by show leftE _ _ ≤ 1048576; omega⟩) (by (repeat' ((conv => whnf) <;> (first | exact trivial | refine ⟨?_, ?_⟩ | kernel_rfl))); done) (by (repeat' ((conv => whnf) <;> (first | exact trivial | refine ⟨?_, ?_⟩ | kernel_rfl))); done) (by (repeat' ((conv => whnf) <;> (first | exact trivial | refine ⟨?_, ?_⟩ | exact rfl | (simp only [List.map_append, List.map_cons, List.map_nil, List.map_set]; first | done | rfl)))); done) (fun A ha => ?_) (by intro A; first | rfl | (obtain ⟨_, _⟩ := A; rfl) | (obtain ⟨_, _, _⟩ := A; rfl))); obtain ⟨k, n⟩ := A; have ha : k ≤ (p.claims.getD i c0).steps.length ∧ n = lSs ((p.claims.getD i c0).steps.take k) (leftE (p.claims.getD i c0).right (leftE (p.claims.getD i c0).left m)) ∧ -4000000 ≤ n ∧ n ≤ 1048576 := ha) | (guard_target =~ LoopE 10 _ _ _ _ _ _; refine LoopE.mk { α := Nat × Int, keep := [0, 5, 6, 7], ov := fun ⟨x, o⟩ => [(1, I o), (8, I x)], φ := fun ⟨x, o⟩ => x ≤ ((p.claims.getD i c0).steps.getD k s0).tests.length ∧ o = lE (((p.claims.getD i c0).steps.getD k s0).tests.take x) n ∧ -(x : Int) ≤ o ∧ o ≤ 1048576, μ := fun ⟨x, o⟩ => ((p.claims.getD i c0).steps.getD k s0).tests.length - x } (LoopN.mk ((0, n) : Nat × Int) (by exact ⟨Nat.zero_le _, rfl, by show -((0 : Nat) : Int) ≤ n; omega, ha.2.2.2⟩) (by (repeat' ((conv => whnf) <;> (first | exact trivial | refine ⟨?_, ?_⟩ | kernel_rfl))); done) (by (repeat' ((conv => whnf) <;> (first | exact trivial | refine ⟨?_, ?_⟩ | kernel_rfl))); done) (by (repeat' ((conv => whnf) <;> (first | exact trivial | refine ⟨?_, ?_⟩ | exact rfl | (simp only [List.map_append, List.map_cons, List.map_nil, List.map_set]; first | done | rfl)))); done) (fun A ha => ?_) (by intro A; first | rfl | (obtain ⟨_, _⟩ := A; rfl) | (obtain ⟨_, _, _⟩ := A; rfl))); obtain ⟨x, o⟩ := A; have ha : x ≤ ((p.claims.getD i c0).steps.getD k s0).tests.length ∧ o = lE (((p.claims.getD i c0).steps.getD k s0).tests.take x) n ∧ -(x : Int) ≤ o ∧ o ≤ 1048576 := ha) | (guard_target =~ LoopE 14 _ _ _ _ _ _; refine LoopE.mk { α := Nat × Int, keep := [0, 5, 6, 7], ov := fun ⟨y, q⟩ => [(1, I q), (9, I y)], φ := fun ⟨y, q⟩ => y ≤ ((p.claims.getD i c0).steps.getD k s0).acts.length ∧ q = lE (((p.claims.getD i c0).steps.getD k s0).acts.take y) (lE ((p.claims.getD i c0).steps.getD k s0).tests n) ∧ -(y : Int) - (((p.claims.getD i c0).steps.getD k s0).tests.length : Int) ≤ q ∧ q ≤ 1048576, μ := fun ⟨y, q⟩ => ((p.claims.getD i c0).steps.getD k s0).acts.length - y } (LoopN.mk ((0, o) : Nat × Int) (by have e := ha.2.1; rw [List.take_of_length_le (by omega)] at e; exact ⟨Nat.zero_le _, e, by show -((0 : Nat) : Int) - _ ≤ o; omega, ha.2.2.2⟩) (by (repeat' ((conv => whnf) <;> (first | exact trivial | refine ⟨?_, ?_⟩ | kernel_rfl))); done) (by (repeat' ((conv => whnf) <;> (first | exact trivial | refine ⟨?_, ?_⟩ | kernel_rfl))); done) (by (repeat' ((conv => whnf) <;> (first | exact trivial | refine ⟨?_, ?_⟩ | exact rfl | (simp only [List.map_append, List.map_cons, List.map_nil, List.map_set]; first | done | rfl)))); done) (fun A ha => ?_) (by intro A; first | rfl | (obtain ⟨_, _⟩ := A; rfl) | (obtain ⟨_, _, _⟩ := A; rfl))); obtain ⟨y, q⟩ := A; have ha : y ≤ ((p.claims.getD i c0).steps.getD k s0).acts.length ∧ q = lE (((p.claims.getD i c0).steps.getD k s0).acts.take y) (lE ((p.claims.getD i c0).steps.getD k s0).tests n) ∧ -(y : Int) - (((p.claims.getD i c0).steps.getD k s0).tests.length : Int) ≤ q ∧ q ≤ 1048576 := ha) | (guard_target = Gh _ _ _ _ _; refine Gh.go ⟨((x + 1, leftE ((p.claims.getD i c0).steps.getD k s0).tests[x] o) : Nat × Int), (by have hx : x < ((p.claims.getD i c0).steps.getD k s0).tests.length := (by omega); have a1 := (cntE ((p.claims.getD i c0).steps.getD k s0).tests[x]).lo o; have a2 := (cntE ((p.claims.getD i c0).steps.getD k s0).tests[x]).hi o; exact ⟨hx, (by show leftE _ o = _; rw [lE_next hx, ← ha.2.1]), (by show -((x + 1 : Nat) : Int) ≤ leftE _ o; omega), (by show leftE _ o ≤ _; omega)⟩), (by first | (show _ < _; simp only []; omega) | omega | (simp; omega)), (by (repeat' ((conv => whnf) <;> (first | exact trivial | refine ⟨?_, ?_⟩ | kernel_rfl))); done), (by (repeat' ((conv => whnf) <;> (first | exact trivial | refine ⟨?_, ?_⟩ | kernel_rfl))); done), (by (repeat' ((conv => whnf) <;> (first | exact trivial | refine ⟨?_, ?_⟩ | exact rfl | (simp only [List.map_append, List.map_cons, List.map_nil, List.map_set]; first | done | rfl)))); done)⟩) | (guard_target = Gh _ _ _ _ _; refine Gh.go ⟨((y + 1, leftE ((p.claims.getD i c0).steps.getD k s0).acts[y] q) : Nat × Int), (by have hx : y < ((p.claims.getD i c0).steps.getD k s0).acts.length := (by omega); have a1 := (cntE ((p.claims.getD i c0).steps.getD k s0).acts[y]).lo q; have a2 := (cntE ((p.claims.getD i c0).steps.getD k s0).acts[y]).hi q; exact ⟨hx, (by show leftE _ q = _; rw [lE_next hx, ← ha.2.1]), (by show -((y + 1 : Nat) : Int) - _ ≤ leftE _ q; omega), (by show leftE _ q ≤ _; omega)⟩), (by first | (show _ < _; simp only []; omega) | omega | (simp; omega)), (by (repeat' ((conv => whnf) <;> (first | exact trivial | refine ⟨?_, ?_⟩ | kernel_rfl))); done), (by (repeat' ((conv => whnf) <;> (first | exact trivial | refine ⟨?_, ?_⟩ | kernel_rfl))); done), (by (repeat' ((conv => whnf) <;> (first | exact trivial | refine ⟨?_, ?_⟩ | exact rfl | (simp only [List.map_append, List.map_cons, List.map_nil, List.map_set]; first | done | rfl)))); done)⟩) | (guard_target = Gh _ _ _ _ _; refine Gh.go ⟨((k + 1, q) : Nat × Int), (by have hk : k < (p.claims.getD i c0).steps.length := (by omega); have h9 := ‹k ≤ _ ∧ n = _ ∧ _›; have e := ha.2.1; rw [List.take_of_length_le (by omega)] at e; have a1 := hsb i (by omega) k hk; exact ⟨hk, (by show q = _; rw [lSs_next hk (by rw [← h9.2.1]; omega), ← h9.2.1, e, ← getD_eq (d := s0) hk]; rfl), (by show -4000000 ≤ q; omega), ha.2.2.2⟩), (by first | (show _ < _; simp only []; omega) | omega | (simp; omega)), (by (repeat' ((conv => whnf) <;> (first | exact trivial | refine ⟨?_, ?_⟩ | kernel_rfl))); done), (by (repeat' ((conv => whnf) <;> (first | exact trivial | refine ⟨?_, ?_⟩ | kernel_rfl))); done), (by (repeat' ((conv => whnf) <;> (first | exact trivial | refine ⟨?_, ?_⟩ | exact rfl | (simp only [List.map_append, List.map_cons, List.map_nil, List.map_set]; first | done | rfl)))); done)⟩) | (guard_target = Gh _ _ _ _ _; refine Gh.go ⟨((i + 1, n) : Nat × Int), (by have hi : i < p.claims.length := (by omega); have h9 := ‹i ≤ _ ∧ m = _ ∧ _›; exact ⟨hi, (by show n = _; rw [lCs_next hi (by rw [← h9.2.1]; omega), ← h9.2.1, ← getD_eq (d := c0) hi, ha.2.1]; exact hfin _ k n _ ha.1 ha.2.1 (by omega)), ha.2.2.1, ha.2.2.2⟩), (by first | (show _ < _; simp only []; omega) | omega | (simp; omega)), (by (repeat' ((conv => whnf) <;> (first | exact trivial | refine ⟨?_, ?_⟩ | kernel_rfl))); done), (by (repeat' ((conv => whnf) <;> (first | exact trivial | refine ⟨?_, ?_⟩ | kernel_rfl))); done), (by (repeat' ((conv => whnf) <;> (first | exact trivial | refine ⟨?_, ?_⟩ | exact rfl | (simp only [List.map_append, List.map_cons, List.map_nil, List.map_set]; first | done | rfl)))); done)⟩) | (guard_target = Fact _ _; refine Fact.mk fun hL => ?_; (try simp only [List.length_map, maxLen] at hL)) | (guard_target = Branch _ _ _; (first | refine Branch.dec ?_ ?_ | refine Branch.beq ?_ ?_ | refine Branch.bne ?_ ?_ | refine Branch.ndec ?_ ?_ | refine Branch.nb ?_ ?_ | refine Branch.mk ?_ ?_) <;> intro h <;> (try simp only [List.length_map] at h) <;> (try omega) <;> (try contradiction)) | (guard_target = CallN _ 106 _ _ _ _; (first | refine CallN.pure _ _ rfl (hlt (p.claims.getD i c0) m (by omega) (by omega)) rfl _ rfl ?_ | refine CallN.pure _ _ rfl (hrt (p.claims.getD i c0) (leftE (p.claims.getD i c0).left m) (by have a1 := (cntE (p.claims.getD i c0).left).lo m; omega) (by have a1 := (cntE (p.claims.getD i c0).left).hi m; omega)) rfl _ rfl ?_ | refine CallN.pure _ _ rfl (l01Left_any _ o (by have a1 := hsb i (by omega) k (by omega); omega) (by omega)) rfl _ rfl ?_ | refine CallN.pure _ _ rfl (l01Left_any _ q (by have a1 := hsb i (by omega) k (by omega); omega) (by omega)) rfl _ rfl ?_)) | (guard_target = Arith _ _ _; refine Arith.fit (wrap_fit (by (first | omega | (have a1 := hsb i (by omega) k (by omega); omega))) (by (first | omega | (have a1 := hsb i (by omega) k (by omega); omega)))) ?_) | (guard_target = Arith _ _ _; refine Arith.fit (by decide) ?_) | (guard_target = Index _ _ _; first | refine Index.mk _ (idx_getD (d := c0) (i := i) (by omega)) ?_ | refine Index.mk _ (idx_getD (d := s0) (i := k) (by omega)) ?_ | refine Index.mk _ (idx_map (i := x) (by omega)) ?_ | refine Index.mk _ (idx_map (i := y) (by omega)) ?_ | refine Index.mk _ (idx_map (by omega)) ?_) | (guard_target = Need (_ = true) _; refine Need.mk (by first | kernel_rfl | rfl) ?_) | (guard_target = LinkV _ _ _; first  | refine LinkV.no ?_) | (guard_target = GhO _ _ _ _; refine GhO.go ?_) | (guard_target = Need _ _; refine Need.mk (by first  | omega | (simp only [List.length_map]; omega)) ?_))
end Go.Proofs.YtkkenofdfpgplaaGreatDoor
