/- Contracts of the functions that count the nodes of proofs, and that look whether rests are different. No conditions. -/
import Derived.Test.YtkkenofdfpgplaaGreatDoorKAF
namespace Go.Proofs.YtkkenofdfpgplaaGreatDoor
open Go Go.KA Go.Proofs
set_option maxHeartbeats 16000000
set_option maxRecDepth 100000
theorem bsum_all {α : Type} {f : α → Nat} {l : List α} {i : Nat} (h : ¬ i < l.length) : bsum f (l.take i) = bsum f l := by rw [List.take_of_length_le (by omega)]
theorem bsum_next {α : Type} {f : α → Nat} {l : List α} {i : Nat} (h : i < l.length) : bsum f (l.take (i + 1)) = bsum f (l.take i) + f l[i] := bsum_take (List.getElem?_eq_getElem h)
def esz (e : XExpr) : Nat := budExpr e + 1
theorem esz_eq (e : XExpr) : esz e = 1 + bsum esz e.kids := by
  have key : ∀ l : List XExpr, budExprS l = bsum esz l := by
    intro l
    induction l with
    | nil => rfl
    | cons x xs ih => simp only [budExprS, bsum, esz, ih]
  cases e
  simp only [esz, budExpr, key, XExpr.kids]
  omega
theorem ExprSize_all (e : XExpr) (hl : esz e ≤ 1048577) (hx : ∀ x ∈ e.kids, CallF Tryz.prog 113 [.a 3 (encExpr x)] (I (esz x))) : CallF Tryz.prog 113 [.a 3 (toldE e)] (I (esz e)) := by
  rw [esz_eq] at hl
  have hb := bsum_le (f := esz) e.kids
  refine callF_of_vc htb hm Tryz.func113 rfl rfl rfl rfl (ann := fun _ => none) (gh := fun _ => false) ?_
  repeat' ((conv => whnf); first | (guard_target = Done _; refine Done.mk ?_; first | (rw [esz_eq, ← bsum_all (l := e.kids) (i := i) (by omega)]; rfl; done) | skip) | (guard_target = RetX _ _; refine RetX.mk ?_ ?_) | (guard_target =~ LoopE 3 _ _ _ _ _ _; refine LoopE.mk { α := Nat, keep := [7, 8], ov := fun i => [(3, I (1 + bsum esz (e.kids.take i) : Nat)), (9, I i)], φ := fun i => i ≤ e.kids.length, μ := fun i => e.kids.length - i } (LoopN.mk (0 : Nat) (by exact Nat.zero_le _) (by (repeat' ((conv => whnf) <;> (first | exact trivial | refine ⟨?_, ?_⟩ | kernel_rfl))); done) (by (repeat' ((conv => whnf) <;> (first | exact trivial | refine ⟨?_, ?_⟩ | kernel_rfl))); done) (by (repeat' ((conv => whnf) <;> (first | exact trivial | refine ⟨?_, ?_⟩ | exact rfl | (simp only [List.map_append, List.map_cons, List.map_nil, List.map_set]; first | done | rfl)))); done) (fun (i : Nat) ha => ?_) (by intro A; first | rfl | (obtain ⟨_, _⟩ := A; rfl) | (obtain ⟨_, _, _⟩ := A; rfl))); have ha : i ≤ e.kids.length := ha) | (guard_target = Fact _ _; refine Fact.mk fun hL => ?_; (try simp only [List.length_map, maxLen] at hL)) | (guard_target = Branch _ _ _; (first | refine Branch.dec ?_ ?_ | refine Branch.beq ?_ ?_ | refine Branch.bne ?_ ?_ | refine Branch.ndec ?_ ?_ | refine Branch.nb ?_ ?_ | refine Branch.mk ?_ ?_) <;> intro h <;> (try simp only [List.length_map] at h) <;> (try omega) <;> (try contradiction)) | (guard_target = CallN _ 113 _ _ _ _; refine CallN.pure _ _ rfl (hx _ (List.getElem_mem (by omega))) rfl _ rfl ?_) | (guard_target = Arith _ _ _; refine Arith.fit (wrap_fit (by have := hb (i + 1); rw [bsum_next (by omega)] at this; omega) (by have := hb (i + 1); rw [bsum_next (by omega)] at this; omega)) ?_) | (guard_target = Gh _ _ _ _ _; refine Gh.go ⟨i + 1, (by omega), (by show _ < _; simp only []; omega), ⟨⟨congrArg I (by rw [bsum_next (by omega)]; omega), rfl⟩, ⟨rfl, rfl⟩, trivial⟩, (by first | exact ⟨⟨rfl, rfl⟩, ⟨rfl, rfl⟩, trivial⟩), (by first | exact trivial | exact ⟨⟨rfl, rfl⟩, trivial⟩ | exact ⟨⟨rfl, rfl⟩, ⟨rfl, rfl⟩, trivial⟩)⟩) | (guard_target = Arith _ _ _; refine Arith.fit (wrap_fit (by first | omega | (simp only [List.length_map]; omega)) (by first | omega | (simp only [List.length_map]; omega))) ?_) | (guard_target = Arith _ _ _; refine Arith.fit (by decide) ?_) | (guard_target = Index _ _ _; first | refine Index.mk _ (idx_map (i := i) (by omega)) ?_ | refine Index.mk _ (idx_map (by omega)) ?_) | (guard_target = Need (_ = true) _; refine Need.mk (by first | kernel_rfl | rfl) ?_) | (guard_target = LinkV _ _ _; first  | refine LinkV.no ?_) | (guard_target = GhO _ _ _ _; refine GhO.go ?_) | (guard_target = Need _ _; refine Need.mk (by first  | omega | (simp only [List.length_map]; omega)) ?_))
theorem ExprSize_ok (e : XExpr) (hl : esz e ≤ 1048577) : CallF Tryz.prog 113 [.a 3 (encExpr e)] (I (esz e)) := by
  rw [encExpr_eq]
  exact ExprSize_all e hl fun x _hx => ExprSize_ok x (by
    have := bsum_mem esz _hx
    rw [esz_eq] at hl
    omega)
  termination_by SizeOf.sizeOf e
  decreasing_by
    have := List.sizeOf_lt_of_mem _hx
    cases e
    simp only [XExpr.mk.sizeOf_spec]
    show SizeOf.sizeOf x < _
    simp only [XExpr.kids] at this
    omega

theorem esz_bsum : ∀ l : List XExpr, bsum esz l = budS budExpr l
  | [] => rfl
  | x :: xs => by
    have := esz_bsum xs
    simp only [budS] at this
    simp only [bsum, budS, esz, List.length_cons, this]
    omega
theorem sizes_ok (l : List XExpr) (hl : bsum esz l ≤ 1048577) : CallF Tryz.prog 114 [.c (.ro 3 (l.map encExpr))] (I (bsum esz l)) := by
  have hb := bsum_le (f := esz) l
  have hx : ∀ i (h : i < l.length), esz l[i] ≤ 1048577 := fun i h => Nat.le_trans (bsum_mem esz (List.getElem_mem h)) hl
  refine callF_of_vc htb hm Tryz.func114 rfl rfl rfl rfl (ann := fun _ => none) (gh := fun _ => false) ?_
  repeat' ((conv => whnf); first | (guard_target = Done _; refine Done.mk ?_; first | (rw [← bsum_all (l := l) (i := i) (by omega), ← ha.2]; rfl; done) | skip) | (guard_target = RetX _ _; refine RetX.mk ?_ ?_) | (guard_target =~ LoopE 3 _ _ _ _ _ _; refine LoopE.mk { α := Nat × Nat, keep := [6, 7], ov := fun ⟨i, m⟩ => [(3, I (m : Nat)), (8, I i)], φ := fun ⟨i, m⟩ => i ≤ l.length ∧ m = bsum esz (l.take i), μ := fun ⟨i, m⟩ => l.length - i } (LoopN.mk ((0, 0) : Nat × Nat) (by exact ⟨Nat.zero_le _, rfl⟩) (by (repeat' ((conv => whnf) <;> (first | exact trivial | refine ⟨?_, ?_⟩ | kernel_rfl))); done) (by (repeat' ((conv => whnf) <;> (first | exact trivial | refine ⟨?_, ?_⟩ | kernel_rfl))); done) (by (repeat' ((conv => whnf) <;> (first | exact trivial | refine ⟨?_, ?_⟩ | exact rfl | (simp only [List.map_append, List.map_cons, List.map_nil, List.map_set]; first | done | rfl)))); done) (fun A ha => ?_) (by intro A; first | rfl | (obtain ⟨_, _⟩ := A; rfl) | (obtain ⟨_, _, _⟩ := A; rfl))); obtain ⟨i, m⟩ := A; have ha : i ≤ l.length ∧ m = bsum esz (l.take i) := ha) | (guard_target = Gh _ _ _ _ _; refine Gh.go ⟨((i + 1, m + esz l[i]) : Nat × Nat), (by exact ⟨by show i + 1 ≤ _; omega, by show m + esz l[i] = _; rw [bsum_next (by omega), ha.2]⟩), (by first | (show _ < _; simp only []; omega) | omega | (simp; omega)), (by (repeat' ((conv => whnf) <;> (first | exact trivial | refine ⟨?_, ?_⟩ | kernel_rfl))); done), (by (repeat' ((conv => whnf) <;> (first | exact trivial | refine ⟨?_, ?_⟩ | kernel_rfl))); done), (by (repeat' ((conv => whnf) <;> (first | exact trivial | refine ⟨?_, ?_⟩ | exact rfl | (simp only [List.map_append, List.map_cons, List.map_nil, List.map_set]; first | done | rfl)))); done)⟩) | (guard_target = Fact _ _; refine Fact.mk fun hL => ?_; (try simp only [List.length_map, maxLen] at hL)) | (guard_target = Branch _ _ _; (first | refine Branch.dec ?_ ?_ | refine Branch.beq ?_ ?_ | refine Branch.bne ?_ ?_ | refine Branch.ndec ?_ ?_ | refine Branch.nb ?_ ?_ | refine Branch.mk ?_ ?_) <;> intro h <;> (try simp only [List.length_map] at h) <;> (try omega) <;> (try contradiction)) | (guard_target = CallN _ 113 _ _ _ _; refine CallN.pure _ _ rfl (ExprSize_ok _ (hx i (by omega))) rfl _ rfl ?_) | (guard_target = Arith _ _ _; refine Arith.fit (wrap_fit (by have := hb (i + 1); rw [bsum_next (by omega)] at this; omega) (by have := hb (i + 1); rw [bsum_next (by omega)] at this; omega)) ?_) | (guard_target = Arith _ _ _; refine Arith.fit (wrap_fit (by first | omega | (simp only [List.length_map]; omega)) (by first | omega | (simp only [List.length_map]; omega))) ?_) | (guard_target = Arith _ _ _; refine Arith.fit (by decide) ?_) | (guard_target = Index _ _ _; first | refine Index.mk _ (idx_map (i := i) (by omega)) ?_ | refine Index.mk _ (idx_map (by omega)) ?_) | (guard_target = Need (_ = true) _; refine Need.mk (by first | kernel_rfl | rfl) ?_) | (guard_target = LinkV _ _ _; first  | refine LinkV.no ?_) | (guard_target = GhO _ _ _ _; refine GhO.go ?_) | (guard_target = Need _ _; refine Need.mk (by first  | omega | (simp only [List.length_map]; omega)) ?_))
def psStep (s : XProofStep) : Nat := bsum esz s.tests + bsum esz s.acts
def psClaim (c : XClaim) : Nat := esz c.left + esz c.right + bsum psStep c.steps
def psize (p : XProof) : Nat := bsum psClaim p.claims
theorem bsum_mono {α : Type} {f g : α → Nat} : ∀ {l : List α}, (∀ x ∈ l, f x ≤ g x) → bsum f l ≤ bsum g l
  | [], _ => Nat.le_refl _
  | x :: xs, h => by
    have h1 := h x (by simp)
    have h2 := bsum_mono (f := f) (g := g) (l := xs) fun y hy => h y (by simp [hy])
    simp only [bsum]
    omega
theorem bsum_lin {α : Type} {f : α → Nat} {c d : Nat} : ∀ {l : List α}, bsum (fun x => c + d * f x) l = c * l.length + d * bsum f l
  | [] => by simp [bsum]
  | x :: xs => by
    simp only [bsum, List.length_cons, bsum_lin (l := xs), Nat.mul_add]
    omega
theorem psStep_le (s : XProofStep) : psStep s ≤ budProofStep s := by
  simp only [psStep, esz_bsum, budProofStep]
  omega
theorem psClaim_le (c : XClaim) : psClaim c ≤ budClaim c + 2 := by
  have h := bsum_mono (l := c.steps) fun s _ => psStep_le s
  simp only [psClaim, budClaim, budS, esz]
  omega
theorem psize_le (p : XProof) : psize p ≤ 2 * budProof p := by
  have h := bsum_mono (l := p.claims) (f := psClaim) (g := fun c => 2 + 1 * budClaim c) fun c _ => by have := psClaim_le c; omega
  rw [bsum_lin] at h
  simp only [psize, budProof, budS]
  omega
theorem sub_le {α : Type} {f : α → Nat} {l : List α} {i : Nat} (h : i < l.length) : bsum f (l.take i) + f l[i] ≤ bsum f l := by
  have := bsum_le (f := f) l (i + 1)
  rwa [bsum_next h] at this
theorem proofSize_ok (p : XProof) (hl : budProof p ≤ 1048576) : CallF Tryz.prog 94 [.a 3 (encProof p)] (I (psize p)) := by
  have hp := psize_le p
  have hcb : ∀ i (h : i < p.claims.length), budClaim (p.claims.getD i c0) ≤ 1048576 := fun i h => by
    rw [getD_eq h]
    have := budS_mem budClaim (List.getElem_mem h)
    simp only [budProof] at hl
    omega
  have hLf : ∀ c : XClaim, budClaim c ≤ 1048576 → CallF Tryz.prog 113 [.a 3 (toldE c.left)] (I (esz c.left)) := fun c h => by
    have := ExprSize_ok c.left (by simp only [budClaim] at h; simp only [esz]; omega)
    rwa [encExpr_eq] at this
  have hRt : ∀ c : XClaim, budClaim c ≤ 1048576 → CallF Tryz.prog 113 [.a 3 (toldE c.right)] (I (esz c.right)) := fun c h => by
    have := ExprSize_ok c.right (by simp only [budClaim] at h; simp only [esz]; omega)
    rwa [encExpr_eq] at this
  have hst : ∀ (c : XClaim), budClaim c ≤ 1048576 → ∀ k (h : k < c.steps.length), bsum esz c.steps[k].tests ≤ 1048577 ∧ bsum esz c.steps[k].acts ≤ 1048577 := fun c hc k h => by
    have h1 := budS_mem budProofStep (List.getElem_mem h)
    have h2 := psStep_le c.steps[k]
    simp only [budClaim] at hc
    simp only [psStep] at h2
    omega
  have hA : ∀ i, i < p.claims.length → bsum psClaim (p.claims.take i) + (esz (p.claims.getD i c0).left + esz (p.claims.getD i c0).right + bsum psStep (p.claims.getD i c0).steps) ≤ 2097152 := fun i h => by
    rw [getD_eq h]
    have h1 := sub_le (f := psClaim) h
    simp only [psize] at hp
    simp only [psClaim] at h1
    omega
  have hB : ∀ (c : XClaim) k (h : k < c.steps.length), bsum psStep (c.steps.take k) + (bsum esz c.steps[k].tests + bsum esz c.steps[k].acts) ≤ bsum psStep c.steps := fun c k h => sub_le (f := psStep) h
  refine callF_of_vc htb hm Tryz.func94 rfl rfl rfl rfl (ann := fun _ => none) (gh := fun _ => false) ?_
  repeat' ((conv => whnf); first | (guard_target = Done _; refine Done.mk ?_; first | (rw [psize, ← bsum_all (l := p.claims) (i := i) (by omega), ← ha.2]; rfl; done) | skip) | (guard_target = RetX _ _; refine RetX.mk ?_ ?_) | (guard_target =~ LoopE 3 _ _ _ _ _ _; refine LoopE.mk { α := Nat × Nat, keep := [9, 10], ov := fun ⟨i, m⟩ => [(3, I (m : Nat)), (11, I i)], φ := fun ⟨i, m⟩ => i ≤ p.claims.length ∧ m = bsum psClaim (p.claims.take i), μ := fun ⟨i, m⟩ => p.claims.length - i } (LoopN.mk ((0, 0) : Nat × Nat) (by exact ⟨Nat.zero_le _, rfl⟩) (by (repeat' ((conv => whnf) <;> (first | exact trivial | refine ⟨?_, ?_⟩ | kernel_rfl))); done) (by (repeat' ((conv => whnf) <;> (first | exact trivial | refine ⟨?_, ?_⟩ | kernel_rfl))); done) (by (repeat' ((conv => whnf) <;> (first | exact trivial | refine ⟨?_, ?_⟩ | exact rfl | (simp only [List.map_append, List.map_cons, List.map_nil, List.map_set]; first | done | rfl)))); done) (fun A ha => ?_) (by intro A; first | rfl | (obtain ⟨_, _⟩ := A; rfl) | (obtain ⟨_, _, _⟩ := A; rfl))); obtain ⟨i, m⟩ := A; have ha : i ≤ p.claims.length ∧ m = bsum psClaim (p.claims.take i) := ha) | (guard_target =~ LoopE 7 _ _ _ _ _ _; refine LoopE.mk { α := Nat × Nat, keep := [9, 10, 11, 25, 26], ov := fun ⟨k, n⟩ => [(3, I (n : Nat)), (27, I k)], φ := fun ⟨k, n⟩ => k ≤ (p.claims.getD i c0).steps.length ∧ n = m + (esz (p.claims.getD i c0).left + esz (p.claims.getD i c0).right) + bsum psStep ((p.claims.getD i c0).steps.take k), μ := fun ⟨k, n⟩ => (p.claims.getD i c0).steps.length - k } (LoopN.mk ((0, m + (esz (p.claims.getD i c0).left + esz (p.claims.getD i c0).right)) : Nat × Nat) (by exact ⟨Nat.zero_le _, rfl⟩) (by (repeat' ((conv => whnf) <;> (first | exact trivial | refine ⟨?_, ?_⟩ | kernel_rfl))); done) (by (repeat' ((conv => whnf) <;> (first | exact trivial | refine ⟨?_, ?_⟩ | kernel_rfl))); done) (by (repeat' ((conv => whnf) <;> (first | exact trivial | refine ⟨?_, ?_⟩ | exact rfl | (simp only [List.map_append, List.map_cons, List.map_nil, List.map_set]; first | done | rfl)))); done) (fun A ha => ?_) (by intro A; first | rfl | (obtain ⟨_, _⟩ := A; rfl) | (obtain ⟨_, _, _⟩ := A; rfl))); obtain ⟨k, n⟩ := A; have ha : k ≤ (p.claims.getD i c0).steps.length ∧ n = m + (esz (p.claims.getD i c0).left + esz (p.claims.getD i c0).right) + bsum psStep ((p.claims.getD i c0).steps.take k) := ha) | (guard_target = Gh _ _ _ _ _; refine Gh.go ⟨((k + 1, n + psStep (p.claims.getD i c0).steps[k]) : Nat × Nat), (by exact ⟨by show k + 1 ≤ _; omega, by show n + psStep _ = _; rw [bsum_next (by omega), ha.2]; omega⟩), (by first | (show _ < _; simp only []; omega) | omega | (simp; omega)), (by (repeat' ((conv => whnf) <;> (first | exact trivial | refine ⟨?_, ?_⟩ | kernel_rfl))); done), (by (repeat' ((conv => whnf) <;> (first | exact trivial | refine ⟨?_, ?_⟩ | kernel_rfl))); done), (by (repeat' ((conv => whnf) <;> (first | exact trivial | refine ⟨?_, ?_⟩ | exact rfl | (simp only [List.map_append, List.map_cons, List.map_nil, List.map_set]; first | done | rfl)))); done)⟩) | (guard_target = Gh _ _ _ _ _; refine Gh.go ⟨((i + 1, n) : Nat × Nat), (by exact ⟨by show i + 1 ≤ _; omega, by show n = _; have hi : i < p.claims.length := (by omega); have h8 := ‹i ≤ p.claims.length ∧ m = _›; have h9 := ha.2; rw [bsum_all (by omega), getD_eq hi] at h9; rw [bsum_next hi, ← h8.2, h9]; unfold psClaim; omega⟩), (by first | (show _ < _; simp only []; omega) | omega | (simp; omega)), (by (repeat' ((conv => whnf) <;> (first | exact trivial | refine ⟨?_, ?_⟩ | kernel_rfl))); done), (by (repeat' ((conv => whnf) <;> (first | exact trivial | refine ⟨?_, ?_⟩ | kernel_rfl))); done), (by (repeat' ((conv => whnf) <;> (first | exact trivial | refine ⟨?_, ?_⟩ | exact rfl | (simp only [List.map_append, List.map_cons, List.map_nil, List.map_set]; first | done | rfl)))); done)⟩) | (guard_target = Fact _ _; refine Fact.mk fun hL => ?_; (try simp only [List.length_map, maxLen] at hL)) | (guard_target = Branch _ _ _; (first | refine Branch.dec ?_ ?_ | refine Branch.beq ?_ ?_ | refine Branch.bne ?_ ?_ | refine Branch.ndec ?_ ?_ | refine Branch.nb ?_ ?_ | refine Branch.mk ?_ ?_) <;> intro h <;> (try simp only [List.length_map] at h) <;> (try omega) <;> (try contradiction)) | (guard_target = CallN _ 114 _ _ _ _; refine CallN.pure _ _ rfl (sizes_ok _ (by have := hst (p.claims.getD i c0) (hcb i (by omega)) k (by omega); first | exact this.1 | exact this.2)) rfl _ rfl ?_) | (guard_target = CallN _ 113 _ _ _ _; (first | refine CallN.pure _ _ rfl (hLf (p.claims.getD i c0) (hcb i (by omega))) rfl _ rfl ?_ | refine CallN.pure _ _ rfl (hRt (p.claims.getD i c0) (hcb i (by omega))) rfl _ rfl ?_)) | (guard_target = Arith _ _ _; refine Arith.fit (wrap_fit (by (have h1 := hA i (by omega); have h2 := ha.2; first | omega | (have h3 := hB (p.claims.getD i c0) k (by omega); have h8 := (‹i ≤ p.claims.length ∧ m = _›).2; omega))) (by (have h1 := hA i (by omega); have h2 := ha.2; first | omega | (have h3 := hB (p.claims.getD i c0) k (by omega); have h8 := (‹i ≤ p.claims.length ∧ m = _›).2; omega)))) ?_) | (guard_target = Arith _ _ _; refine Arith.fit (by decide) ?_) | (guard_target = Index _ _ _; first | refine Index.mk _ (idx_getD (d := c0) (i := i) (by omega)) ?_ | refine Index.mk _ (idx_map (i := k) (by omega)) ?_ | refine Index.mk _ (idx_map (by omega)) ?_) | (guard_target = Need (_ = true) _; refine Need.mk (by first | kernel_rfl | rfl) ?_) | (guard_target = LinkV _ _ _; first  | refine LinkV.no ?_) | (guard_target = GhO _ _ _ _; refine GhO.go ?_) | (guard_target = Need _ _; refine Need.mk (by first  | omega | (simp only [List.length_map]; omega)) ?_))
end Go.Proofs.YtkkenofdfpgplaaGreatDoor
