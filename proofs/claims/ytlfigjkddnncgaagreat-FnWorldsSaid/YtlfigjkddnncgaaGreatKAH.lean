/- Plain laws of relations over finitely many points: repeated squaring gives all paths; images of sets. No conditions. -/
import Derived.Test.YtlfigjkddnncgaaGreatKAG
namespace Go.Proofs.YtlfigjkddnncgaaGreat
abbrev Rel := Nat → Nat → Bool
def cmpR (N : Nat) (a b : Rel) : Rel := fun x y => (List.range N).any fun z => a x z && b z y
def sqI (N : Nat) : Nat → Rel → Rel
  | 0, R => R
  | k + 1, R => sqI N k (cmpR N R R)
theorem cmpR_iff {N : Nat} {a b : Rel} {x y : Nat} : cmpR N a b x y = true ↔ ∃ z, z < N ∧ a x z = true ∧ b z y = true := by
  simp [cmpR, List.any_eq_true]
def onR (S : Rel) : Rel := fun x y => (x == y) || S x y
def stepsR (N : Nat) (S : Rel) (x : Nat) : Nat → Nat → Bool
  | 0, y => x == y
  | k + 1, y => stepsR N S x k y || (List.range N).any fun z => stepsR N S x k z && S z y
inductive Star (N : Nat) (S : Rel) (x : Nat) : Nat → Prop
  | refl : Star N S x x
  | step {z y} (h : Star N S x z) (hz : z < N) (hs : S z y = true) : Star N S x y
theorem stepsR_succ {N : Nat} {S : Rel} {x k y : Nat} : stepsR N S x (k + 1) y = true ↔ stepsR N S x k y = true ∨ ∃ z, z < N ∧ stepsR N S x k z = true ∧ S z y = true := by
  simp [stepsR, List.any_eq_true]
theorem Star.steps {N : Nat} {S : Rel} {x y : Nat} (h : Star N S x y) : ∃ k, stepsR N S x k y = true := by
  induction h with
  | refl => exact ⟨0, by simp [stepsR]⟩
  | step h hz hs ih =>
    obtain ⟨k, hk⟩ := ih
    exact ⟨k + 1, stepsR_succ.2 (.inr ⟨_, hz, hk, hs⟩)⟩
theorem steps_mono {N : Nat} {S : Rel} {x k j y : Nat} (h : stepsR N S x k y = true) (hj : k ≤ j) : stepsR N S x j y = true := by
  induction hj with
  | refl => exact h
  | step _ ih => exact stepsR_succ.2 (.inl ih)
theorem filter_le {α : Type} {p q : α → Bool} : ∀ (l : List α), (∀ x ∈ l, p x = true → q x = true) → (l.filter p).length ≤ (l.filter q).length
  | [], _ => by simp
  | a :: l, h => by
    have ih := filter_le l fun x hx => h x (by simp [hx])
    have ha := h a (by simp)
    cases hp : p a with
    | true => rw [List.filter_cons_of_pos hp, List.filter_cons_of_pos (ha hp)]; simpa using ih
    | false =>
      rw [List.filter_cons_of_neg (by simp [hp])]
      cases hq : q a with
      | true => rw [List.filter_cons_of_pos hq]; simp; omega
      | false => rw [List.filter_cons_of_neg (by simp [hq])]; exact ih
theorem filter_lt {α : Type} {p q : α → Bool} : ∀ (l : List α), (∀ x ∈ l, p x = true → q x = true) → (∃ x ∈ l, q x = true ∧ p x = false) → (l.filter p).length < (l.filter q).length
  | [], _, h => by obtain ⟨x, hx, _⟩ := h; simp at hx
  | a :: l, h, hx => by
    have ih0 := filter_le l fun x hx => h x (by simp [hx])
    have ha := h a (by simp)
    cases hp : p a with
    | true =>
      rw [List.filter_cons_of_pos hp, List.filter_cons_of_pos (ha hp)]
      have := filter_lt l (fun x hx => h x (by simp [hx])) (by
        obtain ⟨x, hm, h1, h2⟩ := hx
        rcases List.mem_cons.1 hm with rfl | hm
        · rw [hp] at h2; cases h2
        · exact ⟨x, hm, h1, h2⟩)
      simpa using this
    | false =>
      rw [List.filter_cons_of_neg (by simp [hp])]
      cases hq : q a with
      | true => rw [List.filter_cons_of_pos hq]; simp; omega
      | false =>
        rw [List.filter_cons_of_neg (by simp [hq])]
        refine filter_lt l (fun x hx => h x (by simp [hx])) ?_
        obtain ⟨x, hm, h1, h2⟩ := hx
        rcases List.mem_cons.1 hm with rfl | hm
        · rw [hq] at h1; cases h1
        · exact ⟨x, hm, h1, h2⟩
def cntR (N : Nat) (p : Nat → Bool) : Nat := ((List.range N).filter p).length
theorem cntR_le (N : Nat) (p : Nat → Bool) : cntR N p ≤ N := by
  have := List.length_filter_le p (List.range N)
  simpa [cntR] using this
theorem steps_rest {N : Nat} {S : Rel} {x : Nat} (hx : x < N) : ∀ k : Nat, (∃ j, j ≤ k ∧ ∀ y, y < N → stepsR N S x (j + 1) y = true → stepsR N S x j y = true) ∨ k + 1 ≤ cntR N (stepsR N S x k)
  | 0 => by
    right
    have := filter_lt (p := fun _ => false) (q := stepsR N S x 0) (List.range N) (by simp) ⟨x, by simpa using hx, by simp [stepsR], rfl⟩
    unfold cntR
    omega
  | k + 1 => by
    rcases steps_rest hx k with ⟨j, hj, h⟩ | h
    · exact .inl ⟨j, by omega, h⟩
    · by_cases hs : ∀ y, y < N → stepsR N S x (k + 1) y = true → stepsR N S x k y = true
      · exact .inl ⟨k, by omega, hs⟩
      · right
        have : ∃ y, y < N ∧ stepsR N S x (k + 1) y = true ∧ stepsR N S x k y = false := by
          apply Classical.byContradiction
          intro hn
          apply hs
          intro y hy h1
          cases h2 : stepsR N S x k y with
          | true => rfl
          | false => exact absurd ⟨y, hy, h1, h2⟩ hn
        obtain ⟨y, hy, h1, h2⟩ := this
        have := filter_lt (p := stepsR N S x k) (q := stepsR N S x (k + 1)) (List.range N) (fun z _ hz => steps_mono hz (by omega)) ⟨y, by simpa using hy, h1, h2⟩
        unfold cntR at h ⊢
        omega
theorem steps_all {N : Nat} {S : Rel} {x y : Nat} (hS : ∀ a b, S a b = true → b < N) (hx : x < N) (h : Star N S x y) : stepsR N S x N y = true := by
  obtain ⟨j, hj, hr⟩ : ∃ j, j ≤ N ∧ ∀ y, y < N → stepsR N S x (j + 1) y = true → stepsR N S x j y = true := by
    rcases steps_rest (S := S) hx N with h | h
    · exact h
    · have := cntR_le N (stepsR N S x N)
      omega
  have key : ∀ y, Star N S x y → stepsR N S x j y = true ∧ y < N := by
    intro y h
    induction h with
    | refl => exact ⟨steps_mono (k := 0) (by simp [stepsR]) (by omega), hx⟩
    | step h hz hs ih => exact ⟨hr _ (hS _ _ hs) (stepsR_succ.2 (.inr ⟨_, hz, ih.1, hs⟩)), hS _ _ hs⟩
  exact steps_mono (key y h).1 hj
theorem steps_split {N : Nat} {S : Rel} (hS : ∀ a b, S a b = true → b < N) {x : Nat} (hx : x < N) : ∀ {k j y : Nat}, stepsR N S x (k + j) y = true → ∃ z, z < N ∧ stepsR N S x k z = true ∧ stepsR N S z j y = true
  | k, 0, y, h => by
    refine ⟨y, ?_, h, by simp [stepsR]⟩
    have : ∀ {k y}, stepsR N S x k y = true → y < N := by
      intro k
      induction k with
      | zero => intro y h; have : x = y := by simpa [stepsR] using h
                omega
      | succ k ih =>
        intro y h
        rcases stepsR_succ.1 h with h | ⟨z, hz, h, hs⟩
        · exact ih h
        · exact hS _ _ hs
    exact this h
  | k, j + 1, y, h => by
    rcases stepsR_succ.1 h with h | ⟨z, hz, h, hs⟩
    · obtain ⟨u, hu, h1, h2⟩ := steps_split hS hx h
      exact ⟨u, hu, h1, stepsR_succ.2 (.inl h2)⟩
    · obtain ⟨u, hu, h1, h2⟩ := steps_split hS hx h
      exact ⟨u, hu, h1, stepsR_succ.2 (.inr ⟨z, hz, h2, hs⟩)⟩
theorem sqI_mono {N : Nat} : ∀ (i : Nat) {R Q : Rel}, (∀ x y, x < N → y < N → R x y = true → Q x y = true) → ∀ x y, x < N → y < N → sqI N i R x y = true → sqI N i Q x y = true
  | 0, R, Q, h, x, y, hx, hy, hr => h x y hx hy hr
  | i + 1, R, Q, h, x, y, hx, hy, hr => by
    refine sqI_mono i (fun x y hx hy hr => ?_) x y hx hy hr
    obtain ⟨z, hz, h1, h2⟩ := cmpR_iff.1 hr
    exact cmpR_iff.2 ⟨z, hz, h _ _ hx hz h1, h _ _ hz hy h2⟩
theorem sqI_low {N : Nat} {S : Rel} (hS : ∀ a b, S a b = true → b < N) : ∀ (i m : Nat) {R : Rel}, (∀ x y, x < N → y < N → stepsR N S x m y = true → R x y = true) → ∀ x y, x < N → y < N → stepsR N S x (m * 2 ^ i) y = true → sqI N i R x y = true
  | 0, m, R, h, x, y, hx, hy, hr => h x y hx hy (by simpa using hr)
  | i + 1, m, R, h, x, y, hx, hy, hr => by
    refine sqI_low hS i (m + m) (fun x y hx hy hr => ?_) x y hx hy (by
      have : (m + m) * 2 ^ i = m * 2 ^ (i + 1) := by rw [Nat.pow_succ, Nat.mul_comm (2 ^ i) 2, ← Nat.mul_assoc, Nat.mul_two]
      rwa [this])
    obtain ⟨z, hz, h1, h2⟩ := steps_split hS hx hr
    exact cmpR_iff.2 ⟨z, hz, h _ _ hx hz h1, h _ _ hz hy h2⟩
theorem Star.trans {N : Nat} {S : Rel} {x y z : Nat} (h : Star N S x y) (k : Star N S y z) : Star N S x z := by
  induction k with
  | refl => exact h
  | step _ hz hs ih => exact .step ih hz hs
theorem sqI_star {N : Nat} {S : Rel} : ∀ (i : Nat) {R : Rel}, (∀ x y, x < N → y < N → R x y = true → Star N S x y) → ∀ x y, x < N → y < N → sqI N i R x y = true → Star N S x y
  | 0, R, h, x, y, hx, hy, hr => h x y hx hy hr
  | i + 1, R, h, x, y, hx, hy, hr => by
    refine sqI_star i (fun x y hx hy hr => ?_) x y hx hy hr
    obtain ⟨z, hz, h1, h2⟩ := cmpR_iff.1 hr
    exact (h _ _ hx hz h1).trans (h _ _ hz hy h2)
theorem le_two_pow (n : Nat) : n ≤ 2 ^ n := Nat.le_of_lt Nat.lt_two_pow_self
theorem sq_star {N : Nat} {S : Rel} (hS : ∀ a b, S a b = true → b < N) {x y : Nat} (hx : x < N) (hy : y < N) : sqI N N (onR S) x y = true ↔ Star N S x y := by
  constructor
  · refine sqI_star N (fun x y hx hy hr => ?_) x y hx hy
    simp only [onR, Bool.or_eq_true, beq_iff_eq] at hr
    rcases hr with rfl | hr
    · exact .refl
    · exact .step .refl hx hr
  · intro h
    have h1 := steps_all hS hx h
    refine sqI_low (m := 1) hS N (fun x y hx hy hr => ?_) x y hx hy (steps_mono h1 (by rw [Nat.one_mul]; exact le_two_pow N))
    simp only [onR, Bool.or_eq_true, beq_iff_eq]
    rcases stepsR_succ.1 hr with hr | ⟨z, hz, hr, hs⟩
    · exact .inl (by simpa [stepsR] using hr)
    · have : x = z := by simpa [stepsR] using hr
      subst this
      exact .inr hs
end Go.Proofs.YtlfigjkddnncgaaGreat

namespace Go.Proofs.YtlfigjkddnncgaaGreat
open Go Go.KA Go.Proofs
set_option maxRecDepth 100000
def alB (l : List XPremise) (act x y : Int) : Bool := l.all fun p => !((p.act == act) && (truthE p.pre x && !(truthE p.post y)))
def noR : Rel := fun _ _ => false
def stepR (c : XExpr) (k : Rel) : Rel := fun x y => truthE c x && k x y
def ldK (N : Nat) (l : List XPremise) (k n : Int) (c : XExpr) (ks : List Rel) : Rel :=
  if k = 3 then fun x y => alB l n x y
  else if k = 5 then cmpR N (ks.getD 0 noR) (ks.getD 1 noR)
  else if k = 7 then fun x y => sqI N N (onR (stepR c (ks.getD 0 noR))) x y && !(truthE c y)
  else if k = 1 then fun x y => x == y
  else if k = 4 then fun x y => (x == y) && truthE c x
  else if k = 6 then fun x y => if truthE c x then ks.getD 0 noR x y else ks.getD 1 noR x y
  else noR
mutual
def ldR (N : Nat) (l : List XPremise) : XProg → Rel
  | .mk k n c ks => ldK N l k n c (ldL N l ks)
def ldL (N : Nat) (l : List XPremise) : List XProg → List Rel
  | [] => []
  | p :: ps => ldR N l p :: ldL N l ps
end
theorem ldL_map (N : Nat) (l : List XPremise) : ∀ ps : List XProg, ldL N l ps = ps.map (ldR N l)
  | [] => rfl
  | p :: ps => by rw [ldL, ldL_map N l ps]; rfl
theorem ldR_eq (N : Nat) (l : List XPremise) (p : XProg) : ldR N l p = ldK N l p.kind p.num p.cond (p.kids.map (ldR N l)) := by
  cases p
  rw [ldR, ldL_map]
  rfl
def imgR (N : Nat) (R : Rel) (A : Nat → Bool) : Nat → Bool := fun y => (List.range N).any fun x => A x && R x y
theorem imgR_iff {N : Nat} {R : Rel} {A : Nat → Bool} {y : Nat} : imgR N R A y = true ↔ ∃ x, x < N ∧ A x = true ∧ R x y = true := by
  simp [imgR, List.any_eq_true]
theorem bool_ext {a b : Bool} (h : a = true ↔ b = true) : a = b := by
  cases a <;> cases b <;> simp_all
theorem imgR_cmp {N : Nat} {a b : Rel} {A : Nat → Bool} (y : Nat) : imgR N (cmpR N a b) A y = imgR N b (imgR N a A) y := by
  refine bool_ext ?_
  rw [imgR_iff, imgR_iff]
  constructor
  · rintro ⟨x, hx, h1, h2⟩
    obtain ⟨z, hz, h3, h4⟩ := cmpR_iff.1 h2
    exact ⟨z, hz, imgR_iff.2 ⟨x, hx, h1, h3⟩, h4⟩
  · rintro ⟨z, hz, h1, h2⟩
    obtain ⟨x, hx, h3, h4⟩ := imgR_iff.1 h1
    exact ⟨x, hx, h3, cmpR_iff.2 ⟨z, hz, h4, h2⟩⟩
def inN (N : Nat) (S : Rel) : Rel := fun x y => S x y && decide (y < N)
theorem sqI_congr {N : Nat} {R Q : Rel} (h : ∀ x y, x < N → y < N → R x y = Q x y) (i : Nat) {x y : Nat} (hx : x < N) (hy : y < N) : sqI N i R x y = sqI N i Q x y := by
  refine bool_ext ⟨sqI_mono i (fun x y hx hy hr => by rw [← h x y hx hy]; exact hr) x y hx hy, sqI_mono i (fun x y hx hy hr => by rw [h x y hx hy]; exact hr) x y hx hy⟩
theorem sq_path {N : Nat} {S : Rel} {x y : Nat} (hx : x < N) (hy : y < N) : sqI N N (onR S) x y = true ↔ Star N (inN N S) x y := by
  rw [sqI_congr (Q := onR (inN N S)) (fun x y hx hy => by simp [onR, inN, hy]) N hx hy]
  exact sq_star (fun a b h => by simp [inN] at h; exact h.2) hx hy
structure Grow (N : Nat) (S : Rel) (A B : Nat → Bool) : Prop where
  lo : ∀ x, x < N → A x = true → B x = true
  hi : ∀ y, y < N → B y = true → ∃ x, x < N ∧ A x = true ∧ Star N (inN N S) x y
theorem Grow.zero (N : Nat) (S : Rel) (A : Nat → Bool) : Grow N S A A := ⟨fun _ _ h => h, fun y hy h => ⟨y, hy, h, .refl⟩⟩
def orP (A B : Nat → Bool) : Nat → Bool := fun y => A y || B y
def andP (A B : Nat → Bool) : Nat → Bool := fun y => A y && B y
def trP (c : XExpr) : Nat → Bool := fun x => truthE c x
def notP (A : Nat → Bool) : Nat → Bool := fun x => !(A x)
theorem img_step {N : Nat} {c : XExpr} {k : Rel} {B : Nat → Bool} {y : Nat} : imgR N k (andP B (trP c)) y = imgR N (stepR c k) B y := by
  refine bool_ext ?_
  rw [imgR_iff, imgR_iff]
  simp only [andP, trP, stepR, Bool.and_eq_true]
  constructor
  · rintro ⟨x, hx, ⟨h1, h2⟩, h3⟩; exact ⟨x, hx, h1, h2, h3⟩
  · rintro ⟨x, hx, h1, h2, h3⟩; exact ⟨x, hx, ⟨h1, h2⟩, h3⟩
theorem Grow.step {N : Nat} {c : XExpr} {k : Rel} {A B : Nat → Bool} (h : Grow N (stepR c k) A B) : Grow N (stepR c k) A (orP B (imgR N k (andP B (trP c)))) := by
  refine ⟨fun x hx ha => by simp [orP, h.lo x hx ha], fun y hy hb => ?_⟩
  simp only [orP, Bool.or_eq_true] at hb
  rcases hb with hb | hb
  · exact h.hi y hy hb
  · rw [img_step] at hb
    obtain ⟨z, hz, h1, h2⟩ := imgR_iff.1 hb
    obtain ⟨x, hx, h3, h4⟩ := h.hi z hz h1
    exact ⟨x, hx, h3, .step h4 hz (by simp [inN, h2, hy])⟩
theorem Grow.done {N : Nat} {c : XExpr} {k : Rel} {A B : Nat → Bool} (h : Grow N (stepR c k) A B) (hc : ∀ y, y < N → imgR N k (andP B (trP c)) y = true → B y = true) (y : Nat) (hy : y < N) :
    andP B (notP (trP c)) y = imgR N (fun x y => sqI N N (onR (stepR c k)) x y && !(truthE c y)) A y := by
  refine bool_ext ?_
  rw [imgR_iff]
  simp only [andP, notP, trP, Bool.and_eq_true]
  constructor
  · rintro ⟨h1, h2⟩
    obtain ⟨x, hx, h3, h4⟩ := h.hi y hy h1
    exact ⟨x, hx, h3, (sq_path hx hy).2 h4, h2⟩
  · rintro ⟨x, hx, h1, h2, h3⟩
    refine ⟨?_, h3⟩
    have h4 := (sq_path hx hy).1 h2
    clear h2 h3
    have key : ∀ y, Star N (inN N (stepR c k)) x y → B y = true := by
      intro y h4
      induction h4 with
      | refl => exact h.lo x hx h1
      | step h5 hz hs ih =>
        simp only [inN, Bool.and_eq_true, decide_eq_true_eq] at hs
        refine hc _ hs.2 ?_
        rw [img_step]
        exact imgR_iff.2 ⟨_, hz, ih, hs.1⟩
    exact key y h4
end Go.Proofs.YtlfigjkddnncgaaGreat

namespace Go.Proofs.YtlfigjkddnncgaaGreat
open Go Go.KA Go.Proofs
set_option maxHeartbeats 16000000
set_option maxRecDepth 100000
abbrev tabR (N : Nat) (R : Rel) : List (List Bool) := (List.range N).map fun x => (List.range N).map fun y => R x y
abbrev eR (l : List Bool) : List CV := [.ro 1 (l.map eB)]
abbrev eRw (l : List Bool) : List CV := [.ows 4 1 (l.map eB)]
structure Sq (N : Nat) (A : List (List Bool)) : Prop where
  len : A.length = N
  row : ∀ x, x < N → (A.getD x []).length = N
def relT (A : List (List Bool)) : Rel := fun x y => (A.getD x []).getD y false
theorem range_getD {α : Type} {N x : Nat} {d : α} (h : x < N) (f : Nat → α) : ((List.range N).map f).getD x d = f x := by
  rw [List.getD_eq_getElem?_getD, List.getElem?_map, List.getElem?_range h]
  rfl
theorem tabR_sq (N : Nat) (R : Rel) : Sq N (tabR N R) := ⟨by simp, fun x hx => by rw [range_getD hx]; simp⟩
theorem relT_tab {N : Nat} {R : Rel} {x y : Nat} (hx : x < N) (hy : y < N) : relT (tabR N R) x y = R x y := by
  unfold relT
  rw [range_getD hx, range_getD hy]
theorem tab_congr {N : Nat} {R Q : Rel} (h : ∀ x y, x < N → y < N → R x y = Q x y) : tabR N R = tabR N Q :=
  List.map_congr_left fun x hx => List.map_congr_left fun y hy => h x y (by simpa using hx) (by simpa using hy)
theorem range_step {α : Type} (f : Nat → α) (n : Nat) : (List.range (n + 1)).map f = (List.range n).map f ++ [f n] := by
  rw [List.range_succ, List.map_append]
  rfl
theorem table_own (k : Nat) (a b : CV) (N : Nat) (hN : N ≤ 8) (R : Rel) (hf : ∀ x y : Nat, x < N → y < N → CallF Tryz.prog k [I x, I y, .c a, .c b] (B (R x y))) : CallX Tryz.prog 186 [I N, .clo k [.c a, .c b]] [] (.c (.own 190 1 ((tabR N R).map eRw))) := by
  refine callX_of_vc htb hm Tryz.func186 rfl rfl rfl rfl (ann := fun _ => none) (gh := fun _ => false) ?_
  repeat' ((conv => whnf); first | (guard_target = Done _; refine Done.mk ?_) | (guard_target = RetX _ _; refine RetX.mk ?_ ?_) | (guard_target =~ LoopE 3 _ _ _ _ _ _; refine LoopE.mk { α := List (List CV) × Nat, keep := [0, 1, 10], ov := fun ⟨rows, x⟩ => [(5, .lw 1), (11, I (x : Nat))], hv := fun ⟨rows, x⟩ => [(1, .orow none 190 1 rows)], φ := fun ⟨rows, x⟩ => x ≤ N ∧ rows = (List.range x).map fun x => eRw ((List.range N).map fun y => R x y), μ := fun ⟨rows, x⟩ => N - x } (LoopN.mk (([], 0) : List (List CV) × Nat) (by exact ⟨Nat.zero_le _, rfl⟩) (by (repeat' ((conv => whnf) <;> (first | exact trivial | refine ⟨?_, ?_⟩ | kernel_rfl))); done) (by (repeat' ((conv => whnf) <;> (first | exact trivial | refine ⟨?_, ?_⟩ | kernel_rfl))); done) (by (repeat' ((conv => whnf) <;> (first | exact trivial | refine ⟨?_, ?_⟩ | exact rfl | (simp only [List.map_append, List.map_cons, List.map_nil, List.map_set]; first | done | rfl)))); done) (fun A ha => ?_) (by intro A; first | rfl | (obtain ⟨_, _⟩ := A; rfl) | (obtain ⟨_, _, _⟩ := A; rfl))); obtain ⟨rows, x⟩ := A; have ha : x ≤ N ∧ rows = (List.range x).map fun x => eRw ((List.range N).map fun y => R x y) := ha; have hA1 := ha; have hrl : rows.length = x := (by rw [ha.2, List.length_map, List.length_range])) | (guard_target =~ LoopE 7 _ _ _ _ _ _; refine LoopE.mk { α := List Bool × Nat, keep := [0, 1, 5, 6, 10, 11, 15], ov := fun ⟨row, y⟩ => [(7, .lw 2), (16, I (y : Nat))], hv := fun ⟨row, y⟩ => [(2, .row none 4 1 (row.map eB))], φ := fun ⟨row, y⟩ => y ≤ N ∧ row = (List.range y).map fun y => R x y, μ := fun ⟨row, y⟩ => N - y } (LoopN.mk (([], 0) : List Bool × Nat) (by exact ⟨Nat.zero_le _, rfl⟩) (by (repeat' ((conv => whnf) <;> (first | exact trivial | refine ⟨?_, ?_⟩ | kernel_rfl))); done) (by (repeat' ((conv => whnf) <;> (first | exact trivial | refine ⟨?_, ?_⟩ | kernel_rfl))); done) (by (repeat' ((conv => whnf) <;> (first | exact trivial | refine ⟨?_, ?_⟩ | exact rfl | (simp only [List.map_append, List.map_cons, List.map_nil, List.map_set]; first | done | rfl)))); done) (fun A ha => ?_) (by intro A; first | rfl | (obtain ⟨_, _⟩ := A; rfl) | (obtain ⟨_, _, _⟩ := A; rfl))); obtain ⟨row, y⟩ := A; have ha : y ≤ N ∧ row = (List.range y).map fun y => R x y := ha; have hao := hA1; have hrl2 : row.length = y := (by rw [ha.2, List.length_map, List.length_range])) | (guard_target = Gh _ _ _ _ _; refine Gh.go ⟨((row ++ [R x y], y + 1) : List Bool × Nat), (by exact ⟨by show y + 1 ≤ _; omega, by show row ++ _ = _; rw [range_step, ha.2]⟩), (by first | (show _ < _; simp only []; omega) | omega | (simp; omega)), (by (repeat' ((conv => whnf) <;> (first | exact trivial | refine ⟨?_, ?_⟩ | kernel_rfl))); done), (by (repeat' ((conv => whnf) <;> (first | exact trivial | refine ⟨?_, ?_⟩ | kernel_rfl))); done), (by (repeat' ((conv => whnf) <;> (first | exact trivial | refine ⟨?_, ?_⟩ | exact rfl | (simp only [List.map_append, List.map_cons, List.map_nil, List.map_set]; first | done | rfl)))); done)⟩) | (guard_target = Gh _ _ _ _ _; refine Gh.go ⟨((rows ++ [eRw row], x + 1) : List (List CV) × Nat), (by exact ⟨by show x + 1 ≤ _; omega, by show rows ++ _ = _; rw [range_step, hao.2, ha.2, show y = N by omega]⟩), (by first | (show _ < _; simp only []; omega) | omega | (simp; omega)), (by (repeat' ((conv => whnf) <;> (first | exact trivial | refine ⟨?_, ?_⟩ | kernel_rfl))); done), (by (repeat' ((conv => whnf) <;> (first | exact trivial | refine ⟨?_, ?_⟩ | kernel_rfl))); done), (by (repeat' ((conv => whnf) <;> (first | exact trivial | refine ⟨?_, ?_⟩ | exact rfl | (simp only [List.map_append, List.map_cons, List.map_nil, List.map_set]; first | done | rfl)))); done)⟩) | (guard_target = Fact _ _; refine Fact.mk fun hL => ?_; (try simp only [List.length_map, maxLen] at hL)) | (guard_target = Branch _ _ _; (first | refine Branch.dec ?_ ?_ | refine Branch.beq ?_ ?_ | refine Branch.bne ?_ ?_ | refine Branch.ndec ?_ ?_ | refine Branch.nb ?_ ?_ | refine Branch.mk ?_ ?_) <;> intro h <;> (try simp only [List.length_map] at h) <;> (try omega) <;> (try contradiction)) | (guard_target = CallN _ k _ _ _ _; refine CallN.pure _ _ rfl (hf x y (by omega) (by omega)) rfl _ rfl ?_) | (guard_target = Arith _ _ _; refine Arith.fit (wrap_fit (by first | omega | (simp only [List.length_map]; omega)) (by first | omega | (simp only [List.length_map]; omega))) ?_) | (guard_target = Arith _ _ _; refine Arith.fit (by decide) ?_) | (guard_target = Index _ _ _; first  | refine Index.mk _ (idx_map (by omega)) ?_) | (guard_target = Need (_ = true) _; refine Need.mk (by first | kernel_rfl | rfl) ?_) | (guard_target = LinkV _ _ _; first  | refine LinkV.no ?_) | (guard_target = GhO _ _ _ _; refine GhO.go ?_) | (guard_target = Need _ _; refine Need.mk (by first | ((simp only [List.length_map, List.length_cons, List.length_nil, maxLen]; constructor <;> omega)) | omega | (simp only [List.length_map]; omega)) ?_))
  all_goals first | rfl | trivial | (rw [ha.2, show x = N by omega, List.map_map]; rfl)
theorem roLL_eRw (A : List (List Bool)) : roLL (A.map eRw) = A.map eR := by
  rw [roLL_map, List.map_map]
  rfl
theorem soft_tab {ty sz : Nat} (A : List (List Bool)) : SoftT (.c (.own ty sz (A.map eRw))) (.c (.ro sz (A.map eR))) := by
  rw [← roLL_eRw]
  exact .v (.c (.ro .nil))
abbrev ptT (A : List (List Bool)) : CV := .rp 1 [.ro 1 (A.map eR)]
theorem cmp_yes {N : Nat} {a b : Rel} {x y z : Nat} (hz : z < N) (h1 : a x z = true) (h2 : b z y = true) : cmpR N a b x y = true := cmpR_iff.2 ⟨z, hz, h1, h2⟩
theorem cmp_no {N : Nat} {a b : Rel} {x y : Nat} (h : ∀ z, z < N → (a x z && b z y) = false) : cmpR N a b x y = false := by
  cases hc : cmpR N a b x y with
  | false => rfl
  | true =>
    obtain ⟨z, hz, h1, h2⟩ := cmpR_iff.1 hc
    have := h z hz
    rw [h1, h2] at this
    cases this
theorem composed1_ok (N : Nat) (hN : N ≤ 8) (A C : List (List Bool)) (hA : Sq N A) (hC : Sq N C) (x y : Nat) (hx : x < N) (hy : y < N) : CallF Tryz.prog 203 [I x, I y, .c (ptT C), .c (ptT A)] (B (cmpR N (relT A) (relT C) x y)) := by
  have hA0 := hA.len
  have hC0 := hC.len
  have hAx := hA.row x hx
  refine callF_of_vc htb hm Tryz.func203 rfl rfl rfl rfl (ann := fun _ => none) (gh := fun _ => false) ?_
  repeat' ((conv => whnf); first | (guard_target = Done _; refine Done.mk ?_; first | ((rw [cmp_yes (z := z) (by omega) (by assumption) (by assumption)]; rfl); done) | ((rw [cmp_no fun u hu => ha.2 u (by omega)]; rfl); done) | skip) | (guard_target = RetX _ _; refine RetX.mk ?_ ?_) | (guard_target =~ LoopE 2 _ _ _ _ _ _; refine LoopE.mk { α := Nat, keep := [0, 1, 2, 3, 9], ov := fun z => [(10, I (z : Nat))], φ := fun z => z ≤ N ∧ ∀ u, u < z → (relT A x u && relT C u y) = false, μ := fun z => N - z } (LoopN.mk (0 : Nat) (by exact ⟨Nat.zero_le _, fun u hu => by omega⟩) (by (repeat' ((conv => whnf) <;> (first | exact trivial | refine ⟨?_, ?_⟩ | kernel_rfl))); done) (by (repeat' ((conv => whnf) <;> (first | exact trivial | refine ⟨?_, ?_⟩ | kernel_rfl))); done) (by (repeat' ((conv => whnf) <;> (first | exact trivial | refine ⟨?_, ?_⟩ | exact rfl | (simp only [List.map_append, List.map_cons, List.map_nil, List.map_set]; first | done | rfl)))); done) (fun (z : Nat) ha => ?_) (by intro A; first | rfl | (obtain ⟨_, _⟩ := A; rfl) | (obtain ⟨_, _, _⟩ := A; rfl))); have ha : z ≤ N ∧ ∀ u, u < z → (relT A x u && relT C u y) = false := ha) | (guard_target = Gh _ _ _ _ _; refine Gh.go ⟨(z + 1 : Nat), (by exact ⟨by show z + 1 ≤ _; omega, by intro u hu; by_cases e : u = z; (subst e; simp only [relT, *]; simp); exact ha.2 u (by omega)⟩), (by first | (show _ < _; simp only []; omega) | omega | (simp; omega)), (by (repeat' ((conv => whnf) <;> (first | exact trivial | refine ⟨?_, ?_⟩ | kernel_rfl))); done), (by (repeat' ((conv => whnf) <;> (first | exact trivial | refine ⟨?_, ?_⟩ | kernel_rfl))); done), (by (repeat' ((conv => whnf) <;> (first | exact trivial | refine ⟨?_, ?_⟩ | exact rfl | (simp only [List.map_append, List.map_cons, List.map_nil, List.map_set]; first | done | rfl)))); done)⟩) | (guard_target = Fact _ _; refine Fact.mk fun hL => ?_; (try simp only [List.length_map, maxLen] at hL)) | (guard_target = Branch _ _ _; (first | refine Branch.dec ?_ ?_ | refine Branch.beq ?_ ?_ | refine Branch.bne ?_ ?_ | refine Branch.ndec ?_ ?_ | refine Branch.nb ?_ ?_ | refine Branch.mk ?_ ?_) <;> intro h <;> (try simp only [List.length_map] at h) <;> (try omega) <;> (try contradiction)) | (guard_target = Arith _ _ _; refine Arith.fit (wrap_fit (by first | omega | (simp only [List.length_map]; omega)) (by first | omega | (simp only [List.length_map]; omega))) ?_) | (guard_target = Arith _ _ _; refine Arith.fit (by decide) ?_) | (guard_target = Index _ _ _; first | refine Index.mk _ (idx_getD (l := A) (d := []) (i := x) (by omega)) ?_ | refine Index.mk _ (idx_getD (l := C) (d := []) (i := z) (by omega)) ?_ | refine Index.mk _ (idx_getD (l := A.getD x []) (d := false) (i := z) (by omega)) ?_ | refine Index.mk _ (idx_getD (l := C.getD z []) (d := false) (i := y) (by rw [hC.row z (by omega)]; exact hy)) ?_ | refine Index.mk _ (idx_map (by omega)) ?_) | (guard_target = Need (_ = true) _; refine Need.mk (by first | kernel_rfl | rfl) ?_) | (guard_target = LinkV _ _ _; first  | refine LinkV.no ?_) | (guard_target = GhO _ _ _ _; refine GhO.go ?_) | (guard_target = Need _ _; refine Need.mk (by first  | omega | (simp only [List.length_map]; omega)) ?_))
  all_goals first | rfl | trivial
end Go.Proofs.YtlfigjkddnncgaaGreat
