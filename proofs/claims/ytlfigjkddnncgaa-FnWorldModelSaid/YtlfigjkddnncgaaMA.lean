/- Plain laws of relations over finitely many points: repeated squaring gives all paths; images of sets. No conditions. -/
import Derived.Test.YtlfigjkddnncgaaTy
import Derived.Test.YtlfigjkddnncgaaPC
namespace Go.Proofs.Ytlfigjkddnncgaa
abbrev Rel := Nat → Nat → Bool
def cmpR (N : Nat) (a b : Rel) : Rel := fun x y => (List.range N).any fun z => a x z && b z y
def sqI (N : Nat) : Nat → Rel → Rel
  | 0, R => R
  | k + 1, R => sqI N k (cmpR N R R)
theorem cmpR_iff {N : Nat} {a b : Rel} {x y : Nat} : cmpR N a b x y = true ↔ ∃ z, z < N ∧ a x z = true ∧ b z y = true := by
  simp [cmpR, List.any_eq_true]
def onR (S : Rel) : Rel := fun x y => (x == y) || S x y
def stepsR (N : Nat) (S : Rel) (x : Nat) : Nat → Nat → Bool
  | 0, y => x == y
  | k + 1, y => stepsR N S x k y || (List.range N).any fun z => stepsR N S x k z && S z y
inductive Star (N : Nat) (S : Rel) (x : Nat) : Nat → Prop
  | refl : Star N S x x
  | step {z y} (h : Star N S x z) (hz : z < N) (hs : S z y = true) : Star N S x y
theorem stepsR_succ {N : Nat} {S : Rel} {x k y : Nat} : stepsR N S x (k + 1) y = true ↔ stepsR N S x k y = true ∨ ∃ z, z < N ∧ stepsR N S x k z = true ∧ S z y = true := by
  simp [stepsR, List.any_eq_true]
theorem Star.steps {N : Nat} {S : Rel} {x y : Nat} (h : Star N S x y) : ∃ k, stepsR N S x k y = true := by
  induction h with
  | refl => exact ⟨0, by simp [stepsR]⟩
  | step h hz hs ih =>
    obtain ⟨k, hk⟩ := ih
    exact ⟨k + 1, stepsR_succ.2 (.inr ⟨_, hz, hk, hs⟩)⟩
theorem steps_mono {N : Nat} {S : Rel} {x k j y : Nat} (h : stepsR N S x k y = true) (hj : k ≤ j) : stepsR N S x j y = true := by
  induction hj with
  | refl => exact h
  | step _ ih => exact stepsR_succ.2 (.inl ih)
theorem filter_le {α : Type} {p q : α → Bool} : ∀ (l : List α), (∀ x ∈ l, p x = true → q x = true) → (l.filter p).length ≤ (l.filter q).length
  | [], _ => by simp
  | a :: l, h => by
    have ih := filter_le l fun x hx => h x (by simp [hx])
    have ha := h a (by simp)
    cases hp : p a with
    | true => rw [List.filter_cons_of_pos hp, List.filter_cons_of_pos (ha hp)]; simpa using ih
    | false =>
      rw [List.filter_cons_of_neg (by simp [hp])]
      cases hq : q a with
      | true => rw [List.filter_cons_of_pos hq]; simp; omega
      | false => rw [List.filter_cons_of_neg (by simp [hq])]; exact ih
theorem filter_lt {α : Type} {p q : α → Bool} : ∀ (l : List α), (∀ x ∈ l, p x = true → q x = true) → (∃ x ∈ l, q x = true ∧ p x = false) → (l.filter p).length < (l.filter q).length
  | [], _, h => by obtain ⟨x, hx, _⟩ := h; simp at hx
  | a :: l, h, hx => by
    have ih0 := filter_le l fun x hx => h x (by simp [hx])
    have ha := h a (by simp)
    cases hp : p a with
    | true =>
      rw [List.filter_cons_of_pos hp, List.filter_cons_of_pos (ha hp)]
      have := filter_lt l (fun x hx => h x (by simp [hx])) (by
        obtain ⟨x, hm, h1, h2⟩ := hx
        rcases List.mem_cons.1 hm with rfl | hm
        · rw [hp] at h2; cases h2
        · exact ⟨x, hm, h1, h2⟩)
      simpa using this
    | false =>
      rw [List.filter_cons_of_neg (by simp [hp])]
      cases hq : q a with
      | true => rw [List.filter_cons_of_pos hq]; simp; omega
      | false =>
        rw [List.filter_cons_of_neg (by simp [hq])]
        refine filter_lt l (fun x hx => h x (by simp [hx])) ?_
        obtain ⟨x, hm, h1, h2⟩ := hx
        rcases List.mem_cons.1 hm with rfl | hm
        · rw [hq] at h1; cases h1
        · exact ⟨x, hm, h1, h2⟩
def cntR (N : Nat) (p : Nat → Bool) : Nat := ((List.range N).filter p).length
theorem cntR_le (N : Nat) (p : Nat → Bool) : cntR N p ≤ N := by
  have := List.length_filter_le p (List.range N)
  simpa [cntR] using this
theorem steps_rest {N : Nat} {S : Rel} {x : Nat} (hx : x < N) : ∀ k : Nat, (∃ j, j ≤ k ∧ ∀ y, y < N → stepsR N S x (j + 1) y = true → stepsR N S x j y = true) ∨ k + 1 ≤ cntR N (stepsR N S x k)
  | 0 => by
    right
    have := filter_lt (p := fun _ => false) (q := stepsR N S x 0) (List.range N) (by simp) ⟨x, by simpa using hx, by simp [stepsR], rfl⟩
    unfold cntR
    omega
  | k + 1 => by
    rcases steps_rest hx k with ⟨j, hj, h⟩ | h
    · exact .inl ⟨j, by omega, h⟩
    · by_cases hs : ∀ y, y < N → stepsR N S x (k + 1) y = true → stepsR N S x k y = true
      · exact .inl ⟨k, by omega, hs⟩
      · right
        have : ∃ y, y < N ∧ stepsR N S x (k + 1) y = true ∧ stepsR N S x k y = false := by
          apply Classical.byContradiction
          intro hn
          apply hs
          intro y hy h1
          cases h2 : stepsR N S x k y with
          | true => rfl
          | false => exact absurd ⟨y, hy, h1, h2⟩ hn
        obtain ⟨y, hy, h1, h2⟩ := this
        have := filter_lt (p := stepsR N S x k) (q := stepsR N S x (k + 1)) (List.range N) (fun z _ hz => steps_mono hz (by omega)) ⟨y, by simpa using hy, h1, h2⟩
        unfold cntR at h ⊢
        omega
theorem steps_all {N : Nat} {S : Rel} {x y : Nat} (hS : ∀ a b, S a b = true → b < N) (hx : x < N) (h : Star N S x y) : stepsR N S x N y = true := by
  obtain ⟨j, hj, hr⟩ : ∃ j, j ≤ N ∧ ∀ y, y < N → stepsR N S x (j + 1) y = true → stepsR N S x j y = true := by
    rcases steps_rest (S := S) hx N with h | h
    · exact h
    · have := cntR_le N (stepsR N S x N)
      omega
  have key : ∀ y, Star N S x y → stepsR N S x j y = true ∧ y < N := by
    intro y h
    induction h with
    | refl => exact ⟨steps_mono (k := 0) (by simp [stepsR]) (by omega), hx⟩
    | step h hz hs ih => exact ⟨hr _ (hS _ _ hs) (stepsR_succ.2 (.inr ⟨_, hz, ih.1, hs⟩)), hS _ _ hs⟩
  exact steps_mono (key y h).1 hj
theorem steps_split {N : Nat} {S : Rel} (hS : ∀ a b, S a b = true → b < N) {x : Nat} (hx : x < N) : ∀ {k j y : Nat}, stepsR N S x (k + j) y = true → ∃ z, z < N ∧ stepsR N S x k z = true ∧ stepsR N S z j y = true
  | k, 0, y, h => by
    refine ⟨y, ?_, h, by simp [stepsR]⟩
    have : ∀ {k y}, stepsR N S x k y = true → y < N := by
      intro k
      induction k with
      | zero => intro y h; have : x = y := by simpa [stepsR] using h
                omega
      | succ k ih =>
        intro y h
        rcases stepsR_succ.1 h with h | ⟨z, hz, h, hs⟩
        · exact ih h
        · exact hS _ _ hs
    exact this h
  | k, j + 1, y, h => by
    rcases stepsR_succ.1 h with h | ⟨z, hz, h, hs⟩
    · obtain ⟨u, hu, h1, h2⟩ := steps_split hS hx h
      exact ⟨u, hu, h1, stepsR_succ.2 (.inl h2)⟩
    · obtain ⟨u, hu, h1, h2⟩ := steps_split hS hx h
      exact ⟨u, hu, h1, stepsR_succ.2 (.inr ⟨z, hz, h2, hs⟩)⟩
theorem sqI_mono {N : Nat} : ∀ (i : Nat) {R Q : Rel}, (∀ x y, x < N → y < N → R x y = true → Q x y = true) → ∀ x y, x < N → y < N → sqI N i R x y = true → sqI N i Q x y = true
  | 0, R, Q, h, x, y, hx, hy, hr => h x y hx hy hr
  | i + 1, R, Q, h, x, y, hx, hy, hr => by
    refine sqI_mono i (fun x y hx hy hr => ?_) x y hx hy hr
    obtain ⟨z, hz, h1, h2⟩ := cmpR_iff.1 hr
    exact cmpR_iff.2 ⟨z, hz, h _ _ hx hz h1, h _ _ hz hy h2⟩
theorem sqI_low {N : Nat} {S : Rel} (hS : ∀ a b, S a b = true → b < N) : ∀ (i m : Nat) {R : Rel}, (∀ x y, x < N → y < N → stepsR N S x m y = true → R x y = true) → ∀ x y, x < N → y < N → stepsR N S x (m * 2 ^ i) y = true → sqI N i R x y = true
  | 0, m, R, h, x, y, hx, hy, hr => h x y hx hy (by simpa using hr)
  | i + 1, m, R, h, x, y, hx, hy, hr => by
    refine sqI_low hS i (m + m) (fun x y hx hy hr => ?_) x y hx hy (by
      have : (m + m) * 2 ^ i = m * 2 ^ (i + 1) := by rw [Nat.pow_succ, Nat.mul_comm (2 ^ i) 2, ← Nat.mul_assoc, Nat.mul_two]
      rwa [this])
    obtain ⟨z, hz, h1, h2⟩ := steps_split hS hx hr
    exact cmpR_iff.2 ⟨z, hz, h _ _ hx hz h1, h _ _ hz hy h2⟩
theorem Star.trans {N : Nat} {S : Rel} {x y z : Nat} (h : Star N S x y) (k : Star N S y z) : Star N S x z := by
  induction k with
  | refl => exact h
  | step _ hz hs ih => exact .step ih hz hs
theorem sqI_star {N : Nat} {S : Rel} : ∀ (i : Nat) {R : Rel}, (∀ x y, x < N → y < N → R x y = true → Star N S x y) → ∀ x y, x < N → y < N → sqI N i R x y = true → Star N S x y
  | 0, R, h, x, y, hx, hy, hr => h x y hx hy hr
  | i + 1, R, h, x, y, hx, hy, hr => by
    refine sqI_star i (fun x y hx hy hr => ?_) x y hx hy hr
    obtain ⟨z, hz, h1, h2⟩ := cmpR_iff.1 hr
    exact (h _ _ hx hz h1).trans (h _ _ hz hy h2)
theorem le_two_pow (n : Nat) : n ≤ 2 ^ n := Nat.le_of_lt Nat.lt_two_pow_self
theorem sq_star {N : Nat} {S : Rel} (hS : ∀ a b, S a b = true → b < N) {x y : Nat} (hx : x < N) (hy : y < N) : sqI N N (onR S) x y = true ↔ Star N S x y := by
  constructor
  · refine sqI_star N (fun x y hx hy hr => ?_) x y hx hy
    simp only [onR, Bool.or_eq_true, beq_iff_eq] at hr
    rcases hr with rfl | hr
    · exact .refl
    · exact .step .refl hx hr
  · intro h
    have h1 := steps_all hS hx h
    refine sqI_low (m := 1) hS N (fun x y hx hy hr => ?_) x y hx hy (steps_mono h1 (by rw [Nat.one_mul]; exact le_two_pow N))
    simp only [onR, Bool.or_eq_true, beq_iff_eq]
    rcases stepsR_succ.1 hr with hr | ⟨z, hz, hr, hs⟩
    · exact .inl (by simpa [stepsR] using hr)
    · have : x = z := by simpa [stepsR] using hr
      subst this
      exact .inr hs
end Go.Proofs.Ytlfigjkddnncgaa

namespace Go.Proofs.Ytlfigjkddnncgaa
open Go Go.KA Go.Proofs
set_option maxRecDepth 100000
def noneP : XProg := .mk 0 0 (.mk 0 0 []) []
section
variable (tr : XExpr → Nat → Bool) (ac : Int → Nat → Option Nat)
abbrev Cfg := List XProg × Nat
def smallS : Cfg → Option Cfg
  | ([], _) => none
  | (p :: K, s) =>
    if p.kind = 1 then some (K, s)
    else if p.kind = 3 then (ac p.num s).map fun t => (K, t)
    else if p.kind = 4 then (if tr p.cond s then some (K, s) else none)
    else if p.kind = 5 then some (p.kids.getD 0 noneP :: p.kids.getD 1 noneP :: K, s)
    else if p.kind = 6 then (if tr p.cond s then some (p.kids.getD 0 noneP :: K, s) else some (p.kids.getD 1 noneP :: K, s))
    else if p.kind = 7 then (if tr p.cond s then some (p.kids.getD 0 noneP :: p :: K, s) else some (K, s))
    else none
inductive Steps : Nat → Cfg → Cfg → Prop
  | refl {a} : Steps 0 a a
  | cons {n a b c} (h : smallS tr ac a = some b) (t : Steps n b c) : Steps (n + 1) a c
variable {tr ac}
theorem Steps.trans {n m : Nat} {a b c : Cfg} (h : Steps tr ac n a b) (k : Steps tr ac m b c) : Steps tr ac (n + m) a c := by
  induction h with
  | refl => rw [Nat.zero_add]; exact k
  | cons h _ ih => rw [Nat.add_right_comm]; exact .cons h (ih k)
theorem Steps.rest {n : Nat} {a b : Cfg} (h : Steps tr ac n a b) : ∀ {m : Nat} {c : Cfg}, Steps tr ac m a c → n ≤ m → Steps tr ac (m - n) b c := by
  induction h with
  | refl => intro m c k _; exact k
  | cons h _ ih =>
    intro m c k hm
    cases k with
    | refl => omega
    | @cons m _ b' _ h' k =>
      rw [h] at h'
      injection h' with h'
      subst h'
      rw [Nat.add_sub_add_right]
      exact ih k (by omega)
theorem Steps.stop {n : Nat} {a b : Cfg} (h : Steps tr ac n a b) (hs : smallS tr ac a = none) : n = 0 ∧ a = b := by
  cases h with
  | refl => exact ⟨rfl, rfl⟩
  | cons h _ => rw [hs] at h; cases h
theorem Steps.same {n m : Nat} {a b c : Cfg} (h : Steps tr ac n a b) (k : Steps tr ac m a c) (hb : smallS tr ac b = none) (hc : smallS tr ac c = none) : n = m ∧ b = c := by
  by_cases e : n ≤ m
  · have := (h.rest k e).stop hb
    exact ⟨by omega, this.2⟩
  · have := (k.rest h (by omega)).stop hc
    exact ⟨by omega, this.2.symm⟩
theorem Steps.no_loop : ∀ {n k : Nat} {a b : Cfg}, Steps tr ac n a b → smallS tr ac b = none → Steps tr ac (k + 1) a a → False
  | n, k, a, b, h, hb, hl => by
    by_cases e : k + 1 ≤ n
    · exact Steps.no_loop (hl.rest h e) hb hl
    · have := (h.rest hl (by omega)).stop hb
      omega
  termination_by n => n
  decreasing_by omega
theorem Steps.list {n : Nat} {a b : Cfg} (h : Steps tr ac n a b) (hb : smallS tr ac b = none) : ∃ l : List Cfg, l.length = n + 1 ∧ l.Nodup ∧ ∀ x ∈ l, ∃ i, Steps tr ac i a x := by
  induction h with
  | @refl a => exact ⟨[a], rfl, by simp, fun x hx => ⟨0, by rw [List.mem_singleton.1 hx]; exact .refl⟩⟩
  | @cons n a c b h k ih =>
    obtain ⟨l, hl, hn, hx⟩ := ih hb
    refine ⟨a :: l, by simp [hl], ?_, fun x hxm => ?_⟩
    · rw [List.nodup_cons]
      refine ⟨fun hm => ?_, hn⟩
      obtain ⟨i, hi⟩ := hx a hm
      exact Steps.no_loop (.cons h k) hb (.cons h hi)
    · rcases List.mem_cons.1 hxm with rfl | hxm
      · exact ⟨0, .refl⟩
      · obtain ⟨i, hi⟩ := hx x hxm
        exact ⟨i + 1, .cons h hi⟩
theorem nodup_le {α : Type} : ∀ (l L : List α), l.Nodup → (∀ x ∈ l, x ∈ L) → l.length ≤ L.length
  | [], L, _, _ => Nat.zero_le _
  | x :: l, L, hn, hs => by
    obtain ⟨A, B, rfl⟩ := List.append_of_mem (hs x (by simp))
    rw [List.nodup_cons] at hn
    have := nodup_le l (A ++ B) hn.2 fun y hy => by
      have h1 := hs y (by simp [hy])
      simp only [List.mem_append, List.mem_cons] at h1 ⊢
      rcases h1 with h1 | rfl | h1
      · exact .inl h1
      · exact absurd hy hn.1
      · exact .inr h1
    simp only [List.length_append, List.length_cons] at this ⊢
    omega
end
/-! ### the places of a program -/
mutual
def posP : XProg → List XProg → List (List XProg)
  | .mk k n c ks, K => (XProg.mk k n c ks :: K) :: (if k = 5 then posQ ks K else if k = 7 then posA ks (XProg.mk k n c ks :: K) else posA ks K)
def posA : List XProg → List XProg → List (List XProg)
  | [], _ => []
  | p :: ps, K => posP p K ++ posA ps K
def posQ : List XProg → List XProg → List (List XProg)
  | [], _ => []
  | p :: ps, K => posP p (ps ++ K) ++ posQ ps K
end
mutual
def nodesP : XProg → Nat
  | .mk _ _ _ ks => 1 + nodesL ks
def nodesL : List XProg → Nat
  | [] => 0
  | p :: ps => nodesP p + nodesL ps
end
mutual
theorem posP_len : ∀ (p : XProg) (K : List XProg), (posP p K).length = nodesP p
  | .mk k n c ks, K => by
    rw [posP, nodesP, List.length_cons]
    split
    · rw [posQ_len ks K]; omega
    · split
      · rw [posA_len ks]; omega
      · rw [posA_len ks]; omega
theorem posA_len : ∀ (l : List XProg) (K : List XProg), (posA l K).length = nodesL l
  | [], K => rfl
  | p :: ps, K => by rw [posA, nodesL, List.length_append, posP_len p K, posA_len ps K]
theorem posQ_len : ∀ (l : List XProg) (K : List XProg), (posQ l K).length = nodesL l
  | [], K => rfl
  | p :: ps, K => by rw [posQ, nodesL, List.length_append, posP_len p, posQ_len ps K]
end
theorem posP_head (p : XProg) (K : List XProg) : (p :: K) ∈ posP p K := by
  cases p
  rw [posP]
  exact List.mem_cons_self
inductive FormP : XProg → Prop
  | leaf {k n c ks} (h : k = 1 ∨ k = 2 ∨ k = 3 ∨ k = 4) (hk : ks = []) : FormP (.mk k n c ks)
  | two {k n c p q} (h : k = 5 ∨ k = 6) (hp : FormP p) (hq : FormP q) : FormP (.mk k n c [p, q])
  | loop {n c p} (hp : FormP p) : FormP (.mk 7 n c [p])
section
variable {tr : XExpr → Nat → Bool} {ac : Int → Nat → Option Nat}
theorem pos_closed {p : XProg} (hf : FormP p) : ∀ (K S : List XProg) (s : Nat) (S' : List XProg) (s' : Nat), S ∈ posP p K → smallS tr ac (S, s) = some (S', s') → S' ∈ posP p K ∨ S' = K := by
  induction hf with
  | @leaf k n c ks h hk =>
    subst hk
    intro K S s S' s' hS hs
    have hS : S = XProg.mk k n c [] :: K := by
      rw [posP] at hS
      rcases List.mem_cons.1 hS with h1 | h1
      · exact h1
      · split at h1
        · cases h1
        · split at h1 <;> cases h1
    subst hS
    right
    unfold smallS at hs
    simp only [XProg.kind] at hs
    rcases h with rfl | rfl | rfl | rfl
    · simp at hs; exact hs.1.symm
    · simp at hs
    · simp at hs; exact hs.2.symm
    · simp at hs; exact hs.2.1.symm
  | @two k n c p q h hp hq ihp ihq =>
    intro K S s S' s' hS hs
    rw [posP] at hS ⊢
    rcases h with rfl | rfl
    · simp only [if_pos, posQ, List.append_nil, List.singleton_append, List.nil_append] at hS ⊢
      rcases List.mem_cons.1 hS with rfl | hS
      · unfold smallS at hs
        simp only [XProg.kind, XProg.kids] at hs
        simp at hs
        left
        rw [← hs.1]
        exact List.mem_cons_of_mem _ (List.mem_append_left _ (posP_head p (q :: K)))
      · rcases List.mem_append.1 hS with hS | hS
        · rcases ihp (q :: K) S s S' s' hS hs with h1 | h1
          · exact .inl (List.mem_cons_of_mem _ (List.mem_append_left _ h1))
          · left
            rw [h1]
            exact List.mem_cons_of_mem _ (List.mem_append_right _ (posP_head q K))
        · rcases ihq K S s S' s' hS hs with h1 | h1
          · exact .inl (List.mem_cons_of_mem _ (List.mem_append_right _ h1))
          · exact .inr h1
    · rw [if_neg (by decide), if_neg (by decide)] at hS ⊢
      simp only [posA, List.append_nil] at hS ⊢
      rcases List.mem_cons.1 hS with rfl | hS
      · unfold smallS at hs
        simp only [XProg.kind, XProg.kids] at hs
        simp at hs
        left
        split at hs
        · rw [← (Prod.mk.inj (Option.some.inj hs)).1]
          exact List.mem_cons_of_mem _ (List.mem_append_left _ (posP_head p K))
        · rw [← (Prod.mk.inj (Option.some.inj hs)).1]
          exact List.mem_cons_of_mem _ (List.mem_append_right _ (posP_head q K))
      · rcases List.mem_append.1 hS with hS | hS
        · rcases ihp K S s S' s' hS hs with h1 | h1
          · exact .inl (List.mem_cons_of_mem _ (List.mem_append_left _ h1))
          · exact .inr h1
        · rcases ihq K S s S' s' hS hs with h1 | h1
          · exact .inl (List.mem_cons_of_mem _ (List.mem_append_right _ h1))
          · exact .inr h1
  | @loop n c p hp ihp =>
    intro K S s S' s' hS hs
    rw [posP, if_neg (by decide), if_pos rfl] at hS ⊢
    simp only [posA, List.append_nil] at hS ⊢
    rcases List.mem_cons.1 hS with rfl | hS
    · unfold smallS at hs
      simp only [XProg.kind, XProg.kids] at hs
      simp at hs
      split at hs
      · left
        rw [← (Prod.mk.inj (Option.some.inj hs)).1]
        exact List.mem_cons_of_mem _ (posP_head p _)
      · right
        exact (Prod.mk.inj (Option.some.inj hs)).1.symm
    · rcases ihp _ S s S' s' hS hs with h1 | h1
      · exact .inl (List.mem_cons_of_mem _ h1)
      · left
        rw [h1]
        exact List.mem_cons_self
theorem small_lt {N : Nat} (hac : ∀ a s t, s < N → ac a s = some t → t < N) {a b : Cfg} (h : smallS tr ac a = some b) (ha : a.2 < N) : b.2 < N := by
  obtain ⟨S, s⟩ := a
  cases S with
  | nil => cases h
  | cons p K =>
    unfold smallS at h
    simp only at h ha
    repeat' split at h
    all_goals first
      | (cases h; done)
      | (injection h with h; subst h; exact ha)
      | skip
    · cases hq : ac p.num s with
      | none => rw [hq] at h; cases h
      | some t =>
        rw [hq] at h
        injection h with h
        subst h
        exact hac _ _ _ ha hq
theorem run_short {N : Nat} (hac : ∀ a s t, s < N → ac a s = some t → t < N) {p : XProg} (hf : FormP p) {n s t : Nat} (hs : s < N) (h : Steps tr ac n ([p], s) ([], t)) : n + 1 ≤ (nodesP p + 1) * N := by
  obtain ⟨l, hl, hn, hx⟩ := h.list rfl
  have key : ∀ {i : Nat} {a x : Cfg}, Steps tr ac i a x → (a.1 ∈ posP p [] ∨ a.1 = []) → a.2 < N → (x.1 ∈ posP p [] ∨ x.1 = []) ∧ x.2 < N := by
    intro i a x hi
    induction hi with
    | refl => intro h1 h2; exact ⟨h1, h2⟩
    | @cons n a b c hab _ ih =>
      intro h1 h2
      refine ih ?_ (small_lt hac hab h2)
      obtain ⟨S, s⟩ := a
      obtain ⟨S', s'⟩ := b
      rcases h1 with h1 | h1
      · exact pos_closed hf [] S s S' s' h1 hab
      · simp only at h1
        subst h1
        cases hab
  have := nodup_le l ((posP p [] ++ [[]]).flatMap fun S => (List.range N).map fun s => (S, s)) hn fun x hxm => by
    obtain ⟨i, hi⟩ := hx x hxm
    obtain ⟨h1, h2⟩ := key hi (.inl (posP_head p [])) hs
    rw [List.mem_flatMap]
    refine ⟨x.1, ?_, ?_⟩
    · rcases h1 with h1 | h1
      · exact List.mem_append_left _ h1
      · rw [h1]; simp
    · rw [List.mem_map]
      exact ⟨x.2, by simpa using h2, rfl⟩
  rw [hl] at this
  have e : ∀ L : List (List XProg), (L.flatMap fun S => (List.range N).map fun s => (S, s)).length = L.length * N := by
    intro L
    induction L with
    | nil => simp
    | cons x xs ih =>
      rw [List.flatMap_cons, List.length_append, ih, List.length_map, List.length_range, List.length_cons, Nat.succ_mul]
      omega
  rw [e, List.length_append, posP_len] at this
  exact this
end
end Go.Proofs.Ytlfigjkddnncgaa

namespace Go.Proofs.Ytlfigjkddnncgaa
open Go Go.KA Go.Proofs
set_option maxRecDepth 100000
theorem boolM {a b : Bool} (h : a = true ↔ b = true) : a = b := by
  cases a <;> cases b <;> simp_all
def zeroM : Rel := fun _ _ => false
theorem sqI_cg {N : Nat} {R Q : Rel} (h : ∀ x y, x < N → y < N → R x y = Q x y) (i : Nat) {x y : Nat} (hx : x < N) (hy : y < N) : sqI N i R x y = sqI N i Q x y :=
  boolM ⟨sqI_mono i (fun x y hx hy hr => by rw [← h x y hx hy]; exact hr) x y hx hy, sqI_mono i (fun x y hx hy hr => by rw [h x y hx hy]; exact hr) x y hx hy⟩
def inM (N : Nat) (S : Rel) : Rel := fun x y => S x y && decide (y < N)
theorem sq_pathM {N : Nat} {S : Rel} {x y : Nat} (hx : x < N) (hy : y < N) : sqI N N (onR S) x y = true ↔ Star N (inM N S) x y := by
  rw [sqI_cg (Q := onR (inM N S)) (fun x y hx hy => by simp [onR, inM, hy]) N hx hy]
  exact sq_star (fun a b h => by simp [inM] at h; exact h.2) hx hy
theorem cmp_cg {N : Nat} {a b c d : Rel} {x y : Nat} (h1 : ∀ z, z < N → a x z = c x z) (h2 : ∀ z, z < N → b z y = d z y) : cmpR N a b x y = cmpR N c d x y := by
  refine boolM ?_
  rw [cmpR_iff, cmpR_iff]
  constructor
  · rintro ⟨z, hz, h3, h4⟩; exact ⟨z, hz, by rw [← h1 z hz]; exact h3, by rw [← h2 z hz]; exact h4⟩
  · rintro ⟨z, hz, h3, h4⟩; exact ⟨z, hz, by rw [h1 z hz]; exact h3, by rw [h2 z hz]; exact h4⟩
section
variable (N : Nat) (test : Int → Nat → Bool) (ac : Int → Nat → Option Nat)
abbrev acR (ac : Int → Nat → Option Nat) (n : Int) : Rel := fun x y => ac n x == some y
def relK (k n : Int) (ks : List Rel) : Rel :=
  if k = 4 then acR ac n
  else if k = 7 then cmpR N (ks.getD 0 zeroM) (ks.getD 1 zeroM)
  else if k = 8 then sqI N N (onR (ks.getD 0 zeroM))
  else if k = 2 then fun x y => x == y
  else if k = 3 then fun x y => (x == y) && test n x
  else if k = 5 then fun x y => (x == y) && !(ks.getD 0 zeroM x y)
  else if k = 6 then fun x y => ks.getD 0 zeroM x y || ks.getD 1 zeroM x y
  else zeroM
mutual
def relE : XExpr → Rel
  | .mk k n ks => relK N test ac k n (relL ks)
def relL : List XExpr → List Rel
  | [] => []
  | e :: es => relE e :: relL es
end
theorem relL_map : ∀ l : List XExpr, relL N test ac l = l.map (relE N test ac)
  | [] => rfl
  | e :: es => by rw [relL, relL_map es]; rfl
theorem relE_eq (e : XExpr) : relE N test ac e = relK N test ac e.kind e.num (e.kids.map (relE N test ac)) := by
  cases e
  rw [relE, relL_map]
  rfl
variable (tr : XExpr → Nat → Bool)
def prK (k n : Int) (c : XExpr) (ks : List Rel) : Rel :=
  if k = 1 then fun x y => x == y
  else if k = 3 then acR ac n
  else if k = 4 then fun x y => (x == y) && tr c x
  else if k = 5 then cmpR N (ks.getD 0 zeroM) (ks.getD 1 zeroM)
  else if k = 6 then fun x y => if tr c x then ks.getD 0 zeroM x y else ks.getD 1 zeroM x y
  else if k = 7 then fun x y => sqI N N (onR fun x y => tr c x && ks.getD 0 zeroM x y) x y && !(tr c y)
  else zeroM
mutual
def prR : XProg → Rel
  | .mk k n c ks => prK N ac tr k n c (prL ks)
def prL : List XProg → List Rel
  | [] => []
  | p :: ps => prR p :: prL ps
end
mutual
def progE : XProg → XExpr
  | .mk k n c ks => progK k n c (progL ks)
def progK (k n : Int) (c : XExpr) (es : List XExpr) : XExpr :=
  if k = 1 then .mk 2 0 []
  else if k = 2 then .mk 1 0 []
  else if k = 3 then .mk 4 n []
  else if k = 4 then c
  else if k = 5 then .mk 7 0 es
  else if k = 6 then .mk 6 0 [.mk 7 0 [c, es.getD 0 (.mk 0 0 [])], .mk 7 0 [.mk 5 0 [c], es.getD 1 (.mk 0 0 [])]]
  else .mk 7 0 [.mk 8 0 [.mk 7 0 [c, es.getD 0 (.mk 0 0 [])]], .mk 5 0 [c]]
def progL : List XProg → List XExpr
  | [] => []
  | p :: ps => progE p :: progL ps
end
inductive CondsP (P : XExpr → Prop) : XProg → Prop
  | mk {k n c ks} (hc : k = 4 ∨ k = 6 ∨ k = 7 → P c) (h : ∀ x ∈ ks, CondsP P x) : CondsP P (.mk k n c ks)
variable {N test ac tr}
theorem rel_prog {p : XProg} (hf : FormP p) : CondsP (fun c => ∀ x y, x < N → y < N → relE N test ac c x y = ((x == y) && tr c x)) p → ∀ x y, x < N → y < N → relE N test ac (progE p) x y = prR N ac tr p x y := by
  induction hf with
  | @leaf k n c ks h hk =>
    subst hk
    intro hc x y hx hy
    cases hc with
    | mk hc _ =>
      rcases h with rfl | rfl | rfl | rfl
      · rfl
      · rfl
      · rfl
      · exact hc (.inl rfl) x y hx hy
  | @two k n c p q h hp hq ihp ihq =>
    intro hc x y hx hy
    cases hc with
    | mk hc hk =>
      have h1 := ihp (hk p (by simp))
      have h2 := ihq (hk q (by simp))
      rcases h with rfl | rfl
      · show cmpR N (relE N test ac (progE p)) (relE N test ac (progE q)) x y = cmpR N (prR N ac tr p) (prR N ac tr q) x y
        exact cmp_cg (fun z hz => h1 x z hx hz) (fun z hz => h2 z y hz hy)
      · have hcx := hc (.inr (.inl rfl))
        show (cmpR N (relE N test ac c) (relE N test ac (progE p)) x y || cmpR N (relE N test ac (.mk 5 0 [c])) (relE N test ac (progE q)) x y) = if tr c x then prR N ac tr p x y else prR N ac tr q x y
        have e1 : cmpR N (relE N test ac c) (relE N test ac (progE p)) x y = (tr c x && prR N ac tr p x y) := by
          refine boolM ?_
          rw [cmpR_iff, Bool.and_eq_true]
          constructor
          · rintro ⟨z, hz, h3, h4⟩
            rw [hcx x z hx hz, Bool.and_eq_true, beq_iff_eq] at h3
            obtain ⟨rfl, h3⟩ := h3
            rw [h1 _ y hz hy] at h4
            exact ⟨h3, h4⟩
          · rintro ⟨h3, h4⟩
            exact ⟨x, hx, by rw [hcx x x hx hx, h3]; simp, by rw [h1 x y hx hy]; exact h4⟩
        have e2 : cmpR N (relE N test ac (.mk 5 0 [c])) (relE N test ac (progE q)) x y = (!(tr c x) && prR N ac tr q x y) := by
          refine boolM ?_
          rw [cmpR_iff, Bool.and_eq_true]
          have en : ∀ z, z < N → relE N test ac (.mk 5 0 [c]) x z = ((x == z) && !(tr c x)) := fun z hz => by
            show ((x == z) && !(relE N test ac c x z)) = _
            rw [hcx x z hx hz]
            cases hxz : x == z <;> simp
          constructor
          · rintro ⟨z, hz, h3, h4⟩
            rw [en z hz, Bool.and_eq_true, beq_iff_eq] at h3
            obtain ⟨rfl, h3⟩ := h3
            rw [h2 _ y hz hy] at h4
            exact ⟨h3, h4⟩
          · rintro ⟨h3, h4⟩
            exact ⟨x, hx, by rw [en x hx, h3]; simp, by rw [h2 x y hx hy]; exact h4⟩
        rw [e1, e2]
        cases tr c x <;> simp
  | @loop n c p hp ihp =>
    intro hc x y hx hy
    cases hc with
    | mk hc hk =>
      have h1 := ihp (hk p (by simp))
      have hcx := hc (.inr (.inr rfl))
      show cmpR N (sqI N N (onR (cmpR N (relE N test ac c) (relE N test ac (progE p))))) (relE N test ac (.mk 5 0 [c])) x y = (sqI N N (onR fun x y => tr c x && prR N ac tr p x y) x y && !(tr c y))
      have e1 : ∀ x y, x < N → y < N → cmpR N (relE N test ac c) (relE N test ac (progE p)) x y = (tr c x && prR N ac tr p x y) := fun x y hx hy => by
        refine boolM ?_
        rw [cmpR_iff, Bool.and_eq_true]
        constructor
        · rintro ⟨z, hz, h3, h4⟩
          rw [hcx x z hx hz, Bool.and_eq_true, beq_iff_eq] at h3
          obtain ⟨rfl, h3⟩ := h3
          rw [h1 _ y hz hy] at h4
          exact ⟨h3, h4⟩
        · rintro ⟨h3, h4⟩
          exact ⟨x, hx, by rw [hcx x x hx hx, h3]; simp, by rw [h1 x y hx hy]; exact h4⟩
      have e2 : ∀ z, z < N → sqI N N (onR (cmpR N (relE N test ac c) (relE N test ac (progE p)))) x z = sqI N N (onR fun x y => tr c x && prR N ac tr p x y) x z := fun z hz =>
        sqI_cg (fun x y hx hy => by unfold onR; rw [e1 x y hx hy]) N hx hz
      have en : ∀ z, z < N → relE N test ac (.mk 5 0 [c]) z y = ((z == y) && !(tr c y)) := fun z hz => by
        show ((z == y) && !(relE N test ac c z y)) = _
        rw [hcx z y hz hy]
        cases hxz : z == y with
        | false => rfl
        | true =>
          rw [beq_iff_eq] at hxz
          subst hxz
          simp
      refine boolM ?_
      rw [cmpR_iff, Bool.and_eq_true]
      constructor
      · rintro ⟨z, hz, h3, h4⟩
        rw [en z hz, Bool.and_eq_true, beq_iff_eq] at h4
        obtain ⟨rfl, h4⟩ := h4
        rw [e2 _ hz] at h3
        exact ⟨h3, h4⟩
      · rintro ⟨h3, h4⟩
        exact ⟨y, hy, by rw [e2 y hy]; exact h3, by rw [en y hy, h4]; simp⟩
theorem pr_steps (hac : ∀ a s t, s < N → ac a s = some t → t < N) {p : XProg} (hf : FormP p) : ∀ x y, x < N → y < N → prR N ac tr p x y = true → ∃ n, ∀ K, Steps tr ac n (p :: K, x) (K, y) := by
  induction hf with
  | @leaf k n c ks h hk =>
    subst hk
    intro x y hx hy hr
    rcases h with rfl | rfl | rfl | rfl
    · have hr : (x == y) = true := hr
      rw [beq_iff_eq] at hr
      subst hr
      exact ⟨1, fun K => .cons (by simp [smallS, XProg.kind]) .refl⟩
    · cases hr
    · have hr : (ac n x == some y) = true := hr
      rw [beq_iff_eq] at hr
      exact ⟨1, fun K => .cons (by simp [smallS, XProg.kind, XProg.num, hr]) .refl⟩
    · have hr : ((x == y) && tr c x) = true := hr
      rw [Bool.and_eq_true, beq_iff_eq] at hr
      obtain ⟨rfl, ht9⟩ := hr
      exact ⟨1, fun K => .cons (by simp [smallS, XProg.kind, XProg.cond, ht9]) .refl⟩
  | @two k n c p q h hp hq ihp ihq =>
    intro x y hx hy hr
    rcases h with rfl | rfl
    · have hr : cmpR N (prR N ac tr p) (prR N ac tr q) x y = true := hr
      obtain ⟨z, hz, h1, h2⟩ := cmpR_iff.1 hr
      obtain ⟨n1, k1⟩ := ihp x z hx hz h1
      obtain ⟨n2, k2⟩ := ihq z y hz hy h2
      exact ⟨n1 + n2 + 1, fun K => .cons (b := (p :: q :: K, x)) (by simp [smallS, XProg.kind, XProg.kids]) ((k1 (q :: K)).trans (k2 K))⟩
    · have hr : (if tr c x then prR N ac tr p x y else prR N ac tr q x y) = true := hr
      cases ht : tr c x with
      | true =>
        rw [ht, if_pos rfl] at hr
        obtain ⟨n1, k1⟩ := ihp x y hx hy hr
        exact ⟨n1 + 1, fun K => .cons (b := (p :: K, x)) (by simp [smallS, XProg.kind, XProg.kids, XProg.cond, ht]) (k1 K)⟩
      | false =>
        rw [ht, if_neg (by decide)] at hr
        obtain ⟨n1, k1⟩ := ihq x y hx hy hr
        exact ⟨n1 + 1, fun K => .cons (b := (q :: K, x)) (by simp [smallS, XProg.kind, XProg.kids, XProg.cond, ht]) (k1 K)⟩
  | @loop n c p hp ihp =>
    intro x y hx hy hr
    have hr : (sqI N N (onR fun x y => tr c x && prR N ac tr p x y) x y && !(tr c y)) = true := hr
    rw [Bool.and_eq_true] at hr
    have h1 := (sq_pathM hx hy).1 hr.1
    have key : ∀ z, Star N (inM N fun x y => tr c x && prR N ac tr p x y) x z → z < N ∧ ∃ n1, ∀ K, Steps tr ac n1 (XProg.mk 7 n c [p] :: K, x) (XProg.mk 7 n c [p] :: K, z) := by
      intro z hz
      induction hz with
      | refl => exact ⟨hx, 0, fun K => .refl⟩
      | @step u v hu hul hs ih =>
        simp only [inM, Bool.and_eq_true, decide_eq_true_eq] at hs
        obtain ⟨_, n1, k1⟩ := ih
        obtain ⟨n2, k2⟩ := ihp u v hul hs.2 hs.1.2
        exact ⟨hs.2, n1 + (n2 + 1), fun K => (k1 K).trans (.cons (b := (p :: XProg.mk 7 n c [p] :: K, u)) (by simp [smallS, XProg.kind, XProg.kids, XProg.cond, hs.1.1]) (k2 _))⟩
    obtain ⟨_, n1, k1⟩ := key y h1
    have h2 : tr c y = false := by simpa using hr.2
    exact ⟨n1 + 1, fun K => (k1 K).trans (.cons (b := (K, y)) (by simp [smallS, XProg.kind, XProg.cond, h2]) .refl)⟩
end
end Go.Proofs.Ytlfigjkddnncgaa

namespace Go.Proofs.Ytlfigjkddnncgaa
open Go Go.KA Go.Proofs
set_option maxRecDepth 100000
def trW (w : XWorld) (c : XExpr) (s : Nat) : Bool := truthE c (at0 w (s : Int))
def acW (w : XWorld) (a : Int) (s : Nat) : Option Nat := if (w.acts.getD a.toNat []).getD s 0 < 0 then none else some ((w.acts.getD a.toNat []).getD s 0).toNat
theorem prL_map (N : Nat) (ac : Int → Nat → Option Nat) (tr : XExpr → Nat → Bool) : ∀ l : List XProg, prL N ac tr l = l.map (prR N ac tr)
  | [] => rfl
  | p :: ps => by rw [prL, prL_map N ac tr ps]; rfl
theorem prR_eq (N : Nat) (ac : Int → Nat → Option Nat) (tr : XExpr → Nat → Bool) (p : XProg) : prR N ac tr p = prK N ac tr p.kind p.num p.cond (p.kids.map (prR N ac tr)) := by
  cases p
  rw [prR, prL_map]
  rfl
theorem kidR {N : Nat} {ac : Int → Nat → Option Nat} {tr : XExpr → Nat → Bool} {ks : List XProg} {i : Nat} {k : XProg} (h : ks[i]? = some k) : (ks.map (prR N ac tr)).getD i zeroM = prR N ac tr k := by
  rw [List.getD_eq_getElem?_getD, List.getElem?_map, h]
  rfl
theorem Star.front {N : Nat} {S : Rel} {x z : Nat} (hx : x < N) (hs : S x z = true) {y : Nat} (h : Star N S z y) : Star N S x y := Star.trans (.step .refl hx hs) h
section
variable {t a : Int} {w : XWorld} {fuel : Int} (hw : WOk w)
include hw
theorem acW_all (n : Int) (s y : Nat) (hs : s < w.atoms.length) (h : acW w n s = some y) : y < w.atoms.length := by
  unfold acW at h
  by_cases h1 : n.toNat < w.acts.length
  · have h2 := hw.row _ (List.getElem_mem h1)
    rw [getD_eq h1] at h
    have h3 : s < w.acts[n.toNat].length := by omega
    rw [getD_eq h3] at h
    have h4 := h2.2 _ (List.getElem_mem h3)
    split at h
    · cases h
    · injection h with h
      omega
  · have e : w.acts.getD n.toNat [] = [] := by rw [List.getD_eq_getElem?_getD, List.getElem?_eq_none (by omega)]; rfl
    rw [e] at h
    simp at h
    omega
theorem run_steps {p : XProg} {r : RS} {c : Int} {r' : RS} (h : Run w fuel p r c r') : POk t a p → ∀ x : Nat, r.st = (x : Int) → x < w.atoms.length →
    (c = 0 → ∃ y n : Nat, r'.st = (y : Int) ∧ y < w.atoms.length ∧ r'.steps ≤ r.steps + n ∧ prR w.atoms.length (acW w) (trW w) p x y = true ∧ ∀ K, Steps (trW w) (acW w) n (p :: K, x) (K, y)) ∧
    (¬ c = 0 → ∃ (n : Nat) (q : XProg) (L : List XProg) (z : Nat), (∀ K, Steps (trW w) (acW w) n (p :: K, x) (q :: (L ++ K), z)) ∧ ((c = 7 ∧ fuel ≤ r.steps + n) ∨ ∀ K, smallS (trW w) (acW w) (q :: K, z) = none)) := by
  have tr0 : ∀ {r : RS} {x : Nat} {b : Bool} {c : XExpr}, r.st = (x : Int) → truthE c (at0 w r.st) = b → trW w c x = b := fun h1 h2 => by rw [← h2, h1]; rfl
  induction h with
  | @seqBad p k0 r c r1 hk g0 h hc ih =>
    intro hp x hx hN
    refine ⟨fun e => (hc e).elim, fun _ => ?_⟩
    obtain ⟨n, q, L, z, h1, h2⟩ := (ih (hp.kid (List.mem_of_getElem? g0)) x hx hN).2 hc
    refine ⟨n + 1, q, L ++ [p.kids.getD 1 noneP], z, fun K => ?_, ?_⟩
    · refine .cons (b := (k0 :: p.kids.getD 1 noneP :: K, x)) (by simp [smallS, hk, g0]) ?_
      have := h1 (p.kids.getD 1 noneP :: K)
      simpa using this
    · rcases h2 with ⟨h2, h3⟩ | h2
      · exact .inl ⟨h2, by omega⟩
      · exact .inr h2
  | @seqOk p k0 k1 r r1 c r2 hk g0 g1 h h2 ih1 ih2 =>
    intro hp x hx hN
    obtain ⟨y, n, e1, e2, e3, e4, e5⟩ := (ih1 (hp.kid (List.mem_of_getElem? g0)) x hx hN).1 rfl
    obtain ⟨f1, f2⟩ := ih2 (hp.kid (List.mem_of_getElem? g1)) y e1 e2
    have hst : ∀ K, smallS (trW w) (acW w) (p :: K, x) = some (k0 :: k1 :: K, x) := fun K => by simp [smallS, hk, g0, g1]
    refine ⟨fun hc => ?_, fun hc => ?_⟩
    · obtain ⟨z, m, d1, d2, d3, d4, d5⟩ := f1 hc
      refine ⟨z, n + m + 1, d1, d2, by omega, ?_, fun K => .cons (hst K) ((e5 _).trans (d5 K))⟩
      rw [prR_eq, prK, if_neg (by omega), if_neg (by omega), if_neg (by omega), if_pos hk, kidR g0, kidR g1]
      exact cmpR_iff.2 ⟨y, e2, e4, d4⟩
    · obtain ⟨m, q, L, z, d1, d2⟩ := f2 hc
      refine ⟨n + m + 1, q, L, z, fun K => .cons (hst K) ((e5 _).trans (d1 K)), ?_⟩
      rcases d2 with ⟨d2, d3⟩ | d2
      · exact .inl ⟨d2, by omega⟩
      · exact .inr d2
  | @budget p r hk hs =>
    intro hp x hx hN
    exact ⟨fun e => by omega, fun _ => ⟨0, p, [], x, fun K => .refl, .inl ⟨rfl, by omega⟩⟩⟩
  | @skip p r hk hs =>
    intro hp x hx hN
    refine ⟨fun _ => ⟨x, 1, hx, hN, by simp only []; omega, ?_, fun K => .cons (by simp [smallS, hk]) .refl⟩, fun e => (e rfl).elim⟩
    rw [prR_eq, prK, if_pos hk]
    simp
  | @fail p r hk hs =>
    intro hp x hx hN
    exact ⟨fun e => by omega, fun _ => ⟨0, p, [], x, fun K => .refl, .inr fun K => by simp [smallS, hk]⟩⟩
  | @actBad p r hk hs hn =>
    intro hp x hx hN
    refine ⟨fun e => by omega, fun _ => ⟨0, p, [], x, fun K => .refl, .inr fun K => ?_⟩⟩
    have : acW w p.num x = none := by
      unfold acW
      unfold nxt at hn
      rw [if_pos]
      simpa [hx] using hn
    simp [smallS, hk, this]
  | @actOk p r hk hs hn =>
    intro hp x hx hN
    have h1 : (nxt w (more r) p.num) = (w.acts.getD p.num.toNat []).getD x 0 := by
      unfold nxt
      simp [hx]
    have h2 : acW w p.num x = some ((w.acts.getD p.num.toNat []).getD x 0).toNat := by
      unfold acW
      rw [if_neg (by rw [← h1]; exact hn)]
    have h3 := acW_all hw _ _ _ hN h2
    refine ⟨fun _ => ⟨((w.acts.getD p.num.toNat []).getD x 0).toNat, 1, ?_, h3, by simp only []; omega, ?_, fun K => .cons (by simp [smallS, hk, h2]) .refl⟩, fun e => (e rfl).elim⟩
    · show nxt w (more r) p.num = _
      rw [h1] at hn ⊢
      omega
    · rw [prR_eq, prK, if_neg (by omega), if_pos hk]
      simp [h2]
  | @assertNo p r hk hs ht =>
    intro hp x hx hN
    exact ⟨fun e => by omega, fun _ => ⟨0, p, [], x, fun K => .refl, .inr fun K => by simp [smallS, hk, tr0 hx ht]⟩⟩
  | @assertYes p r hk hs ht =>
    intro hp x hx hN
    refine ⟨fun _ => ⟨x, 1, hx, hN, by simp only []; omega, ?_, fun K => .cons (by simp [smallS, hk, tr0 hx ht]) .refl⟩, fun e => (e rfl).elim⟩
    rw [prR_eq, prK, if_neg (by omega), if_neg (by omega), if_pos hk]
    simp [tr0 hx ht]
  | @ifYes p k0 r c r2 hk hs ht g0 h ih =>
    intro hp x hx hN
    obtain ⟨f1, f2⟩ := ih (hp.kid (List.mem_of_getElem? g0)) x hx hN
    have hst : ∀ K, smallS (trW w) (acW w) (p :: K, x) = some (k0 :: K, x) := fun K => by simp [smallS, hk, tr0 hx ht, g0]
    refine ⟨fun hc => ?_, fun hc => ?_⟩
    · obtain ⟨z, m, d1, d2, d3, d4, d5⟩ := f1 hc
      refine ⟨z, m + 1, d1, d2, by simp only [] at d3; omega, ?_, fun K => .cons (hst K) (d5 K)⟩
      rw [prR_eq, prK, if_neg (by omega), if_neg (by omega), if_neg (by omega), if_neg (by omega), if_pos hk, kidR g0]
      simp [tr0 hx ht, d4]
    · obtain ⟨m, q, L, z, d1, d2⟩ := f2 hc
      refine ⟨m + 1, q, L, z, fun K => .cons (hst K) (d1 K), ?_⟩
      rcases d2 with ⟨d2, d3⟩ | d2
      · exact .inl ⟨d2, by simp only [] at d3; omega⟩
      · exact .inr d2
  | @ifNo p k1 r c r2 hk hs ht g1 h ih =>
    intro hp x hx hN
    obtain ⟨f1, f2⟩ := ih (hp.kid (List.mem_of_getElem? g1)) x hx hN
    have hst : ∀ K, smallS (trW w) (acW w) (p :: K, x) = some (k1 :: K, x) := fun K => by simp [smallS, hk, tr0 hx ht, g1]
    refine ⟨fun hc => ?_, fun hc => ?_⟩
    · obtain ⟨z, m, d1, d2, d3, d4, d5⟩ := f1 hc
      refine ⟨z, m + 1, d1, d2, by simp only [] at d3; omega, ?_, fun K => .cons (hst K) (d5 K)⟩
      rw [prR_eq, prK, if_neg (by omega), if_neg (by omega), if_neg (by omega), if_neg (by omega), if_pos hk, kidR g1]
      simp [tr0 hx ht, d4]
    · obtain ⟨m, q, L, z, d1, d2⟩ := f2 hc
      refine ⟨m + 1, q, L, z, fun K => .cons (hst K) (d1 K), ?_⟩
      rcases d2 with ⟨d2, d3⟩ | d2
      · exact .inl ⟨d2, by simp only [] at d3; omega⟩
      · exact .inr d2
  | @whileNo p r hk hs ht =>
    intro hp x hx hN
    refine ⟨fun _ => ⟨x, 1, hx, hN, by simp only []; omega, ?_, fun K => .cons (by simp [smallS, hk, tr0 hx ht]) .refl⟩, fun e => (e rfl).elim⟩
    rw [prR_eq, prK, if_neg (by omega), if_neg (by omega), if_neg (by omega), if_neg (by omega), if_neg (by omega), if_pos hk]
    simp only [tr0 hx ht, Bool.not_false, Bool.and_true]
    exact (sq_pathM hN hN).2 .refl
  | @whileBad p k0 r c r1 hk hs ht g0 h hc ih =>
    intro hp x hx hN
    refine ⟨fun e => (hc e).elim, fun _ => ?_⟩
    obtain ⟨n, q, L, z, h1, h2⟩ := (ih (hp.kid (List.mem_of_getElem? g0)) x hx hN).2 hc
    refine ⟨n + 1, q, L ++ [p], z, fun K => ?_, ?_⟩
    · refine .cons (b := (k0 :: p :: K, x)) (by simp [smallS, hk, tr0 hx ht, g0]) ?_
      have := h1 (p :: K)
      simpa using this
    · rcases h2 with ⟨h2, h3⟩ | h2
      · exact .inl ⟨h2, by simp only [] at h3; omega⟩
      · exact .inr h2
  | @whileOk p k0 r r1 c r2 hk hs ht g0 h h2 ih1 ih2 =>
    intro hp x hx hN
    obtain ⟨y, n, e1, e2, e3, e4, e5⟩ := (ih1 (hp.kid (List.mem_of_getElem? g0)) x hx hN).1 rfl
    obtain ⟨f1, f2⟩ := ih2 hp y e1 e2
    have hst : ∀ K, smallS (trW w) (acW w) (p :: K, x) = some (k0 :: p :: K, x) := fun K => by simp [smallS, hk, tr0 hx ht, g0]
    simp only [] at e3
    refine ⟨fun hc => ?_, fun hc => ?_⟩
    · obtain ⟨z, m, d1, d2, d3, d4, d5⟩ := f1 hc
      refine ⟨z, n + m + 1, d1, d2, by omega, ?_, fun K => .cons (hst K) ((e5 _).trans (d5 K))⟩
      rw [prR_eq, prK, if_neg (by omega), if_neg (by omega), if_neg (by omega), if_neg (by omega), if_neg (by omega), if_pos hk, kidR g0] at d4 ⊢
      rw [Bool.and_eq_true] at d4 ⊢
      refine ⟨?_, d4.2⟩
      refine (sq_pathM hN d2).2 (Star.front hN ?_ ((sq_pathM e2 d2).1 d4.1))
      simp [inM, tr0 hx ht, e4, e2]
    · obtain ⟨m, q, L, z, d1, d2⟩ := f2 hc
      refine ⟨n + m + 1, q, L, z, fun K => .cons (hst K) ((e5 _).trans (d1 K)), ?_⟩
      rcases d2 with ⟨d2, d3⟩ | d2
      · exact .inl ⟨d2, by omega⟩
      · exact .inr d2
theorem run_rel {p : XProg} (hf : FormP p) {r : RS} {c : Int} {r' : RS} (h : Run w fuel p r c r') (hp : POk t a p) (hr : r.steps = 0) (hfu : fuel = 500) (hsz : (nodesP p + 1) * w.atoms.length ≤ 500) {x : Nat} (hx : r.st = (x : Int)) (hN : x < w.atoms.length) {y : Nat} (hy : y < w.atoms.length) :
    prR w.atoms.length (acW w) (trW w) p x y = (c == 0 && r'.st == (y : Int)) := by
  have hac := fun n s y => acW_all hw n s y
  obtain ⟨f1, f2⟩ := run_steps hw h hp x hx hN
  have hend : ∀ z : Nat, smallS (trW w) (acW w) (([], z) : Cfg) = none := fun z => rfl
  by_cases hc : c = 0
  · obtain ⟨z, n, e1, e2, e3, e4, e5⟩ := f1 hc
    refine boolM ?_
    rw [Bool.and_eq_true, beq_iff_eq, beq_iff_eq, e1]
    constructor
    · intro h1
      obtain ⟨m, k⟩ := pr_steps hac hf x y hN hy h1
      have := ((e5 []).same (k []) (hend _) (hend _)).2
      injection this with _ this
      exact ⟨hc, by rw [this]⟩
    · rintro ⟨_, h1⟩
      have : z = y := by omega
      subst this
      exact e4
  · obtain ⟨n, q, L, z, e1, e2⟩ := f2 hc
    have : (c == 0) = false := by simpa using hc
    rw [this, Bool.false_and]
    cases h1 : prR w.atoms.length (acW w) (trW w) p x y with
    | false => rfl
    | true =>
      exfalso
      obtain ⟨m, k⟩ := pr_steps hac hf x y hN hy h1
      have k := k []
      have e1 := e1 []
      rcases e2 with ⟨_, e2⟩ | e2
      · have h2 := run_short hac hf hN k
        have h3 : m < n := by omega
        have := (k.rest e1 (by omega)).stop (hend _)
        omega
      · have := (e1.same k (e2 _) (hend _)).2
        injection this with this _
        cases this
end
end Go.Proofs.Ytlfigjkddnncgaa

namespace Go.Proofs.Ytlfigjkddnncgaa
open Go Go.KA Go.Proofs
set_option maxRecDepth 100000
def testW (w : XWorld) (n : Int) (s : Nat) : Bool := bitE n (at0 w (s : Int))
theorem kids_two {α : Type} {l : List α} (h : l.length = 2) : ∃ x y, l = [x, y] := by
  match l, h with
  | [x, y], _ => exact ⟨x, y, rfl⟩
theorem kids_one {α : Type} {l : List α} (h : l.length = 1) : ∃ x, l = [x] := by
  match l, h with
  | [x], _ => exact ⟨x, rfl⟩
theorem POk.form {t a : Int} : ∀ (n : Nat) (p : XProg), SizeOf.sizeOf p ≤ n → POk t a p → FormP p
  | 0, .mk _ _ _ _, hn, _ => by simp at hn
  | n + 1, .mk k m c ks, hn, h => by
    have h1 : (ks.length : Int) = pkN k := h.len.1
    have h2 : 1 ≤ k ∧ k ≤ 7 := h.kind
    have hk : ∀ x ∈ ks, FormP x := fun x hx => POk.form n x (by have := List.sizeOf_lt_of_mem hx; simp at hn; omega) (h.kid hx)
    unfold pkN at h1
    by_cases h4 : k = 1 ∨ k = 2 ∨ k = 3 ∨ k = 4
    · rw [if_pos h4] at h1
      exact .leaf h4 (List.eq_nil_of_length_eq_zero (by omega))
    rw [if_neg h4] at h1
    by_cases h7 : k = 7
    · rw [if_pos h7] at h1
      obtain ⟨x, rfl⟩ := kids_one (l := ks) (by omega)
      subst h7
      exact .loop (hk x (by simp))
    rw [if_neg h7] at h1
    have h5 : k = 5 ∨ k = 6 := by omega
    rw [if_pos h5] at h1
    obtain ⟨x, y, rfl⟩ := kids_two (l := ks) (by omega)
    exact .two h5 (hk x (by simp)) (hk y (by simp))
theorem POk.conds {t a : Int} {P : XExpr → Prop} (hP : ∀ c, okC t a c → P c) : ∀ (n : Nat) (p : XProg), SizeOf.sizeOf p ≤ n → POk t a p → CondsP P p
  | 0, .mk _ _ _ _, hn, _ => by simp at hn
  | n + 1, .mk k m c ks, hn, h => .mk (fun hk => hP c (h.cond hk)) fun x hx => POk.conds hP n x (by have := List.sizeOf_lt_of_mem hx; simp at hn; omega) (h.kid hx)
theorem cond_rel {t a : Int} {w : XWorld} {N : Nat} (hN : w.atoms.length = N) : ∀ (n : Nat) (c : XExpr), SizeOf.sizeOf c ≤ n → okC t a c → ∀ x y, x < N → y < N → relE N (testW w) (acW w) c x y = ((x == y) && trW w c x)
  | 0, .mk _ _ _, hn, _ => by simp at hn
  | n + 1, .mk k m ks, hn, h => by
    intro x y hx hy
    have h1 : (ks.length : Int) = kidsN k := (okC_len h).1
    have h2 : 1 ≤ k ∧ k ≤ 7 ∧ k ≠ 4 := (okC_len h).2.2
    have hk : ∀ e ∈ ks, ∀ x y, x < N → y < N → relE N (testW w) (acW w) e x y = ((x == y) && trW w e x) := fun e he => cond_rel hN n e (by have := List.sizeOf_lt_of_mem he; simp at hn; omega) (okC_kid h he)
    rw [relE_eq]
    unfold trW
    rw [truthE_eq]
    simp only [XExpr.kind, XExpr.num, XExpr.kids]
    have hc : k = 1 ∨ k = 2 ∨ k = 3 ∨ k = 5 ∨ k = 6 ∨ k = 7 := by omega
    rcases hc with rfl | rfl | rfl | rfl | rfl | rfl
    · simp [relK, zeroM]
    · simp [relK]
    · simp [relK, testW]
    · obtain ⟨e, rfl⟩ := kids_one (l := ks) (by simp [kidsN] at h1; omega)
      have he := hk e (by simp) x y hx hy
      unfold trW at he
      by_cases hxy : x = y
      · subst hxy
        simp only [beq_self_eq_true, Bool.true_and] at he
        simp [relK, truthL, he]
      · have hb : (x == y) = false := by simpa using hxy
        simp [relK, hb]
    · obtain ⟨e, f, rfl⟩ := kids_two (l := ks) (by simp [kidsN] at h1; omega)
      have he := hk e (by simp) x y hx hy
      have hf := hk f (by simp) x y hx hy
      unfold trW at he hf
      simp [relK, truthL, he, hf, Bool.and_or_distrib_left]
    · obtain ⟨e, f, rfl⟩ := kids_two (l := ks) (by simp [kidsN] at h1; omega)
      have he := hk e (by simp)
      have hf := hk f (by simp)
      unfold trW at he hf
      simp only [relK, truthL]
      refine boolM ?_
      simp only [List.map_cons, List.map_nil, List.getD_cons_zero, List.getD_cons_succ, Bool.and_eq_true, beq_iff_eq]
      simp only [show ¬ ((7 : Int) = 4) by omega, show ¬ ((7 : Int) = 2) by omega, show ¬ ((7 : Int) = 3) by omega, show ¬ ((7 : Int) = 5) by omega, show ¬ ((7 : Int) = 6) by omega, if_true, if_false, Bool.and_eq_true]
      rw [cmpR_iff]
      constructor
      · rintro ⟨z, hz, q1, q2⟩
        rw [he x z hx hz, Bool.and_eq_true, beq_iff_eq] at q1
        rw [hf z y hz hy, Bool.and_eq_true, beq_iff_eq] at q2
        obtain ⟨rfl, q1⟩ := q1
        exact ⟨q2.1, q1, q2.2⟩
      · rintro ⟨rfl, q1, q2⟩
        exact ⟨x, hx, by rw [he x x hx hx]; simp [q1], by rw [hf x x hx hx]; simp [q2]⟩
theorem model_core {t a : Int} {w : XWorld} (hw : WOk w) {p : XProg} (hp : POk t a p) (hsz : (nodesP p + 1) * w.atoms.length ≤ 500) {x y : Nat} (hx : x < w.atoms.length) (hy : y < w.atoms.length) {c : Int} {r' : RS} (h : Run w 500 p ⟨(x : Int), [at0 w (x : Int)], [], 0⟩ c r') :
    relE w.atoms.length (testW w) (acW w) (progE p) x y = (c == 0 && r'.st == (y : Int)) := by
  have hf := hp.form _ _ (Nat.le_refl _)
  rw [rel_prog (tr := trW w) hf (hp.conds (fun c hc => cond_rel rfl _ c (Nat.le_refl _) hc) _ _ (Nat.le_refl _)) x y hx hy]
  exact run_rel hw hf h hp rfl rfl hsz rfl hx hy
end Go.Proofs.Ytlfigjkddnncgaa
