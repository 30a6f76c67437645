/- Contracts: sets of atoms as rising lists (the reference's): allowed next atoms, a number put to its place, unions, parts. No conditions but that conditions are valid. -/
import Derived.Test.YtmpcfplelpdbhaaGreatFB
import Derived.Test.YtmpcfplelpdbhaaGreatEngX
namespace Go.Proofs.YtmpcfplelpdbhaaGreat
open Go Go.KA Go.Proofs
set_option maxHeartbeats 16000000
set_option maxRecDepth 100000
/-! ### rising lists -/
def putL : List Int → Int → List Int
  | [], n => [n]
  | x :: xs, n => if x ≥ n then (if x > n then n :: x :: xs else x :: xs) else x :: putL xs n
theorem putL_len : ∀ (l : List Int) (n : Int), (putL l n).length ≤ l.length + 1
  | [], n => by simp [putL]
  | x :: xs, n => by
    have := putL_len xs n
    unfold putL
    split
    · split <;> simp
    · simp; omega
theorem putL_all {l : List Int} {n : Int} (h : ∀ x ∈ l, x < n) : putL l n = l ++ [n] := by
  induction l with
  | nil => rfl
  | cons x xs ih =>
    have := h x (by simp)
    unfold putL
    rw [if_neg (by omega), ih fun y hy => h y (by simp [hy])]
    rfl
theorem putL_cons {x n : Int} (xs : List Int) (h : x < n) : putL (x :: xs) n = x :: putL xs n := by
  unfold putL
  rw [if_neg (by omega)]
  cases xs <;> rfl
theorem putL_split {l m : List Int} {n : Int} (h : ∀ x ∈ l, x < n) : putL (l ++ m) n = l ++ putL m n := by
  induction l with
  | nil => rfl
  | cons x xs ih =>
    have := h x (by simp)
    show putL (x :: (xs ++ m)) n = _
    rw [putL_cons _ this, ih fun y hy => h y (by simp [hy])]
    rfl
theorem putL_last : ∀ {l : List Int} {n z : Int}, n < z → putL (l ++ [z]) n = putL l n ++ [z]
  | [], n, z, h => by
    show putL [z] n = [n] ++ [z]
    unfold putL
    rw [if_pos (by omega), if_pos (by omega)]
    rfl
  | x :: xs, n, z, h => by
    show putL (x :: (xs ++ [z])) n = _
    unfold putL
    split
    · split <;> rfl
    · rw [putL_last h]; rfl
theorem putL_same {l : List Int} {n : Int} (h : ∀ x ∈ l, x < n) : putL (l ++ [n]) n = l ++ [n] := by
  rw [putL_split h]
  unfold putL
  rw [if_pos (by omega), if_neg (by omega)]
def addP (P : Nat → Bool) (n : Nat) : Nat → Bool := fun y => P y || y == n
theorem selR_lt {N : Nat} {P : Nat → Bool} : ∀ x ∈ selR N P, x < (N : Int) := by
  intro x hx
  obtain ⟨i, h, _, rfl⟩ := selR_mem.1 hx
  omega
theorem put_sel : ∀ {N : Nat} (P : Nat → Bool) {n : Nat}, n < N → putL (selR N P) n = selR N (addP P n)
  | 0, P, n, h => by omega
  | N + 1, P, n, h => by
    by_cases hn : n = N
    · subst hn
      have h1 : addP P n n = true := by simp [addP]
      have h2 : selR n (addP P n) = selR n P := selR_congr fun i hi => by
        have : (i == n) = false := by rw [beq_eq_false_iff_ne]; omega
        simp [addP, this]
      rw [selR_yes h1, h2]
      cases hp : P n with
      | true => rw [selR_yes hp]; exact putL_same selR_lt
      | false => rw [selR_no hp]; exact putL_all selR_lt
    · have hlt : n < N := by omega
      have h1 : addP P n N = P N := by
        have : (N == n) = false := by rw [beq_eq_false_iff_ne]; omega
        simp [addP, this]
      cases hp : P N with
      | true => rw [selR_yes hp, selR_yes (h1.trans hp), putL_last (by omega), put_sel P hlt]
      | false => rw [selR_no hp, selR_no (h1.trans hp), put_sel P hlt]
def unL (a b : List Int) : List Int := b.foldl putL a
theorem un_sel {N : Nat} : ∀ (b : List Int) (P : Nat → Bool), (∀ x ∈ b, ∃ i : Nat, i < N ∧ x = i) → unL (selR N P) b = selR N fun y => P y || memB (y : Int) b
  | [], P, h => by
    show selR N P = _
    exact selR_congr fun i _ => by simp [memB]
  | x :: b, P, h => by
    obtain ⟨i, hi, rfl⟩ := h x (by simp)
    show unL (putL (selR N P) i) b = _
    rw [put_sel P hi, un_sel b _ fun x hx => h x (by simp [hx])]
    refine selR_congr fun y _ => ?_
    have : memB (y : Int) ((i : Int) :: b) = ((y == i) || memB (y : Int) b) := by
      unfold memB
      by_cases hy : y = i
      · subst hy; simp
      · have h1 : (y == i) = false := by rw [beq_eq_false_iff_ne]; exact hy
        have h2 : ¬ (y : Int) = (i : Int) := by omega
        rw [h1]
        simp [h2]
    rw [this]
    simp [addP, Bool.or_assoc]
theorem mem_sel {N : Nat} {Q : Nat → Bool} {y : Nat} (hy : y < N) : memB (y : Int) (selR N Q) = Q y := by
  unfold memB
  refine bool_ext ?_
  rw [decide_eq_true_eq, selR_mem]
  constructor
  · rintro ⟨i, _, h, e⟩
    have : y = i := by omega
    rw [this]; exact h
  · intro h; exact ⟨y, hy, h, rfl⟩
theorem un_sets {N : Nat} (P Q : Nat → Bool) : unL (selR N P) (selR N Q) = selR N (orP P Q) := by
  rw [un_sel _ _ fun x hx => by obtain ⟨i, h, _, e⟩ := selR_mem.1 hx; exact ⟨i, h, e⟩]
  exact selR_congr fun y hy => by rw [mem_sel hy]; rfl
theorem unL_len (a : List Int) : ∀ b : List Int, (unL a b).length ≤ a.length + b.length := by
  intro b
  induction b generalizing a with
  | nil => exact Nat.le_refl _
  | cons x b ih =>
    have h1 := ih (putL a x)
    have h2 := putL_len a x
    show (unL (putL a x) b).length ≤ _
    simp only [List.length_cons]
    omega
/-! ### contracts -/
theorem put_done {l out : List Int} {i : Nat} {n : Int} (hi : i < l.length) (h : out ++ l.drop i = putL l n) : (out ++ [l[i]]) ++ l.drop (i + 1) = putL l n := by
  rw [← h, List.append_assoc, List.drop_eq_getElem_cons hi]
  rfl
theorem put_ge {l : List Int} {i : Nat} {n : Int} (hi : i < l.length) (hlt : ∀ x ∈ l.take i, x < n) (h1 : l[i] > n) : ((l.take i ++ [n]) ++ [l[i]]) ++ l.drop (i + 1) = putL l n := by
  conv => rhs; rw [← List.take_append_drop i l]
  rw [putL_split hlt, List.drop_eq_getElem_cons hi]
  unfold putL
  rw [if_pos (by omega), if_pos h1]
  simp
theorem put_eq {l : List Int} {i : Nat} {n : Int} (hi : i < l.length) (hlt : ∀ x ∈ l.take i, x < n) (h0 : l[i] ≥ n) (h1 : ¬ l[i] > n) : (l.take i ++ [l[i]]) ++ l.drop (i + 1) = putL l n := by
  conv => rhs; rw [← List.take_append_drop i l]
  rw [putL_split hlt, List.drop_eq_getElem_cons hi]
  unfold putL
  rw [if_pos h0, if_neg h1]
  simp
theorem put_lt {l : List Int} {i : Nat} {n : Int} (hi : i < l.length) (hlt : ∀ x ∈ l.take i, x < n) (h0 : ¬ l[i] ≥ n) : l.take i ++ [l[i]] = l.take (i + 1) ∧ ∀ x ∈ l.take (i + 1), x < n := by
  refine ⟨(List.take_succ_eq_append_getElem hi).symm, fun x hx => ?_⟩
  rw [List.take_succ_eq_append_getElem hi] at hx
  rcases List.mem_append.1 hx with hx | hx
  · exact hlt x hx
  · have := List.mem_singleton.1 hx; omega
theorem l00Put_own (l : List Int) (n : Int) (hl : l.length ≤ 100000) : CallX Tryz.prog 156 [.c (.ro 1 (l.map eI)), I n] [] (.c (.ows 2 1 ((putL l n).map eI))) := by
  refine callX_of_vc htb hm Tryz.func156 rfl rfl rfl rfl (ann := fun _ => none) (gh := fun _ => false) ?_
  repeat' ((conv => whnf); first | (guard_target = Done _; refine Done.mk ?_) | (guard_target = RetX _ _; refine RetX.mk ?_ ?_) | (guard_target =~ LoopE 4 _ _ _ _ _ _; refine LoopE.mk { α := List Int × Bool × Nat, keep := [0, 1], ov := fun ⟨out, d, i⟩ => [(5, .lw 1), (6, .c (.cb d)), (7, I (i : Nat))], hv := fun ⟨out, d, i⟩ => [(1, .row none 2 1 (out.map eI))], φ := fun ⟨out, d, i⟩ => i ≤ l.length ∧ out.length ≤ i + 1 ∧ (d = false → out = l.take i ∧ ∀ x ∈ l.take i, x < n) ∧ (d = true → out ++ l.drop i = putL l n), μ := fun ⟨out, d, i⟩ => l.length - i } (LoopN.mk (([], false, 0) : List Int × Bool × Nat) (by exact ⟨Nat.zero_le _, Nat.zero_le _, fun _ => ⟨rfl, by simp⟩, (fun h => by cases h)⟩) (by (repeat' ((conv => whnf) <;> (first | exact trivial | refine ⟨?_, ?_⟩ | kernel_rfl))); done) (by (repeat' ((conv => whnf) <;> (first | exact trivial | refine ⟨?_, ?_⟩ | kernel_rfl))); done) (by (repeat' ((conv => whnf) <;> (first | exact trivial | refine ⟨?_, ?_⟩ | exact rfl | (simp only [List.map_append, List.map_cons, List.map_nil, List.map_set]; first | done | rfl)))); done) (fun A ha => ?_) (by intro A; first | rfl | (obtain ⟨_, _⟩ := A; rfl) | (obtain ⟨_, _, _⟩ := A; rfl))); obtain ⟨out, d, i⟩ := A; have ha : i ≤ l.length ∧ out.length ≤ i + 1 ∧ (d = false → out = l.take i ∧ ∀ x ∈ l.take i, x < n) ∧ (d = true → out ++ l.drop i = putL l n) := ha; cases d) | (guard_target = Gh _ _ _ _ _; refine Gh.go ⟨((out ++ [l[i]], false, i + 1) : List Int × Bool × Nat), (by (obtain ⟨e, hlt⟩ := ha.2.2.1 rfl; exact ⟨by show i + 1 ≤ _; omega, by show (out ++ [_]).length ≤ _; simp; omega, fun _ => by rw [e]; exact put_lt (by omega) hlt h, (fun h => by cases h)⟩)), (by first | (show _ < _; simp only []; omega) | omega | (simp; omega)), (by (repeat' ((conv => whnf) <;> (first | exact trivial | refine ⟨?_, ?_⟩ | kernel_rfl))); done), (by (repeat' ((conv => whnf) <;> (first | exact trivial | refine ⟨?_, ?_⟩ | kernel_rfl))); done), (by (repeat' ((conv => whnf) <;> (first | exact trivial | refine ⟨?_, ?_⟩ | exact rfl | (simp only [List.map_append, List.map_cons, List.map_nil]; first | done | rfl)))); done)⟩) | (guard_target = Gh _ _ _ _ _; refine Gh.go ⟨((out ++ [n] ++ [l[i]], true, i + 1) : List Int × Bool × Nat), (by (obtain ⟨e, hlt⟩ := ha.2.2.1 rfl; exact ⟨by show i + 1 ≤ _; omega, by have : out.length ≤ i := (by rw [e, List.length_take]; omega); show (out ++ [_] ++ [_]).length ≤ _; simp; omega, (fun h => by cases h), fun _ => by rw [e]; exact put_ge (by omega) hlt h⟩)), (by first | (show _ < _; simp only []; omega) | omega | (simp; omega)), (by (repeat' ((conv => whnf) <;> (first | exact trivial | refine ⟨?_, ?_⟩ | kernel_rfl))); done), (by (repeat' ((conv => whnf) <;> (first | exact trivial | refine ⟨?_, ?_⟩ | kernel_rfl))); done), (by (repeat' ((conv => whnf) <;> (first | exact trivial | refine ⟨?_, ?_⟩ | exact rfl | (simp only [List.map_append, List.map_cons, List.map_nil]; first | done | rfl)))); done)⟩) | (guard_target = Gh _ _ _ _ _; refine Gh.go ⟨((out ++ [l[i]], true, i + 1) : List Int × Bool × Nat), (by (obtain ⟨e, hlt⟩ := ha.2.2.1 rfl; exact ⟨by show i + 1 ≤ _; omega, by show (out ++ [_]).length ≤ _; simp; omega, (fun h => by cases h), fun _ => by rw [e]; exact put_eq (by omega) hlt (by assumption) h⟩)), (by first | (show _ < _; simp only []; omega) | omega | (simp; omega)), (by (repeat' ((conv => whnf) <;> (first | exact trivial | refine ⟨?_, ?_⟩ | kernel_rfl))); done), (by (repeat' ((conv => whnf) <;> (first | exact trivial | refine ⟨?_, ?_⟩ | kernel_rfl))); done), (by (repeat' ((conv => whnf) <;> (first | exact trivial | refine ⟨?_, ?_⟩ | exact rfl | (simp only [List.map_append, List.map_cons, List.map_nil]; first | done | rfl)))); done)⟩) | (guard_target = Gh _ _ _ _ _; refine Gh.go ⟨((out ++ [l[i]], true, i + 1) : List Int × Bool × Nat), (by exact ⟨by show i + 1 ≤ _; omega, by show (out ++ [_]).length ≤ _; simp; omega, (fun h => by cases h), fun _ => put_done (by omega) (ha.2.2.2 rfl)⟩), (by first | (show _ < _; simp only []; omega) | omega | (simp; omega)), (by (repeat' ((conv => whnf) <;> (first | exact trivial | refine ⟨?_, ?_⟩ | kernel_rfl))); done), (by (repeat' ((conv => whnf) <;> (first | exact trivial | refine ⟨?_, ?_⟩ | kernel_rfl))); done), (by (repeat' ((conv => whnf) <;> (first | exact trivial | refine ⟨?_, ?_⟩ | exact rfl | (simp only [List.map_append, List.map_cons, List.map_nil]; first | done | rfl)))); done)⟩) | (guard_target = Fact _ _; refine Fact.mk fun hL => ?_; (try simp only [List.length_map, maxLen] at hL)) | (guard_target = Branch _ _ _; (first | refine Branch.dec ?_ ?_ | refine Branch.beq ?_ ?_ | refine Branch.bne ?_ ?_ | refine Branch.ndec ?_ ?_ | refine Branch.nb ?_ ?_ | refine Branch.mk ?_ ?_) <;> intro h <;> (try simp only [List.length_map] at h) <;> (try omega) <;> (try contradiction)) | (guard_target = Arith _ _ _; refine Arith.fit (wrap_fit (by first | omega | (simp only [List.length_map]; omega)) (by first | omega | (simp only [List.length_map]; omega))) ?_) | (guard_target = Arith _ _ _; refine Arith.fit (by decide) ?_) | (guard_target = Index _ _ _; first | refine Index.mk _ (idx_map (l := l) (i := i) (by omega)) ?_ | refine Index.mk _ (idx_map (by omega)) ?_) | (guard_target = Need (_ = true) _; refine Need.mk (by first | kernel_rfl | rfl) ?_) | (guard_target = LinkV _ _ _; first  | refine LinkV.no ?_) | (guard_target = GhO _ _ _ _; refine GhO.go ?_) | (guard_target = Need _ _; refine Need.mk (by first | ((simp only [List.length_map, List.length_append, List.length_cons, List.length_nil, maxLen]; constructor <;> omega)) | omega | (simp only [List.length_map]; omega)) ?_))
  all_goals first | rfl | trivial | (obtain ⟨e, hlt⟩ := ha.2.2.1 rfl; rw [List.take_of_length_le (by omega)] at e hlt; rw [putL_all hlt, e, List.map_append]; rfl) | (have h9 := ha.2.2.2 rfl; rw [List.drop_of_length_le (by omega), List.append_nil] at h9; rw [h9]; done)
theorem l00Put_ok (l : List Int) (n : Int) (hl : l.length ≤ 100000) : CallX Tryz.prog 156 [.c (.ro 1 (l.map eI)), I n] [] (.c (.ro 1 ((putL l n).map eI))) := (l00Put_own l n hl).soft (soft_ints _)
theorem l00Own_ro (l : List Int) (hl : l.length ≤ 1000000) : CallX Tryz.prog 154 [.c (.ro 1 (l.map eI))] [] (.c (.ro 1 (l.map eI))) := by
  have h : CallX Tryz.prog 154 [.c (.ro 1 (l.map eI))] [] (.c (.ows 2 1 (l.map eI))) := by
    refine callX_of_vc htb hm Tryz.func154 rfl rfl rfl rfl (ann := fun _ => none) (gh := fun _ => false) ?_
    repeat' ((conv => whnf); first | (guard_target = Done _; refine Done.mk ?_) | (guard_target = RetX _ _; refine RetX.mk ?_ ?_) | (guard_target = Fact _ _; refine Fact.mk fun hL => ?_; (try simp only [List.length_map, maxLen] at hL)) | (guard_target = Branch _ _ _; (first | refine Branch.dec ?_ ?_ | refine Branch.beq ?_ ?_ | refine Branch.bne ?_ ?_ | refine Branch.ndec ?_ ?_ | refine Branch.nb ?_ ?_ | refine Branch.mk ?_ ?_) <;> intro h <;> (try simp only [List.length_map] at h) <;> (try omega) <;> (try contradiction)) | (guard_target = Arith _ _ _; refine Arith.fit (wrap_fit (by first | omega | (simp only [List.length_map]; omega)) (by first | omega | (simp only [List.length_map]; omega))) ?_) | (guard_target = Arith _ _ _; refine Arith.fit (by decide) ?_) | (guard_target = Index _ _ _; first  | refine Index.mk _ (idx_map (by omega)) ?_) | (guard_target = Need (_ = true) _; refine Need.mk (by first | kernel_rfl | rfl) ?_) | (guard_target = LinkV _ _ _; first  | refine LinkV.no ?_) | (guard_target = GhO _ _ _ _; refine GhO.go ?_) | (guard_target = Need _ _; refine Need.mk (by first | ((simp only [List.length_map, List.length_nil, maxLen]; constructor <;> omega)) | omega | (simp only [List.length_map]; omega)) ?_))
    all_goals first | rfl | trivial
  exact h.soft (soft_ints _)
theorem fold_step {α β : Type} (f : β → α → β) (l : List α) (b : β) {k : Nat} (h : k < l.length) : (l.take (k + 1)).foldl f b = f ((l.take k).foldl f b) l[k] := by
  rw [List.take_succ_eq_append_getElem h, List.foldl_append]
  rfl
theorem l07Union_ok (l m : List Int) (hl : l.length ≤ 1000) (hm0 : m.length ≤ 1000) : CallX Tryz.prog 157 [.c (.ro 1 (l.map eI)), .c (.ro 1 (m.map eI))] [] (.c (.ro 1 ((unL l m).map eI))) := by
  have how := l00Own_ro l (by omega)
  refine callX_of_vc htb hm Tryz.func157 rfl rfl rfl rfl (ann := fun _ => none) (gh := fun _ => false) ?_
  repeat' ((conv => whnf); first | (guard_target = Done _; refine Done.mk ?_) | (guard_target = RetX _ _; refine RetX.mk ?_ ?_) | (guard_target =~ LoopE 3 _ _ _ _ _ _; refine LoopE.mk { α := List Int × Nat, keep := [1], ov := fun ⟨X, i⟩ => [(5, .c (.ro 1 (X.map eI))), (6, I (i : Nat))], φ := fun ⟨X, i⟩ => i ≤ m.length ∧ X = unL l (m.take i), μ := fun ⟨X, i⟩ => m.length - i } (LoopN.mk ((l, 0) : List Int × Nat) (by exact ⟨Nat.zero_le _, rfl⟩) (by (repeat' ((conv => whnf) <;> (first | exact trivial | refine ⟨?_, ?_⟩ | kernel_rfl))); done) (by (repeat' ((conv => whnf) <;> (first | exact trivial | refine ⟨?_, ?_⟩ | kernel_rfl))); done) (by (repeat' ((conv => whnf) <;> (first | exact trivial | refine ⟨?_, ?_⟩ | exact rfl | (simp only [List.map_append, List.map_cons, List.map_nil, List.map_set]; first | done | rfl)))); done) (fun A ha => ?_) (by intro A; first | rfl | (obtain ⟨_, _⟩ := A; rfl) | (obtain ⟨_, _, _⟩ := A; rfl))); obtain ⟨X, i⟩ := A; have ha : i ≤ m.length ∧ X = unL l (m.take i) := ha; have hlen : X.length ≤ 2000 := (by rw [ha.2]; have := unL_len l (m.take i); rw [List.length_take] at this; omega)) | (guard_target = Gh _ _ _ _ _; refine Gh.go ⟨((putL X m[i], i + 1) : List Int × Nat), (by exact ⟨by show i + 1 ≤ _; omega, by show putL X _ = _; unfold unL; rw [fold_step _ _ _ (by omega), ha.2]; rfl⟩), (by first | (show _ < _; simp only []; omega) | omega | (simp; omega)), (by (repeat' ((conv => whnf) <;> (first | exact trivial | refine ⟨?_, ?_⟩ | kernel_rfl))); done), (by (repeat' ((conv => whnf) <;> (first | exact trivial | refine ⟨?_, ?_⟩ | kernel_rfl))); done), (by (repeat' ((conv => whnf) <;> (first | exact trivial | refine ⟨?_, ?_⟩ | exact rfl | (simp only [List.map_append, List.map_cons, List.map_nil, List.map_set]; first | done | rfl)))); done)⟩) | (guard_target = Fact _ _; refine Fact.mk fun hL => ?_; (try simp only [List.length_map, maxLen] at hL)) | (guard_target = Branch _ _ _; (first | refine Branch.dec ?_ ?_ | refine Branch.beq ?_ ?_ | refine Branch.bne ?_ ?_ | refine Branch.ndec ?_ ?_ | refine Branch.nb ?_ ?_ | refine Branch.mk ?_ ?_) <;> intro h <;> (try simp only [List.length_map] at h) <;> (try omega) <;> (try contradiction)) | (guard_target = CallN _ 154 _ _ _ _; refine CallN.gen [] _ _ _ rfl (how) rfl rfl _ rfl ?_) | (guard_target = CallN _ 156 _ _ _ _; refine CallN.gen [] _ _ _ rfl (l00Put_ok X _ (by omega)) rfl rfl _ rfl ?_) | (guard_target = Arith _ _ _; refine Arith.fit (wrap_fit (by first | omega | (simp only [List.length_map]; omega)) (by first | omega | (simp only [List.length_map]; omega))) ?_) | (guard_target = Arith _ _ _; refine Arith.fit (by decide) ?_) | (guard_target = Index _ _ _; first | refine Index.mk _ (idx_map (l := m) (i := i) (by omega)) ?_ | refine Index.mk _ (idx_map (by omega)) ?_) | (guard_target = Need (_ = true) _; refine Need.mk (by first | kernel_rfl | rfl) ?_) | (guard_target = LinkV _ _ _; first  | refine LinkV.no ?_) | (guard_target = GhO _ _ _ _; refine GhO.go ?_) | (guard_target = Need _ _; refine Need.mk (by first  | omega | (simp only [List.length_map]; omega)) ?_))
  all_goals first | rfl | trivial | (have h9 := ha.2; rw [List.take_of_length_le (by omega)] at h9; rw [h9]; done)
section
variable (t a : Int) (ht : 0 ≤ t ∧ t ≤ 3)
include ht
theorem true_pre (x : XPremise) (h : okC t a x.pre) (atom : Int) : CallF Tryz.prog 153 [.c (.rp 7 (encPremise x)), I atom] (B (truthE x.pre atom)) := by
  have := l01True_ok t a atom ht.2 x.pre h
  rw [encExpr_eq] at this
  exact this.cut (.cut (k := 3) (by omega) (.same .nil))
theorem true_post (x : XPremise) (h : okC t a x.post) (atom : Int) : CallF Tryz.prog 153 [.c (.rp 3 ((encPremise x).drop 4)), I atom] (B (truthE x.post atom)) := by
  have := l01True_ok t a atom ht.2 x.post h
  rwa [encExpr_eq] at this
theorem l07Allows_ok (l : List XPremise) (hl : PremOk t a l) (act x y : Int) : CallF Tryz.prog 209 [.c (.ro 7 (l.map encPremise)), I act, I x, I y] (B (alB l act x y)) := by
  refine callF_of_vc htb hm Tryz.func209 rfl rfl rfl rfl (ann := fun _ => none) (gh := fun _ => false) ?_
  repeat' ((conv => whnf); first | (guard_target = Done _; refine Done.mk ?_; first | ((rw [show alB l act x y = true from all_getD fun u hu => ha.2 u (by omega)]; rfl); done) | ((rw [show alB l act x y = false from all_getD_no (i := i) (d := pn0) (by omega) (by simp_all [alP])]; rfl); done) | skip) | (guard_target = RetX _ _; refine RetX.mk ?_ ?_) | (guard_target =~ LoopE 2 _ _ _ _ _ _; refine LoopE.mk { α := Nat, keep := [0, 1, 2, 3], ov := fun i => [(9, I (i : Nat))], φ := fun i => i ≤ l.length ∧ ∀ u, u < i → alP act x y (l.getD u pn0) = true, μ := fun i => l.length - i } (LoopN.mk (0 : Nat) (by exact ⟨Nat.zero_le _, fun u hu => by omega⟩) (by (repeat' ((conv => whnf) <;> (first | exact trivial | refine ⟨?_, ?_⟩ | kernel_rfl))); done) (by (repeat' ((conv => whnf) <;> (first | exact trivial | refine ⟨?_, ?_⟩ | kernel_rfl))); done) (by (repeat' ((conv => whnf) <;> (first | exact trivial | refine ⟨?_, ?_⟩ | exact rfl | (simp only [List.map_append, List.map_cons, List.map_nil, List.map_set]; first | done | rfl)))); done) (fun (i : Nat) ha => ?_) (by intro A; first | rfl | (obtain ⟨_, _⟩ := A; rfl) | (obtain ⟨_, _, _⟩ := A; rfl))); have ha : i ≤ l.length ∧ ∀ u, u < i → alP act x y (l.getD u pn0) = true := ha; have hi := @PremOk.at t a l hl i) | (guard_target = Gh _ _ _ _ _; refine Gh.go ⟨(i + 1 : Nat), (by exact ⟨by show i + 1 ≤ _; omega, by intro u hu; by_cases e : u = i; (subst e; simp_all [alP]); exact ha.2 u (by omega)⟩), (by first | (show _ < _; simp only []; omega) | omega | (simp; omega)), (by (repeat' ((conv => whnf) <;> (first | exact trivial | refine ⟨?_, ?_⟩ | kernel_rfl))); done), (by (repeat' ((conv => whnf) <;> (first | exact trivial | refine ⟨?_, ?_⟩ | kernel_rfl))); done), (by (repeat' ((conv => whnf) <;> (first | exact trivial | refine ⟨?_, ?_⟩ | exact rfl | (simp only [List.map_append, List.map_cons, List.map_nil, List.map_set]; first | done | rfl)))); done)⟩) | (guard_target = Fact _ _; refine Fact.mk fun hL => ?_; (try simp only [List.length_map, maxLen] at hL)) | (guard_target = Branch _ _ _; (first | refine Branch.dec ?_ ?_ | refine Branch.beq ?_ ?_ | refine Branch.bne ?_ ?_ | refine Branch.ndec ?_ ?_ | refine Branch.nb ?_ ?_ | refine Branch.mk ?_ ?_) <;> intro h <;> (try simp only [List.length_map] at h) <;> (try omega) <;> (try contradiction)) | (guard_target = CallN _ 153 _ _ _ _; refine CallN.pure _ _ rfl (true_pre t a ht _ (hi (by omega)).1 x) rfl _ rfl ?_) | (guard_target = CallN _ 153 _ _ _ _; refine CallN.pure _ _ rfl (true_post t a ht _ (hi (by omega)).2 y) rfl _ rfl ?_) | (guard_target = Arith _ _ _; refine Arith.fit (wrap_fit (by first | omega | (simp only [List.length_map]; omega)) (by first | omega | (simp only [List.length_map]; omega))) ?_) | (guard_target = Arith _ _ _; refine Arith.fit (by decide) ?_) | (guard_target = Index _ _ _; first | refine Index.mk _ (idx_getD (d := pn0) (i := i) (by omega)) ?_ | refine Index.mk _ (idx_map (by omega)) ?_) | (guard_target = Need (_ = true) _; refine Need.mk (by first | kernel_rfl | rfl) ?_) | (guard_target = LinkV _ _ _; first  | refine LinkV.no ?_) | (guard_target = GhO _ _ _ _; refine GhO.go ?_) | (guard_target = Need _ _; refine Need.mk (by first  | omega | (simp only [List.length_map]; omega)) ?_))
  all_goals first | rfl | trivial
variable (N : Nat) (hN : atomsN t = N ∧ 1 ≤ N ∧ N ≤ 8)
include hN
theorem l07Next_ok (l : List XPremise) (hl : PremOk t a l) (act x : Int) : CallX Tryz.prog 155 [.a 2 [J t, J a], .c (.ro 7 (l.map encPremise)), I act, I x] [] (.c (.ro 1 ((selR N fun y => alB l act x y).map eI))) := by
  have hat := l01Atoms_ok t a ht
  rw [hN.1] at hat
  have hsl := fun i => selR_len i fun y => alB l act x y
  have hA := fun y => l07Allows_ok t a ht l hl act x y
  have h : CallX Tryz.prog 155 [.a 2 [J t, J a], .c (.ro 7 (l.map encPremise)), I act, I x] [] (.c (.ows 2 1 ((selR N fun y => alB l act x y).map eI))) := by
    refine callX_of_vc htb hm Tryz.func155 rfl rfl rfl rfl (ann := fun _ => none) (gh := fun _ => false) ?_
    repeat' ((conv => whnf); first | (guard_target = Done _; refine Done.mk ?_) | (guard_target = RetX _ _; refine RetX.mk ?_ ?_) | (guard_target =~ LoopE 3 _ _ _ _ _ _; refine LoopE.mk { α := List Int × Nat, keep := [1, 2, 3, 4], ov := fun ⟨R, y⟩ => [(9, .lw 2), (10, I (y : Nat))], hv := fun ⟨R, y⟩ => [(2, .row none 2 1 (R.map eI))], φ := fun ⟨R, y⟩ => y ≤ N ∧ R = selR y (fun y => alB l act x y), μ := fun ⟨R, y⟩ => N - y } (LoopN.mk (([], 0) : List Int × Nat) (by exact ⟨Nat.zero_le _, rfl⟩) (by (repeat' ((conv => whnf) <;> (first | exact trivial | refine ⟨?_, ?_⟩ | kernel_rfl))); done) (by (repeat' ((conv => whnf) <;> (first | exact trivial | refine ⟨?_, ?_⟩ | kernel_rfl))); done) (by (repeat' ((conv => whnf) <;> (first | exact trivial | refine ⟨?_, ?_⟩ | exact rfl | (simp only [List.map_append, List.map_cons, List.map_nil, List.map_set]; first | done | rfl)))); done) (fun A ha => ?_) (by intro A; first | rfl | (obtain ⟨_, _⟩ := A; rfl) | (obtain ⟨_, _, _⟩ := A; rfl))); obtain ⟨R, y⟩ := A; have ha : y ≤ N ∧ R = selR y (fun y => alB l act x y) := ha; have hsx := hsl y; rw [← ha.2] at hsx) | (guard_target = Gh _ _ _ _ _; refine Gh.go ⟨((R ++ [(y : Int)], y + 1) : List Int × Nat), (by exact ⟨by show y + 1 ≤ N; omega, by show R ++ _ = _; rw [selR_yes h, ← ha.2]⟩), (by first | (show _ < _; simp only []; omega) | omega | (simp; omega)), (by (repeat' ((conv => whnf) <;> (first | exact trivial | refine ⟨?_, ?_⟩ | kernel_rfl))); done), (by (repeat' ((conv => whnf) <;> (first | exact trivial | refine ⟨?_, ?_⟩ | kernel_rfl))); done), (by (repeat' ((conv => whnf) <;> (first | exact trivial | refine ⟨?_, ?_⟩ | exact rfl | (simp only [List.map_append, List.map_cons, List.map_nil]; first | done | rfl)))); done)⟩) | (guard_target = Gh _ _ _ _ _; refine Gh.go ⟨((R, y + 1) : List Int × Nat), (by exact ⟨by show y + 1 ≤ N; omega, by show R = _; rw [selR_no h, ← ha.2]⟩), (by first | (show _ < _; simp only []; omega) | omega | (simp; omega)), (by (repeat' ((conv => whnf) <;> (first | exact trivial | refine ⟨?_, ?_⟩ | kernel_rfl))); done), (by (repeat' ((conv => whnf) <;> (first | exact trivial | refine ⟨?_, ?_⟩ | kernel_rfl))); done), (by (repeat' ((conv => whnf) <;> (first | exact trivial | refine ⟨?_, ?_⟩ | exact rfl | (simp only [List.map_append, List.map_cons, List.map_nil, List.map_set]; first | done | rfl)))); done)⟩) | (guard_target = Fact _ _; refine Fact.mk fun hL => ?_; (try simp only [List.length_map, maxLen] at hL)) | (guard_target = Branch _ _ _; (first | refine Branch.dec ?_ ?_ | refine Branch.beq ?_ ?_ | refine Branch.bne ?_ ?_ | refine Branch.ndec ?_ ?_ | refine Branch.nb ?_ ?_ | refine Branch.mk ?_ ?_) <;> intro h <;> (try simp only [List.length_map] at h) <;> (try omega) <;> (try contradiction)) | (guard_target = CallN _ 158 _ _ _ _; refine CallN.pure _ _ rfl (hat) rfl _ rfl ?_) | (guard_target = CallN _ 209 _ _ _ _; refine CallN.pure _ _ rfl (hA _) rfl _ rfl ?_) | (guard_target = Arith _ _ _; refine Arith.fit (wrap_fit (by first | omega | (simp only [List.length_map]; omega)) (by first | omega | (simp only [List.length_map]; omega))) ?_) | (guard_target = Arith _ _ _; refine Arith.fit (by decide) ?_) | (guard_target = Index _ _ _; first  | refine Index.mk _ (idx_map (by omega)) ?_) | (guard_target = Need (_ = true) _; refine Need.mk (by first | kernel_rfl | rfl) ?_) | (guard_target = LinkV _ _ _; first  | refine LinkV.no ?_) | (guard_target = GhO _ _ _ _; refine GhO.go ?_) | (guard_target = Need _ _; refine Need.mk (by first | ((simp only [List.length_map, List.length_cons, List.length_nil, maxLen]; constructor <;> omega)) | omega | (simp only [List.length_map]; omega)) ?_))
    all_goals first | rfl | trivial | (rw [ha.2, show y = N by omega]; done)
  exact h.soft (soft_ints _)
theorem l07Atoms_ok (c : XExpr) (hc : okC t a c) : CallX Tryz.prog 91 [.a 2 [J t, J a], .c (.rp 3 (encExpr c))] [] (.c (.ro 1 ((selR N (trP c)).map eI))) := by
  have hat := l01Atoms_ok t a ht
  rw [hN.1] at hat
  have hsl := fun i => selR_len i (trP c)
  have hA := fun y => l01True_ok t a y ht.2 c hc
  have h : CallX Tryz.prog 91 [.a 2 [J t, J a], .c (.rp 3 (encExpr c))] [] (.c (.ows 2 1 ((selR N (trP c)).map eI))) := by
    refine callX_of_vc htb hm Tryz.func91 rfl rfl rfl rfl (ann := fun _ => none) (gh := fun _ => false) ?_
    repeat' ((conv => whnf); first | (guard_target = Done _; refine Done.mk ?_) | (guard_target = RetX _ _; refine RetX.mk ?_ ?_) | (guard_target =~ LoopE 3 _ _ _ _ _ _; refine LoopE.mk { α := List Int × Nat, keep := [1, 2], ov := fun ⟨R, y⟩ => [(5, .lw 2), (6, I (y : Nat))], hv := fun ⟨R, y⟩ => [(2, .row none 2 1 (R.map eI))], φ := fun ⟨R, y⟩ => y ≤ N ∧ R = selR y (trP c), μ := fun ⟨R, y⟩ => N - y } (LoopN.mk (([], 0) : List Int × Nat) (by exact ⟨Nat.zero_le _, rfl⟩) (by (repeat' ((conv => whnf) <;> (first | exact trivial | refine ⟨?_, ?_⟩ | kernel_rfl))); done) (by (repeat' ((conv => whnf) <;> (first | exact trivial | refine ⟨?_, ?_⟩ | kernel_rfl))); done) (by (repeat' ((conv => whnf) <;> (first | exact trivial | refine ⟨?_, ?_⟩ | exact rfl | (simp only [List.map_append, List.map_cons, List.map_nil, List.map_set]; first | done | rfl)))); done) (fun A ha => ?_) (by intro A; first | rfl | (obtain ⟨_, _⟩ := A; rfl) | (obtain ⟨_, _, _⟩ := A; rfl))); obtain ⟨R, y⟩ := A; have ha : y ≤ N ∧ R = selR y (trP c) := ha; have hsx := hsl y; rw [← ha.2] at hsx) | (guard_target = Gh _ _ _ _ _; refine Gh.go ⟨((R ++ [(y : Int)], y + 1) : List Int × Nat), (by exact ⟨by show y + 1 ≤ N; omega, by show R ++ _ = _; rw [selR_yes h, ← ha.2]⟩), (by first | (show _ < _; simp only []; omega) | omega | (simp; omega)), (by (repeat' ((conv => whnf) <;> (first | exact trivial | refine ⟨?_, ?_⟩ | kernel_rfl))); done), (by (repeat' ((conv => whnf) <;> (first | exact trivial | refine ⟨?_, ?_⟩ | kernel_rfl))); done), (by (repeat' ((conv => whnf) <;> (first | exact trivial | refine ⟨?_, ?_⟩ | exact rfl | (simp only [List.map_append, List.map_cons, List.map_nil]; first | done | rfl)))); done)⟩) | (guard_target = Gh _ _ _ _ _; refine Gh.go ⟨((R, y + 1) : List Int × Nat), (by exact ⟨by show y + 1 ≤ N; omega, by show R = _; rw [selR_no h, ← ha.2]⟩), (by first | (show _ < _; simp only []; omega) | omega | (simp; omega)), (by (repeat' ((conv => whnf) <;> (first | exact trivial | refine ⟨?_, ?_⟩ | kernel_rfl))); done), (by (repeat' ((conv => whnf) <;> (first | exact trivial | refine ⟨?_, ?_⟩ | kernel_rfl))); done), (by (repeat' ((conv => whnf) <;> (first | exact trivial | refine ⟨?_, ?_⟩ | exact rfl | (simp only [List.map_append, List.map_cons, List.map_nil, List.map_set]; first | done | rfl)))); done)⟩) | (guard_target = Fact _ _; refine Fact.mk fun hL => ?_; (try simp only [List.length_map, maxLen] at hL)) | (guard_target = Branch _ _ _; (first | refine Branch.dec ?_ ?_ | refine Branch.beq ?_ ?_ | refine Branch.bne ?_ ?_ | refine Branch.ndec ?_ ?_ | refine Branch.nb ?_ ?_ | refine Branch.mk ?_ ?_) <;> intro h <;> (try simp only [List.length_map] at h) <;> (try omega) <;> (try contradiction)) | (guard_target = CallN _ 158 _ _ _ _; refine CallN.pure _ _ rfl (hat) rfl _ rfl ?_) | (guard_target = CallN _ 153 _ _ _ _; refine CallN.pure _ _ rfl (hA _) rfl _ rfl ?_) | (guard_target = Arith _ _ _; refine Arith.fit (wrap_fit (by first | omega | (simp only [List.length_map]; omega)) (by first | omega | (simp only [List.length_map]; omega))) ?_) | (guard_target = Arith _ _ _; refine Arith.fit (by decide) ?_) | (guard_target = Index _ _ _; first  | refine Index.mk _ (idx_map (by omega)) ?_) | (guard_target = Need (_ = true) _; refine Need.mk (by first | kernel_rfl | rfl) ?_) | (guard_target = LinkV _ _ _; first  | refine LinkV.no ?_) | (guard_target = GhO _ _ _ _; refine GhO.go ?_) | (guard_target = Need _ _; refine Need.mk (by first | ((simp only [List.length_map, List.length_cons, List.length_nil, maxLen]; constructor <;> omega)) | omega | (simp only [List.length_map]; omega)) ?_))
    all_goals first | rfl | trivial | (rw [ha.2, show y = N by omega]; done)
  exact h.soft (soft_ints _)
omit hN
theorem l07Parted_ok (c : XExpr) (hc : okC t a c) (l : List Int) (hl : l.length ≤ 1000) : CallX Tryz.prog 89 [.c (.rp 3 (encExpr c)), .c (.ro 1 (l.map eI))] [] (.tup [.c (.ro 1 ((l.filter fun z => truthE c z).map eI)), .c (.ro 1 ((l.filter fun z => !(truthE c z)).map eI))]) := by
  have hA := fun y => l01True_ok t a y ht.2 c hc
  have h : CallX Tryz.prog 89 [.c (.rp 3 (encExpr c)), .c (.ro 1 (l.map eI))] [] (.tup [.c (.ows 2 1 ((l.filter fun z => truthE c z).map eI)), .c (.ows 2 1 ((l.filter fun z => !(truthE c z)).map eI))]) := by
    refine callX_of_vc htb hm Tryz.func89 rfl rfl rfl rfl (ann := fun _ => none) (gh := fun _ => false) ?_
    repeat' ((conv => whnf); first | (guard_target = Done _; refine Done.mk ?_) | (guard_target = RetX _ _; refine RetX.mk ?_ ?_) | (guard_target =~ LoopE 4 _ _ _ _ _ _; refine LoopE.mk { α := List Int × List Int × Nat, keep := [0, 1], ov := fun ⟨R, Q, i⟩ => [(6, .lw 2), (7, .lw 3), (8, I (i : Nat))], hv := fun ⟨R, Q, i⟩ => [(2, .row none 2 1 (R.map eI)), (3, .row none 2 1 (Q.map eI))], φ := fun ⟨R, Q, i⟩ => i ≤ l.length ∧ R = (l.take i).filter (fun z => truthE c z) ∧ Q = (l.take i).filter (fun z => !(truthE c z)), μ := fun ⟨R, Q, i⟩ => l.length - i } (LoopN.mk (([], [], 0) : List Int × List Int × Nat) (by exact ⟨Nat.zero_le _, rfl, rfl⟩) (by (repeat' ((conv => whnf) <;> (first | exact trivial | refine ⟨?_, ?_⟩ | kernel_rfl))); done) (by (repeat' ((conv => whnf) <;> (first | exact trivial | refine ⟨?_, ?_⟩ | kernel_rfl))); done) (by (repeat' ((conv => whnf) <;> (first | exact trivial | refine ⟨?_, ?_⟩ | exact rfl | (simp only [List.map_append, List.map_cons, List.map_nil, List.map_set]; first | done | rfl)))); done) (fun A ha => ?_) (by intro A; first | rfl | (obtain ⟨_, _⟩ := A; rfl) | (obtain ⟨_, _, _⟩ := A; rfl))); obtain ⟨R, Q, i⟩ := A; have ha : i ≤ l.length ∧ R = (l.take i).filter (fun z => truthE c z) ∧ Q = (l.take i).filter (fun z => !(truthE c z)) := ha; have hr := List.length_filter_le (fun z => truthE c z) (l.take i); rw [← ha.2.1, List.length_take] at hr; have hq := List.length_filter_le (fun z => !(truthE c z)) (l.take i); rw [← ha.2.2, List.length_take] at hq) | (guard_target = Gh _ _ _ _ _; refine Gh.go ⟨((R ++ [l[i]], Q, i + 1) : List Int × List Int × Nat), (by (have _ : truthE c l[i] = true := h; exact ⟨by show i + 1 ≤ _; omega, by show R ++ _ = _; rw [List.take_succ_eq_append_getElem (by omega), List.filter_append, ← ha.2.1]; simp [h], by show Q = _; rw [List.take_succ_eq_append_getElem (by omega), List.filter_append, ← ha.2.2]; simp [h]⟩)), (by first | (show _ < _; simp only []; omega) | omega | (simp; omega)), (by (repeat' ((conv => whnf) <;> (first | exact trivial | refine ⟨?_, ?_⟩ | kernel_rfl))); done), (by (repeat' ((conv => whnf) <;> (first | exact trivial | refine ⟨?_, ?_⟩ | kernel_rfl))); done), (by (repeat' ((conv => whnf) <;> (first | exact trivial | refine ⟨?_, ?_⟩ | exact rfl | (simp only [List.map_append, List.map_cons, List.map_nil]; first | done | rfl)))); done)⟩) | (guard_target = Gh _ _ _ _ _; refine Gh.go ⟨((R, Q ++ [l[i]], i + 1) : List Int × List Int × Nat), (by exact ⟨by show i + 1 ≤ _; omega, by show R = _; rw [List.take_succ_eq_append_getElem (by omega), List.filter_append, ← ha.2.1]; simp [h], by show Q ++ _ = _; rw [List.take_succ_eq_append_getElem (by omega), List.filter_append, ← ha.2.2]; simp [h]⟩), (by first | (show _ < _; simp only []; omega) | omega | (simp; omega)), (by (repeat' ((conv => whnf) <;> (first | exact trivial | refine ⟨?_, ?_⟩ | kernel_rfl))); done), (by (repeat' ((conv => whnf) <;> (first | exact trivial | refine ⟨?_, ?_⟩ | kernel_rfl))); done), (by (repeat' ((conv => whnf) <;> (first | exact trivial | refine ⟨?_, ?_⟩ | exact rfl | (simp only [List.map_append, List.map_cons, List.map_nil]; first | done | rfl)))); done)⟩) | (guard_target = Fact _ _; refine Fact.mk fun hL => ?_; (try simp only [List.length_map, maxLen] at hL)) | (guard_target = Branch _ _ _; (first | refine Branch.dec ?_ ?_ | refine Branch.beq ?_ ?_ | refine Branch.bne ?_ ?_ | refine Branch.ndec ?_ ?_ | refine Branch.nb ?_ ?_ | refine Branch.mk ?_ ?_) <;> intro h <;> (try simp only [List.length_map] at h) <;> (try omega) <;> (try contradiction)) | (guard_target = CallN _ 153 _ _ _ _; refine CallN.pure _ _ rfl (hA _) rfl _ rfl ?_) | (guard_target = Arith _ _ _; refine Arith.fit (wrap_fit (by first | omega | (simp only [List.length_map]; omega)) (by first | omega | (simp only [List.length_map]; omega))) ?_) | (guard_target = Arith _ _ _; refine Arith.fit (by decide) ?_) | (guard_target = Index _ _ _; first | refine Index.mk _ (idx_map (l := l) (i := i) (by omega)) ?_ | refine Index.mk _ (idx_map (by omega)) ?_) | (guard_target = Need (_ = true) _; refine Need.mk (by first | kernel_rfl | rfl) ?_) | (guard_target = LinkV _ _ _; first  | refine LinkV.no ?_) | (guard_target = GhO _ _ _ _; refine GhO.go ?_) | (guard_target = Need _ _; refine Need.mk (by first | ((simp only [List.length_map, List.length_cons, List.length_nil, maxLen]; constructor <;> omega)) | omega | (simp only [List.length_map]; omega)) ?_))
    all_goals first | rfl | trivial | (have h8 := ha.2.1; have h9 := ha.2.2; rw [List.take_of_length_le (by omega)] at h8 h9; rw [h8, h9]; done)
  exact h.soft (.tup (.cons (.c (.ro .nil)) (.cons (.c (.ro .nil)) .nil)))
end
end Go.Proofs.YtmpcfplelpdbhaaGreat

namespace Go.Proofs.YtmpcfplelpdbhaaGreat
open Go Go.KA Go.Proofs
set_option maxHeartbeats 16000000
set_option maxRecDepth 100000
theorem sel_part {N : Nat} (P : Nat → Bool) (c : XExpr) : (selR N P).filter (fun z => truthE c z) = selR N (andP P (trP c)) := by
  unfold selR
  rw [List.filter_map, List.filter_filter]
  congr 1
  exact List.filter_congr fun x _ => Bool.and_comm _ _
theorem sel_part2 {N : Nat} (P : Nat → Bool) (c : XExpr) : (selR N P).filter (fun z => !(truthE c z)) = selR N (andP P (notP (trP c))) := by
  unfold selR
  rw [List.filter_map, List.filter_filter]
  congr 1
  exact List.filter_congr fun x _ => Bool.and_comm _ _
theorem selR_cnt (N : Nat) (P : Nat → Bool) : (selR N P).length = cntR N P := by simp [selR, cntR]
abbrev eS (N : Nat) (P : Nat → Bool) : SV := .c (.ro 1 ((selR N P).map eI))
theorem l07Union_set (N : Nat) (hN : N ≤ 8) (P Q : Nat → Bool) : CallX Tryz.prog 157 [eS N P, eS N Q] [] (eS N (orP P Q)) := by
  have h1 := selR_len N P
  have h2 := selR_len N Q
  have := l07Union_ok (selR N P) (selR N Q) (by omega) (by omega)
  rwa [un_sets] at this
theorem any_sel {N : Nat} {A : Nat → Bool} {l : List XPremise} {n : Int} (y : Nat) : ((selR N A).any fun x => alB l n x y) = imgR N (fun x y => alB l n x y) A y := by
  refine bool_ext ?_
  rw [imgR_iff, List.any_eq_true]
  constructor
  · rintro ⟨x, hx, h⟩
    obtain ⟨i, h1, h2, rfl⟩ := selR_mem.1 hx
    exact ⟨i, h1, h2, h⟩
  · rintro ⟨i, h1, h2, h⟩
    exact ⟨i, selR_mem.2 ⟨i, h1, h2, rfl⟩, h⟩
theorem any_take {α : Type} {l : List α} {i : Nat} (h : i < l.length) (f : α → Bool) : (l.take (i + 1)).any f = ((l.take i).any f || f l[i]) := by
  rw [List.take_succ_eq_append_getElem h, List.any_append]
  simp
theorem img_skip {N : Nat} {l : List XPremise} {p : XProg} (h : p.kind = 1) {A : Nat → Bool} : selR N A = selR N (imgR N (ldR N l p) A) := by
  refine selR_congr fun y hy => bool_ext ?_
  rw [imgR_iff, ldR_eq]
  unfold ldK
  rw [h, if_neg (by decide), if_neg (by decide), if_neg (by decide), if_pos rfl]
  constructor
  · intro h; exact ⟨y, hy, h, by simp⟩
  · rintro ⟨x, _, h1, h2⟩
    have : x = y := by simpa using h2
    subst this; exact h1
theorem img_fail {N : Nat} {l : List XPremise} {p : XProg} (h : p.kind = 2) {A : Nat → Bool} : [] = selR N (imgR N (ldR N l p) A) := by
  have : ∀ y, y < N → imgR N (ldR N l p) A y = false := fun y hy => by
    rw [ldR_eq]
    unfold ldK
    rw [h, if_neg (by decide), if_neg (by decide), if_neg (by decide), if_neg (by decide), if_neg (by decide), if_neg (by decide)]
    unfold imgR noR
    simp
  rw [selR_congr this]
  simp [selR]
theorem img_act {N : Nat} {l : List XPremise} {p : XProg} (h : p.kind = 3) {A : Nat → Bool} (y : Nat) : imgR N (fun x y => alB l p.num x y) A y = imgR N (ldR N l p) A y := by
  rw [ldR_eq]
  unfold ldK
  rw [if_pos h]
theorem img_assert {N : Nat} {l : List XPremise} {p : XProg} (h : p.kind = 4) {A : Nat → Bool} : selR N (andP A (trP p.cond)) = selR N (imgR N (ldR N l p) A) := by
  refine selR_congr fun y hy => bool_ext ?_
  rw [imgR_iff, ldR_eq]
  unfold ldK
  rw [h, if_neg (by decide), if_neg (by decide), if_neg (by decide), if_neg (by decide), if_pos rfl]
  simp only [andP, trP, Bool.and_eq_true, beq_iff_eq]
  constructor
  · rintro ⟨h1, h2⟩; exact ⟨y, hy, h1, rfl, h2⟩
  · rintro ⟨x, _, h1, rfl, h2⟩; exact ⟨h1, h2⟩
theorem img_seq {N : Nat} {l : List XPremise} {p : XProg} (h : p.kind = 5) (hl : p.kids.length = 2) {A : Nat → Bool} : selR N (imgR N (ldR N l p.kids[1]) (imgR N (ldR N l p.kids[0]) A)) = selR N (imgR N (ldR N l p) A) := by
  refine selR_congr fun y hy => ?_
  rw [ldR_eq N l p]
  unfold ldK
  rw [h, if_neg (by decide), if_pos rfl, ldk_getD (i := 0) (by omega), ldk_getD (i := 1) (by omega), imgR_cmp]
theorem img_if {N : Nat} {l : List XPremise} {p : XProg} (h : p.kind = 6) (hl : p.kids.length = 2) {A : Nat → Bool} :
    selR N (orP (imgR N (ldR N l p.kids[0]) (andP A (trP p.cond))) (imgR N (ldR N l p.kids[1]) (andP A (notP (trP p.cond))))) = selR N (imgR N (ldR N l p) A) := by
  refine selR_congr fun y hy => bool_ext ?_
  rw [ldR_eq N l p]
  unfold ldK
  rw [h, if_neg (by decide), if_neg (by decide), if_neg (by decide), if_neg (by decide), if_neg (by decide), if_pos rfl, ldk_getD (i := 0) (by omega), ldk_getD (i := 1) (by omega)]
  simp only [orP, Bool.or_eq_true]
  rw [imgR_iff, imgR_iff, imgR_iff]
  simp only [andP, notP, trP, Bool.and_eq_true]
  constructor
  · rintro (⟨x, hx, ⟨h1, h2⟩, h3⟩ | ⟨x, hx, ⟨h1, h2⟩, h3⟩)
    · exact ⟨x, hx, h1, by rw [if_pos h2]; exact h3⟩
    · exact ⟨x, hx, h1, by rw [if_neg (by simpa using h2)]; exact h3⟩
  · rintro ⟨x, hx, h1, h2⟩
    by_cases hc : truthE p.cond x = true
    · rw [if_pos hc] at h2; exact .inl ⟨x, hx, ⟨h1, hc⟩, h2⟩
    · rw [if_neg hc] at h2; exact .inr ⟨x, hx, ⟨h1, by simpa using hc⟩, h2⟩
theorem img_loop {N : Nat} {l : List XPremise} {p : XProg} (h : p.kind = 7) (hl : p.kids.length = 1) {A B : Nat → Bool} (hg : Grow N (stepR p.cond (ldR N l p.kids[0])) A B)
    (he : (selR N (orP B (imgR N (ldR N l p.kids[0]) (andP B (trP p.cond))))).length = (selR N B).length) : selR N (andP B (notP (trP p.cond))) = selR N (imgR N (ldR N l p) A) := by
  refine selR_congr fun y hy => ?_
  rw [ldR_eq N l p]
  unfold ldK
  rw [h, if_neg (by decide), if_neg (by decide), if_pos rfl, ldk_getD (i := 0) (by omega)]
  refine hg.done (fun y hy hb => ?_) y hy
  cases hB : B y with
  | true => rfl
  | false =>
    exfalso
    rw [selR_cnt, selR_cnt] at he
    have := filter_lt (p := B) (q := orP B (imgR N (ldR N l p.kids[0]) (andP B (trP p.cond)))) (List.range N) (fun x _ hx => by simp [orP, hx]) ⟨y, by simpa using hy, by simp [orP, hb], hB⟩
    unfold cntR at he
    omega
theorem grow_len {N : Nat} (B C : Nat → Bool) : (selR N B).length ≤ (selR N (orP B C)).length := by
  rw [selR_cnt, selR_cnt]
  exact filter_le _ fun x _ hx => by simp [orP, hx]
theorem sel_out {X Y : List Int} (h : X = Y) : SV.c (CV.ro 1 (X.map eI)) = .c (.ro 1 (Y.map eI)) := by rw [h]
theorem kid_getD {p : XProg} {i : Nat} {d : XProg} (h : i < p.kids.length) : p.kids.getD i d = p.kids[i] := getD_eq h
theorem from_next {N : Nat} {A : Nat → Bool} {l : List XPremise} {n : Int} {i k : Nat} {X Y : List Int} (hi : i < (selR N A).length) (hX : X = selR N (fun y => ((selR N A).take i).any fun x => alB l n x y))
    (hY : Y = unL X ((selR N fun y => alB l n ((selR N A).getD i 0) y).take k)) (hk : (selR N fun y => alB l n ((selR N A).getD i 0) y).length ≤ k) : Y = selR N (fun y => ((selR N A).take (i + 1)).any fun x => alB l n x y) := by
  rw [hY, List.take_of_length_le hk, hX, un_sets]
  refine selR_congr fun y _ => ?_
  rw [any_take hi, getD_eq hi]
  rfl
section
variable (t a : Int) (ht : 0 ≤ t ∧ t ≤ 3) (l : List XPremise) (hl : PremOk t a l) (N : Nat) (hN : atomsN t = N ∧ 1 ≤ N ∧ N ≤ 8)
include ht hl hN
theorem l07From_all (p : XProg) (hp : POk t a p) (hx : ∀ k ∈ p.kids, ∀ A, CallX Tryz.prog 90 [.a 2 [J t, J a], .c (.ro 7 (l.map encPremise)), .c (.rp 6 (encProg k)), eS N A] [] (eS N (imgR N (ldR N l k) A))) (A : Nat → Bool) :
    CallX Tryz.prog 90 [.a 2 [J t, J a], .c (.ro 7 (l.map encPremise)), .c (.rp 6 (toldP p)), eS N A] [] (eS N (imgR N (ldR N l p) A)) := by
  have hlen := hp.len
  have hkind := hp.kind
  have how := l00Own_ro (selR N A) (by have := selR_len N A; omega)
  have hpart : p.kind = 4 ∨ p.kind = 6 ∨ p.kind = 7 → ∀ B, CallX Tryz.prog 89 [.c (.rp 4 ((toldP p).drop 2)), eS N B] [] (.tup [eS N (andP B (trP p.cond)), eS N (andP B (notP (trP p.cond)))]) := fun hk B => by
    have h1 := l07Parted_ok t a ht p.cond (hp.cond hk) (selR N B) (by have := selR_len N B; omega)
    rw [encExpr_eq, sel_part, sel_part2] at h1
    exact h1.cut (.cut (k := 3) (by omega) (.same .nil))
  have hnext := l07Next_ok t a ht N hN l hl p.num
  have hV := selR_len N A
  have hU := l07Union_set N hN.2.2
  refine callX_of_vc htb hm Tryz.func90 rfl rfl rfl rfl (ann := fun _ => none) (gh := fun reg_ => match reg_ with | 2 => true | _ => false) ?_
  repeat' ((conv => whnf); first | (guard_target = Done _; refine Done.mk ?_) | (guard_target = RetX _ _; refine RetX.mk ?_ ?_) | (guard_target =~ LoopE 9 _ _ _ _ _ _; refine LoopE.mk { α := List Int × Nat, keep := [1, 2, 3, 4, 21], ov := fun ⟨X, i⟩ => [(9, .c (.ro 1 (X.map eI))), (10, I (i : Nat))], φ := fun ⟨X, i⟩ => i ≤ (selR N A).length ∧ X = selR N (fun y => ((selR N A).take i).any fun x => alB l p.num x y), μ := fun ⟨X, i⟩ => (selR N A).length - i } (LoopN.mk (([], 0) : List Int × Nat) (by exact ⟨Nat.zero_le _, by simp [selR]⟩) (by (repeat' ((conv => whnf) <;> (first | exact trivial | refine ⟨?_, ?_⟩ | kernel_rfl))); done) (by (repeat' ((conv => whnf) <;> (first | exact trivial | refine ⟨?_, ?_⟩ | kernel_rfl))); done) (by (repeat' ((conv => whnf) <;> (first | exact trivial | refine ⟨?_, ?_⟩ | exact rfl | (simp only [List.map_append, List.map_cons, List.map_nil, List.map_set]; first | done | rfl)))); done) (fun A ha => ?_) (by intro A; first | rfl | (obtain ⟨_, _⟩ := A; rfl) | (obtain ⟨_, _, _⟩ := A; rfl))); obtain ⟨X, i⟩ := A; have ha : i ≤ (selR N A).length ∧ X = selR N (fun y => ((selR N A).take i).any fun x => alB l p.num x y) := ha; have hV1 := selR_len N (fun y => ((selR N A).take i).any fun x => alB l p.num x y); rw [← ha.2] at hV1; have hA1 := ha) | (guard_target =~ LoopE 13 _ _ _ _ _ _; refine LoopE.mk { α := List Int × Nat, keep := [1, 2, 3, 4, 10, 11, 21], ov := fun ⟨Y, k⟩ => [(9, .c (.ro 1 (Y.map eI))), (12, I (k : Nat))], φ := fun ⟨Y, k⟩ => k ≤ (selR N fun y => alB l p.num ((selR N A).getD i 0) y).length ∧ Y = unL X ((selR N fun y => alB l p.num ((selR N A).getD i 0) y).take k), μ := fun ⟨Y, k⟩ => (selR N fun y => alB l p.num ((selR N A).getD i 0) y).length - k } (LoopN.mk ((X, 0) : List Int × Nat) (by exact ⟨Nat.zero_le _, rfl⟩) (by (repeat' ((conv => whnf) <;> (first | exact trivial | refine ⟨?_, ?_⟩ | kernel_rfl))); done) (by (repeat' ((conv => whnf) <;> (first | exact trivial | refine ⟨?_, ?_⟩ | kernel_rfl))); done) (by (repeat' ((conv => whnf) <;> (first | exact trivial | refine ⟨?_, ?_⟩ | exact rfl | (simp only [List.map_append, List.map_cons, List.map_nil, List.map_set]; first | done | rfl)))); done) (fun A ha => ?_) (by intro A; first | rfl | (obtain ⟨_, _⟩ := A; rfl) | (obtain ⟨_, _, _⟩ := A; rfl))); obtain ⟨Y, k⟩ := A; have ha : k ≤ (selR N fun y => alB l p.num ((selR N A).getD i 0) y).length ∧ Y = unL X ((selR N fun y => alB l p.num ((selR N A).getD i 0) y).take k) := ha; have hW := selR_len N (fun y => alB l p.num ((selR N A).getD i 0) y); have hY := unL_len X ((selR N fun y => alB l p.num ((selR N A).getD i 0) y).take k); rw [← ha.2, List.length_take] at hY) | (guard_target =~ LoopE 27 _ _ _ _ _ _; refine LoopE.mk { α := Nat → Bool, keep := [1, 2, 4], ov := fun B => [(15, eS N B)], φ := fun B => Grow N (stepR p.cond (ldR N l (p.kids.getD 0 (.mk 0 0 (.mk 0 0 []) [])))) A B, μ := fun B => N - (selR N B).length } (LoopN.mk (A : Nat → Bool) (by exact Grow.zero _ _ _) (by (repeat' ((conv => whnf) <;> (first | exact trivial | refine ⟨?_, ?_⟩ | kernel_rfl))); done) (by (repeat' ((conv => whnf) <;> (first | exact trivial | refine ⟨?_, ?_⟩ | kernel_rfl))); done) (by (repeat' ((conv => whnf) <;> (first | exact trivial | refine ⟨?_, ?_⟩ | exact rfl | (simp only [List.map_append, List.map_cons, List.map_nil, List.map_set]; first | done | rfl)))); done) (fun (B : Nat → Bool) ha => ?_) (by intro A; first | rfl | (obtain ⟨_, _⟩ := A; rfl) | (obtain ⟨_, _, _⟩ := A; rfl))); have ha : Grow N (stepR p.cond (ldR N l (p.kids.getD 0 (.mk 0 0 (.mk 0 0 []) [])))) A B := ha; have h7 : p.kind = 7 := (by omega); have hk7 : 0 < p.kids.length := (by omega); have hgl9 := grow_len (N := N) B (imgR N (ldR N l p.kids[0]) (andP B (trP p.cond))); have hle9 := selR_len N (orP B (imgR N (ldR N l p.kids[0]) (andP B (trP p.cond))))) | (guard_target = Gh _ _ _ _ _; refine Gh.go ⟨((putL Y (selR N fun y => alB l p.num ((selR N A).getD i 0) y)[k], k + 1) : List Int × Nat), (by exact ⟨by show k + 1 ≤ _; omega, by show putL Y _ = _; unfold unL; rw [fold_step _ _ _ (by omega), ha.2]; rfl⟩), (by first | (show _ < _; simp only []; omega) | omega | (simp; omega)), (by (repeat' ((conv => whnf) <;> (first | exact trivial | refine ⟨?_, ?_⟩ | kernel_rfl))); done), (by (repeat' ((conv => whnf) <;> (first | exact trivial | refine ⟨?_, ?_⟩ | kernel_rfl))); done), (by (repeat' ((conv => whnf) <;> (first | exact trivial | refine ⟨?_, ?_⟩ | exact rfl | (simp only [List.map_append, List.map_cons, List.map_nil, List.map_set]; first | done | rfl)))); done)⟩) | (guard_target = Gh _ _ _ _ _; refine Gh.go ⟨((Y, i + 1) : List Int × Nat), (by exact ⟨by show i + 1 ≤ _; omega, from_next (by omega) hA1.2 ha.2 (by omega)⟩), (by first | (show _ < _; simp only []; omega) | omega | (simp; omega)), (by (repeat' ((conv => whnf) <;> (first | exact trivial | refine ⟨?_, ?_⟩ | kernel_rfl))); done), (by (repeat' ((conv => whnf) <;> (first | exact trivial | refine ⟨?_, ?_⟩ | kernel_rfl))); done), (by (repeat' ((conv => whnf) <;> (first | exact trivial | refine ⟨?_, ?_⟩ | exact rfl | (simp only [List.map_append, List.map_cons, List.map_nil, List.map_set]; first | done | rfl)))); done)⟩) | (guard_target = Gh _ _ _ _ _; refine Gh.go ⟨(orP B (imgR N (ldR N l p.kids[0]) (andP B (trP p.cond))) : Nat → Bool), (by (have hg0 := kid_getD (p := p) (i := 0) (d := .mk 0 0 (.mk 0 0 []) []) hk7; rw [hg0] at ha; show Grow _ _ _ _; rw [hg0]; exact ha.step)), (by first | (show _ < _; simp only []; omega) | omega | (simp; omega)), (by (repeat' ((conv => whnf) <;> (first | exact trivial | refine ⟨?_, ?_⟩ | kernel_rfl))); done), (by (repeat' ((conv => whnf) <;> (first | exact trivial | refine ⟨?_, ?_⟩ | kernel_rfl))); done), (by (repeat' ((conv => whnf) <;> (first | exact trivial | refine ⟨?_, ?_⟩ | exact rfl | (simp only [List.map_append, List.map_cons, List.map_nil, List.map_set]; first | done | rfl)))); done)⟩) | (guard_target = Fact _ _; refine Fact.mk fun hL => ?_; (try simp only [List.length_map, maxLen] at hL)) | (guard_target = Branch _ _ _; (first | refine Branch.dec ?_ ?_ | refine Branch.beq ?_ ?_ | refine Branch.bne ?_ ?_ | refine Branch.ndec ?_ ?_ | refine Branch.nb ?_ ?_ | refine Branch.mk ?_ ?_) <;> intro h <;> (try simp only [List.length_map] at h) <;> (try omega) <;> (try contradiction)) | (guard_target = CallN _ 154 _ _ _ _; refine CallN.gen [] _ _ _ rfl (how) rfl rfl _ rfl ?_) | (guard_target = CallN _ 155 _ _ _ _; refine CallN.gen [] _ _ _ rfl (hnext _) rfl rfl _ rfl ?_) | (guard_target = CallN _ 156 _ _ _ _; refine CallN.gen [] _ _ _ rfl (l00Put_ok Y _ (by omega)) rfl rfl _ rfl ?_) | (guard_target = CallN _ 90 _ _ _ _; refine CallN.gen [] _ _ _ rfl (hx _ (List.getElem_mem (by omega)) A) rfl rfl _ rfl ?_) | (guard_target = CallN _ 90 _ _ _ _; refine CallN.gen [] _ _ _ rfl (hx _ (List.getElem_mem (by omega)) (imgR N (ldR N l (p.kids[0]'(by omega))) A)) rfl rfl _ rfl ?_) | (guard_target = CallN _ 89 _ _ _ _; refine CallN.gen [] _ _ _ rfl (hpart (by omega) A) rfl rfl _ rfl ?_) | (guard_target = CallN _ 90 _ _ _ _; refine CallN.gen [] _ _ _ rfl (hx _ (List.getElem_mem (by omega)) (andP A (trP p.cond))) rfl rfl _ rfl ?_) | (guard_target = CallN _ 90 _ _ _ _; refine CallN.gen [] _ _ _ rfl (hx _ (List.getElem_mem (by omega)) (andP A (notP (trP p.cond)))) rfl rfl _ rfl ?_) | (guard_target = CallN _ 157 _ _ _ _; refine CallN.gen [] _ _ _ rfl (hU _ _) rfl rfl _ rfl ?_) | (guard_target = CallN _ 89 _ _ _ _; refine CallN.gen [] _ _ _ rfl (hpart (by omega) B) rfl rfl _ rfl ?_) | (guard_target = CallN _ 90 _ _ _ _; refine CallN.gen [] _ _ _ rfl (hx _ (List.getElem_mem (by omega)) (andP B (trP p.cond))) rfl rfl _ rfl ?_) | (guard_target = Gh _ _ _ _ _; refine Gh.frz 2 (.ro 1 []) rfl (Gh.go ?_)) | (guard_target = Arith _ _ _; refine Arith.fit (wrap_fit (by first | omega | (simp only [List.length_map]; omega)) (by first | omega | (simp only [List.length_map]; omega))) ?_) | (guard_target = Arith _ _ _; refine Arith.fit (by decide) ?_) | (guard_target = Index _ _ _; first | refine Index.mk _ (idx_getD (l := selR N A) (d := 0) (i := i) (by omega)) ?_ | refine Index.mk _ (idx_map (l := selR N fun y => alB l p.num ((selR N A).getD i 0) y) (i := k) (by omega)) ?_ | refine Index.mk _ (idx_map (l := p.kids) (i := 0) (by omega)) ?_ | refine Index.mk _ (idx_map (l := p.kids) (i := 1) (by omega)) ?_ | refine Index.mk _ (idx_map (by omega)) ?_) | (guard_target = Need (_ = true) _; refine Need.mk (by first | kernel_rfl | rfl) ?_) | (guard_target = LinkV _ _ _; first  | refine LinkV.no ?_) | (guard_target = GhO _ _ _ _; refine GhO.go ?_) | (guard_target = Need _ _; refine Need.mk (by first  | omega | (simp only [List.length_map]; omega)) ?_))
  all_goals first | trivial | (have h1 : p.kind = 1 := (by assumption); exact sel_out (img_skip h1)) | (have h1 : p.kind = 2 := (by assumption); exact sel_out (img_fail h1)) | (have h1 : p.kind = 5 := (by assumption); exact sel_out (img_seq h1 (by omega))) | (have h1 : p.kind = 4 := (by assumption); exact sel_out (img_assert h1)) | (have h1 : p.kind = 6 := (by assumption); exact sel_out (img_if h1 (by omega))) | (have h1 : p.kind = 3 := (by assumption); have h9 := ha.2; rw [List.take_of_length_le (by omega), selR_congr fun y _ => (any_sel y).trans (img_act h1 y)] at h9; exact sel_out h9) | (have h1 : p.kind = 7 := (by omega); have hg0 := kid_getD (p := p) (i := 0) (d := .mk 0 0 (.mk 0 0 []) []) (by omega); rw [hg0] at ha; exact sel_out (img_loop h1 (by omega) ha (by omega)))
theorem l07From_ok (p : XProg) (hp : POk t a p) (A : Nat → Bool) : CallX Tryz.prog 90 [.a 2 [J t, J a], .c (.ro 7 (l.map encPremise)), .c (.rp 6 (encProg p)), eS N A] [] (eS N (imgR N (ldR N l p) A)) := by
  rw [encProg_eq]
  exact l07From_all t a ht l hl N hN p hp (fun k _hk A => l07From_ok k (hp.kid _hk) A) A
  termination_by SizeOf.sizeOf p
  decreasing_by
    have := List.sizeOf_lt_of_mem _hk
    cases p
    simp only [XProg.mk.sizeOf_spec]
    show SizeOf.sizeOf k < _
    simp only [XProg.kids] at this
    omega
end
end Go.Proofs.YtmpcfplelpdbhaaGreat
