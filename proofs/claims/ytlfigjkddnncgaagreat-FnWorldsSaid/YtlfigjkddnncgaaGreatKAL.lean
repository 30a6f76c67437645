/- Contracts: sets of atoms as rising lists (the reference's): allowed next atoms, a number put to its place, unions, parts. No conditions but that conditions are valid. -/
import Derived.Test.YtlfigjkddnncgaaGreatKAK
namespace Go.Proofs.YtlfigjkddnncgaaGreat
open Go Go.KA Go.Proofs
set_option maxHeartbeats 16000000
set_option maxRecDepth 100000
/-! ### rising lists -/
def putL : List Int → Int → List Int
  | [], n => [n]
  | x :: xs, n => if x ≥ n then (if x > n then n :: x :: xs else x :: xs) else x :: putL xs n
theorem putL_len : ∀ (l : List Int) (n : Int), (putL l n).length ≤ l.length + 1
  | [], n => by simp [putL]
  | x :: xs, n => by
    have := putL_len xs n
    unfold putL
    split
    · split <;> simp
    · simp; omega
theorem putL_all {l : List Int} {n : Int} (h : ∀ x ∈ l, x < n) : putL l n = l ++ [n] := by
  induction l with
  | nil => rfl
  | cons x xs ih =>
    have := h x (by simp)
    unfold putL
    rw [if_neg (by omega), ih fun y hy => h y (by simp [hy])]
    rfl
theorem putL_cons {x n : Int} (xs : List Int) (h : x < n) : putL (x :: xs) n = x :: putL xs n := by
  unfold putL
  rw [if_neg (by omega)]
  cases xs <;> rfl
theorem putL_split {l m : List Int} {n : Int} (h : ∀ x ∈ l, x < n) : putL (l ++ m) n = l ++ putL m n := by
  induction l with
  | nil => rfl
  | cons x xs ih =>
    have := h x (by simp)
    show putL (x :: (xs ++ m)) n = _
    rw [putL_cons _ this, ih fun y hy => h y (by simp [hy])]
    rfl
theorem putL_last : ∀ {l : List Int} {n z : Int}, n < z → putL (l ++ [z]) n = putL l n ++ [z]
  | [], n, z, h => by
    show putL [z] n = [n] ++ [z]
    unfold putL
    rw [if_pos (by omega), if_pos (by omega)]
    rfl
  | x :: xs, n, z, h => by
    show putL (x :: (xs ++ [z])) n = _
    unfold putL
    split
    · split <;> rfl
    · rw [putL_last h]; rfl
theorem putL_same {l : List Int} {n : Int} (h : ∀ x ∈ l, x < n) : putL (l ++ [n]) n = l ++ [n] := by
  rw [putL_split h]
  unfold putL
  rw [if_pos (by omega), if_neg (by omega)]
def addP (P : Nat → Bool) (n : Nat) : Nat → Bool := fun y => P y || y == n
theorem selR_lt {N : Nat} {P : Nat → Bool} : ∀ x ∈ selR N P, x < (N : Int) := by
  intro x hx
  obtain ⟨i, h, _, rfl⟩ := selR_mem.1 hx
  omega
theorem put_sel : ∀ {N : Nat} (P : Nat → Bool) {n : Nat}, n < N → putL (selR N P) n = selR N (addP P n)
  | 0, P, n, h => by omega
  | N + 1, P, n, h => by
    by_cases hn : n = N
    · subst hn
      have h1 : addP P n n = true := by simp [addP]
      have h2 : selR n (addP P n) = selR n P := selR_congr fun i hi => by
        have : (i == n) = false := by rw [beq_eq_false_iff_ne]; omega
        simp [addP, this]
      rw [selR_yes h1, h2]
      cases hp : P n with
      | true => rw [selR_yes hp]; exact putL_same selR_lt
      | false => rw [selR_no hp]; exact putL_all selR_lt
    · have hlt : n < N := by omega
      have h1 : addP P n N = P N := by
        have : (N == n) = false := by rw [beq_eq_false_iff_ne]; omega
        simp [addP, this]
      cases hp : P N with
      | true => rw [selR_yes hp, selR_yes (h1.trans hp), putL_last (by omega), put_sel P hlt]
      | false => rw [selR_no hp, selR_no (h1.trans hp), put_sel P hlt]
def unL (a b : List Int) : List Int := b.foldl putL a
theorem un_sel {N : Nat} : ∀ (b : List Int) (P : Nat → Bool), (∀ x ∈ b, ∃ i : Nat, i < N ∧ x = i) → unL (selR N P) b = selR N fun y => P y || memB (y : Int) b
  | [], P, h => by
    show selR N P = _
    exact selR_congr fun i _ => by simp [memB]
  | x :: b, P, h => by
    obtain ⟨i, hi, rfl⟩ := h x (by simp)
    show unL (putL (selR N P) i) b = _
    rw [put_sel P hi, un_sel b _ fun x hx => h x (by simp [hx])]
    refine selR_congr fun y _ => ?_
    have : memB (y : Int) ((i : Int) :: b) = ((y == i) || memB (y : Int) b) := by
      unfold memB
      by_cases hy : y = i
      · subst hy; simp
      · have h1 : (y == i) = false := by rw [beq_eq_false_iff_ne]; exact hy
        have h2 : ¬ (y : Int) = (i : Int) := by omega
        rw [h1]
        simp [h2]
    rw [this]
    simp [addP, Bool.or_assoc]
theorem mem_sel {N : Nat} {Q : Nat → Bool} {y : Nat} (hy : y < N) : memB (y : Int) (selR N Q) = Q y := by
  unfold memB
  refine bool_ext ?_
  rw [decide_eq_true_eq, selR_mem]
  constructor
  · rintro ⟨i, _, h, e⟩
    have : y = i := by omega
    rw [this]; exact h
  · intro h; exact ⟨y, hy, h, rfl⟩
theorem un_sets {N : Nat} (P Q : Nat → Bool) : unL (selR N P) (selR N Q) = selR N (orP P Q) := by
  rw [un_sel _ _ fun x hx => by obtain ⟨i, h, _, e⟩ := selR_mem.1 hx; exact ⟨i, h, e⟩]
  exact selR_congr fun y hy => by rw [mem_sel hy]; rfl
theorem unL_len (a : List Int) : ∀ b : List Int, (unL a b).length ≤ a.length + b.length := by
  intro b
  induction b generalizing a with
  | nil => exact Nat.le_refl _
  | cons x b ih =>
    have h1 := ih (putL a x)
    have h2 := putL_len a x
    show (unL (putL a x) b).length ≤ _
    simp only [List.length_cons]
    omega
/-! ### contracts -/
theorem put_done {l out : List Int} {i : Nat} {n : Int} (hi : i < l.length) (h : out ++ l.drop i = putL l n) : (out ++ [l[i]]) ++ l.drop (i + 1) = putL l n := by
  rw [← h, List.append_assoc, List.drop_eq_getElem_cons hi]
  rfl
theorem put_ge {l : List Int} {i : Nat} {n : Int} (hi : i < l.length) (hlt : ∀ x ∈ l.take i, x < n) (h1 : l[i] > n) : ((l.take i ++ [n]) ++ [l[i]]) ++ l.drop (i + 1) = putL l n := by
  conv => rhs; rw [← List.take_append_drop i l]
  rw [putL_split hlt, List.drop_eq_getElem_cons hi]
  unfold putL
  rw [if_pos (by omega), if_pos h1]
  simp
theorem put_eq {l : List Int} {i : Nat} {n : Int} (hi : i < l.length) (hlt : ∀ x ∈ l.take i, x < n) (h0 : l[i] ≥ n) (h1 : ¬ l[i] > n) : (l.take i ++ [l[i]]) ++ l.drop (i + 1) = putL l n := by
  conv => rhs; rw [← List.take_append_drop i l]
  rw [putL_split hlt, List.drop_eq_getElem_cons hi]
  unfold putL
  rw [if_pos h0, if_neg h1]
  simp
theorem put_lt {l : List Int} {i : Nat} {n : Int} (hi : i < l.length) (hlt : ∀ x ∈ l.take i, x < n) (h0 : ¬ l[i] ≥ n) : l.take i ++ [l[i]] = l.take (i + 1) ∧ ∀ x ∈ l.take (i + 1), x < n := by
  refine ⟨(List.take_succ_eq_append_getElem hi).symm, fun x hx => ?_⟩
  rw [List.take_succ_eq_append_getElem hi] at hx
  rcases List.mem_append.1 hx with hx | hx
  · exact hlt x hx
  · have := List.mem_singleton.1 hx; omega
theorem l00Put_own (l : List Int) (n : Int) (hl : l.length ≤ 100000) : CallX Tryz.prog 99 [.c (.ro 1 (l.map eI)), I n] [] (.c (.ows 2 1 ((putL l n).map eI))) := by
  refine callX_of_vc htb hm Tryz.func99 rfl rfl rfl rfl (ann := fun _ => none) (gh := fun _ => false) ?_
  repeat' ((conv => whnf); first | (guard_target = Done _; refine Done.mk ?_) | (guard_target = RetX _ _; refine RetX.mk ?_ ?_) | (guard_target =~ LoopE 4 _ _ _ _ _ _; refine LoopE.mk { α := List Int × Bool × Nat, keep := [0, 1], ov := fun ⟨out, d, i⟩ => [(5, .lw 1), (6, .c (.cb d)), (7, I (i : Nat))], hv := fun ⟨out, d, i⟩ => [(1, .row none 2 1 (out.map eI))], φ := fun ⟨out, d, i⟩ => i ≤ l.length ∧ out.length ≤ i + 1 ∧ (d = false → out = l.take i ∧ ∀ x ∈ l.take i, x < n) ∧ (d = true → out ++ l.drop i = putL l n), μ := fun ⟨out, d, i⟩ => l.length - i } (LoopN.mk (([], false, 0) : List Int × Bool × Nat) (by exact ⟨Nat.zero_le _, Nat.zero_le _, fun _ => ⟨rfl, by simp⟩, (fun h => by cases h)⟩) (by (repeat' ((conv => whnf) <;> (first | exact trivial | refine ⟨?_, ?_⟩ | kernel_rfl))); done) (by (repeat' ((conv => whnf) <;> (first | exact trivial | refine ⟨?_, ?_⟩ | kernel_rfl))); done) (by (repeat' ((conv => whnf) <;> (first | exact trivial | refine ⟨?_, ?_⟩ | exact rfl | (simp only [List.map_append, List.map_cons, List.map_nil, List.map_set]; first | done | rfl)))); done) (fun A ha => ?_) (by intro A; first | rfl | (obtain ⟨_, _⟩ := A; rfl) | (obtain ⟨_, _, _⟩ := A; rfl))); obtain ⟨out, d, i⟩ := A; have ha : i ≤ l.length ∧ out.length ≤ i + 1 ∧ (d = false → out = l.take i ∧ ∀ x ∈ l.take i, x < n) ∧ (d = true → out ++ l.drop i = putL l n) := ha; cases d) | (guard_target = Gh _ _ _ _ _; refine Gh.go ⟨((out ++ [l[i]], false, i + 1) : List Int × Bool × Nat), (by (obtain ⟨e, hlt⟩ := ha.2.2.1 rfl; exact ⟨by show i + 1 ≤ _; omega, by show (out ++ [_]).length ≤ _; simp; omega, fun _ => by rw [e]; exact put_lt (by omega) hlt h, (fun h => by cases h)⟩)), (by first | (show _ < _; simp only []; omega) | omega | (simp; omega)), (by (repeat' ((conv => whnf) <;> (first | exact trivial | refine ⟨?_, ?_⟩ | kernel_rfl))); done), (by (repeat' ((conv => whnf) <;> (first | exact trivial | refine ⟨?_, ?_⟩ | kernel_rfl))); done), (by (repeat' ((conv => whnf) <;> (first | exact trivial | refine ⟨?_, ?_⟩ | exact rfl | (simp only [List.map_append, List.map_cons, List.map_nil, List.map_set]; first | done | rfl)))); done)⟩) | (guard_target = Gh _ _ _ _ _; refine Gh.go ⟨((out ++ [n] ++ [l[i]], true, i + 1) : List Int × Bool × Nat), (by (obtain ⟨e, hlt⟩ := ha.2.2.1 rfl; exact ⟨by show i + 1 ≤ _; omega, by have : out.length ≤ i := (by rw [e, List.length_take]; omega); show (out ++ [_] ++ [_]).length ≤ _; simp; omega, (fun h => by cases h), fun _ => by rw [e]; exact put_ge (by omega) hlt h⟩)), (by first | (show _ < _; simp only []; omega) | omega | (simp; omega)), (by (repeat' ((conv => whnf) <;> (first | exact trivial | refine ⟨?_, ?_⟩ | kernel_rfl))); done), (by (repeat' ((conv => whnf) <;> (first | exact trivial | refine ⟨?_, ?_⟩ | kernel_rfl))); done), (by (repeat' ((conv => whnf) <;> (first | exact trivial | refine ⟨?_, ?_⟩ | exact rfl | (simp only [List.map_append, List.map_cons, List.map_nil, List.map_set]; first | done | rfl)))); done)⟩) | (guard_target = Gh _ _ _ _ _; refine Gh.go ⟨((out ++ [l[i]], true, i + 1) : List Int × Bool × Nat), (by (obtain ⟨e, hlt⟩ := ha.2.2.1 rfl; exact ⟨by show i + 1 ≤ _; omega, by show (out ++ [_]).length ≤ _; simp; omega, (fun h => by cases h), fun _ => by rw [e]; exact put_eq (by omega) hlt (by assumption) h⟩)), (by first | (show _ < _; simp only []; omega) | omega | (simp; omega)), (by (repeat' ((conv => whnf) <;> (first | exact trivial | refine ⟨?_, ?_⟩ | kernel_rfl))); done), (by (repeat' ((conv => whnf) <;> (first | exact trivial | refine ⟨?_, ?_⟩ | kernel_rfl))); done), (by (repeat' ((conv => whnf) <;> (first | exact trivial | refine ⟨?_, ?_⟩ | exact rfl | (simp only [List.map_append, List.map_cons, List.map_nil, List.map_set]; first | done | rfl)))); done)⟩) | (guard_target = Gh _ _ _ _ _; refine Gh.go ⟨((out ++ [l[i]], true, i + 1) : List Int × Bool × Nat), (by exact ⟨by show i + 1 ≤ _; omega, by show (out ++ [_]).length ≤ _; simp; omega, (fun h => by cases h), fun _ => put_done (by omega) (ha.2.2.2 rfl)⟩), (by first | (show _ < _; simp only []; omega) | omega | (simp; omega)), (by (repeat' ((conv => whnf) <;> (first | exact trivial | refine ⟨?_, ?_⟩ | kernel_rfl))); done), (by (repeat' ((conv => whnf) <;> (first | exact trivial | refine ⟨?_, ?_⟩ | kernel_rfl))); done), (by (repeat' ((conv => whnf) <;> (first | exact trivial | refine ⟨?_, ?_⟩ | exact rfl | (simp only [List.map_append, List.map_cons, List.map_nil, List.map_set]; first | done | rfl)))); done)⟩) | (guard_target = Fact _ _; refine Fact.mk fun hL => ?_; (try simp only [List.length_map, maxLen] at hL)) | (guard_target = Branch _ _ _; (first | refine Branch.dec ?_ ?_ | refine Branch.beq ?_ ?_ | refine Branch.bne ?_ ?_ | refine Branch.ndec ?_ ?_ | refine Branch.nb ?_ ?_ | refine Branch.mk ?_ ?_) <;> intro h <;> (try simp only [List.length_map] at h) <;> (try omega) <;> (try contradiction)) | (guard_target = Arith _ _ _; refine Arith.fit (wrap_fit (by first | omega | (simp only [List.length_map]; omega)) (by first | omega | (simp only [List.length_map]; omega))) ?_) | (guard_target = Arith _ _ _; refine Arith.fit (by decide) ?_) | (guard_target = Index _ _ _; first | refine Index.mk _ (idx_map (l := l) (i := i) (by omega)) ?_ | refine Index.mk _ (idx_map (by omega)) ?_) | (guard_target = Need (_ = true) _; refine Need.mk (by first | kernel_rfl | rfl) ?_) | (guard_target = LinkV _ _ _; first  | refine LinkV.no ?_) | (guard_target = GhO _ _ _ _; refine GhO.go ?_) | (guard_target = Need _ _; refine Need.mk (by first | ((simp only [List.length_map, List.length_append, List.length_cons, List.length_nil, maxLen]; constructor <;> omega)) | omega | (simp only [List.length_map]; omega)) ?_))
  all_goals first | rfl | trivial | (obtain ⟨e, hlt⟩ := ha.2.2.1 rfl; rw [List.take_of_length_le (by omega)] at e hlt; rw [putL_all hlt, e, List.map_append]; rfl) | (have h9 := ha.2.2.2 rfl; rw [List.drop_of_length_le (by omega), List.append_nil] at h9; rw [h9]; done)
theorem l00Put_ok (l : List Int) (n : Int) (hl : l.length ≤ 100000) : CallX Tryz.prog 99 [.c (.ro 1 (l.map eI)), I n] [] (.c (.ro 1 ((putL l n).map eI))) := (l00Put_own l n hl).soft (soft_ints _)
theorem l00Own_ro (l : List Int) (hl : l.length ≤ 1000000) : CallX Tryz.prog 97 [.c (.ro 1 (l.map eI))] [] (.c (.ro 1 (l.map eI))) := by
  have h : CallX Tryz.prog 97 [.c (.ro 1 (l.map eI))] [] (.c (.ows 2 1 (l.map eI))) := by
    refine callX_of_vc htb hm Tryz.func97 rfl rfl rfl rfl (ann := fun _ => none) (gh := fun _ => false) ?_
    repeat' ((conv => whnf); first | (guard_target = Done _; refine Done.mk ?_) | (guard_target = RetX _ _; refine RetX.mk ?_ ?_) | (guard_target = Fact _ _; refine Fact.mk fun hL => ?_; (try simp only [List.length_map, maxLen] at hL)) | (guard_target = Branch _ _ _; (first | refine Branch.dec ?_ ?_ | refine Branch.beq ?_ ?_ | refine Branch.bne ?_ ?_ | refine Branch.ndec ?_ ?_ | refine Branch.nb ?_ ?_ | refine Branch.mk ?_ ?_) <;> intro h <;> (try simp only [List.length_map] at h) <;> (try omega) <;> (try contradiction)) | (guard_target = Arith _ _ _; refine Arith.fit (wrap_fit (by first | omega | (simp only [List.length_map]; omega)) (by first | omega | (simp only [List.length_map]; omega))) ?_) | (guard_target = Arith _ _ _; refine Arith.fit (by decide) ?_) | (guard_target = Index _ _ _; first  | refine Index.mk _ (idx_map (by omega)) ?_) | (guard_target = Need (_ = true) _; refine Need.mk (by first | kernel_rfl | rfl) ?_) | (guard_target = LinkV _ _ _; first  | refine LinkV.no ?_) | (guard_target = GhO _ _ _ _; refine GhO.go ?_) | (guard_target = Need _ _; refine Need.mk (by first | ((simp only [List.length_map, List.length_nil, maxLen]; constructor <;> omega)) | omega | (simp only [List.length_map]; omega)) ?_))
    all_goals first | rfl | trivial
  exact h.soft (soft_ints _)
theorem fold_step {α β : Type} (f : β → α → β) (l : List α) (b : β) {k : Nat} (h : k < l.length) : (l.take (k + 1)).foldl f b = f ((l.take k).foldl f b) l[k] := by
  rw [List.take_succ_eq_append_getElem h, List.foldl_append]
  rfl
theorem l07Union_ok (l m : List Int) (hl : l.length ≤ 1000) (hm0 : m.length ≤ 1000) : CallX Tryz.prog 100 [.c (.ro 1 (l.map eI)), .c (.ro 1 (m.map eI))] [] (.c (.ro 1 ((unL l m).map eI))) := by
  have how := l00Own_ro l (by omega)
  refine callX_of_vc htb hm Tryz.func100 rfl rfl rfl rfl (ann := fun _ => none) (gh := fun _ => false) ?_
  repeat' ((conv => whnf); first | (guard_target = Done _; refine Done.mk ?_) | (guard_target = RetX _ _; refine RetX.mk ?_ ?_) | (guard_target =~ LoopE 3 _ _ _ _ _ _; refine LoopE.mk { α := List Int × Nat, keep := [1], ov := fun ⟨X, i⟩ => [(5, .c (.ro 1 (X.map eI))), (6, I (i : Nat))], φ := fun ⟨X, i⟩ => i ≤ m.length ∧ X = unL l (m.take i), μ := fun ⟨X, i⟩ => m.length - i } (LoopN.mk ((l, 0) : List Int × Nat) (by exact ⟨Nat.zero_le _, rfl⟩) (by (repeat' ((conv => whnf) <;> (first | exact trivial | refine ⟨?_, ?_⟩ | kernel_rfl))); done) (by (repeat' ((conv => whnf) <;> (first | exact trivial | refine ⟨?_, ?_⟩ | kernel_rfl))); done) (by (repeat' ((conv => whnf) <;> (first | exact trivial | refine ⟨?_, ?_⟩ | exact rfl | (simp only [List.map_append, List.map_cons, List.map_nil, List.map_set]; first | done | rfl)))); done) (fun A ha => ?_) (by intro A; first | rfl | (obtain ⟨_, _⟩ := A; rfl) | (obtain ⟨_, _, _⟩ := A; rfl))); obtain ⟨X, i⟩ := A; have ha : i ≤ m.length ∧ X = unL l (m.take i) := ha; have hlen : X.length ≤ 2000 := (by rw [ha.2]; have := unL_len l (m.take i); rw [List.length_take] at this; omega)) | (guard_target = Gh _ _ _ _ _; refine Gh.go ⟨((putL X m[i], i + 1) : List Int × Nat), (by exact ⟨by show i + 1 ≤ _; omega, by show putL X _ = _; unfold unL; rw [fold_step _ _ _ (by omega), ha.2]; rfl⟩), (by first | (show _ < _; simp only []; omega) | omega | (simp; omega)), (by (repeat' ((conv => whnf) <;> (first | exact trivial | refine ⟨?_, ?_⟩ | kernel_rfl))); done), (by (repeat' ((conv => whnf) <;> (first | exact trivial | refine ⟨?_, ?_⟩ | kernel_rfl))); done), (by (repeat' ((conv => whnf) <;> (first | exact trivial | refine ⟨?_, ?_⟩ | exact rfl | (simp only [List.map_append, List.map_cons, List.map_nil, List.map_set]; first | done | rfl)))); done)⟩) | (guard_target = Fact _ _; refine Fact.mk fun hL => ?_; (try simp only [List.length_map, maxLen] at hL)) | (guard_target = Branch _ _ _; (first | refine Branch.dec ?_ ?_ | refine Branch.beq ?_ ?_ | refine Branch.bne ?_ ?_ | refine Branch.ndec ?_ ?_ | refine Branch.nb ?_ ?_ | refine Branch.mk ?_ ?_) <;> intro h <;> (try simp only [List.length_map] at h) <;> (try omega) <;> (try contradiction)) | (guard_target = CallN _ 97 _ _ _ _; refine CallN.gen [] _ _ _ rfl (how) rfl rfl _ rfl ?_) | (guard_target = CallN _ 99 _ _ _ _; refine CallN.gen [] _ _ _ rfl (l00Put_ok X _ (by omega)) rfl rfl _ rfl ?_) | (guard_target = Arith _ _ _; refine Arith.fit (wrap_fit (by first | omega | (simp only [List.length_map]; omega)) (by first | omega | (simp only [List.length_map]; omega))) ?_) | (guard_target = Arith _ _ _; refine Arith.fit (by decide) ?_) | (guard_target = Index _ _ _; first | refine Index.mk _ (idx_map (l := m) (i := i) (by omega)) ?_ | refine Index.mk _ (idx_map (by omega)) ?_) | (guard_target = Need (_ = true) _; refine Need.mk (by first | kernel_rfl | rfl) ?_) | (guard_target = LinkV _ _ _; first  | refine LinkV.no ?_) | (guard_target = GhO _ _ _ _; refine GhO.go ?_) | (guard_target = Need _ _; refine Need.mk (by first  | omega | (simp only [List.length_map]; omega)) ?_))
  all_goals first | rfl | trivial | (have h9 := ha.2; rw [List.take_of_length_le (by omega)] at h9; rw [h9]; done)
section
variable (t a : Int) (ht : 0 ≤ t ∧ t ≤ 3)
include ht
theorem true_pre (x : XPremise) (h : okC t a x.pre) (atom : Int) : CallF Tryz.prog 101 [.c (.rp 7 (encPremise x)), I atom] (B (truthE x.pre atom)) := by
  have := l01True_ok t a atom ht.2 x.pre h
  rw [encExpr_eq] at this
  exact this.cut (.cut (k := 3) (by omega) (.same .nil))
theorem true_post (x : XPremise) (h : okC t a x.post) (atom : Int) : CallF Tryz.prog 101 [.c (.rp 3 ((encPremise x).drop 4)), I atom] (B (truthE x.post atom)) := by
  have := l01True_ok t a atom ht.2 x.post h
  rwa [encExpr_eq] at this
theorem l07Allows_ok (l : List XPremise) (hl : PremOk t a l) (act x y : Int) : CallF Tryz.prog 159 [.c (.ro 7 (l.map encPremise)), I act, I x, I y] (B (alB l act x y)) := by
  refine callF_of_vc htb hm Tryz.func159 rfl rfl rfl rfl (ann := fun _ => none) (gh := fun _ => false) ?_
  repeat' ((conv => whnf); first | (guard_target = Done _; refine Done.mk ?_; first | ((rw [show alB l act x y = true from all_getD fun u hu => ha.2 u (by omega)]; rfl); done) | ((rw [show alB l act x y = false from all_getD_no (i := i) (d := pn0) (by omega) (by simp_all [alP])]; rfl); done) | skip) | (guard_target = RetX _ _; refine RetX.mk ?_ ?_) | (guard_target =~ LoopE 2 _ _ _ _ _ _; refine LoopE.mk { α := Nat, keep := [0, 1, 2, 3], ov := fun i => [(9, I (i : Nat))], φ := fun i => i ≤ l.length ∧ ∀ u, u < i → alP act x y (l.getD u pn0) = true, μ := fun i => l.length - i } (LoopN.mk (0 : Nat) (by exact ⟨Nat.zero_le _, fun u hu => by omega⟩) (by (repeat' ((conv => whnf) <;> (first | exact trivial | refine ⟨?_, ?_⟩ | kernel_rfl))); done) (by (repeat' ((conv => whnf) <;> (first | exact trivial | refine ⟨?_, ?_⟩ | kernel_rfl))); done) (by (repeat' ((conv => whnf) <;> (first | exact trivial | refine ⟨?_, ?_⟩ | exact rfl | (simp only [List.map_append, List.map_cons, List.map_nil, List.map_set]; first | done | rfl)))); done) (fun (i : Nat) ha => ?_) (by intro A; first | rfl | (obtain ⟨_, _⟩ := A; rfl) | (obtain ⟨_, _, _⟩ := A; rfl))); have ha : i ≤ l.length ∧ ∀ u, u < i → alP act x y (l.getD u pn0) = true := ha; have hi := @PremOk.at t a l hl i) | (guard_target = Gh _ _ _ _ _; refine Gh.go ⟨(i + 1 : Nat), (by exact ⟨by show i + 1 ≤ _; omega, by intro u hu; by_cases e : u = i; (subst e; simp_all [alP]); exact ha.2 u (by omega)⟩), (by first | (show _ < _; simp only []; omega) | omega | (simp; omega)), (by (repeat' ((conv => whnf) <;> (first | exact trivial | refine ⟨?_, ?_⟩ | kernel_rfl))); done), (by (repeat' ((conv => whnf) <;> (first | exact trivial | refine ⟨?_, ?_⟩ | kernel_rfl))); done), (by (repeat' ((conv => whnf) <;> (first | exact trivial | refine ⟨?_, ?_⟩ | exact rfl | (simp only [List.map_append, List.map_cons, List.map_nil, List.map_set]; first | done | rfl)))); done)⟩) | (guard_target = Fact _ _; refine Fact.mk fun hL => ?_; (try simp only [List.length_map, maxLen] at hL)) | (guard_target = Branch _ _ _; (first | refine Branch.dec ?_ ?_ | refine Branch.beq ?_ ?_ | refine Branch.bne ?_ ?_ | refine Branch.ndec ?_ ?_ | refine Branch.nb ?_ ?_ | refine Branch.mk ?_ ?_) <;> intro h <;> (try simp only [List.length_map] at h) <;> (try omega) <;> (try contradiction)) | (guard_target = CallN _ 101 _ _ _ _; refine CallN.pure _ _ rfl (true_pre t a ht _ (hi (by omega)).1 x) rfl _ rfl ?_) | (guard_target = CallN _ 101 _ _ _ _; refine CallN.pure _ _ rfl (true_post t a ht _ (hi (by omega)).2 y) rfl _ rfl ?_) | (guard_target = Arith _ _ _; refine Arith.fit (wrap_fit (by first | omega | (simp only [List.length_map]; omega)) (by first | omega | (simp only [List.length_map]; omega))) ?_) | (guard_target = Arith _ _ _; refine Arith.fit (by decide) ?_) | (guard_target = Index _ _ _; first | refine Index.mk _ (idx_getD (d := pn0) (i := i) (by omega)) ?_ | refine Index.mk _ (idx_map (by omega)) ?_) | (guard_target = Need (_ = true) _; refine Need.mk (by first | kernel_rfl | rfl) ?_) | (guard_target = LinkV _ _ _; first  | refine LinkV.no ?_) | (guard_target = GhO _ _ _ _; refine GhO.go ?_) | (guard_target = Need _ _; refine Need.mk (by first  | omega | (simp only [List.length_map]; omega)) ?_))
  all_goals first | rfl | trivial
variable (N : Nat) (hN : atomsN t = N ∧ 1 ≤ N ∧ N ≤ 8)
include hN
theorem l07Next_ok (l : List XPremise) (hl : PremOk t a l) (act x : Int) : CallX Tryz.prog 98 [.a 2 [J t, J a], .c (.ro 7 (l.map encPremise)), I act, I x] [] (.c (.ro 1 ((selR N fun y => alB l act x y).map eI))) := by
  have hat := l01Atoms_ok t a ht
  rw [hN.1] at hat
  have hsl := fun i => selR_len i fun y => alB l act x y
  have hA := fun y => l07Allows_ok t a ht l hl act x y
  have h : CallX Tryz.prog 98 [.a 2 [J t, J a], .c (.ro 7 (l.map encPremise)), I act, I x] [] (.c (.ows 2 1 ((selR N fun y => alB l act x y).map eI))) := by
    refine callX_of_vc htb hm Tryz.func98 rfl rfl rfl rfl (ann := fun _ => none) (gh := fun _ => false) ?_
    repeat' ((conv => whnf); first | (guard_target = Done _; refine Done.mk ?_) | (guard_target = RetX _ _; refine RetX.mk ?_ ?_) | (guard_target =~ LoopE 3 _ _ _ _ _ _; refine LoopE.mk { α := List Int × Nat, keep := [1, 2, 3, 4], ov := fun ⟨R, y⟩ => [(9, .lw 2), (10, I (y : Nat))], hv := fun ⟨R, y⟩ => [(2, .row none 2 1 (R.map eI))], φ := fun ⟨R, y⟩ => y ≤ N ∧ R = selR y (fun y => alB l act x y), μ := fun ⟨R, y⟩ => N - y } (LoopN.mk (([], 0) : List Int × Nat) (by exact ⟨Nat.zero_le _, rfl⟩) (by (repeat' ((conv => whnf) <;> (first | exact trivial | refine ⟨?_, ?_⟩ | kernel_rfl))); done) (by (repeat' ((conv => whnf) <;> (first | exact trivial | refine ⟨?_, ?_⟩ | kernel_rfl))); done) (by (repeat' ((conv => whnf) <;> (first | exact trivial | refine ⟨?_, ?_⟩ | exact rfl | (simp only [List.map_append, List.map_cons, List.map_nil, List.map_set]; first | done | rfl)))); done) (fun A ha => ?_) (by intro A; first | rfl | (obtain ⟨_, _⟩ := A; rfl) | (obtain ⟨_, _, _⟩ := A; rfl))); obtain ⟨R, y⟩ := A; have ha : y ≤ N ∧ R = selR y (fun y => alB l act x y) := ha; have hsx := hsl y; rw [← ha.2] at hsx) | (guard_target = Gh _ _ _ _ _; refine Gh.go ⟨((R ++ [(y : Int)], y + 1) : List Int × Nat), (by exact ⟨by show y + 1 ≤ N; omega, by show R ++ _ = _; rw [selR_yes h, ← ha.2]⟩), (by first | (show _ < _; simp only []; omega) | omega | (simp; omega)), (by (repeat' ((conv => whnf) <;> (first | exact trivial | refine ⟨?_, ?_⟩ | kernel_rfl))); done), (by (repeat' ((conv => whnf) <;> (first | exact trivial | refine ⟨?_, ?_⟩ | kernel_rfl))); done), (by (repeat' ((conv => whnf) <;> (first | exact trivial | refine ⟨?_, ?_⟩ | exact rfl | (simp only [List.map_append, List.map_cons, List.map_nil, List.map_set]; first | done | rfl)))); done)⟩) | (guard_target = Gh _ _ _ _ _; refine Gh.go ⟨((R, y + 1) : List Int × Nat), (by exact ⟨by show y + 1 ≤ N; omega, by show R = _; rw [selR_no h, ← ha.2]⟩), (by first | (show _ < _; simp only []; omega) | omega | (simp; omega)), (by (repeat' ((conv => whnf) <;> (first | exact trivial | refine ⟨?_, ?_⟩ | kernel_rfl))); done), (by (repeat' ((conv => whnf) <;> (first | exact trivial | refine ⟨?_, ?_⟩ | kernel_rfl))); done), (by (repeat' ((conv => whnf) <;> (first | exact trivial | refine ⟨?_, ?_⟩ | exact rfl | (simp only [List.map_append, List.map_cons, List.map_nil, List.map_set]; first | done | rfl)))); done)⟩) | (guard_target = Fact _ _; refine Fact.mk fun hL => ?_; (try simp only [List.length_map, maxLen] at hL)) | (guard_target = Branch _ _ _; (first | refine Branch.dec ?_ ?_ | refine Branch.beq ?_ ?_ | refine Branch.bne ?_ ?_ | refine Branch.ndec ?_ ?_ | refine Branch.nb ?_ ?_ | refine Branch.mk ?_ ?_) <;> intro h <;> (try simp only [List.length_map] at h) <;> (try omega) <;> (try contradiction)) | (guard_target = CallN _ 95 _ _ _ _; refine CallN.pure _ _ rfl (hat) rfl _ rfl ?_) | (guard_target = CallN _ 159 _ _ _ _; refine CallN.pure _ _ rfl (hA _) rfl _ rfl ?_) | (guard_target = Arith _ _ _; refine Arith.fit (wrap_fit (by first | omega | (simp only [List.length_map]; omega)) (by first | omega | (simp only [List.length_map]; omega))) ?_) | (guard_target = Arith _ _ _; refine Arith.fit (by decide) ?_) | (guard_target = Index _ _ _; first  | refine Index.mk _ (idx_map (by omega)) ?_) | (guard_target = Need (_ = true) _; refine Need.mk (by first | kernel_rfl | rfl) ?_) | (guard_target = LinkV _ _ _; first  | refine LinkV.no ?_) | (guard_target = GhO _ _ _ _; refine GhO.go ?_) | (guard_target = Need _ _; refine Need.mk (by first | ((simp only [List.length_map, List.length_cons, List.length_nil, maxLen]; constructor <;> omega)) | omega | (simp only [List.length_map]; omega)) ?_))
    all_goals first | rfl | trivial | (rw [ha.2, show y = N by omega]; done)
  exact h.soft (soft_ints _)
theorem l07Atoms_ows (c : XExpr) (hc : okC t a c) : CallX Tryz.prog 39 [.a 2 [J t, J a], .c (.rp 3 (encExpr c))] [] (.c (.ows 2 1 ((selR N (trP c)).map eI))) := by
  have hat := l01Atoms_ok t a ht
  rw [hN.1] at hat
  have hsl := fun i => selR_len i (trP c)
  have hA := fun y => l01True_ok t a y ht.2 c hc
  refine callX_of_vc htb hm Tryz.func39 rfl rfl rfl rfl (ann := fun _ => none) (gh := fun _ => false) ?_
  repeat' ((conv => whnf); first | (guard_target = Done _; refine Done.mk ?_) | (guard_target = RetX _ _; refine RetX.mk ?_ ?_) | (guard_target =~ LoopE 3 _ _ _ _ _ _; refine LoopE.mk { α := List Int × Nat, keep := [1, 2], ov := fun ⟨R, y⟩ => [(5, .lw 2), (6, I (y : Nat))], hv := fun ⟨R, y⟩ => [(2, .row none 2 1 (R.map eI))], φ := fun ⟨R, y⟩ => y ≤ N ∧ R = selR y (trP c), μ := fun ⟨R, y⟩ => N - y } (LoopN.mk (([], 0) : List Int × Nat) (by exact ⟨Nat.zero_le _, rfl⟩) (by (repeat' ((conv => whnf) <;> (first | exact trivial | refine ⟨?_, ?_⟩ | kernel_rfl))); done) (by (repeat' ((conv => whnf) <;> (first | exact trivial | refine ⟨?_, ?_⟩ | kernel_rfl))); done) (by (repeat' ((conv => whnf) <;> (first | exact trivial | refine ⟨?_, ?_⟩ | exact rfl | (simp only [List.map_append, List.map_cons, List.map_nil, List.map_set]; first | done | rfl)))); done) (fun A ha => ?_) (by intro A; first | rfl | (obtain ⟨_, _⟩ := A; rfl) | (obtain ⟨_, _, _⟩ := A; rfl))); obtain ⟨R, y⟩ := A; have ha : y ≤ N ∧ R = selR y (trP c) := ha; have hsx := hsl y; rw [← ha.2] at hsx) | (guard_target = Gh _ _ _ _ _; refine Gh.go ⟨((R ++ [(y : Int)], y + 1) : List Int × Nat), (by exact ⟨by show y + 1 ≤ N; omega, by show R ++ _ = _; rw [selR_yes h, ← ha.2]⟩), (by first | (show _ < _; simp only []; omega) | omega | (simp; omega)), (by (repeat' ((conv => whnf) <;> (first | exact trivial | refine ⟨?_, ?_⟩ | kernel_rfl))); done), (by (repeat' ((conv => whnf) <;> (first | exact trivial | refine ⟨?_, ?_⟩ | kernel_rfl))); done), (by (repeat' ((conv => whnf) <;> (first | exact trivial | refine ⟨?_, ?_⟩ | exact rfl | (simp only [List.map_append, List.map_cons, List.map_nil, List.map_set]; first | done | rfl)))); done)⟩) | (guard_target = Gh _ _ _ _ _; refine Gh.go ⟨((R, y + 1) : List Int × Nat), (by exact ⟨by show y + 1 ≤ N; omega, by show R = _; rw [selR_no h, ← ha.2]⟩), (by first | (show _ < _; simp only []; omega) | omega | (simp; omega)), (by (repeat' ((conv => whnf) <;> (first | exact trivial | refine ⟨?_, ?_⟩ | kernel_rfl))); done), (by (repeat' ((conv => whnf) <;> (first | exact trivial | refine ⟨?_, ?_⟩ | kernel_rfl))); done), (by (repeat' ((conv => whnf) <;> (first | exact trivial | refine ⟨?_, ?_⟩ | exact rfl | (simp only [List.map_append, List.map_cons, List.map_nil, List.map_set]; first | done | rfl)))); done)⟩) | (guard_target = Fact _ _; refine Fact.mk fun hL => ?_; (try simp only [List.length_map, maxLen] at hL)) | (guard_target = Branch _ _ _; (first | refine Branch.dec ?_ ?_ | refine Branch.beq ?_ ?_ | refine Branch.bne ?_ ?_ | refine Branch.ndec ?_ ?_ | refine Branch.nb ?_ ?_ | refine Branch.mk ?_ ?_) <;> intro h <;> (try simp only [List.length_map] at h) <;> (try omega) <;> (try contradiction)) | (guard_target = CallN _ 95 _ _ _ _; refine CallN.pure _ _ rfl (hat) rfl _ rfl ?_) | (guard_target = CallN _ 101 _ _ _ _; refine CallN.pure _ _ rfl (hA _) rfl _ rfl ?_) | (guard_target = Arith _ _ _; refine Arith.fit (wrap_fit (by first | omega | (simp only [List.length_map]; omega)) (by first | omega | (simp only [List.length_map]; omega))) ?_) | (guard_target = Arith _ _ _; refine Arith.fit (by decide) ?_) | (guard_target = Index _ _ _; first  | refine Index.mk _ (idx_map (by omega)) ?_) | (guard_target = Need (_ = true) _; refine Need.mk (by first | kernel_rfl | rfl) ?_) | (guard_target = LinkV _ _ _; first  | refine LinkV.no ?_) | (guard_target = GhO _ _ _ _; refine GhO.go ?_) | (guard_target = Need _ _; refine Need.mk (by first | ((simp only [List.length_map, List.length_cons, List.length_nil, maxLen]; constructor <;> omega)) | omega | (simp only [List.length_map]; omega)) ?_))
  all_goals first | rfl | trivial | (rw [ha.2, show y = N by omega]; done)
theorem l07Atoms_ok (c : XExpr) (hc : okC t a c) : CallX Tryz.prog 39 [.a 2 [J t, J a], .c (.rp 3 (encExpr c))] [] (.c (.ro 1 ((selR N (trP c)).map eI))) := (l07Atoms_ows t a ht N hN c hc).soft (soft_ints _)
omit hN
theorem l07Parted_ok (c : XExpr) (hc : okC t a c) (l : List Int) (hl : l.length ≤ 1000) : CallX Tryz.prog 96 [.c (.rp 3 (encExpr c)), .c (.ro 1 (l.map eI))] [] (.tup [.c (.ro 1 ((l.filter fun z => truthE c z).map eI)), .c (.ro 1 ((l.filter fun z => !(truthE c z)).map eI))]) := by
  have hA := fun y => l01True_ok t a y ht.2 c hc
  have h : CallX Tryz.prog 96 [.c (.rp 3 (encExpr c)), .c (.ro 1 (l.map eI))] [] (.tup [.c (.ows 2 1 ((l.filter fun z => truthE c z).map eI)), .c (.ows 2 1 ((l.filter fun z => !(truthE c z)).map eI))]) := by
    refine callX_of_vc htb hm Tryz.func96 rfl rfl rfl rfl (ann := fun _ => none) (gh := fun _ => false) ?_
    repeat' ((conv => whnf); first | (guard_target = Done _; refine Done.mk ?_) | (guard_target = RetX _ _; refine RetX.mk ?_ ?_) | (guard_target =~ LoopE 4 _ _ _ _ _ _; refine LoopE.mk { α := List Int × List Int × Nat, keep := [0, 1], ov := fun ⟨R, Q, i⟩ => [(6, .lw 2), (7, .lw 3), (8, I (i : Nat))], hv := fun ⟨R, Q, i⟩ => [(2, .row none 2 1 (R.map eI)), (3, .row none 2 1 (Q.map eI))], φ := fun ⟨R, Q, i⟩ => i ≤ l.length ∧ R = (l.take i).filter (fun z => truthE c z) ∧ Q = (l.take i).filter (fun z => !(truthE c z)), μ := fun ⟨R, Q, i⟩ => l.length - i } (LoopN.mk (([], [], 0) : List Int × List Int × Nat) (by exact ⟨Nat.zero_le _, rfl, rfl⟩) (by (repeat' ((conv => whnf) <;> (first | exact trivial | refine ⟨?_, ?_⟩ | kernel_rfl))); done) (by (repeat' ((conv => whnf) <;> (first | exact trivial | refine ⟨?_, ?_⟩ | kernel_rfl))); done) (by (repeat' ((conv => whnf) <;> (first | exact trivial | refine ⟨?_, ?_⟩ | exact rfl | (simp only [List.map_append, List.map_cons, List.map_nil, List.map_set]; first | done | rfl)))); done) (fun A ha => ?_) (by intro A; first | rfl | (obtain ⟨_, _⟩ := A; rfl) | (obtain ⟨_, _, _⟩ := A; rfl))); obtain ⟨R, Q, i⟩ := A; have ha : i ≤ l.length ∧ R = (l.take i).filter (fun z => truthE c z) ∧ Q = (l.take i).filter (fun z => !(truthE c z)) := ha; have hr := List.length_filter_le (fun z => truthE c z) (l.take i); rw [← ha.2.1, List.length_take] at hr; have hq := List.length_filter_le (fun z => !(truthE c z)) (l.take i); rw [← ha.2.2, List.length_take] at hq) | (guard_target = Gh _ _ _ _ _; refine Gh.go ⟨((R ++ [l[i]], Q, i + 1) : List Int × List Int × Nat), (by (have _ : truthE c l[i] = true := h; exact ⟨by show i + 1 ≤ _; omega, by show R ++ _ = _; rw [List.take_succ_eq_append_getElem (by omega), List.filter_append, ← ha.2.1]; simp [h], by show Q = _; rw [List.take_succ_eq_append_getElem (by omega), List.filter_append, ← ha.2.2]; simp [h]⟩)), (by first | (show _ < _; simp only []; omega) | omega | (simp; omega)), (by (repeat' ((conv => whnf) <;> (first | exact trivial | refine ⟨?_, ?_⟩ | kernel_rfl))); done), (by (repeat' ((conv => whnf) <;> (first | exact trivial | refine ⟨?_, ?_⟩ | kernel_rfl))); done), (by (repeat' ((conv => whnf) <;> (first | exact trivial | refine ⟨?_, ?_⟩ | exact rfl | (simp only [List.map_append, List.map_cons, List.map_nil, List.map_set]; first | done | rfl)))); done)⟩) | (guard_target = Gh _ _ _ _ _; refine Gh.go ⟨((R, Q ++ [l[i]], i + 1) : List Int × List Int × Nat), (by exact ⟨by show i + 1 ≤ _; omega, by show R = _; rw [List.take_succ_eq_append_getElem (by omega), List.filter_append, ← ha.2.1]; simp [h], by show Q ++ _ = _; rw [List.take_succ_eq_append_getElem (by omega), List.filter_append, ← ha.2.2]; simp [h]⟩), (by first | (show _ < _; simp only []; omega) | omega | (simp; omega)), (by (repeat' ((conv => whnf) <;> (first | exact trivial | refine ⟨?_, ?_⟩ | kernel_rfl))); done), (by (repeat' ((conv => whnf) <;> (first | exact trivial | refine ⟨?_, ?_⟩ | kernel_rfl))); done), (by (repeat' ((conv => whnf) <;> (first | exact trivial | refine ⟨?_, ?_⟩ | exact rfl | (simp only [List.map_append, List.map_cons, List.map_nil, List.map_set]; first | done | rfl)))); done)⟩) | (guard_target = Fact _ _; refine Fact.mk fun hL => ?_; (try simp only [List.length_map, maxLen] at hL)) | (guard_target = Branch _ _ _; (first | refine Branch.dec ?_ ?_ | refine Branch.beq ?_ ?_ | refine Branch.bne ?_ ?_ | refine Branch.ndec ?_ ?_ | refine Branch.nb ?_ ?_ | refine Branch.mk ?_ ?_) <;> intro h <;> (try simp only [List.length_map] at h) <;> (try omega) <;> (try contradiction)) | (guard_target = CallN _ 101 _ _ _ _; refine CallN.pure _ _ rfl (hA _) rfl _ rfl ?_) | (guard_target = Arith _ _ _; refine Arith.fit (wrap_fit (by first | omega | (simp only [List.length_map]; omega)) (by first | omega | (simp only [List.length_map]; omega))) ?_) | (guard_target = Arith _ _ _; refine Arith.fit (by decide) ?_) | (guard_target = Index _ _ _; first | refine Index.mk _ (idx_map (l := l) (i := i) (by omega)) ?_ | refine Index.mk _ (idx_map (by omega)) ?_) | (guard_target = Need (_ = true) _; refine Need.mk (by first | kernel_rfl | rfl) ?_) | (guard_target = LinkV _ _ _; first  | refine LinkV.no ?_) | (guard_target = GhO _ _ _ _; refine GhO.go ?_) | (guard_target = Need _ _; refine Need.mk (by first | ((simp only [List.length_map, List.length_cons, List.length_nil, maxLen]; constructor <;> omega)) | omega | (simp only [List.length_map]; omega)) ?_))
    all_goals first | rfl | trivial | (have h8 := ha.2.1; have h9 := ha.2.2; rw [List.take_of_length_le (by omega)] at h8 h9; rw [h8, h9]; done)
  exact h.soft (.tup (.cons (.c (.ro .nil)) (.cons (.c (.ro .nil)) .nil)))
end
end Go.Proofs.YtlfigjkddnncgaaGreat
