/- Contract of the reference's function that counts down the nodes of a proof. No conditions. -/
import Derived.Test.YtaajacnceocpoaaGreatKAR
namespace Go.Proofs.YtaajacnceocpoaaGreat
open Go Go.KA Go.Proofs
set_option maxHeartbeats 16000000
set_option maxRecDepth 100000
structure Cnt (f : Int → Int) (s k : Nat) : Prop where
  iff : ∀ m, 0 ≤ f m ↔ (s : Int) ≤ m
  eq : ∀ m, 0 ≤ f m → f m = m - s
  lo : ∀ m, min m 0 - k ≤ f m
  hi : ∀ m, f m ≤ m
theorem Cnt.id : Cnt (fun m => m) 0 0 := ⟨fun m => by simp, fun m _ => by simp, fun m => by omega, fun m => Int.le_refl _⟩
theorem Cnt.comp {f g : Int → Int} {s t k j : Nat} (hf : Cnt f s k) (hg : Cnt g t j) : Cnt (fun m => g (f m)) (s + t) (k + j) := by
  refine ⟨fun m => ?_, fun m h => ?_, fun m => ?_, fun m => ?_⟩
  · have h1 := hf.iff m
    have h2 := hg.iff (f m)
    have h3 := hf.eq m
    constructor
    · intro h
      have := h2.1 h
      have h4 := h3 (by omega)
      omega
    · intro h
      refine h2.2 ?_
      have h4 := h3 (h1.2 (by omega))
      omega
  · have h2 := (hg.iff (f m)).1 h
    have h3 := hf.eq m (by omega)
    have h4 := hg.eq (f m) h
    show g (f m) = _
    omega
  · have h1 := hf.lo m
    have h2 := hg.lo (f m)
    omega
  · have h1 := hf.hi m
    have h2 := hg.hi (f m)
    omega
theorem Cnt.guard {f : Int → Int} {s k : Nat} (hf : Cnt f s k) : Cnt (fun m => if m < 0 then m else f m) s k := by
  refine ⟨fun m => ?_, fun m h => ?_, fun m => ?_, fun m => ?_⟩ <;> (try dsimp only at *)
  · have := hf.iff m
    by_cases hm : m < 0
    · rw [if_pos hm]; omega
    · rw [if_neg hm]; exact this
  · by_cases hm : m < 0
    · rw [if_pos hm] at h; omega
    · rw [if_neg hm] at h ⊢; exact hf.eq m h
  · have := hf.lo m
    by_cases hm : m < 0
    · rw [if_pos hm]; omega
    · rw [if_neg hm]; exact this
  · have := hf.hi m
    by_cases hm : m < 0
    · rw [if_pos hm]; omega
    · rw [if_neg hm]; exact this
def lE (l : List XExpr) (m : Int) : Int := l.foldl (fun m e => leftE e m) m
end Go.Proofs.YtaajacnceocpoaaGreat

namespace Go.Proofs.YtaajacnceocpoaaGreat
open Go Go.KA Go.Proofs
set_option maxHeartbeats 16000000
set_option maxRecDepth 100000
/-! ### the first place -/
def idxP {α : Type} (p : α → Bool) : List α → Int
  | [] => -1
  | x :: xs => if p x = true then 0 else if idxP p xs < 0 then -1 else idxP p xs + 1
/-! ### numbers -/
def memB (x : Int) (l : List Int) : Bool := decide (x ∈ l)
/-! ### notes -/
end Go.Proofs.YtaajacnceocpoaaGreat

namespace Go.Proofs.YtaajacnceocpoaaGreat
open Go Go.KA Go.Proofs
set_option maxHeartbeats 16000000
set_option maxRecDepth 100000
/-! ### entries -/
end Go.Proofs.YtaajacnceocpoaaGreat

namespace Go.Proofs.YtaajacnceocpoaaGreat
open Go Go.KA Go.Proofs
set_option maxHeartbeats 16000000
set_option maxRecDepth 100000
/-! ### servers -/
def allR (n : Nat) (p : Nat → Bool) : Bool := (List.range n).all p
end Go.Proofs.YtaajacnceocpoaaGreat

namespace Go.Proofs.YtaajacnceocpoaaGreat
open Go Go.KA Go.Proofs
set_option maxHeartbeats 16000000
set_option maxRecDepth 100000
section
variable {α : Type} {a b : List α} {i : Nat}
theorem eqL_len (h : ¬ a.length = b.length) : eqv a b = false := eqv_ne fun e => h (by rw [e])
theorem eqL_no (hi : i < a.length) (hj : i < b.length) (h : eqv a[i] b[i] = false) : eqv a b = false := eqv_ne fun e => by
  subst e
  simp at h
theorem eqL_go (hi : i < a.length) (hj : i < b.length) (ht : a.take i = b.take i) (h : eqv a[i] b[i] = true) : a.take (i + 1) = b.take (i + 1) := by
  rw [List.take_add_one, List.take_add_one, ht, List.getElem?_eq_getElem hi, List.getElem?_eq_getElem hj, eqv_true.1 h]
theorem eqL_end (hl : a.length = b.length) (hi : ¬ i < a.length) (ht : a.take i = b.take i) : eqv a b = true := by
  rw [List.take_of_length_le (by omega), List.take_of_length_le (by omega)] at ht
  exact eqv_true.2 ht
end
theorem l00Same_ok (a b : List Int) : CallF Tryz.prog 54 [.c (.ro 1 (a.map eI)), .c (.ro 1 (b.map eI))] (B (eqv a b)) := by
  refine callF_of_vc htb hm Tryz.func54 rfl rfl rfl rfl (ann := fun _ => none) (gh := fun _ => false) ?_
  repeat' ((conv => whnf); first | (guard_target = Done _; refine Done.mk ?_; first | (exact no_of (eqL_len (by omega)); done) | (exact no_of (eqL_no (i := i) (by omega) (by omega) (eqv_ne h)); done) | (exact yes_of (eqL_end ha.2.1 (by omega) ha.2.2); done) | skip) | (guard_target =~ LoopE 4 _ _ _ _ _ _; refine LoopE.mk { α := Nat, keep := [0, 1], ov := fun i => [(5, I i)], φ := fun i => i ≤ a.length ∧ a.length = b.length ∧ a.take i = b.take i, μ := fun i => a.length - i } (LoopN.mk (0 : Nat) (by exact ⟨Nat.zero_le _, by omega, rfl⟩) (by repeat' ((conv => whnf) <;> first | exact trivial | kernel_rfl | constructor)) (by repeat' ((conv => whnf) <;> first | exact trivial | kernel_rfl | constructor)) (by repeat' ((conv => whnf) <;> first | exact trivial | refine ⟨?_, ?_⟩ | exact rfl | (simp only [List.map_append, List.map_cons, List.map_nil, List.map_set]; first | done | rfl))) (fun (i : Nat) ha => ?_) (by intro A; first | rfl | (obtain ⟨_, _⟩ := A; rfl) | (obtain ⟨_, _, _⟩ := A; rfl))); have ha : i ≤ a.length ∧ a.length = b.length ∧ a.take i = b.take i := ha) | (guard_target = Gh _ _ _ _ _; refine Gh.go ⟨(i + 1 : Nat), (by exact ⟨by show i + 1 ≤ _; omega, ha.2.1, eqL_go (by omega) (by omega) ha.2.2 (eqv_of h)⟩), (by first | (show _ < _; simp only []; omega) | omega | (simp; omega)), (by repeat' ((conv => whnf) <;> first | exact trivial | kernel_rfl | constructor)), (by repeat' ((conv => whnf) <;> first | exact trivial | kernel_rfl | constructor)), (by repeat' ((conv => whnf) <;> first | exact trivial | refine ⟨?_, ?_⟩ | exact rfl | (simp only [List.map_append, List.map_cons, List.map_nil, List.map_set]; first | done | rfl)))⟩) | (guard_target = Fact _ _; refine Fact.mk fun hL => ?_; (try simp only [List.length_map, maxLen] at hL)) | (guard_target = Branch _ _ _; (first | apply Branch.dec | apply Branch.beq | apply Branch.bne | apply Branch.ndec | apply Branch.nb | apply Branch.mk) <;> intro h <;> (try simp only [List.length_map] at h) <;> (try omega) <;> (try contradiction)) | (guard_target = Arith _ _ _; refine Arith.fit (by apply wrap_fit <;> first | omega | (simp only [List.length_map]; omega)) ?_) | (guard_target = Arith _ _ _; refine Arith.fit (by decide) ?_) | (guard_target = Index _ _ _; first | refine Index.mk _ (idx_map (i := i) (by omega)) ?_ | refine Index.mk _ (idx_map (by omega)) ?_) | (guard_target = Need (_ = true) _; refine Need.mk (by first | kernel_rfl | rfl) ?_) | (guard_target = LinkV _ _ _; refine LinkV.no ?_) | (guard_target = GhO _ _ _ _; refine GhO.go ?_) | (guard_target = Need _ _; refine Need.mk (by first  | omega | (simp only [List.length_map]; omega)) ?_))
/-! ### expressions -/
theorem eqE (x y : XExpr) : eqv x y = ((x.kind == y.kind) && ((x.num == y.num) && eqv x.kids y.kids)) := by
  cases x; cases y
  refine Bool.eq_iff_iff.2 ?_
  simp [XExpr.kind, XExpr.num, XExpr.kids]
theorem l01Same_all (x y : XExpr) (hx : ∀ u ∈ x.kids, ∀ v, CallF Tryz.prog 76 [.c (.rp 3 (encExpr u)), .c (.rp 3 (encExpr v))] (B (eqv u v))) : CallF Tryz.prog 76 [.c (.rp 3 (toldE x)), .c (.rp 3 (toldE y))] (B (eqv x y)) := by
  rw [eqE]
  refine callF_of_vc htb hm Tryz.func76 rfl rfl rfl rfl (ann := fun _ => none) (gh := fun _ => false) ?_
  repeat' ((conv => whnf); first | (guard_target = Done _; refine Done.mk ?_; first | ((refine no_of ?_; rw [eqL_len (by omega), Bool.and_false, Bool.and_false]); done) | ((refine no_of ?_; rw [eqL_no (i := i) (by omega) (by omega) (eqv_ne h), Bool.and_false, Bool.and_false]); done) | ((refine yes_of ?_; rw [eqL_end ha.2.1 (by omega) ha.2.2]; simp_all; done); done) | ((refine no_of ?_; simp_all; done); done) | skip) | (guard_target =~ LoopE 4 _ _ _ _ _ _; refine LoopE.mk { α := Nat, keep := [0, 1], ov := fun i => [(5, I i)], φ := fun i => i ≤ x.kids.length ∧ x.kids.length = y.kids.length ∧ x.kids.take i = y.kids.take i, μ := fun i => x.kids.length - i } (LoopN.mk (0 : Nat) (by exact ⟨Nat.zero_le _, by omega, rfl⟩) (by repeat' ((conv => whnf) <;> first | exact trivial | kernel_rfl | constructor)) (by repeat' ((conv => whnf) <;> first | exact trivial | kernel_rfl | constructor)) (by repeat' ((conv => whnf) <;> first | exact trivial | refine ⟨?_, ?_⟩ | exact rfl | (simp only [List.map_append, List.map_cons, List.map_nil, List.map_set]; first | done | rfl))) (fun (i : Nat) ha => ?_) (by intro A; first | rfl | (obtain ⟨_, _⟩ := A; rfl) | (obtain ⟨_, _, _⟩ := A; rfl))); have ha : i ≤ x.kids.length ∧ x.kids.length = y.kids.length ∧ x.kids.take i = y.kids.take i := ha) | (guard_target = Gh _ _ _ _ _; refine Gh.go ⟨(i + 1 : Nat), (by exact ⟨by show i + 1 ≤ _; omega, ha.2.1, eqL_go (by omega) (by omega) ha.2.2 (eqv_of h)⟩), (by first | (show _ < _; simp only []; omega) | omega | (simp; omega)), (by repeat' ((conv => whnf) <;> first | exact trivial | kernel_rfl | constructor)), (by repeat' ((conv => whnf) <;> first | exact trivial | kernel_rfl | constructor)), (by repeat' ((conv => whnf) <;> first | exact trivial | refine ⟨?_, ?_⟩ | exact rfl | (simp only [List.map_append, List.map_cons, List.map_nil, List.map_set]; first | done | rfl)))⟩) | (guard_target = Fact _ _; refine Fact.mk fun hL => ?_; (try simp only [List.length_map, maxLen] at hL)) | (guard_target = Branch _ _ _; (first | apply Branch.dec | apply Branch.beq | apply Branch.bne | apply Branch.ndec | apply Branch.nb | apply Branch.mk) <;> intro h <;> (try simp only [List.length_map] at h) <;> (try omega) <;> (try contradiction)) | (guard_target = CallN _ 76 _ _ _ _; refine CallN.pure _ _ rfl (hx _ (List.getElem_mem (by omega)) _) rfl _ rfl ?_) | (guard_target = Arith _ _ _; refine Arith.fit (by apply wrap_fit <;> first | omega | (simp only [List.length_map]; omega)) ?_) | (guard_target = Arith _ _ _; refine Arith.fit (by decide) ?_) | (guard_target = Index _ _ _; first | refine Index.mk _ (idx_map (i := i) (by omega)) ?_ | refine Index.mk _ (idx_map (by omega)) ?_) | (guard_target = Need (_ = true) _; refine Need.mk (by first | kernel_rfl | rfl) ?_) | (guard_target = LinkV _ _ _; refine LinkV.no ?_) | (guard_target = GhO _ _ _ _; refine GhO.go ?_) | (guard_target = Need _ _; refine Need.mk (by first  | omega | (simp only [List.length_map]; omega)) ?_))
theorem l01Same_ok (x y : XExpr) : CallF Tryz.prog 76 [.c (.rp 3 (encExpr x)), .c (.rp 3 (encExpr y))] (B (eqv x y)) := by
  rw [encExpr_eq, encExpr_eq]
  exact l01Same_all x y fun u _hx v => l01Same_ok u v
  termination_by SizeOf.sizeOf x
  decreasing_by
    have := List.sizeOf_lt_of_mem _hx
    cases x
    simp only [XExpr.mk.sizeOf_spec]
    show SizeOf.sizeOf u < _
    simp only [XExpr.kids] at this
    omega
/-! ### steps -/
/-! ### claims and proofs -/
end Go.Proofs.YtaajacnceocpoaaGreat

namespace Go.Proofs.YtaajacnceocpoaaGreat
open Go Go.KA Go.Proofs
set_option maxHeartbeats 16000000
set_option maxRecDepth 100000
/-! ### all notes -/
end Go.Proofs.YtaajacnceocpoaaGreat

namespace Go.Proofs.YtaajacnceocpoaaGreat
open Go Go.KA Go.Proofs
set_option maxHeartbeats 16000000
set_option maxRecDepth 100000
inductive Tree (t a : Int) : XExpr → Prop
  | zero : Tree t a (.mk 1 0 [])
  | one : Tree t a (.mk 2 0 [])
  | test {n} (h0 : 0 ≤ n) (h1 : n < t) : Tree t a (.mk 3 n [])
  | act {n} (h0 : 0 ≤ n) (h1 : n < a) : Tree t a (.mk 4 n [])
  | not {x} (hc : condB x = true) (h : Tree t a x) : Tree t a (.mk 5 0 [x])
  | sum {x y} (hx : Tree t a x) (hy : Tree t a y) : Tree t a (.mk 6 0 [x, y])
  | dot {x y} (hx : Tree t a x) (hy : Tree t a y) : Tree t a (.mk 7 0 [x, y])
  | star {x} (hx : Tree t a x) : Tree t a (.mk 8 0 [x])
theorem Tree.treeB {t a : Int} {e : XExpr} (h : Tree t a e) : treeB t a e = true := by
  induction h with
  | zero => rfl
  | one => rfl
  | test h0 h1 => simp [Go.Proofs.YtaajacnceocpoaaGreat.treeB, kidsN, rng]; omega
  | act h0 h1 => simp [Go.Proofs.YtaajacnceocpoaaGreat.treeB, kidsN, rng]; omega
  | not hc h ih => simp [Go.Proofs.YtaajacnceocpoaaGreat.treeB, treeS, kidsN, condS, hc, ih]
  | sum hx hy ih1 ih2 => simp [Go.Proofs.YtaajacnceocpoaaGreat.treeB, treeS, kidsN, ih1, ih2]
  | dot hx hy ih1 ih2 => simp [Go.Proofs.YtaajacnceocpoaaGreat.treeB, treeS, kidsN, ih1, ih2]
  | star hx ih => simp [Go.Proofs.YtaajacnceocpoaaGreat.treeB, treeS, kidsN, ih]
theorem tree_of {t a : Int} : ∀ (e : XExpr), treeB t a e = true → Tree t a e
  | .mk k n ks, h => by
    rw [treeB_eq] at h
    simp only [XExpr.kind, XExpr.num, XExpr.kids, Bool.and_eq_true, beq_iff_eq] at h
    obtain ⟨h1, h2⟩ := h
    have len0 : (ks.length : Int) = 0 → ks = [] := fun h => List.eq_nil_of_length_eq_zero (by omega)
    have len1 : (ks.length : Int) = 1 → ∃ x, ks = [x] := fun h => by
      match ks, h with
      | [x], _ => exact ⟨x, rfl⟩
      | [], h => simp at h
      | _ :: _ :: _, h => simp at h; omega
    have len2 : (ks.length : Int) = 2 → ∃ x y, ks = [x, y] := fun h => by
      match ks, h with
      | [x, y], _ => exact ⟨x, y, rfl⟩
      | [], h => simp at h
      | [_], h => simp at h
      | _ :: _ :: _ :: _, h => simp at h; omega
    have hk : k = 1 ∨ k = 2 ∨ k = 3 ∨ k = 4 ∨ k = 5 ∨ k = 6 ∨ k = 7 ∨ k = 8 := by
      have h5 : 0 ≤ kidsN k := by omega
      unfold kidsN at h5
      (repeat' split at h5) <;> simp at * <;> omega
    rcases hk with rfl | rfl | rfl | rfl | rfl | rfl | rfl | rfl
    · obtain rfl := len0 (by rw [h1]; rfl)
      simp at h2
      subst h2
      exact .zero
    · obtain rfl := len0 (by rw [h1]; rfl)
      simp at h2
      subst h2
      exact .one
    · obtain rfl := len0 (by rw [h1]; rfl)
      simp [rng] at h2
      exact .test h2.1 (by omega)
    · obtain rfl := len0 (by rw [h1]; rfl)
      simp [rng] at h2
      exact .act h2.1 (by omega)
    · obtain ⟨x, rfl⟩ := len1 (by rw [h1]; rfl)
      simp at h2
      obtain ⟨rfl, h3, h4⟩ := h2
      exact .not h3 (tree_of x h4)
    · obtain ⟨x, y, rfl⟩ := len2 (by rw [h1]; rfl)
      simp at h2
      obtain ⟨rfl, h3, h4⟩ := h2
      exact .sum (tree_of x h3) (tree_of y h4)
    · obtain ⟨x, y, rfl⟩ := len2 (by rw [h1]; rfl)
      simp at h2
      obtain ⟨rfl, h3, h4⟩ := h2
      exact .dot (tree_of x h3) (tree_of y h4)
    · obtain ⟨x, rfl⟩ := len1 (by rw [h1]; rfl)
      simp at h2
      obtain ⟨rfl, h4⟩ := h2
      exact .star (tree_of x h4)
abbrev nod (e : XExpr) : Nat := budExpr e + 1
theorem nod0 (k n : Int) : nod (.mk k n []) = 1 := by simp [nod, budExpr, budExprS]
theorem nod1 (k n : Int) (x : XExpr) : nod (.mk k n [x]) = nod x + 1 := by simp [nod, budExpr, budExprS]
theorem nod2 (k n : Int) (x y : XExpr) : nod (.mk k n [x, y]) = nod x + nod y + 1 := by simp [nod, budExpr, budExprS] <;> omega
def wgt : List XExpr → Nat
  | [] => 0
  | x :: l => nod x + 1 + wgt l
theorem wgt_append : ∀ l m : List XExpr, wgt (l ++ m) = wgt l + wgt m
  | [], m => by simp [wgt]
  | x :: l, m => by simp only [List.cons_append, wgt, wgt_append l m]; omega
theorem wgt_len : ∀ l : List XExpr, l.length ≤ wgt l
  | [] => Nat.le_refl _
  | x :: l => by have := wgt_len l; simp only [wgt, List.length_cons]; omega
theorem wgt_mem : ∀ {l : List XExpr} {x : XExpr}, x ∈ l → nod x + 1 ≤ wgt l
  | y :: l, x, h => by
    rcases List.mem_cons.1 h with rfl | h
    · simp only [wgt]; omega
    · have := wgt_mem h; simp only [wgt]; omega
noncomputable def addE (acc : List XExpr) (e : XExpr) : List XExpr := if acc.all (fun x => !(eqv x e)) = true then acc ++ [e] else acc
mutual
noncomputable def sumsE : XExpr → List XExpr → List XExpr
  | .mk k n ks, acc => if k = 1 then acc else if k = 6 then sumsL ks acc else addE acc (.mk k n ks)
noncomputable def sumsL : List XExpr → List XExpr → List XExpr
  | [], acc => acc
  | x :: xs, acc => sumsL xs (sumsE x acc)
end
theorem sums_leaf {k n : Int} {ks : List XExpr} (h1 : ¬ k = 1) (h6 : ¬ k = 6) (acc : List XExpr) : sumsE (.mk k n ks) acc = addE acc (.mk k n ks) := by
  rw [sumsE, if_neg h1, if_neg h6]
theorem sums_two (n : Int) (x y : XExpr) (acc : List XExpr) : sumsE (.mk 6 n [x, y]) acc = sumsE y (sumsE x acc) := by
  rw [sumsE, if_neg (by decide), if_pos rfl]
  rfl
theorem add_mem {acc : List XExpr} {e x : XExpr} (h : x ∈ addE acc e) : x ∈ acc ∨ x = e := by
  unfold addE at h
  split at h
  · simpa using h
  · exact .inl h
theorem add_wgt (acc : List XExpr) (e : XExpr) : wgt (addE acc e) ≤ wgt acc + nod e + 1 := by
  unfold addE
  split
  · rw [wgt_append]; simp [wgt]; omega
  · omega
theorem sums_keeps {t a : Int} {e : XExpr} (h : Tree t a e) : ∀ acc : List XExpr, (∀ x ∈ acc, Tree t a x) → (∀ x ∈ sumsE e acc, Tree t a x) ∧ wgt (sumsE e acc) ≤ wgt acc + nod e + 1 := by
  have leaf : ∀ {e : XExpr}, Tree t a e → ¬ e.kind = 1 → ¬ e.kind = 6 → ∀ acc : List XExpr, (∀ x ∈ acc, Tree t a x) → (∀ x ∈ sumsE e acc, Tree t a x) ∧ wgt (sumsE e acc) ≤ wgt acc + nod e + 1 := by
    intro e he h1 h6 acc ha
    obtain ⟨k, n, ks⟩ := e
    have h1 : ¬ k = 1 := h1
    have h6 : ¬ k = 6 := h6
    rw [sums_leaf h1 h6]
    refine ⟨fun x hx => ?_, add_wgt _ _⟩
    rcases add_mem hx with hx | rfl
    · exact ha x hx
    · exact he
  induction h with
  | zero => intro acc ha; rw [sumsE, if_pos rfl]; exact ⟨ha, by omega⟩
  | one => exact leaf .one (by decide) (by decide)
  | test h0 h1 => exact leaf (.test h0 h1) (by simp [XExpr.kind]) (by simp [XExpr.kind])
  | act h0 h1 => exact leaf (.act h0 h1) (by simp [XExpr.kind]) (by simp [XExpr.kind])
  | not hc h => exact leaf (.not hc h) (by simp [XExpr.kind]) (by simp [XExpr.kind])
  | dot hx hy => exact leaf (.dot hx hy) (by simp [XExpr.kind]) (by simp [XExpr.kind])
  | star hx => exact leaf (.star hx) (by simp [XExpr.kind]) (by simp [XExpr.kind])
  | @sum x y hx hy ih1 ih2 =>
    intro acc ha
    rw [sums_two, nod2]
    obtain ⟨a1, a2⟩ := ih1 acc ha
    obtain ⟨b1, b2⟩ := ih2 _ a1
    exact ⟨b1, by omega⟩
theorem ins_wgt (l : List XExpr) (x : XExpr) : wgt (insE l x) = wgt l + nod x + 1 := by
  have h : wgt (l.take (cutE x l)) + wgt (l.drop (cutE x l)) = wgt l := by rw [← wgt_append, List.take_append_drop]
  simp only [insE, wgt_append, wgt]
  omega
theorem ins_mem {l : List XExpr} {x y : XExpr} (h : y ∈ insE l x) : y ∈ l ∨ y = x := by
  simp only [insE, List.mem_append, List.mem_singleton] at h
  rcases h with (h | h) | h
  · exact .inl (List.mem_of_mem_take h)
  · exact .inr h
  · exact .inl (List.mem_of_mem_drop h)
theorem fold_wgt : ∀ (l m : List XExpr), wgt (l.foldl insE m) = wgt m + wgt l
  | [], m => by simp [wgt]
  | x :: l, m => by rw [List.foldl_cons, fold_wgt l, ins_wgt]; simp only [wgt]; omega
theorem fold_mem : ∀ (l m : List XExpr) (y : XExpr), y ∈ l.foldl insE m → y ∈ m ∨ y ∈ l
  | [], m, y, h => .inl h
  | x :: l, m, y, h => by
    rcases fold_mem l _ y h with h | h
    · rcases ins_mem h with h | rfl
      · exact .inl h
      · exact .inr (by simp)
    · exact .inr (by simp [h])
theorem sort_wgt (l : List XExpr) : wgt (sortE l) = wgt l := by unfold sortE; rw [fold_wgt]; simp [wgt]
theorem sort_mem {l : List XExpr} {y : XExpr} (h : y ∈ sortE l) : y ∈ l := by
  rcases fold_mem l [] y h with h | h
  · cases h
  · exact h
def mkSum : List XExpr → XExpr
  | [] => .mk 1 0 []
  | x :: l => l.foldl (pairX 6) x
theorem pair_nod (k : Int) (x y : XExpr) : nod (pairX k x y) = nod x + nod y + 1 := nod2 k 0 x y
theorem foldp_nod : ∀ (l : List XExpr) (x : XExpr), nod (l.foldl (pairX 6) x) = nod x + wgt l
  | [], x => by simp [wgt]
  | y :: l, x => by rw [List.foldl_cons, foldp_nod l, pair_nod]; simp only [wgt]; omega
theorem foldp_tree {t a : Int} : ∀ (l : List XExpr) (x : XExpr), Tree t a x → (∀ y ∈ l, Tree t a y) → Tree t a (l.foldl (pairX 6) x)
  | [], x, h, _ => h
  | y :: l, x, h, hl => foldp_tree l _ (.sum h (hl y (by simp))) fun z hz => hl z (by simp [hz])
theorem mkSum_tree {t a : Int} {l : List XExpr} (h : ∀ y ∈ l, Tree t a y) : Tree t a (mkSum l) := by
  cases l with
  | nil => exact .zero
  | cons x l => exact foldp_tree l x (h x (by simp)) fun y hy => h y (by simp [hy])
noncomputable def sum2 (x y : XExpr) : XExpr := mkSum (sortE (sumsE y (sumsE x [])))
theorem sum2_tree {t a : Int} {x y : XExpr} (hx : Tree t a x) (hy : Tree t a y) : Tree t a (sum2 x y) := by
  refine mkSum_tree fun z hz => ?_
  exact (sums_keeps hy _ (sums_keeps hx [] (by simp)).1).1 z (sort_mem hz)
theorem sum2_wgt {t a : Int} {x y : XExpr} (hx : Tree t a x) (hy : Tree t a y) : wgt (sortE (sumsE y (sumsE x []))) ≤ nod x + nod y + 2 := by
  rw [sort_wgt]
  have h1 := sums_keeps hx [] (by simp)
  have h2 := (sums_keeps hy _ h1.1).2
  have h3 := h1.2
  simp only [wgt] at h3
  omega
theorem sum2_nod {t a : Int} {x y : XExpr} (hx : Tree t a x) (hy : Tree t a y) : nod (sum2 x y) ≤ nod x + nod y + 1 := by
  have h := sum2_wgt hx hy
  unfold sum2
  generalize sortE (sumsE y (sumsE x [])) = l at h ⊢
  cases l with
  | nil => simp only [mkSum, nod0]; omega
  | cons z l => simp only [mkSum, foldp_nod, wgt] at h ⊢; omega
def dotE : XExpr → XExpr → XExpr
  | .mk k n [x, y], b => if k = 1 ∨ b.kind = 1 then .mk 1 0 [] else if k = 2 then b else if b.kind = 2 then .mk k n [x, y] else if k = 7 then dotE x (dotE y b) else pairX 7 (.mk k n [x, y]) b
  | .mk k n ks, b => if k = 1 ∨ b.kind = 1 then .mk 1 0 [] else if k = 2 then b else if b.kind = 2 then .mk k n ks else pairX 7 (.mk k n ks) b
  termination_by e => SizeOf.sizeOf e
theorem dot_cases (k n : Int) (ks : List XExpr) (b : XExpr) : dotE (.mk k n ks) b = if k = 1 ∨ b.kind = 1 then .mk 1 0 [] else if k = 2 then b else if b.kind = 2 then .mk k n ks else match ks with | [x, y] => if k = 7 then dotE x (dotE y b) else pairX 7 (.mk k n [x, y]) b | ks => pairX 7 (.mk k n ks) b := by
  match ks with
  | [x, y] => rw [dotE]
  | [] => rw [dotE] <;> simp
  | [x] => rw [dotE] <;> simp
  | _ :: _ :: _ :: _ => rw [dotE] <;> simp
theorem dot_zero {k n : Int} {ks : List XExpr} {b : XExpr} (h : k = 1 ∨ b.kind = 1) : dotE (.mk k n ks) b = .mk 1 0 [] := by
  rw [dot_cases, if_pos h]
theorem dot_one {k n : Int} {ks : List XExpr} {b : XExpr} (h : ¬ (k = 1 ∨ b.kind = 1)) (h2 : k = 2) : dotE (.mk k n ks) b = b := by
  rw [dot_cases, if_neg h, if_pos h2]
theorem dot_by {k n : Int} {ks : List XExpr} {b : XExpr} (h : ¬ (k = 1 ∨ b.kind = 1)) (h2 : ¬ k = 2) (h3 : b.kind = 2) : dotE (.mk k n ks) b = .mk k n ks := by
  rw [dot_cases, if_neg h, if_neg h2, if_pos h3]
theorem dot_dot {n : Int} {x y b : XExpr} (h : ¬ b.kind = 1) (h3 : ¬ b.kind = 2) : dotE (.mk 7 n [x, y]) b = dotE x (dotE y b) := by
  rw [dot_cases, if_neg (by simp [h]), if_neg (by decide), if_neg h3]
  rfl
theorem dot_pair {k n : Int} {ks : List XExpr} {b : XExpr} (h : ¬ (k = 1 ∨ b.kind = 1)) (h2 : ¬ k = 2) (h3 : ¬ b.kind = 2) (h7 : ¬ k = 7) : dotE (.mk k n ks) b = pairX 7 (.mk k n ks) b := by
  rw [dot_cases, if_neg h, if_neg h2, if_neg h3]
  split
  · rw [if_neg h7]
  · rfl
theorem dot_keeps {t a : Int} {e : XExpr} (h : Tree t a e) : ∀ b : XExpr, Tree t a b → Tree t a (dotE e b) ∧ nod (dotE e b) ≤ nod e + nod b + 1 := by
  have leaf : ∀ {e : XExpr}, Tree t a e → ¬ e.kind = 7 → ∀ b : XExpr, Tree t a b → Tree t a (dotE e b) ∧ nod (dotE e b) ≤ nod e + nod b + 1 := by
    intro e he h7 b hb
    obtain ⟨k, n, ks⟩ := e
    have h7 : ¬ k = 7 := h7
    by_cases h : k = 1 ∨ b.kind = 1
    · rw [dot_zero h, nod0]; exact ⟨.zero, by omega⟩
    · by_cases h2 : k = 2
      · rw [dot_one h h2]; exact ⟨hb, by omega⟩
      · by_cases h3 : b.kind = 2
        · rw [dot_by h h2 h3]; exact ⟨he, by omega⟩
        · rw [dot_pair h h2 h3 h7, pair_nod]; exact ⟨.dot he hb, by omega⟩
  induction h with
  | zero => exact leaf .zero (by decide)
  | one => exact leaf .one (by decide)
  | test h0 h1 => exact leaf (.test h0 h1) (by simp [XExpr.kind])
  | act h0 h1 => exact leaf (.act h0 h1) (by simp [XExpr.kind])
  | not hc h => exact leaf (.not hc h) (by simp [XExpr.kind])
  | sum hx hy => exact leaf (.sum hx hy) (by simp [XExpr.kind])
  | star hx => exact leaf (.star hx) (by simp [XExpr.kind])
  | @dot x y hx hy ih1 ih2 =>
    intro b hb
    by_cases h : b.kind = 1
    · rw [dot_zero (.inr h), nod0]; exact ⟨.zero, by omega⟩
    · by_cases h3 : b.kind = 2
      · rw [dot_by (by simp [h]) (by decide) h3]; exact ⟨.dot hx hy, by omega⟩
      · rw [dot_dot h h3, nod2]
        obtain ⟨a1, a2⟩ := ih2 b hb
        obtain ⟨b1, b2⟩ := ih1 _ a1
        exact ⟨b1, by omega⟩
def starE (x : XExpr) : XExpr := if condB x = true then .mk 2 0 [] else if x.kind = 8 then x else .mk 8 0 [x]
theorem star_keeps {t a : Int} {x : XExpr} (h : Tree t a x) : Tree t a (starE x) ∧ nod (starE x) ≤ nod x + 1 := by
  unfold starE
  split
  · rw [nod0]; exact ⟨.one, by omega⟩
  · split
    · exact ⟨h, by omega⟩
    · rw [nod1]; exact ⟨.star h, by omega⟩
noncomputable def tidyE : XExpr → XExpr
  | .mk k n [x, y] => if k = 6 then sum2 (tidyE x) (tidyE y) else if k = 7 then dotE (tidyE x) (tidyE y) else .mk k n [x, y]
  | .mk k n [x] => if k = 8 then starE (tidyE x) else .mk k n [x]
  | .mk k n ks => .mk k n ks
  termination_by e => SizeOf.sizeOf e
theorem tidy_sum (n : Int) (x y : XExpr) : tidyE (.mk 6 n [x, y]) = sum2 (tidyE x) (tidyE y) := by rw [tidyE]; simp
theorem tidy_dot (n : Int) (x y : XExpr) : tidyE (.mk 7 n [x, y]) = dotE (tidyE x) (tidyE y) := by rw [tidyE]; simp
theorem tidy_star (n : Int) (x : XExpr) : tidyE (.mk 8 n [x]) = starE (tidyE x) := by rw [tidyE]; simp
theorem tidy_nil (k n : Int) : tidyE (.mk k n []) = .mk k n [] := by rw [tidyE] <;> simp
theorem tidy_not (n : Int) (x : XExpr) : tidyE (.mk 5 n [x]) = .mk 5 n [x] := by rw [tidyE]; simp
theorem tidy_keeps {t a : Int} {e : XExpr} (h : Tree t a e) : Tree t a (tidyE e) ∧ nod (tidyE e) ≤ nod e := by
  induction h with
  | zero => rw [tidy_nil]; exact ⟨.zero, Nat.le_refl _⟩
  | one => rw [tidy_nil]; exact ⟨.one, Nat.le_refl _⟩
  | test h0 h1 => rw [tidy_nil]; exact ⟨.test h0 h1, Nat.le_refl _⟩
  | act h0 h1 => rw [tidy_nil]; exact ⟨.act h0 h1, Nat.le_refl _⟩
  | not hc h => rw [tidy_not]; exact ⟨.not hc h, Nat.le_refl _⟩
  | sum hx hy ih1 ih2 =>
    rw [tidy_sum, nod2]
    have := sum2_nod ih1.1 ih2.1
    exact ⟨sum2_tree ih1.1 ih2.1, by omega⟩
  | dot hx hy ih1 ih2 =>
    rw [tidy_dot, nod2]
    have := dot_keeps ih1.1 _ ih2.1
    exact ⟨this.1, by omega⟩
  | star hx ih =>
    rw [tidy_star, nod1]
    have := star_keeps ih.1
    exact ⟨this.1, by omega⟩
def emptyE : XExpr → Int → Bool
  | .mk k n [x, y], at_ => if k = 6 then emptyE x at_ || emptyE y at_ else if k = 7 then emptyE x at_ && emptyE y at_ else truthE (.mk k n [x, y]) at_
  | .mk k n ks, at_ => if k = 4 then false else if k = 8 then true else truthE (.mk k n ks) at_
  termination_by e => SizeOf.sizeOf e
theorem empty_sum (n : Int) (x y : XExpr) (c : Int) : emptyE (.mk 6 n [x, y]) c = (emptyE x c || emptyE y c) := by rw [emptyE]; simp
theorem empty_dot (n : Int) (x y : XExpr) (c : Int) : emptyE (.mk 7 n [x, y]) c = (emptyE x c && emptyE y c) := by rw [emptyE]; simp
theorem empty_star (n : Int) (x : XExpr) (c : Int) : emptyE (.mk 8 n [x]) c = true := by rw [emptyE] <;> simp
theorem empty_act (n : Int) (c : Int) : emptyE (.mk 4 n []) c = false := by rw [emptyE] <;> simp
theorem empty_nil {k : Int} (n : Int) (c : Int) (h4 : ¬ k = 4) (h8 : ¬ k = 8) : emptyE (.mk k n []) c = truthE (.mk k n []) c := by rw [emptyE] <;> simp [h4, h8]
theorem empty_not (n : Int) (x : XExpr) (c : Int) : emptyE (.mk 5 n [x]) c = truthE (.mk 5 n [x]) c := by rw [emptyE] <;> simp
noncomputable def finE (raw : XExpr) : XExpr × Bool := if (nod raw : Int) > 800 then (raw, false) else (tidyE raw, true)
noncomputable def stepE : XExpr → Int → Int → XExpr × Bool
  | .mk k n [x, y], at_, c =>
    if k = 6 then (if (!(stepE x at_ c).2 || !(stepE y at_ c).2) = true then (.mk 1 0 [], false) else finE (pairX 6 (stepE x at_ c).1 (stepE y at_ c).1))
    else if k = 7 then
      (if (stepE x at_ c).2 = false then (.mk 1 0 [], false)
       else if emptyE x at_ = true then (if (stepE y at_ c).2 = false then (pairX 7 (stepE x at_ c).1 y, false) else finE (pairX 6 (pairX 7 (stepE x at_ c).1 y) (stepE y at_ c).1))
       else finE (pairX 7 (stepE x at_ c).1 y))
    else (.mk 1 0 [], true)
  | .mk k n [x], at_, c => if k = 8 then (if (stepE x at_ c).2 = false then (.mk 1 0 [], false) else finE (pairX 7 (stepE x at_ c).1 (.mk k n [x]))) else (.mk 1 0 [], true)
  | .mk k n ks, at_, c => if k = 4 then (if n = c then (.mk 2 0 [], true) else (.mk 1 0 [], true)) else (.mk 1 0 [], true)
  termination_by e => SizeOf.sizeOf e
theorem step_sum (n : Int) (x y : XExpr) (p c : Int) : stepE (.mk 6 n [x, y]) p c = if (!(stepE x p c).2 || !(stepE y p c).2) = true then (.mk 1 0 [], false) else finE (pairX 6 (stepE x p c).1 (stepE y p c).1) := by rw [stepE]; simp
theorem step_dot (n : Int) (x y : XExpr) (p c : Int) : stepE (.mk 7 n [x, y]) p c = if (stepE x p c).2 = false then (.mk 1 0 [], false)
       else if emptyE x p = true then (if (stepE y p c).2 = false then (pairX 7 (stepE x p c).1 y, false) else finE (pairX 6 (pairX 7 (stepE x p c).1 y) (stepE y p c).1))
       else finE (pairX 7 (stepE x p c).1 y) := by rw [stepE]; simp
theorem step_star (n : Int) (x : XExpr) (p c : Int) : stepE (.mk 8 n [x]) p c = if (stepE x p c).2 = false then (.mk 1 0 [], false) else finE (pairX 7 (stepE x p c).1 (.mk 8 n [x])) := by rw [stepE]; simp
theorem step_act (n : Int) (p c : Int) : stepE (.mk 4 n []) p c = if n = c then (.mk 2 0 [], true) else (.mk 1 0 [], true) := by rw [stepE] <;> simp
theorem step_nil {k : Int} (n : Int) (p c : Int) (h4 : ¬ k = 4) : stepE (.mk k n []) p c = (.mk 1 0 [], true) := by rw [stepE] <;> simp [h4]
theorem step_not (n : Int) (x : XExpr) (p c : Int) : stepE (.mk 5 n [x]) p c = (.mk 1 0 [], true) := by rw [stepE] <;> simp
theorem fin_keeps {t a : Int} {e : XExpr} (h : Tree t a e) : Tree t a (finE e).1 ∧ ((finE e).2 = true → nod (finE e).1 ≤ 800) := by
  unfold finE
  split
  · exact ⟨h, by simp⟩
  · have := tidy_keeps h
    exact ⟨this.1, fun _ => by show nod (tidyE e) ≤ 800; omega⟩
theorem step_keeps {t a : Int} {e : XExpr} (h : Tree t a e) (p c : Int) : Tree t a (stepE e p c).1 ∧ ((stepE e p c).2 = true → nod (stepE e p c).1 ≤ 800) := by
  have z : ∀ b, Tree t a ((XExpr.mk 1 0 [], b) : XExpr × Bool).1 ∧ (((XExpr.mk 1 0 [], b) : XExpr × Bool).2 = true → nod ((XExpr.mk 1 0 [], b) : XExpr × Bool).1 ≤ 800) := fun b => ⟨.zero, fun _ => by rw [nod0]; omega⟩
  induction h with
  | zero => rw [step_nil _ _ _ (by decide)]; exact z _
  | one => rw [step_nil _ _ _ (by decide)]; exact z _
  | test h0 h1 => rw [step_nil _ _ _ (by decide)]; exact z _
  | act h0 h1 =>
    rw [step_act]
    split
    · exact ⟨.one, fun _ => by rw [nod0]; omega⟩
    · exact z _
  | not hc h => rw [step_not]; exact z _
  | sum hx hy ih1 ih2 =>
    rw [step_sum]
    split
    · exact z _
    · exact fin_keeps (.sum ih1.1 ih2.1)
  | dot hx hy ih1 ih2 =>
    rw [step_dot]
    split
    · exact z _
    · split
      · split
        · exact ⟨.dot ih1.1 hy, by simp⟩
        · exact fin_keeps (.sum (.dot ih1.1 hy) ih2.1)
      · exact fin_keeps (.dot ih1.1 hy)
  | star hx ih =>
    rw [step_star]
    split
    · exact z _
    · exact fin_keeps (.dot ih.1 (.star hx))
mutual
theorem txt_nod : ∀ e : XExpr, (txtE e).size ≤ 7 * nod e
  | .mk k n ks => by
    have h1 := txt_nodS ks
    have h2 := txtK_size k n (txtS ks)
    simp only [txtE, nod, budExpr]
    omega
theorem txt_nodS : ∀ l : List XExpr, szS (txtS l) ≤ 7 * budExprS l
  | [] => by simp [txtS, szS, budExprS]
  | x :: xs => by
    have h1 := txt_nod x
    have h2 := txt_nodS xs
    have h3 : szS (txtS (x :: xs)) = (txtE x).size + szS (txtS xs) := by simp [txtS, szS]
    simp only [budExprS]
    simp only [nod] at h1
    omega
end
theorem Tree.text {t a : Int} (ht : t ≤ 3) (ha : a ≤ 4) {e : XExpr} (h : Tree t a e) (hn : nod e ≤ 1000000) : shpE e = true ∧ (txtE e).size ≤ 1000000000 := by
  refine ⟨tree_shp ht ha e h.treeB, ?_⟩
  have h1 := txt_nod e
  omega
theorem bud_append : ∀ l m : List XExpr, budExprS (l ++ m) = budExprS l + budExprS m
  | [], m => by simp [budExprS]
  | x :: l, m => by simp only [List.cons_append, budExprS, bud_append l m]; omega
theorem bud_next {l : List XExpr} {i : Nat} (h : i < l.length) : budExprS (l.take (i + 1)) = budExprS (l.take i) + nod l[i] := by
  rw [List.take_add_one, List.getElem?_eq_getElem h, bud_append]
  simp [budExprS, nod]
theorem bud_take (l : List XExpr) (i : Nat) : budExprS (l.take i) ≤ budExprS l := by
  have h := bud_append (l.take i) (l.drop i)
  rw [List.take_append_drop] at h
  omega
theorem bud_mem {l : List XExpr} {x : XExpr} (h : x ∈ l) : nod x ≤ budExprS l := by
  induction l with
  | nil => cases h
  | cons y l ih =>
    rcases List.mem_cons.1 h with rfl | h
    · simp only [budExprS, nod]; omega
    · have := ih h; simp only [budExprS]; omega
theorem nod_kids (e : XExpr) : nod e = budExprS e.kids + 1 := by cases e; rfl
theorem nod_kid {e x : XExpr} (h : x ∈ e.kids) : nod x < nod e := by
  have := bud_mem h
  rw [nod_kids e]
  omega
end Go.Proofs.YtaajacnceocpoaaGreat
