/- Contract of the program's function that makes a table without words. Conditions: a bound of size. -/
import Derived.Test.YtaajacnceocpoaaGreatKAV
namespace Go.Proofs.YtaajacnceocpoaaGreat
open Go Go.KA Go.Proofs
set_option maxHeartbeats 16000000
set_option maxRecDepth 100000
abbrev tabR (N : Nat) (R : Rel) : List (List Bool) := (List.range N).map fun x => (List.range N).map fun y => R x y
abbrev eR (l : List Bool) : List CV := [.ro 1 (l.map eB)]
abbrev eRw (l : List Bool) : List CV := [.ows 4 1 (l.map eB)]
theorem range_getD {α : Type} {N x : Nat} {d : α} (h : x < N) (f : Nat → α) : ((List.range N).map f).getD x d = f x := by
  rw [List.getD_eq_getElem?_getD, List.getElem?_map, List.getElem?_range h]
  rfl
def rows0 (n i : Nat) : List (List CV) := List.replicate i [.ows 4 1 (List.replicate n (eB false))] ++ List.replicate (n - i) [.ro 1 []]
theorem rows0_len {n i : Nat} (h : i ≤ n) : (rows0 n i).length = n := by simp [rows0]; omega
theorem rows0_set {n i : Nat} (h : i < n) : (rows0 n i).set i [.ows 4 1 (List.replicate n (eB false))] = rows0 n (i + 1) := by
  unfold rows0
  rw [List.set_append_right _ _ (by simp)]
  simp only [List.length_replicate, Nat.sub_self]
  rw [show n - i = (n - (i + 1)) + 1 by omega, List.replicate_succ, List.set_cons_zero, List.replicate_succ', List.append_assoc]
  rfl
theorem rows0_end (n : Nat) : rows0 n n = (tabR n fun _ _ => false).map eRw := by
  unfold rows0 tabR
  rw [Nat.sub_self, List.replicate_zero, List.append_nil, List.map_map]
  have : (List.range n).map (fun _ : Nat => false) = List.replicate n false := by rw [List.map_const', List.length_range]
  have e : (eRw ∘ fun _ : Nat => (List.range n).map fun _ : Nat => false) = fun _ : Nat => ([.ows 4 1 (List.replicate n (eB false))] : List CV) := by
    funext x
    simp only [Function.comp, this, eRw, List.map_replicate]
  rw [e, List.map_const', List.length_range]
theorem rows0_get {n i : Nat} (h : i < n) : (rows0 n i)[i]? = some [.ro 1 []] := by
  unfold rows0
  rw [List.getElem?_append_right (by simp)]
  simp only [List.length_replicate, Nat.sub_self]
  rw [show n - i = (n - (i + 1)) + 1 by omega, List.replicate_succ]
  rfl
theorem newSpans_ok (n : Nat) (hn : n ≤ 1000) : CallX Tryz.prog 162 [I (n : Nat)] [] (.c (.own 171 1 ((tabR n fun _ _ => false).map eRw))) := by
  rw [← rows0_end]
  refine callX_of_vc htb hm Tryz.func162 rfl rfl rfl rfl (ann := fun _ => none) (gh := fun reg_ => match reg_ with | 2 => true | _ => false) ?_
  repeat' ((conv => whnf); first | (guard_target = RetX _ _; refine RetX.mk ?_ ?_) | (guard_target =~ LoopE 3 _ _ _ _ _ _; refine LoopE.mk { α := Nat, keep := [0, 3, 8], ov := fun i => [(9, I (i : Nat))], hv := fun i => [(1, .orow none 171 1 (rows0 n i))], φ := fun i => i ≤ n, μ := fun i => n - i } (LoopN.mk (0 : Nat) (by exact Nat.zero_le _) (by repeat' ((conv => whnf) <;> first | exact trivial | kernel_rfl | constructor)) (by repeat' ((conv => whnf) <;> first | exact trivial | kernel_rfl | constructor)) (by repeat' ((conv => whnf) <;> first | exact trivial | refine ⟨?_, ?_⟩ | exact rfl | (simp only [List.map_append, List.map_cons, List.map_nil, List.map_set]; first | done | rfl))) (fun (i : Nat) ha => ?_) (by intro A; first | rfl | (obtain ⟨_, _⟩ := A; rfl) | (obtain ⟨_, _, _⟩ := A; rfl))); have ha : i ≤ n := ha) | (guard_target = Fact _ _; refine Fact.mk fun hL => ?_; (try simp only [List.length_map, maxLen] at hL)) | (guard_target = Branch _ _ _; (first | apply Branch.dec | apply Branch.beq | apply Branch.bne | apply Branch.ndec | apply Branch.nb | apply Branch.mk) <;> intro h <;> (try simp only [List.length_map] at h) <;> (try omega) <;> (try contradiction)) | (guard_target = Gh _ _ _ _ _; refine Gh.soft 1 .up (Gh.go ?_)) | (guard_target = Gh _ _ _ _ _; (have hi : i < n := (by have h9 := h; simp only [List.length_replicate, Int.toNat_natCast] at h9; omega)); refine Gh.go ⟨(i + 1 : Nat), (by show i + 1 ≤ n; omega), (by show n - (i + 1) < n - i; omega), (by repeat' ((conv => whnf) <;> first | exact trivial | kernel_rfl | constructor)), (by repeat' ((conv => whnf) <;> first | exact trivial | kernel_rfl | constructor)), (by (repeat' ((conv => whnf) <;> (first | exact trivial | refine ⟨?_, ?_⟩ | exact congrArg (Blk.orow none _ 1) (rows0_set hi) | kernel_rfl))); done)⟩) | (guard_target = Arith _ _ _; refine Arith.fit (by apply wrap_fit <;> first | omega | (simp only [List.length_map]; omega)) ?_) | (guard_target = Arith _ _ _; refine Arith.fit (by decide) ?_) | (guard_target = Index _ _ _; first | refine Index.mk _ (rows0_get (show i < n by (have h9 := h; simp only [List.length_replicate, Int.toNat_natCast] at h9; omega))) ?_ | refine Index.mk _ (idx_map (by omega)) ?_) | (guard_target = LinkV _ _ _; refine LinkV.no ?_) | (guard_target = GhO _ _ _ _; refine GhO.go ?_) | (guard_target = Need _ _; refine Need.mk (by first | ((rw [rows0_len ha]; (have h9 := h; simp only [List.length_replicate, Int.toNat_natCast] at h9; omega))) | ((refine ⟨?_, ?_, ?_, ?_⟩ <;> omega)) | omega | (simp only [List.length_map]; omega)) ?_))
  all_goals first | rfl | trivial | (have h9 := h; simp only [List.length_replicate, Int.toNat_natCast] at h9; (obtain rfl : i = n := (by omega)); rfl)
end Go.Proofs.YtaajacnceocpoaaGreat

namespace Go.Proofs.YtaajacnceocpoaaGreat
open Go Go.KA Go.Proofs
set_option maxHeartbeats 16000000
set_option maxRecDepth 100000
theorem tab_len (N : Nat) (R : Rel) {x : Nat} (h : x < N) : ((tabR N R).getD x []).length = N := by rw [range_getD h]; simp
theorem tab_get {N : Nat} {R : Rel} {x y : Nat} (hx : x < N) (hy : y < N) : ((tabR N R).getD x []).getD y false = R x y := by rw [range_getD hx, range_getD hy]
def updR (R : Rel) (i k : Nat) (b : Bool) : Rel := fun x y => if x = i ∧ y = k then b else R x y
theorem tab_congr {N : Nat} {R Q : Rel} (h : ∀ x y, x < N → y < N → R x y = Q x y) : tabR N R = tabR N Q :=
  List.map_congr_left fun x hx => List.map_congr_left fun y hy => h x y (by simpa using hx) (by simpa using hy)
theorem row_upd {N : Nat} {R : Rel} {i k : Nat} (hi : i < N) (hk : k < N) (b : Bool) : (((tabR N R).getD i []).map eB).set k (eB b) = ((tabR N (updR R i k b)).getD i []).map eB := by
  rw [range_getD hi, range_getD hi, List.map_map, List.map_map]
  refine List.ext_getElem? fun y => ?_
  by_cases hy : y < N
  · by_cases e : y = k
    · subst e
      rw [List.getElem?_set_self (by simpa using hy), List.getElem?_map, List.getElem?_range hy]
      simp [updR]
    · rw [List.getElem?_set_ne (fun h => e h.symm), List.getElem?_map, List.getElem?_map, List.getElem?_range hy]
      simp [updR, e]
  · rw [List.getElem?_eq_none (by simp; omega), List.getElem?_eq_none (by simp; omega)]
theorem tab_upd {N : Nat} {R : Rel} {i k : Nat} (hi : i < N) (hk : k < N) (b : Bool) (x : List CV) : (((tabR N R).map eRw).set i x).set i [.ows 4 1 ((((tabR N R).getD i []).map eB).set k (eB b))] = (tabR N (updR R i k b)).map eRw := by
  rw [List.set_set, row_upd hi hk]
  refine List.ext_getElem? fun y => ?_
  by_cases hy : y < N
  · by_cases e : y = i
    · subst e
      rw [List.getElem?_set_self (by simpa using hy), idx_getD (d := []) (by simpa using hy)]
    · rw [List.getElem?_set_ne (fun h => e h.symm), idx_getD (d := []) (by simpa using hy), idx_getD (d := []) (by simpa using hy), range_getD hy, range_getD hy]
      refine congrArg some (congrArg eRw ?_)
      refine List.map_congr_left fun z _ => ?_
      simp [updR, e]
  · rw [List.getElem?_eq_none (by simp; omega), List.getElem?_eq_none (by simp; omega)]
theorem tab_same {N : Nat} {R Q : Rel} {i k : Nat} {b : Bool} (h : ∀ x y, x < N → y < N → Q x y = updR R i k b x y) : tabR N (updR R i k b) = tabR N Q := tab_congr fun x y hx hy => (h x y hx hy).symm
def iniR (k num : Int) (tr : Nat → Bool) (ac : Nat → Int) : Rel := fun i j => if k = 2 ∨ k = 8 then i == j else if k = 3 ∨ k = 5 then (i == j) && tr i else if k = 4 then (j == i + 1) && (ac i == num) else false
def uptoR (i : Nat) (R : Rel) : Rel := fun x y => decide (x < i) && R x y
abbrev eTb (N : Nat) (R : Rel) : List CV := [.ro 1 ((tabR N R).map eR)]
theorem tab_step {N : Nat} {R : Rel} {i k : Nat} {b : Bool} {v : List CV} (hi : i < N) (hk : k < N) (hb : R i k = b) (h0 : ∀ y, y < N → y ≠ k → R i y = false) :
    (((tabR N (uptoR i R)).map eRw).set i v).set i [.ows 4 1 ((((tabR N (uptoR i R)).getD i []).map eB).set k (eB b))] = (tabR N (uptoR (i + 1) R)).map eRw := by
  rw [tab_upd hi hk]
  refine congrArg (List.map eRw) (tab_same fun x y hx hy => ?_)
  unfold updR uptoR
  by_cases e : x = i
  · subst e
    by_cases e2 : y = k
    · subst e2; simp [hb]
    · simp [e2, h0 y hy e2]
  · rw [if_neg (by simp [e])]
    congr 1
    simp only [decide_eq_decide]
    omega
theorem tab_full {ty N : Nat} {R : Rel} {i : Nat} (h : ¬ (i : Int) < (N : Int)) : SV.c (CV.own ty 1 ((tabR N (uptoR i R)).map eRw)) = SV.c (.own ty 1 ((tabR N R).map eRw)) := by
  refine congrArg (fun z => SV.c (CV.own ty 1 (List.map eRw z))) (tab_congr fun x y hx hy => ?_)
  unfold uptoR
  rw [decide_eq_true (by omega : x < i), Bool.true_and]
theorem tab_skip {N : Nat} {R : Rel} {i : Nat} (h0 : ∀ y, y < N → R i y = false) : (tabR N (uptoR i R)).map eRw = (tabR N (uptoR (i + 1) R)).map eRw := by
  refine congrArg (List.map eRw) (tab_congr fun x y hx hy => ?_)
  unfold uptoR
  by_cases e : x = i
  · subst e; simp [h0 y hy]
  · congr 1
    simp only [decide_eq_decide]
    omega
section
variable (w : XWord) (N : Nat) (hN : w.atoms.length = N) (hA : w.acts.length + 1 = N) (hN1 : N ≤ 100)
include hN hA hN1
theorem spans_leaf (k num : Int) (ks : List XExpr) (hk : k = 1 ∨ k = 2 ∨ k = 3 ∨ k = 4 ∨ k = 5) (h5 : k ≠ 5 → ks = []) (tr : Int → Bool) (ht : k = 3 ∨ k = 5 → ∀ x, CallF Tryz.prog 159 [.a 3 (toldE (.mk k num ks)), I x] (B (tr x))) :
    CallX Tryz.prog 114 [.a 3 (toldE (.mk k num ks)), .a 2 (encWord w)] [] (.c (.own 171 1 ((tabR N (iniR k num (fun i => tr (w.atoms.getD i 0)) (fun i => w.acts.getD i 0))).map eRw))) := by
  subst hN
  have ns := newSpans_ok w.atoms.length (by omega)
  have hl := fun R x (h : x < w.atoms.length) => tab_len w.atoms.length R h
  have e0 : toldE (.mk k num ks) = [J k, J num, .ro 3 (ks.map encExpr)] := rfl
  rw [e0] at ht ⊢
  obtain ⟨R, hR⟩ : ∃ R, iniR k num (fun i => tr (w.atoms.getD i 0)) (fun i => w.acts.getD i 0) = R := ⟨_, rfl⟩
  rw [hR]
  have ns0 : CallX Tryz.prog 162 [I (w.atoms.map eI).length] [] (.c (.own 171 1 ((tabR w.atoms.length (uptoR 0 R)).map eRw))) := by
    rw [List.length_map, tab_congr (Q := fun _ _ => false) fun x y _ _ => by simp [uptoR]]
    exact ns
  have cl : ∀ {i k : Nat} {b : Bool} {v : List CV}, i < w.atoms.length → k < w.atoms.length → R i k = b → (∀ y, y < w.atoms.length → y ≠ k → R i y = false) → Blk.orow none 171 1 ((((tabR w.atoms.length (uptoR i R)).map eRw).set i v).set i [.ows 4 1 ((((tabR w.atoms.length (uptoR i R)).getD i []).map eB).set k (eB b))]) = .orow none 171 1 ((tabR w.atoms.length (uptoR (i + 1) R)).map eRw) := fun h1 h2 h3 h4 => by rw [tab_step h1 h2 h3 h4]
  have sk : ∀ {i : Nat}, (∀ y, y < w.atoms.length → R i y = false) → Blk.orow none 171 1 ((tabR w.atoms.length (uptoR i R)).map eRw) = .orow none 171 1 ((tabR w.atoms.length (uptoR (i + 1) R)).map eRw) := fun h => by rw [tab_skip h]
  have r2 : k = 2 ∨ k = 8 → ∀ i y, R i y = (i == y) := fun h i y => by rw [← hR]; unfold iniR; rw [if_pos h]
  have r3 : k = 3 ∨ k = 5 → ∀ i y, R i y = ((i == y) && tr (w.atoms.getD i 0)) := fun h i y => by rw [← hR]; unfold iniR; rw [if_neg (by omega), if_pos h]
  have r4 : k = 4 → ∀ i y, R i y = ((y == i + 1) && (w.acts.getD i 0 == num)) := fun h i y => by rw [← hR]; unfold iniR; rw [if_neg (by omega), if_neg (by omega), if_pos h]
  have r1 : k = 1 → ∀ i y, R i y = false := fun h i y => by rw [← hR]; unfold iniR; rw [if_neg (by omega), if_neg (by omega), if_neg (by omega)]
  refine callX_of_vc htb hm Tryz.func114 rfl rfl rfl rfl (ann := fun _ => none) (gh := fun reg_ => match reg_ with | 19 => true | 22 => true | 32 => true | 37 => true | 42 => true | _ => false) ?_
  repeat' ((conv => whnf); first | (guard_target = RetX _ _; refine RetX.mk ?_ ?_) | (guard_target =~ LoopE 6 _ _ _ _ _ _; refine LoopE.mk { α := Nat, keep := [2, 3, 5, 6, 25, 26], ov := fun i => [(7, .lw 4), (27, I (i : Nat))], φ := fun i => i ≤ ks.length, μ := fun i => ks.length - i } (LoopN.mk (0 : Nat) (by exact Nat.zero_le _) (by repeat' ((conv => whnf) <;> first | exact trivial | kernel_rfl | constructor)) (by repeat' ((conv => whnf) <;> first | exact trivial | kernel_rfl | constructor)) (by repeat' ((conv => whnf) <;> first | exact trivial | refine ⟨?_, ?_⟩ | exact rfl | (simp only [List.map_append, List.map_cons, List.map_nil, List.map_set]; first | done | rfl))) (fun (i : Nat) ha => ?_) (by intro A; first | rfl | (obtain ⟨_, _⟩ := A; rfl) | (obtain ⟨_, _, _⟩ := A; rfl))); have ha : i ≤ ks.length := ha; have hz : ks.length = 0 := (by rw [h5 (by omega)]; rfl)) | (guard_target =~ LoopE 11 _ _ _ _ _ _; refine LoopE.mk { α := Nat, keep := [2, 3, 5, 6, 7, 38], ov := fun i => [(39, I (i : Nat))], hv := fun i => [(3, .orow none 171 1 ((tabR w.atoms.length (uptoR i R)).map eRw))], φ := fun i => i ≤ w.atoms.length, μ := fun i => w.atoms.length - i } (LoopN.mk (0 : Nat) (by exact Nat.zero_le _) (by repeat' ((conv => whnf) <;> first | exact trivial | kernel_rfl | constructor)) (by repeat' ((conv => whnf) <;> first | exact trivial | kernel_rfl | constructor)) (by repeat' ((conv => whnf) <;> first | exact trivial | refine ⟨?_, ?_⟩ | exact rfl | (simp only [List.map_append, List.map_cons, List.map_nil, List.map_set]; first | done | rfl))) (fun (i : Nat) ha => ?_) (by intro A; first | rfl | (obtain ⟨_, _⟩ := A; rfl) | (obtain ⟨_, _, _⟩ := A; rfl))); have ha : i ≤ w.atoms.length := ha) | (guard_target =~ LoopE 25 _ _ _ _ _ _; refine LoopE.mk { α := Int, keep := [2, 5, 6, 7], ov := fun i => [(11, I i)], φ := fun i => -1 ≤ i ∧ i < w.atoms.length, μ := fun i => (i + 1).toNat } (LoopN.mk (((w.atoms.map eI).length : Int) - 1 : Int) (by exact ⟨by show -1 ≤ _; omega, by show _ < _; rw [List.length_map]; omega⟩) (by repeat' ((conv => whnf) <;> first | exact trivial | kernel_rfl | constructor)) (by repeat' ((conv => whnf) <;> first | exact trivial | kernel_rfl | constructor)) (by repeat' ((conv => whnf) <;> first | exact trivial | refine ⟨?_, ?_⟩ | exact rfl | (simp only [List.map_append, List.map_cons, List.map_nil, List.map_set]; first | done | rfl))) (fun (i : Int) ha => ?_) (by intro A; first | rfl | (obtain ⟨_, _⟩ := A; rfl) | (obtain ⟨_, _, _⟩ := A; rfl))); have ha : -1 ≤ i ∧ i < w.atoms.length := ha) | (guard_target =~ LoopE 28 _ _ _ _ _ _; refine LoopE.mk { α := Int, keep := [2, 5, 6, 7, 11], ov := fun k2 => [(12, I k2)], φ := fun k2 => 0 ≤ k2 ∧ k2 ≤ w.atoms.length, μ := fun k2 => (w.atoms.length - k2).toNat } (LoopN.mk (i : Int) (by exact ⟨by show 0 ≤ _; omega, by show _ ≤ _; omega⟩) (by repeat' ((conv => whnf) <;> first | exact trivial | kernel_rfl | constructor)) (by repeat' ((conv => whnf) <;> first | exact trivial | kernel_rfl | constructor)) (by repeat' ((conv => whnf) <;> first | exact trivial | refine ⟨?_, ?_⟩ | exact rfl | (simp only [List.map_append, List.map_cons, List.map_nil, List.map_set]; first | done | rfl))) (fun (k2 : Int) ha => ?_) (by intro A; first | rfl | (obtain ⟨_, _⟩ := A; rfl) | (obtain ⟨_, _, _⟩ := A; rfl))); have ha : 0 ≤ k2 ∧ k2 ≤ w.atoms.length := ha) | (guard_target = Gh _ _ _ _ _; refine Gh.go ⟨(k2 + 1 : Int), (by exact ⟨by show 0 ≤ k2 + 1; omega, by show k2 + 1 ≤ _; omega⟩), (by first | (show _ < _; simp only []; omega) | omega | (simp; omega)), (by repeat' ((conv => whnf) <;> first | exact trivial | kernel_rfl | constructor)), (by repeat' ((conv => whnf) <;> first | exact trivial | kernel_rfl | constructor)), (by repeat' ((conv => whnf) <;> first | exact trivial | refine ⟨?_, ?_⟩ | exact rfl | (simp only [List.map_append, List.map_cons, List.map_nil, List.map_set]; first | done | rfl)))⟩) | (guard_target = Gh _ _ _ _ _; refine Gh.go ⟨(i - 1 : Int), (by exact ⟨by show -1 ≤ i - 1; omega, by show i - 1 < _; omega⟩), (by first | (show _ < _; simp only []; omega) | omega | (simp; omega)), (by repeat' ((conv => whnf) <;> first | exact trivial | kernel_rfl | constructor)), (by repeat' ((conv => whnf) <;> first | exact trivial | kernel_rfl | constructor)), (by repeat' ((conv => whnf) <;> first | exact trivial | refine ⟨?_, ?_⟩ | exact rfl | (simp only [List.map_append, List.map_cons, List.map_nil, List.map_set]; first | done | rfl)))⟩) | (guard_target = Fact _ _; refine Fact.mk fun hL => ?_; (try simp only [List.length_map, maxLen] at hL)) | (guard_target = Branch _ _ _; (first | apply Branch.dec | apply Branch.beq | apply Branch.bne | apply Branch.ndec | apply Branch.nb | apply Branch.mk) <;> intro h <;> (try simp only [List.length_map] at h) <;> (try omega) <;> (try contradiction)) | (guard_target = CallN _ 159 _ _ _ _; refine CallN.pure _ _ rfl (ht (by omega) _) rfl _ rfl ?_) | (guard_target = CallN _ 162 _ _ _ _; refine CallN.gen [] _ _ _ rfl ns0 rfl rfl _ rfl ?_) | (guard_target = Gh _ _ _ _ _; (first | (have _ : k = 2 ∨ k = 8 := (by omega); refine Gh.closes 3 i 0 5 rfl (set_get (by rw [List.length_map]; simp; omega)) rfl rfl rfl (Gh.go ⟨(i + 1 : Nat), (by show i + 1 ≤ _; omega), (by show w.atoms.length - (i + 1) < w.atoms.length - i; omega), (by repeat' ((conv => whnf) <;> first | exact trivial | kernel_rfl | constructor)), (by repeat' ((conv => whnf) <;> first | exact trivial | kernel_rfl | constructor)), (by (repeat' ((conv => whnf) <;> (first | exact trivial | refine ⟨?_, ?_⟩ | exact cl (i := i) (k := i) (b := true) (by omega) (by omega) (by rw [r2 (by omega)]; simp) (fun y _ hne => by rw [r2 (by omega)]; simp; omega) | kernel_rfl))); done)⟩)) | (have _ : k = 3 ∨ k = 5 := (by omega); refine Gh.closes 3 i 0 5 rfl (set_get (by rw [List.length_map]; simp; omega)) rfl rfl rfl (Gh.go ⟨(i + 1 : Nat), (by show i + 1 ≤ _; omega), (by show w.atoms.length - (i + 1) < w.atoms.length - i; omega), (by repeat' ((conv => whnf) <;> first | exact trivial | kernel_rfl | constructor)), (by repeat' ((conv => whnf) <;> first | exact trivial | kernel_rfl | constructor)), (by (repeat' ((conv => whnf) <;> (first | exact trivial | refine ⟨?_, ?_⟩ | exact cl (i := i) (k := i) (b := tr (w.atoms.getD i 0)) (by omega) (by omega) (by rw [r3 (by omega)]; simp) (fun y _ hne => by rw [r3 (by omega), show (i == y) = false by simp; omega]; rfl) | kernel_rfl))); done)⟩)) | (have _ : k = 4 := (by omega); refine Gh.closes 3 i 0 5 rfl (set_get (by rw [List.length_map]; simp; omega)) rfl rfl rfl (Gh.go ⟨(i + 1 : Nat), (by show i + 1 ≤ _; omega), (by show w.atoms.length - (i + 1) < w.atoms.length - i; omega), (by repeat' ((conv => whnf) <;> first | exact trivial | kernel_rfl | constructor)), (by repeat' ((conv => whnf) <;> first | exact trivial | kernel_rfl | constructor)), (by (repeat' ((conv => whnf) <;> (first | exact trivial | refine ⟨?_, ?_⟩ | exact cl (i := i) (k := i + 1) (b := (w.acts.getD i 0 == num)) (by omega) (by omega) (by rw [r4 (by omega)]; simp) (fun y _ hne => by rw [r4 (by omega), show (y == i + 1) = false by simpa using hne]; rfl) | kernel_rfl))); done)⟩)) | (have _ : k = 4 := (by omega); refine Gh.go ⟨(i + 1 : Nat), (by show i + 1 ≤ _; omega), (by show w.atoms.length - (i + 1) < w.atoms.length - i; omega), (by repeat' ((conv => whnf) <;> first | exact trivial | kernel_rfl | constructor)), (by repeat' ((conv => whnf) <;> first | exact trivial | kernel_rfl | constructor)), (by (repeat' ((conv => whnf) <;> (first | exact trivial | refine ⟨?_, ?_⟩ | exact sk (i := i) (fun y hy => by rw [r4 (by omega), show (y == i + 1) = false by simp; omega]; rfl) | kernel_rfl))); done)⟩) | (have _ : k = 1 := (by omega); refine Gh.go ⟨(i + 1 : Nat), (by show i + 1 ≤ _; omega), (by show w.atoms.length - (i + 1) < w.atoms.length - i; omega), (by repeat' ((conv => whnf) <;> first | exact trivial | kernel_rfl | constructor)), (by repeat' ((conv => whnf) <;> first | exact trivial | kernel_rfl | constructor)), (by (repeat' ((conv => whnf) <;> (first | exact trivial | refine ⟨?_, ?_⟩ | exact sk (i := i) (fun y hy => by exact r1 (by omega) _ _) | kernel_rfl))); done)⟩) | (refine Gh.go ?_))) | (guard_target = ∀ _ : Value, _; intro v) | (guard_target = GhO _ _ _ _; refine GhO.opens 3 i 0 rfl (idx_getD (f := eRw) (l := tabR w.atoms.length (uptoR i R)) (d := []) (i := i) (by simp; omega)) rfl fun v => GhO.go ?_) | (guard_target = Arith _ _ _; refine Arith.fit (by apply wrap_fit <;> first | omega | (simp only [List.length_map]; omega)) ?_) | (guard_target = Arith _ _ _; refine Arith.fit (by decide) ?_) | (guard_target = Index _ _ _; first | refine Index.mk _ (set_get (by rw [List.length_map]; simp; omega)) ?_ | refine Index.mk _ (idx_getD (l := w.atoms) (d := 0) (i := i) (by omega)) ?_ | refine Index.mk _ (idx_getD (l := w.acts) (d := 0) (i := i) (by omega)) ?_ | refine Index.mk _ (idx_getD (f := eRw) (l := tabR w.atoms.length (uptoR i R)) (d := []) (i := i) (by simp; omega)) ?_ | refine Index.mk _ (idx_getD (f := eB) (l := (tabR w.atoms.length (uptoR i R)).getD i []) (d := false) (i := i) (by rw [hl _ _ (by omega)]; omega)) ?_ | refine Index.mk _ (idx_getD (f := eB) (l := (tabR w.atoms.length (uptoR i R)).getD i []) (d := false) (i := i + 1) (by rw [hl _ _ (by omega)]; omega)) ?_ | refine Index.mk _ (idx_map (by omega)) ?_) | (guard_target = Need (_ = true) _; refine Need.mk (by first | kernel_rfl | rfl) ?_) | (guard_target = LinkV _ _ _; first | refine LinkV.row 5 rfl ?_ | refine LinkV.orow 5 rfl ?_ | refine LinkV.no ?_) | (guard_target = Need _ _; refine Need.mk (by first | ((refine ⟨?_, ?_⟩; omega; rw [List.length_map]; simp; omega)) | ((refine ⟨?_, ?_⟩; omega; rw [List.length_map, hl _ _ (by omega)]; omega)) | (omega) | ((refine ⟨by omega, ?_⟩; rw [List.length_set, List.length_map]; simp; omega)) | omega | (simp only [List.length_map]; omega)) ?_))
  all_goals first | rfl | trivial | exact tab_full (by assumption)
end
end Go.Proofs.YtaajacnceocpoaaGreat
