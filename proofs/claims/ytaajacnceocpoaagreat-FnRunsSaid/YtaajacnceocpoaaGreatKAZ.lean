/- Contract of the program's function that tells which parts of a word are words of an expression: repetitions. Conditions: bounds of size. -/
import Derived.Test.YtaajacnceocpoaaGreatKAY
namespace Go.Proofs.YtaajacnceocpoaaGreat
open Go Go.KA Go.Proofs
set_option maxHeartbeats 16000000
set_option maxRecDepth 100000
theorem diag_begin {N i2 : Nat} {F : Rel} (h : ¬ (i2 : Int) < (N : Int)) : Fill3 N F (fun a b => a == b) ((N : Int) - 1) (uptoR i2 fun a b => a == b) := fun x y hx _ => by
  rw [if_neg (by omega)]
  unfold uptoR
  rw [decide_eq_true (by omega : x < i2), Bool.true_and]
section
variable (w : XWord) (hA : w.acts.length + 1 = w.atoms.length) (hN1 : w.atoms.length ≤ 100) (x : XExpr) (A : Rel)
  (hx : CallX Tryz.prog 114 [.a 3 (toldE x), .a 2 (encWord w)] [] (.c (.ro 1 ((tabR w.atoms.length A).map eR))))
include hA hN1 hx
theorem spans_star (F : Rel) (hF : ∀ i k, F i k = upS A F i k (k + 1)) : CallX Tryz.prog 114 [.a 3 (toldE (.mk 8 0 [x])), .a 2 (encWord w)] [] (.c (.own 171 1 ((tabR w.atoms.length (F)).map eRw))) := by
  have ns := newSpans_ok w.atoms.length (by omega)
  have hl := fun R x (h : x < w.atoms.length) => tab_len w.atoms.length R h
  have e0 : toldE (.mk 8 0 [x]) = [J 8, J 0, .ro 3 [toldE x]] := by rw [← toldE_e x]; rfl
  rw [e0]
  have ns0 : CallX Tryz.prog 162 [I (w.atoms.map eI).length] [] (.c (.own 171 1 ((tabR w.atoms.length (uptoR 0 fun a b => a == b)).map eRw))) := by
    rw [List.length_map, tab_congr (Q := fun _ _ => false) fun x y _ _ => by simp [uptoR]]
    exact ns
  have h0 : ∀ x y : Nat, y < x → F x y = (fun a b => a == b : Rel) x y := fun x y h => by rw [hF, upS_low A F x y (y + 1) (by omega)]
  refine callX_of_vc htb hm Tryz.func114 rfl rfl rfl rfl (ann := fun _ => none) (gh := fun reg_ => match reg_ with | 19 => true | 22 => true | 32 => true | 37 => true | 42 => true | _ => false) ?_
  repeat' ((conv => whnf); first | (guard_target = RetX _ _; refine RetX.mk ?_ ?_) | (guard_target =~ LoopE 6 _ _ _ _ _ _; refine LoopE.mk { α := List (List CV) × Nat, keep := [2, 3, 5, 6, 25, 26], ov := fun ⟨rows, i⟩ => [(7, .lw 4), (27, I (i : Nat))], hv := fun ⟨rows, i⟩ => [(4, .row none 173 1 rows)], φ := fun ⟨rows, i⟩ => i ≤ 1 ∧ rows = [eTb w.atoms.length A].take i, μ := fun ⟨rows, i⟩ => 1 - i } (LoopN.mk (([], 0) : List (List CV) × Nat) (by exact ⟨Nat.zero_le _, rfl⟩) (by repeat' ((conv => whnf) <;> first | exact trivial | kernel_rfl | constructor)) (by repeat' ((conv => whnf) <;> first | exact trivial | kernel_rfl | constructor)) (by repeat' ((conv => whnf) <;> first | exact trivial | refine ⟨?_, ?_⟩ | exact rfl | (simp only [List.map_append, List.map_cons, List.map_nil, List.map_set]; first | done | rfl))) (fun A ha => ?_) (by intro A; first | rfl | (obtain ⟨_, _⟩ := A; rfl) | (obtain ⟨_, _, _⟩ := A; rfl))); obtain ⟨rows, i⟩ := A; have ha : i ≤ 1 ∧ rows = [eTb w.atoms.length A].take i := ha; (rcases (show i = 0 ∨ i = 1 from (by have := ha.1; omega)) with rfl | rfl) <;> (obtain rfl := ha.2)) | (guard_target =~ LoopE 11 _ _ _ _ _ _; refine LoopE.mk { α := Nat, keep := [2, 3, 5, 6, 7, 38], ov := fun i2 => [(39, I (i2 : Nat))], hv := fun i2 => [(3, .orow none 171 1 ((tabR w.atoms.length (uptoR i2 fun a b => a == b)).map eRw))], φ := fun i2 => i2 ≤ w.atoms.length, μ := fun i2 => w.atoms.length - i2 } (LoopN.mk (0 : Nat) (by exact Nat.zero_le _) (by repeat' ((conv => whnf) <;> first | exact trivial | kernel_rfl | constructor)) (by repeat' ((conv => whnf) <;> first | exact trivial | kernel_rfl | constructor)) (by repeat' ((conv => whnf) <;> first | exact trivial | refine ⟨?_, ?_⟩ | exact rfl | (simp only [List.map_append, List.map_cons, List.map_nil, List.map_set]; first | done | rfl))) (fun (i2 : Nat) ha => ?_) (by intro A; first | rfl | (obtain ⟨_, _⟩ := A; rfl) | (obtain ⟨_, _, _⟩ := A; rfl))); have ha : i2 ≤ w.atoms.length := ha) | (guard_target =~ LoopE 25 _ _ _ _ _ _; refine LoopE.mk { α := Rel × Int, keep := [2, 5, 6, 7], ov := fun ⟨R3, i⟩ => [(11, I i)], hv := fun ⟨R3, i⟩ => [(3, .orow none 171 1 ((tabR w.atoms.length R3).map eRw))], φ := fun ⟨R3, i⟩ => (-1 ≤ i ∧ i < w.atoms.length) ∧ Fill3 w.atoms.length (F) (fun a b => a == b) i R3, μ := fun ⟨R3, i⟩ => (i + 1).toNat } (LoopN.mk (((uptoR i2 fun a b => a == b : Rel), ((w.atoms.map eI).length : Int) - 1) : Rel × Int) (by exact ⟨⟨by show -1 ≤ _; omega, by show _ < _; rw [List.length_map]; omega⟩, by show Fill3 _ _ _ _ _; rw [List.length_map]; exact diag_begin (by have h9 := h; omega)⟩) (by repeat' ((conv => whnf) <;> first | exact trivial | kernel_rfl | constructor)) (by repeat' ((conv => whnf) <;> first | exact trivial | kernel_rfl | constructor)) (by repeat' ((conv => whnf) <;> first | exact trivial | refine ⟨?_, ?_⟩ | exact rfl | (simp only [List.map_append, List.map_cons, List.map_nil, List.map_set]; first | done | rfl))) (fun A ha => ?_) (by intro A; first | rfl | (obtain ⟨_, _⟩ := A; rfl) | (obtain ⟨_, _, _⟩ := A; rfl))); obtain ⟨R3, i⟩ := A; have ha : (-1 ≤ i ∧ i < w.atoms.length) ∧ Fill3 w.atoms.length (F) (fun a b => a == b) i R3 := ha; have hA3 := ha) | (guard_target =~ LoopE 40 _ _ _ _ _ _; refine LoopE.mk { α := Rel × Int, keep := [2, 5, 6, 7, 11, 12], ov := fun ⟨R6, j⟩ => [(14, I j)], hv := fun ⟨R6, j⟩ => [(3, .orow none 171 1 ((tabR w.atoms.length R6).map eRw))], φ := fun ⟨R6, j⟩ => (i + 1 ≤ j ∧ (j ≤ k + 1 ∨ j = i + 1)) ∧ FillA w.atoms.length F (fun a b => a == b) i k (upS A F i.toNat k.toNat j.toNat) R6, μ := fun ⟨R6, j⟩ => (k + 1 - j).toNat } (LoopN.mk ((R4, i + 1) : Rel × Int) (by exact ⟨⟨by show i + 1 ≤ i + 1; omega, .inr rfl⟩, by show FillA _ _ _ _ _ (upS A F i.toNat k.toNat (i + 1).toNat) _; rw [upS_low A F _ _ _ (by omega)]; exact fillA_in ha.2⟩) (by repeat' ((conv => whnf) <;> first | exact trivial | kernel_rfl | constructor)) (by repeat' ((conv => whnf) <;> first | exact trivial | kernel_rfl | constructor)) (by repeat' ((conv => whnf) <;> first | exact trivial | refine ⟨?_, ?_⟩ | exact rfl | (simp only [List.map_append, List.map_cons, List.map_nil, List.map_set]; first | done | rfl))) (fun A ha => ?_) (by intro A; first | rfl | (obtain ⟨_, _⟩ := A; rfl) | (obtain ⟨_, _, _⟩ := A; rfl))); obtain ⟨R6, j⟩ := A; have ha : (i + 1 ≤ j ∧ (j ≤ k + 1 ∨ j = i + 1)) ∧ FillA w.atoms.length F (fun a b => a == b) i k (upS A F i.toNat k.toNat j.toNat) R6 := ha) | (guard_target =~ LoopE 28 _ _ _ _ _ _; refine LoopE.mk { α := Rel × Int, keep := [2, 5, 6, 7, 11], ov := fun ⟨R4, k⟩ => [(12, I k)], hv := fun ⟨R4, k⟩ => [(3, .orow none 171 1 ((tabR w.atoms.length R4).map eRw))], φ := fun ⟨R4, k⟩ => (i ≤ k ∧ k ≤ w.atoms.length) ∧ Fill4 w.atoms.length (F) (fun a b => a == b) i k R4, μ := fun ⟨R4, k⟩ => (w.atoms.length - k).toNat } (LoopN.mk ((R3, i) : Rel × Int) (by exact ⟨⟨by show i ≤ i; omega, by show i ≤ _; omega⟩, fill_in ha.2 h0⟩) (by repeat' ((conv => whnf) <;> first | exact trivial | kernel_rfl | constructor)) (by repeat' ((conv => whnf) <;> first | exact trivial | kernel_rfl | constructor)) (by repeat' ((conv => whnf) <;> first | exact trivial | refine ⟨?_, ?_⟩ | exact rfl | (simp only [List.map_append, List.map_cons, List.map_nil, List.map_set]; first | done | rfl))) (fun A ha => ?_) (by intro A; first | rfl | (obtain ⟨_, _⟩ := A; rfl) | (obtain ⟨_, _, _⟩ := A; rfl))); obtain ⟨R4, k⟩ := A; have ha : (i ≤ k ∧ k ≤ w.atoms.length) ∧ Fill4 w.atoms.length (F) (fun a b => a == b) i k R4 := ha) | (guard_target = Gh _ _ _ _ _; refine Gh.go ⟨(([eTb w.atoms.length A], 1) : List (List CV) × Nat), (by exact ⟨by show 1 ≤ 1; omega, rfl⟩), (by first | (show _ < _; simp only []; omega) | omega | (simp; omega)), (by repeat' ((conv => whnf) <;> first | exact trivial | kernel_rfl | constructor)), (by repeat' ((conv => whnf) <;> first | exact trivial | kernel_rfl | constructor)), (by repeat' ((conv => whnf) <;> first | exact trivial | refine ⟨?_, ?_⟩ | exact rfl | (simp only [List.map_append, List.map_cons, List.map_nil, List.map_set]; first | done | rfl)))⟩) | (guard_target = Gh _ _ _ _ _; refine Gh.go ⟨((R4, i - 1) : Rel × Int), (by exact ⟨⟨by show -1 ≤ i - 1; omega, by show i - 1 < _; omega⟩, fill_out ha.2 (by omega)⟩), (by first | (show _ < _; simp only []; omega) | omega | (simp; omega)), (by repeat' ((conv => whnf) <;> first | exact trivial | kernel_rfl | constructor)), (by repeat' ((conv => whnf) <;> first | exact trivial | kernel_rfl | constructor)), (by repeat' ((conv => whnf) <;> first | exact trivial | refine ⟨?_, ?_⟩ | exact rfl | (simp only [List.map_append, List.map_cons, List.map_nil, List.map_set]; first | done | rfl)))⟩) | (guard_target = Gh _ _ _ _ _; refine Gh.go ⟨((R6, k + 1) : Rel × Int), (by exact ⟨⟨by show i ≤ k + 1; omega, by show k + 1 ≤ _; omega⟩, fillA_out ha.2 (by rw [hF, show j = k + 1 by omega, show (k + 1).toNat = k.toNat + 1 by omega])⟩), (by first | (show _ < _; simp only []; omega) | omega | (simp; omega)), (by repeat' ((conv => whnf) <;> first | exact trivial | kernel_rfl | constructor)), (by repeat' ((conv => whnf) <;> first | exact trivial | kernel_rfl | constructor)), (by repeat' ((conv => whnf) <;> first | exact trivial | refine ⟨?_, ?_⟩ | exact rfl | (simp only [List.map_append, List.map_cons, List.map_nil, List.map_set]; first | done | rfl)))⟩) | (guard_target = Fact _ _; refine Fact.mk fun hL => ?_; (try simp only [List.length_map, maxLen] at hL)) | (guard_target = Branch _ _ _; (first | apply Branch.dec | apply Branch.beq | apply Branch.bne | apply Branch.ndec | apply Branch.nb | apply Branch.mk) <;> intro h <;> (try simp only [List.length_map, List.length_cons, List.length_nil] at h) <;> (try omega) <;> (try contradiction)) | (guard_target = CallN _ 114 _ _ _ _; refine CallN.gen [] _ _ _ rfl (hx) rfl rfl _ rfl ?_) | (guard_target = CallN _ 162 _ _ _ _; refine CallN.gen [] _ _ _ rfl ns0 rfl rfl _ rfl ?_) | (guard_target = ∀ _ : Value, _; intro v) | (guard_target = GhO _ _ _ _; refine GhO.opens 3 i.toNat 0 rfl (idx_getD (f := eRw) (l := tabR w.atoms.length R6) (d := []) (i := i.toNat) (by simp; omega)) rfl fun v => GhO.opens 3 j.toNat 0 rfl (set_other (by omega) (idx_getD (f := eRw) (l := tabR w.atoms.length R6) (d := []) (i := j.toNat) (by simp; omega))) rfl fun u => GhO.go ?_) | (guard_target = Gh _ _ _ _ _; (first | (have _ : ¬ (w.atoms.length : Int) ≤ i2 := (by omega); refine Gh.closes 3 i2 0 5 rfl (set_get (by rw [List.length_map]; simp; omega)) rfl rfl rfl (Gh.go ⟨(i2 + 1 : Nat), (by show i2 + 1 ≤ _; omega), (by show w.atoms.length - (i2 + 1) < w.atoms.length - i2; omega), (by repeat' ((conv => whnf) <;> first | exact trivial | kernel_rfl | constructor)), (by repeat' ((conv => whnf) <;> first | exact trivial | kernel_rfl | constructor)), (by (repeat' ((conv => whnf) <;> (first | exact trivial | refine ⟨?_, ?_⟩ | exact tab_diag (by omega) | kernel_rfl))); done)⟩)) | (refine Gh.closes 3 i.toNat 0 5 rfl (set_other (by omega) (set_get (by rw [List.length_map]; simp; omega))) rfl rfl rfl (Gh.closes 3 j.toNat 0 6 rfl (set_other (by omega) (set_get (by rw [List.length_set, List.length_map]; simp; omega))) rfl rfl rfl (Gh.go ⟨((updR R6 i.toNat k.toNat (true), j + 1) : Rel × Int), (by exact ⟨⟨by show i + 1 ≤ j + 1; omega, .inl (by show j + 1 ≤ k + 1; omega)⟩, by show FillA _ _ _ _ _ (upS A F i.toNat k.toNat (j + 1).toNat) _; rw [show (j + 1).toNat = j.toNat + 1 by omega, upS_succ]; have e1 : upS A F i.toNat k.toNat j.toNat = true := (by have h9 := h; rw [tab_get (by omega) (by omega), fillA_at ha.2 (by omega) (by omega) (by omega) (by omega)] at h9; exact h9); rw [e1]; exact fillA_put ha.2 (by omega) (by omega) _⟩), (by show (k + 1 - (j + 1)).toNat < (k + 1 - j).toNat; omega), (by repeat' ((conv => whnf) <;> first | exact trivial | kernel_rfl | constructor)), (by repeat' ((conv => whnf) <;> first | exact trivial | kernel_rfl | constructor)), (by (repeat' ((conv => whnf) <;> (first | exact trivial | refine ⟨?_, ?_⟩ | exact blk_upd2 (by omega) (by omega) (by omega) (by omega) _ _ _ | kernel_rfl))); done)⟩))) | (refine Gh.closes 3 i.toNat 0 5 rfl (set_other (by omega) (set_get (by rw [List.length_map]; simp; omega))) rfl rfl rfl (Gh.closes 3 j.toNat 0 6 rfl (set_other (by omega) (set_get (by rw [List.length_set, List.length_map]; simp; omega))) rfl rfl rfl (Gh.go ⟨((updR R6 i.toNat k.toNat (((tabR w.atoms.length R6).getD j.toNat []).getD k.toNat false), j + 1) : Rel × Int), (by exact ⟨⟨by show i + 1 ≤ j + 1; omega, .inl (by show j + 1 ≤ k + 1; omega)⟩, by show FillA _ _ _ _ _ (upS A F i.toNat k.toNat (j + 1).toNat) _; rw [show (j + 1).toNat = j.toNat + 1 by omega, upS_succ]; have e2 : A i.toNat j.toNat = true := (by have h9 := h; rw [tab_get (by omega) (by omega)] at h9; exact h9); have e1 : upS A F i.toNat k.toNat j.toNat = false := (by have h9 : ((tabR w.atoms.length R6).getD i.toNat []).getD k.toNat false = false := (by assumption); rw [tab_get (by omega) (by omega), fillA_at ha.2 (by omega) (by omega) (by omega) (by omega)] at h9; exact h9); rw [e1, e2, decide_eq_true (by omega), tab_get (by omega) (by omega), fillA_far ha.2 (by omega) (by omega) (by omega) (by omega)]; exact fillA_put ha.2 (by omega) (by omega) _⟩), (by show (k + 1 - (j + 1)).toNat < (k + 1 - j).toNat; omega), (by repeat' ((conv => whnf) <;> first | exact trivial | kernel_rfl | constructor)), (by repeat' ((conv => whnf) <;> first | exact trivial | kernel_rfl | constructor)), (by (repeat' ((conv => whnf) <;> (first | exact trivial | refine ⟨?_, ?_⟩ | exact blk_upd2 (by omega) (by omega) (by omega) (by omega) _ _ _ | kernel_rfl))); done)⟩))) | (refine Gh.closes 3 i.toNat 0 5 rfl (set_other (by omega) (set_get (by rw [List.length_map]; simp; omega))) rfl rfl rfl (Gh.closes 3 j.toNat 0 6 rfl (set_other (by omega) (set_get (by rw [List.length_set, List.length_map]; simp; omega))) rfl rfl rfl (Gh.go ⟨((updR R6 i.toNat k.toNat (false), j + 1) : Rel × Int), (by exact ⟨⟨by show i + 1 ≤ j + 1; omega, .inl (by show j + 1 ≤ k + 1; omega)⟩, by show FillA _ _ _ _ _ (upS A F i.toNat k.toNat (j + 1).toNat) _; rw [show (j + 1).toNat = j.toNat + 1 by omega, upS_succ]; have e2 : A i.toNat j.toNat = false := (by have h9 := h; rw [tab_get (by omega) (by omega)] at h9; exact h9); have e1 : upS A F i.toNat k.toNat j.toNat = false := (by have h9 : ((tabR w.atoms.length R6).getD i.toNat []).getD k.toNat false = false := (by assumption); rw [tab_get (by omega) (by omega), fillA_at ha.2 (by omega) (by omega) (by omega) (by omega)] at h9; exact h9); rw [e1, e2, decide_eq_true (by omega)]; exact fillA_put ha.2 (by omega) (by omega) _⟩), (by show (k + 1 - (j + 1)).toNat < (k + 1 - j).toNat; omega), (by repeat' ((conv => whnf) <;> first | exact trivial | kernel_rfl | constructor)), (by repeat' ((conv => whnf) <;> first | exact trivial | kernel_rfl | constructor)), (by (repeat' ((conv => whnf) <;> (first | exact trivial | refine ⟨?_, ?_⟩ | exact blk_upd2 (by omega) (by omega) (by omega) (by omega) _ _ _ | kernel_rfl))); done)⟩))) | refine Gh.go ?_)) | (guard_target = Arith _ _ _; refine Arith.fit (by apply wrap_fit <;> first | omega | (simp only [List.length_map]; omega)) ?_) | (guard_target = Arith _ _ _; refine Arith.fit (by decide) ?_) | (guard_target = Index _ _ _; first | refine Index.mk _ (rfl) ?_ | refine Index.mk _ (set_other (by omega) (set_get (by rw [List.length_map]; simp; omega))) ?_ | refine Index.mk _ (set_get (by rw [List.length_set, List.length_map]; simp; omega)) ?_ | refine Index.mk _ (idx_getD (f := eRw) (l := tabR w.atoms.length (uptoR i2 fun a b => a == b)) (d := []) (i := i2) (by simp; omega)) ?_ | refine Index.mk _ (idx_getD (f := eB) (l := (tabR w.atoms.length (uptoR i2 fun a b => a == b)).getD i2 []) (d := false) (i := i2) (by rw [hl _ _ (by omega)]; omega)) ?_ | refine Index.mk _ (set_get (by rw [List.length_map]; simp; omega)) ?_ | refine Index.mk _ (idx_getD (f := eR) (l := tabR w.atoms.length A) (d := []) (i := i.toNat) (by simp; omega)) ?_ | refine Index.mk _ (idx_getD (f := eB) (l := (tabR w.atoms.length A).getD i.toNat []) (d := false) (i := j.toNat) (by rw [hl _ _ (by omega)]; omega)) ?_ | refine Index.mk _ (idx_getD (f := eB) (l := (tabR w.atoms.length R6).getD j.toNat []) (d := false) (i := k.toNat) (by rw [hl _ _ (by omega)]; omega)) ?_ | refine Index.mk _ (idx_getD (f := eB) (l := (tabR w.atoms.length R6).getD i.toNat []) (d := false) (i := k.toNat) (by rw [hl _ _ (by omega)]; omega)) ?_ | refine Index.mk _ (idx_map (by omega)) ?_) | (guard_target = Need (_ = true) _; refine Need.mk (by first | kernel_rfl | rfl) ?_) | (guard_target = LinkV _ _ _; first | refine LinkV.row 5 rfl ?_ | refine LinkV.orow 5 rfl ?_ | refine LinkV.row 6 rfl ?_ | refine LinkV.orow 6 rfl ?_ | refine LinkV.no ?_) | (guard_target = Need _ _; refine Need.mk (by first | (omega) | ((refine ⟨by omega, ?_⟩; rw [List.length_set, List.length_map]; simp; omega)) | ((refine ⟨by omega, ?_⟩; rw [List.length_set, List.length_set, List.length_map]; simp; omega)) | ((refine ⟨by omega, ?_⟩; rw [List.length_map, hl _ _ (by omega)]; omega)) | ((simp [maxLen]; done)) | ((refine ⟨by omega, ?_⟩; rw [List.length_map]; simp; omega)) | omega | (simp only [List.length_map]; omega)) ?_))
  all_goals first | rfl | trivial | exact fill_end ha.2 h
end
end Go.Proofs.YtaajacnceocpoaaGreat

namespace Go.Proofs.YtaajacnceocpoaaGreat
open Go Go.KA Go.Proofs
set_option maxHeartbeats 16000000
set_option maxRecDepth 100000
theorem l01Word_tt (t a : Int) (ht : 0 ≤ t ∧ t ≤ 3) (hac : 0 ≤ a ∧ a ≤ 4) (w : XWord) : CallF Tryz.prog 53 [.a 2 [J t, J a], .c (.rp 2 [.ro 1 (w.atoms.map eI), .ro 1 (w.acts.map eI)])] (B (wordB t a w)) := l01Word_ok t a ht hac w
theorem A2Word_ok (t a : Int) (ht : 0 ≤ t ∧ t ≤ 3) (hac : 0 ≤ a ∧ a ≤ 4) {e : XExpr} (hT : Tree t a e) (hne : nod e ≤ 1000) (hg : goodE t a e = true) (code : List UInt8) (hcl : code.length ≤ 3000) :
    CallE Tryz.prog 14 [.c (.ro 1 (code.map eU8)), .a 2 [J t, J a], .a 3 (toldE e)] (fun x : XWord => wordB t a x = true) (fun _ => []) (fun x => .a 2 (ownWord x)) := by
  have hat := atoms_b ht
  have fr := l00From_ok code
  have hS' : SOk (src0 code) 0 := ⟨⟨Int.le_refl _, Int.le_refl _⟩, by show code.length ≤ 1000000; omega⟩
  have hft := fitting_ok t a ht hac hT hne hg (src0 code) hS' (by omega)
  have w0 : wordB t a ⟨[0], []⟩ = true := by simp [wordB, rng]; omega
  refine callE_of_vc htb hm Tryz.func14 rfl rfl rfl rfl (ann := fun _ => none) (gh := fun reg_ => match reg_ with | 2 => true | _ => false) ?_
  repeat' ((conv => whnf); first | (guard_target = RetX _ _; refine RetX.mk ?_ ?_) | (guard_target = Branch _ _ _; (first | apply Branch.dec | apply Branch.beq | apply Branch.bne | apply Branch.ndec | apply Branch.nb | apply Branch.mk) <;> intro h <;> (try simp only [List.length_map] at h) <;> (try omega) <;> (try contradiction)) | (guard_target = CallN _ 26 _ _ _ _; refine CallN.gen [] _ _ _ rfl (fr) rfl rfl _ rfl ?_) | (guard_target = CallN _ 53 _ _ _ _; refine CallN.pure _ _ rfl (l01Word_tt t a ht hac x) rfl _ rfl ?_) | (guard_target = Gh _ _ _ _ _; refine Gh.frzp 1 (toldE e) rfl (Gh.go ?_)) | (guard_target = CallN _ 52 _ _ _ _; refine CallN.ex rfl [true, false, false] _ _ _ _ rfl hft rfl rfl (fun x hx => ?_)) | (guard_target = Gh _ _ _ _ _; refine Gh.go ⟨x, (by assumption), ?_⟩) | (guard_target = Gh _ _ _ _ _; refine Gh.go ⟨(⟨[0], []⟩ : XWord), (by exact w0), ?_⟩) | (guard_target = Index _ _ _; first  | refine Index.mk _ (idx_map (by omega)) ?_) | (guard_target = GhO _ _ _ _; refine GhO.go ?_) | (guard_target = Need _ _; refine Need.mk (by first  | omega | (simp only [List.length_map]; omega)) ?_))
  all_goals first | rfl | exact ⟨rfl, trivial⟩ | trivial
/-! ### words of expressions -/
def starN (A : Rel) : Nat → Rel
  | 0 => fun i k => i == k
  | f + 1 => fun i k => (i == k) || (List.range (k + 1)).any fun z => decide (i < z) && (A i z && starN A f z k)
theorem any_congr {l : List Nat} {p q : Nat → Bool} (h : ∀ z ∈ l, p z = q z) : l.any p = l.any q := by
  induction l with
  | nil => rfl
  | cons x l ih => simp only [List.any_cons]; rw [h x (by simp), ih fun z hz => h z (by simp [hz])]
theorem starN_stable (A : Rel) : ∀ (f g i k : Nat), k - i ≤ f → k - i ≤ g → starN A f i k = starN A g i k
  | 0, 0, _, _, _, _ => rfl
  | 0, g + 1, i, k, h, _ => by
    show (i == k) = ((i == k) || _)
    rw [show ((List.range (k + 1)).any fun z => decide (i < z) && (A i z && starN A g z k)) = false from ?_, Bool.or_false]
    rw [List.any_eq_false]
    intro z hz
    rw [List.mem_range] at hz
    simp
    omega
  | f + 1, 0, i, k, _, h => by
    show ((i == k) || _) = (i == k)
    rw [show ((List.range (k + 1)).any fun z => decide (i < z) && (A i z && starN A f z k)) = false from ?_, Bool.or_false]
    rw [List.any_eq_false]
    intro z hz
    rw [List.mem_range] at hz
    simp
    omega
  | f + 1, g + 1, i, k, h1, h2 => by
    show ((i == k) || _) = ((i == k) || _)
    congr 1
    refine any_congr fun z hz => ?_
    rw [List.mem_range] at hz
    by_cases hi : i < z
    · rw [starN_stable A f g z k (by omega) (by omega)]
    · rw [decide_eq_false hi]; rfl
def starR (A : Rel) : Rel := fun i k => starN A (k + 1) i k
theorem starR_fix (A : Rel) (i k : Nat) : starR A i k = upS A (starR A) i k (k + 1) := by
  show ((i == k) || _) = ((i == k) || _)
  congr 1
  refine any_congr fun z hz => ?_
  rw [List.mem_range] at hz
  by_cases hi : i < z
  · rw [starN_stable A k (k + 1) z k (by omega) (by omega)]
    rfl
  · rw [decide_eq_false hi]; rfl
def spanR (w : XWord) : XExpr → Rel
  | .mk k n [x, y] => if k = 6 then sumR (spanR w x) (spanR w y) else if k = 7 then dotR (spanR w x) (spanR w y) else iniR k n (fun i => truthE (.mk k n [x, y]) (w.atoms.getD i 0)) (fun i => w.acts.getD i 0)
  | .mk k n [x] => if k = 8 then starR (spanR w x) else iniR k n (fun i => truthE (.mk k n [x]) (w.atoms.getD i 0)) (fun i => w.acts.getD i 0)
  | .mk k n ks => iniR k n (fun i => truthE (.mk k n ks) (w.atoms.getD i 0)) (fun i => w.acts.getD i 0)
  termination_by e => SizeOf.sizeOf e
theorem span_sum (w : XWord) (n : Int) (x y : XExpr) : spanR w (.mk 6 n [x, y]) = sumR (spanR w x) (spanR w y) := by rw [spanR]; simp
theorem span_dot (w : XWord) (n : Int) (x y : XExpr) : spanR w (.mk 7 n [x, y]) = dotR (spanR w x) (spanR w y) := by rw [spanR]; simp
theorem span_star (w : XWord) (n : Int) (x : XExpr) : spanR w (.mk 8 n [x]) = starR (spanR w x) := by rw [spanR]; simp
theorem span_nil (w : XWord) (k n : Int) : spanR w (.mk k n []) = iniR k n (fun i => truthE (.mk k n []) (w.atoms.getD i 0)) (fun i => w.acts.getD i 0) := by rw [spanR] <;> simp
theorem span_not (w : XWord) (n : Int) (x : XExpr) : spanR w (.mk 5 n [x]) = iniR 5 n (fun i => truthE (.mk 5 n [x]) (w.atoms.getD i 0)) (fun i => w.acts.getD i 0) := by rw [spanR]; simp
theorem roLL_eRw (A : List (List Bool)) : roLL (A.map eRw) = A.map eR := by
  rw [roLL_map, List.map_map]
  rfl
theorem soft_tab {ty sz : Nat} (A : List (List Bool)) : SoftT (.c (.own ty sz (A.map eRw))) (.c (.ro sz (A.map eR))) := by
  rw [← roLL_eRw]
  exact .v (.c (.ro .nil))
theorem spansOf_ok {t a : Int} (w : XWord) (hA : w.acts.length + 1 = w.atoms.length) (hN1 : w.atoms.length ≤ 100) {e : XExpr} (h : Tree t a e) : CallX Tryz.prog 114 [.a 3 (toldE e), .a 2 (encWord w)] [] (.c (.own 171 1 ((tabR w.atoms.length (spanR w e)).map eRw))) := by
  have tr : ∀ {e : XExpr}, Tree t a e → condB e = true → ∀ x, CallF Tryz.prog 159 [.a 3 (toldE e), I x] (B (truthE e x)) := fun {e} h hc x => by have := truth_ok t a x e ⟨hc, h.treeB⟩; rwa [encExpr_eq] at this
  induction h with
  | zero => rw [span_nil]; exact spans_leaf w _ rfl hA hN1 1 0 [] (.inl rfl) (fun _ => rfl) _ (fun h => by omega)
  | one => rw [span_nil]; exact spans_leaf w _ rfl hA hN1 2 0 [] (by omega) (fun _ => rfl) _ (fun h => by omega)
  | @test n h0 h1 => rw [span_nil]; exact spans_leaf w _ rfl hA hN1 3 n [] (by omega) (fun _ => rfl) _ (fun _ => tr (.test h0 h1) rfl)
  | @act n h0 h1 => rw [span_nil]; exact spans_leaf w _ rfl hA hN1 4 n [] (by omega) (fun _ => rfl) _ (fun h => by omega)
  | @not x hc h => rw [span_not]; exact spans_leaf w _ rfl hA hN1 5 0 [x] (by omega) (fun h => absurd rfl h) _ (fun _ => tr (.not hc h) (by simp [condB, condS, hc, rng]))
  | @sum x y hx hy ih1 ih2 => rw [span_sum]; exact spans_sum w hA hN1 x y _ _ (ih1.soft (soft_tab _)) (ih2.soft (soft_tab _))
  | @dot x y hx hy ih1 ih2 => rw [span_dot]; exact spans_dot w hA hN1 x _ (ih1.soft (soft_tab _)) y _ (ih2.soft (soft_tab _))
  | @star x hx ih => rw [span_star]; exact spans_star w hA hN1 x _ (ih.soft (soft_tab _)) _ (starR_fix _)
def matchB (w : XWord) (e : XExpr) : Bool := spanR w e 0 w.acts.length
theorem matches_ok {t a : Int} (w : XWord) (hA : w.acts.length + 1 = w.atoms.length) (hN1 : w.atoms.length ≤ 100) {e : XExpr} (h : Tree t a e) : CallF Tryz.prog 50 [.a 3 (toldE e), .a 2 (encWord w)] (B (matchB w e)) := by
  have c1 := (spansOf_ok w hA hN1 h).soft (soft_tab _)
  have hl := fun R x (h : x < w.atoms.length) => tab_len w.atoms.length R h
  unfold matchB
  rw [← tab_get (N := w.atoms.length) (R := spanR w e) (x := 0) (y := w.acts.length) (by omega) (by omega)]
  generalize spanR w e = R at c1 ⊢
  refine callF_of_vc htb hm Tryz.func50 rfl rfl rfl rfl (ann := fun _ => none) (gh := fun _ => false) ?_
  repeat' ((conv => whnf); first | (guard_target = Done _; refine Done.mk ?_) | (guard_target = Fact _ _; refine Fact.mk fun hL => ?_; (try simp only [List.length_map, maxLen] at hL)) | (guard_target = CallN _ 114 _ _ _ _; refine CallN.gen [] _ _ _ rfl (c1) rfl rfl _ rfl ?_) | (guard_target = Index _ _ _; refine Index.mk (eB (((tabR w.atoms.length R).getD 0 []).getD w.acts.length false)) (by rw [List.length_map]; exact idx_getD (f := eB) (l := (tabR w.atoms.length R).getD 0 []) (d := false) (i := w.acts.length) (by rw [hl _ _ (by omega)]; omega)) ?_) | (guard_target = Index _ _ _; first | refine Index.mk _ (idx_getD (f := eR) (l := tabR w.atoms.length R) (d := []) (i := 0) (by simp; omega)) ?_ | refine Index.mk _ (idx_map (by omega)) ?_) | (guard_target = Need (_ = true) _; refine Need.mk (by first | kernel_rfl | rfl) ?_) | (guard_target = LinkV _ _ _; refine LinkV.no ?_) | (guard_target = GhO _ _ _ _; refine GhO.go ?_) | (guard_target = Need _ _; refine Need.mk (by first | ((simp; omega)) | ((rw [List.length_map, hl _ _ (by omega)]; omega)) | omega | (simp only [List.length_map]; omega)) ?_))
  all_goals first | rfl | exact ⟨rfl, trivial⟩ | trivial
theorem Matches_ok {t a : Int} (ht : 0 ≤ t ∧ t ≤ 3) (hac : 0 ≤ a ∧ a ≤ 4) (w : XWord) (hw : wordB t a w = true) {e : XExpr} (h : Tree t a e) (hg : goodE t a e = true) : CallF Tryz.prog 12 [.a 2 [J t, J a], .a 3 (toldE e), .a 2 (encWord w)] (.tup [B (matchB w e), I 0]) := by
  have hw1 := hw
  simp only [wordB, Bool.and_eq_true, decide_eq_true_eq] at hw1
  have c1 : CallF Tryz.prog 48 [.a 2 [J t, J a], .a 3 (toldE e)] (B true) := by
    have h1 := validSig_ok t a
    rw [show goodSig t a = true by simp only [goodSig, rng, Bool.and_eq_true, decide_eq_true_eq]; omega] at h1
    have h2 := isExpr_ok t a ht hac e
    rw [encExpr_eq, hg] at h2
    refine callF_of_vc htb hm Tryz.func48 rfl rfl rfl rfl (ann := fun _ => none) (gh := fun _ => false) ?_
    repeat' ((conv => whnf); first | (guard_target = Done _; refine Done.mk ?_) | (guard_target = Branch _ _ _; (first | apply Branch.dec | apply Branch.beq | apply Branch.bne | apply Branch.ndec | apply Branch.nb | apply Branch.mk) <;> intro h <;> (try simp only [List.length_map] at h) <;> (try omega) <;> (try contradiction)) | (guard_target = CallN _ 103 _ _ _ _; refine CallN.pure _ _ rfl (h1) rfl _ rfl ?_) | (guard_target = CallN _ 47 _ _ _ _; refine CallN.pure _ _ rfl (h2) rfl _ rfl ?_) | (guard_target = Need _ _; refine Need.mk (by first  | omega | (simp only [List.length_map]; omega)) ?_))
    all_goals first | rfl | exact ⟨rfl, trivial⟩ | trivial
  have c2 := isWord_ok t a ht hac w (by omega)
  rw [hw] at c2
  have c3 := matches_ok w (by omega) (by omega) h
  refine callF_of_vc htb hm Tryz.func12 rfl rfl rfl rfl (ann := fun _ => none) (gh := fun _ => false) ?_
  repeat' ((conv => whnf); first | (guard_target = Done _; refine Done.mk ?_) | (guard_target = Branch _ _ _; (first | apply Branch.dec | apply Branch.beq | apply Branch.bne | apply Branch.ndec | apply Branch.nb | apply Branch.mk) <;> intro h <;> (try simp only [List.length_map] at h) <;> (try omega) <;> (try contradiction)) | (guard_target = CallN _ 48 _ _ _ _; refine CallN.pure _ _ rfl (c1) rfl _ rfl ?_) | (guard_target = CallN _ 49 _ _ _ _; refine CallN.pure _ _ rfl (c2) rfl _ rfl ?_) | (guard_target = CallN _ 50 _ _ _ _; refine CallN.pure _ _ rfl (c3) rfl _ rfl ?_) | (guard_target = Need _ _; refine Need.mk (by first  | omega | (simp only [List.length_map]; omega)) ?_))
  all_goals first | rfl | exact ⟨rfl, trivial⟩ | trivial
end Go.Proofs.YtaajacnceocpoaaGreat

namespace Go.Proofs.YtaajacnceocpoaaGreat
open Go Go.KA Go.Proofs
set_option maxHeartbeats 16000000
set_option maxRecDepth 100000
abbrev atW (v : XWord) (i : Nat) : Int := v.atoms.getD i 0
abbrev acV (v : XWord) (i : Nat) : Int := v.acts.getD i 0
inductive InW (v : XWord) : XExpr → Nat → Nat → Prop
  | one {n i} : InW v (.mk 2 n []) i i
  | test {n i} (h : truthE (.mk 3 n []) (atW v i) = true) : InW v (.mk 3 n []) i i
  | not {n x i} (h : truthE (.mk 5 n [x]) (atW v i) = true) : InW v (.mk 5 n [x]) i i
  | act {n i} (h : acV v i = n) : InW v (.mk 4 n []) i (i + 1)
  | suml {n x y i k} (h : InW v x i k) : InW v (.mk 6 n [x, y]) i k
  | sumr {n x y i k} (h : InW v y i k) : InW v (.mk 6 n [x, y]) i k
  | dot {n x y i j k} (h : InW v x i j) (g : InW v y j k) : InW v (.mk 7 n [x, y]) i k
  | none {n x i} : InW v (.mk 8 n [x]) i i
  | more {n x i j k} (hij : i < j) (h : InW v x i j) (g : InW v (.mk 8 n [x]) j k) : InW v (.mk 8 n [x]) i k
theorem InW.le {v : XWord} {e : XExpr} {i k : Nat} (h : InW v e i k) : i ≤ k := by
  induction h <;> omega
theorem upD_iff {A C : Rel} {i k j : Nat} : upD A C i k j = true ↔ ∃ z, z < j ∧ i ≤ z ∧ A i z = true ∧ C z k = true := by
  simp only [upD, List.any_eq_true, List.mem_range, Bool.and_eq_true, decide_eq_true_eq]
theorem upS_iff {A F : Rel} {i k j : Nat} : upS A F i k j = true ↔ i = k ∨ ∃ z, z < j ∧ i < z ∧ A i z = true ∧ F z k = true := by
  simp only [upS, Bool.or_eq_true, beq_iff_eq, List.any_eq_true, List.mem_range, Bool.and_eq_true, decide_eq_true_eq]
theorem star_in {v : XWord} {x : XExpr} {A : Rel} {N : Nat} (hx : ∀ i k, i < N → k < N → (A i k = true ↔ InW v x i k)) : ∀ (m i k : Nat), k - i ≤ m → i < N → k < N → (starR A i k = true ↔ InW v (.mk 8 0 [x]) i k) := by
  intro m
  induction m with
  | zero =>
    intro i k hm hi hk
    rw [starR_fix, upS_iff]
    constructor
    · rintro (rfl | ⟨z, h1, h2, _⟩)
      · exact .none
      · omega
    · intro h
      cases h with
      | none => exact .inl rfl
      | more hij h g => have := g.le; omega
  | succ m ih =>
    intro i k hm hi hk
    rw [starR_fix, upS_iff]
    constructor
    · rintro (rfl | ⟨z, h1, h2, h3, h4⟩)
      · exact .none
      · exact .more h2 ((hx i z hi (by omega)).1 h3) ((ih z k (by omega) (by omega) hk).1 h4)
    · intro h
      cases h with
      | none => exact .inl rfl
      | @more _ _ _ z _ hij h g =>
        have := g.le
        exact .inr ⟨z, by omega, hij, (hx i z hi (by omega)).2 h, (ih z k (by omega) (by omega) hk).2 g⟩
theorem span_in {t a : Int} {v : XWord} {e : XExpr} (h : Tree t a e) : ∀ i k, i < v.atoms.length → k < v.atoms.length → (spanR v e i k = true ↔ InW v e i k) := by
  induction h with
  | zero =>
    intro i k _ _
    rw [span_nil]
    simp only [iniR]
    constructor
    · intro h; simp at h
    · intro h; cases h
  | one =>
    intro i k _ _
    rw [span_nil]
    simp only [iniR]
    constructor
    · intro h; simp at h; subst h; exact .one
    · intro h; cases h; simp
  | @test n h0 h1 =>
    intro i k _ _
    rw [span_nil]
    simp only [iniR]
    constructor
    · intro h; simp at h; obtain ⟨rfl, h⟩ := h; exact .test (by simpa [atW] using h)
    · intro h; cases h with | test h => simpa [atW] using h
  | @act n h0 h1 =>
    intro i k _ _
    rw [span_nil]
    simp only [iniR]
    constructor
    · intro h; simp at h; obtain ⟨rfl, h⟩ := h; exact .act (by simpa [acV] using h)
    · intro h; cases h with | act h => simpa [acV] using h
  | @not x hc h =>
    intro i k _ _
    rw [span_not]
    simp only [iniR]
    constructor
    · intro h; simp at h; obtain ⟨rfl, h⟩ := h; exact .not (by simpa [atW] using h)
    · intro h; cases h with | not h => simpa [atW] using h
  | @sum x y hx hy ih1 ih2 =>
    intro i k hi hk
    rw [span_sum]
    simp only [sumR, Bool.and_eq_true, decide_eq_true_eq, Bool.or_eq_true, ih1 i k hi hk, ih2 i k hi hk]
    constructor
    · rintro ⟨_, h | h⟩
      · exact .suml h
      · exact .sumr h
    · intro h
      refine ⟨h.le, ?_⟩
      cases h with
      | suml h => exact .inl h
      | sumr h => exact .inr h
  | @dot x y hx hy ih1 ih2 =>
    intro i k hi hk
    rw [span_dot]
    show upD _ _ i k (k + 1) = true ↔ _
    rw [upD_iff]
    constructor
    · rintro ⟨z, h1, h2, h3, h4⟩
      exact .dot ((ih1 i z hi (by omega)).1 h3) ((ih2 z k (by omega) hk).1 h4)
    · intro h
      cases h with
      | @dot _ _ _ _ z _ h g =>
        have h1 := h.le
        have h2 := g.le
        exact ⟨z, by omega, h1, (ih1 i z hi (by omega)).2 h, (ih2 z k (by omega) hk).2 g⟩
  | @star x hx ih =>
    intro i k hi hk
    rw [span_star]
    exact star_in ih (k - i) i k (Nat.le_refl _) hi hk
theorem match_in {t a : Int} {v : XWord} {e : XExpr} (h : Tree t a e) (hl : v.acts.length + 1 = v.atoms.length) : matchB v e = true ↔ InW v e 0 v.acts.length := span_in h 0 v.acts.length (by omega) (by omega)
theorem truth_dotx (n : Int) (x y : XExpr) (c : Int) : truthE (.mk 7 n [x, y]) c = (truthE x c && truthE y c) := by simp [truthE, truthL]
theorem truth_sumx (n : Int) (x y : XExpr) (c : Int) : truthE (.mk 6 n [x, y]) c = (truthE x c || truthE y c) := by simp [truthE, truthL]
theorem truth_notx (n : Int) (x : XExpr) (c : Int) : truthE (.mk 5 n [x]) c = !(truthE x c) := by simp [truthE, truthL]
theorem cond_in {t a : Int} {v : XWord} {e : XExpr} (h : Tree t a e) : condB e = true → ∀ i k, InW v e i k ↔ i = k ∧ truthE e (atW v i) = true := by
  induction h with
  | zero =>
    intro _ i k
    constructor
    · intro h; cases h
    · rintro ⟨_, h⟩; simp [truthE] at h
  | one =>
    intro _ i k
    constructor
    · intro h; cases h; exact ⟨rfl, by simp [truthE]⟩
    · rintro ⟨rfl, _⟩; exact .one
  | @test n h0 h1 =>
    intro _ i k
    constructor
    · intro h; cases h with | test h => exact ⟨rfl, h⟩
    · rintro ⟨rfl, h⟩; exact .test h
  | act h0 h1 => intro hc; simp [condB, rng] at hc
  | @not x hc h =>
    intro _ i k
    constructor
    · intro h; cases h with | not h => exact ⟨rfl, h⟩
    · rintro ⟨rfl, h⟩; exact .not h
  | @sum x y hx hy ih1 ih2 =>
    intro hc i k
    simp [condB, condS, rng] at hc
    rw [truth_sumx]
    constructor
    · intro h
      cases h with
      | suml h => have := (ih1 hc.1 i k).1 h; exact ⟨this.1, by rw [this.2]; rfl⟩
      | sumr h => have := (ih2 hc.2 i k).1 h; exact ⟨this.1, by rw [this.2, Bool.or_true]⟩
    · rintro ⟨rfl, h⟩
      rw [Bool.or_eq_true] at h
      rcases h with h | h
      · exact .suml ((ih1 hc.1 i i).2 ⟨rfl, h⟩)
      · exact .sumr ((ih2 hc.2 i i).2 ⟨rfl, h⟩)
  | @dot x y hx hy ih1 ih2 =>
    intro hc i k
    simp [condB, condS, rng] at hc
    rw [truth_dotx]
    constructor
    · intro h
      cases h with
      | dot h g =>
        have h1 := (ih1 hc.1 _ _).1 h
        obtain ⟨rfl, h1⟩ := h1
        have h2 := (ih2 hc.2 _ _).1 g
        exact ⟨h2.1, by rw [h1, h2.2]; rfl⟩
    · rintro ⟨rfl, h⟩
      rw [Bool.and_eq_true] at h
      exact .dot ((ih1 hc.1 i i).2 ⟨rfl, h.1⟩) ((ih2 hc.2 i i).2 ⟨rfl, h.2⟩)
  | star hx => intro hc; simp [condB, rng] at hc
inductive PW (v : XWord) : XProg → Nat → Nat → Prop
  | skip {n c ks i} : PW v (.mk 1 n c ks) i i
  | act {n c ks i} (h : acV v i = n) : PW v (.mk 3 n c ks) i (i + 1)
  | assert {n c ks i} (h : truthE c (atW v i) = true) : PW v (.mk 4 n c ks) i i
  | seq {n c p q i j k} (h : PW v p i j) (g : PW v q j k) : PW v (.mk 5 n c [p, q]) i k
  | yes {n c p q i k} (h : truthE c (atW v i) = true) (g : PW v p i k) : PW v (.mk 6 n c [p, q]) i k
  | no {n c p q i k} (h : truthE c (atW v i) = false) (g : PW v q i k) : PW v (.mk 6 n c [p, q]) i k
  | stop {n c p i} (h : truthE c (atW v i) = false) : PW v (.mk 7 n c [p]) i i
  | round {n c p i j k} (h : truthE c (atW v i) = true) (g : PW v p i j) (r : PW v (.mk 7 n c [p]) j k) : PW v (.mk 7 n c [p]) i k
theorem PW.le {v : XWord} {p : XProg} {i k : Nat} (h : PW v p i k) : i ≤ k := by
  induction h <;> omega
def CondV (t a : Int) (c : XExpr) : Prop := Tree t a c ∧ condB c = true
theorem CondV.in {t a : Int} {v : XWord} {c : XExpr} (h : CondV t a c) {i k : Nat} : InW v c i k ↔ i = k ∧ truthE c (atW v i) = true := cond_in h.1 h.2 i k
theorem not_in {v : XWord} {c : XExpr} {i k : Nat} : InW v (.mk 5 0 [c]) i k ↔ i = k ∧ truthE c (atW v i) = false := by
  constructor
  · intro h
    cases h with | not h => rw [truth_notx] at h; exact ⟨rfl, by simpa using h⟩
  · rintro ⟨rfl, h⟩
    exact .not (by rw [truth_notx, h]; rfl)
theorem star_pw {v : XWord} {c : XExpr} {e : XExpr} {p : XProg} {n : Int} {t a : Int} (hc : CondV t a c) (hp : ∀ i k, InW v e i k → PW v p i k) {x : XExpr} {i k : Nat} (h : InW v x i k) : x = .mk 8 0 [.mk 7 0 [c, e]] → truthE c (atW v k) = false → PW v (.mk 7 n c [p]) i k := by
  induction h with
  | one => intro h; cases h
  | test _ => intro h; cases h
  | not _ => intro h; cases h
  | act _ => intro h; cases h
  | suml _ _ => intro h; cases h
  | sumr _ _ => intro h; cases h
  | dot _ _ _ _ => intro h; cases h
  | none => intro _ hk; exact .stop hk
  | more hij h g _ ih =>
    intro hx hk
    cases hx
    cases h with
    | dot h1 h2 =>
      obtain ⟨rfl, h3⟩ := hc.in.1 h1
      exact .round h3 (hp _ _ h2) (ih rfl hk)
theorem loop_in {v : XWord} {t a : Int} {c e : XExpr} (hc : CondV t a c) {p : XProg} (hp : ∀ i k, PW v p i k → InW v e i k) {q : XProg} {i k : Nat} (h : PW v q i k) : ∀ {n : Int}, q = .mk 7 n c [p] → InW v (.mk 8 0 [.mk 7 0 [c, e]]) i k ∧ truthE c (atW v k) = false := by
  induction h with
  | skip => intro n h; cases h
  | act _ => intro n h; cases h
  | assert _ => intro n h; cases h
  | seq _ _ _ _ => intro n h; cases h
  | yes _ _ _ => intro n h; cases h
  | no _ _ _ => intro n h; cases h
  | stop h => intro n hq; cases hq; exact ⟨.none, h⟩
  | @round n c p i j k h g r _ ih =>
    intro m hq
    cases hq
    have h1 := ih rfl
    refine ⟨?_, h1.2⟩
    by_cases hij : i = j
    · subst hij; exact h1.1
    · have := g.le
      exact .more (by omega) (.dot (hc.in.2 ⟨rfl, h⟩) (hp _ _ g)) h1.1
theorem prog_in {t a : Int} {v : XWord} {p : XProg} (hf : FormP p) : CondsP (CondV t a) p → ∀ i k, InW v (progE p) i k ↔ PW v p i k := by
  induction hf with
  | @leaf k n c ks h hk =>
    intro hc i j
    cases hc with
    | mk hc _ =>
    subst hk
    rcases h with rfl | rfl | rfl | rfl
    · show InW v (.mk 2 0 []) i j ↔ _
      constructor
      · intro h; cases h; exact .skip
      · intro h; cases h; exact .one
    · show InW v (.mk 1 0 []) i j ↔ _
      constructor
      · intro h; cases h
      · intro h; cases h
    · show InW v (.mk 4 n []) i j ↔ _
      constructor
      · intro h; cases h with | act h => exact .act h
      · intro h; cases h with | act h => exact .act h
    · show InW v c i j ↔ _
      rw [(hc (.inl rfl)).in]
      constructor
      · rintro ⟨rfl, h⟩; exact .assert h
      · intro h; cases h with | assert h => exact ⟨rfl, h⟩
  | @two k n c p q h hp hq ih1 ih2 =>
    intro hc i j
    cases hc with
    | mk hc hks =>
    have i1 := ih1 (hks p (by simp))
    have i2 := ih2 (hks q (by simp))
    rcases h with rfl | rfl
    · show InW v (.mk 7 0 [progE p, progE q]) i j ↔ _
      constructor
      · intro h; cases h with | dot h g => exact .seq ((i1 _ _).1 h) ((i2 _ _).1 g)
      · intro h; cases h with | seq h g => exact .dot ((i1 _ _).2 h) ((i2 _ _).2 g)
    · have hc := hc (.inr (.inl rfl))
      show InW v (.mk 6 0 [.mk 7 0 [c, progE p], .mk 7 0 [.mk 5 0 [c], progE q]]) i j ↔ _
      constructor
      · intro h
        cases h with
        | suml h => cases h with | dot h g => obtain ⟨rfl, h3⟩ := hc.in.1 h; exact .yes h3 ((i1 _ _).1 g)
        | sumr h => cases h with | dot h g => obtain ⟨rfl, h3⟩ := not_in.1 h; exact .no h3 ((i2 _ _).1 g)
      · intro h
        cases h with
        | yes h g => exact .suml (.dot (hc.in.2 ⟨rfl, h⟩) ((i1 _ _).2 g))
        | no h g => exact .sumr (.dot (not_in.2 ⟨rfl, h⟩) ((i2 _ _).2 g))
  | @loop n c p hp ih =>
    intro hc i j
    cases hc with
    | mk hc hks =>
    have hc := hc (.inr (.inr rfl))
    have i1 := ih (hks p (by simp))
    show InW v (.mk 7 0 [.mk 8 0 [.mk 7 0 [c, progE p]], .mk 5 0 [c]]) i j ↔ _
    constructor
    · intro h
      cases h with
      | dot h g =>
        obtain ⟨rfl, h3⟩ := not_in.1 g
        exact star_pw hc (fun i k h => (i1 i k).1 h) h rfl h3
    · intro h
      have h1 := loop_in hc (fun i k h => (i1 i k).2 h) h rfl
      exact .dot h1.1 (not_in.2 ⟨rfl, h1.2⟩)
end Go.Proofs.YtaajacnceocpoaaGreat

namespace Go.Proofs.YtaajacnceocpoaaGreat
open Go Go.KA Go.Proofs
set_option maxHeartbeats 16000000
set_option maxRecDepth 100000
abbrev nxS (w : XWorld) (s act : Int) : Int := (w.acts.getD act.toNat []).getD s.toNat 0
def stS (w : XWorld) (v : XWord) (s : Int) : Nat → Int
  | 0 => s
  | i + 1 => nxS w (stS w v s i) (acV v i)
structure FolW (w : XWorld) (v : XWord) (s : Int) : Prop where
  at_ : ∀ i, i ≤ v.acts.length → at0 w (stS w v s i) = atW v i
  nn : ∀ i, i < v.acts.length → 0 ≤ stS w v s (i + 1)
structure AtW (w : XWorld) (v : XWord) (s : Int) (i : Nat) (r : RS) : Prop where
  st : r.st = stS w v s i
  tc : r.tc = v.acts.take i
  ta : r.ta = v.atoms.take (i + 1)
theorem AtW.more {w : XWorld} {v : XWord} {s : Int} {i : Nat} {r : RS} (h : AtW w v s i r) : AtW w v s i (more r) := ⟨h.st, h.tc, h.ta⟩
section
variable {w : XWorld} {v : XWord} {s : Int} (hl : v.acts.length + 1 = v.atoms.length) (hf : FolW w v s)
include hl hf
theorem word_run {p : XProg} {i k : Nat} (h : PW v p i k) : k ≤ v.acts.length → ∀ {fuel : Int} {r : RS} {c : Int} {r' : RS}, AtW w v s i r → Run w fuel p r c r' → c = 7 ∨ (c = 0 ∧ AtW w v s k r') := by
  have cond : ∀ {i : Nat} {r : RS}, i ≤ v.acts.length → AtW w v s i r → at0 w r.st = atW v i := fun hi hr => by rw [hr.st, hf.at_ _ hi]
  induction h with
  | @skip n c ks i =>
    intro hk fuel r c' r' hr hrun
    cases hrun <;> first
      | (exact .inl rfl)
      | (exact .inr ⟨rfl, hr.more⟩)
      | (rename_i hk _ _ _; simp [XProg.kind] at hk; done)
      | (simp [XProg.kind] at *; done)
  | @act n c ks i h =>
    intro hk fuel r c' r' hr hrun
    have hn : nxt w (more r) n = stS w v s (i + 1) := by
      show (w.acts.getD n.toNat []).getD r.st.toNat 0 = _
      rw [hr.st, ← h]
      rfl
    have hp := hf.nn i (by omega)
    cases hrun <;> first
      | (exact .inl rfl)
      | (simp [XProg.kind] at *; done)
      | skip
    · rename_i hbad
      exfalso
      have : nxt w (Go.Proofs.YtaajacnceocpoaaGreat.more r) n < 0 := hbad
      omega
    · refine .inr ⟨rfl, hn, ?_, ?_⟩
      · show r.tc ++ [n] = v.acts.take (i + 1)
        rw [hr.tc, List.take_add_one, List.getElem?_eq_getElem (by omega : i < v.acts.length), ← h]
        simp [acV, List.getD_eq_getElem?_getD, List.getElem?_eq_getElem (by omega : i < v.acts.length)]
      · show r.ta ++ [at0 w (nxt w (Go.Proofs.YtaajacnceocpoaaGreat.more r) n)] = v.atoms.take (i + 1 + 1)
        rw [hr.ta, List.take_add_one (i := i + 1), List.getElem?_eq_getElem (by omega : i + 1 < v.atoms.length), hn, hf.at_ (i + 1) (by omega)]
        simp [atW, List.getD_eq_getElem?_getD, List.getElem?_eq_getElem (by omega : i + 1 < v.atoms.length)]
  | @assert n c ks i h =>
    intro hk fuel r c' r' hr hrun
    have hc := cond hk hr
    cases hrun <;> first
      | (exact .inl rfl)
      | (exact .inr ⟨rfl, hr.more⟩)
      | (simp [XProg.kind] at *; done)
      | (rename_i ht; simp only [XProg.cond] at ht; rw [hc, h] at ht; cases ht; done)
  | @seq n c p q i j k h g ih1 ih2 =>
    intro hk fuel r c' r' hr hrun
    have hj := g.le
    cases hrun with
    | budget _ _ => exact .inl rfl
    | seqBad _ g0 h1 hc =>
      simp [XProg.kids] at g0
      subst g0
      rcases ih1 (by omega) hr h1 with h2 | ⟨h2, _⟩
      · exact .inl h2
      · exact absurd h2 hc
    | seqOk _ g0 g1 h1 h2 =>
      simp [XProg.kids] at g0 g1
      subst g0 g1
      rcases ih1 (by omega) hr h1 with h3 | ⟨_, h3⟩
      · cases h3
      · exact ih2 hk h3 h2
    | _ => simp [XProg.kind] at *
  | @yes n c p q i k h g ih =>
    intro hk fuel r c' r' hr hrun
    have hc := cond (Nat.le_trans g.le hk) hr
    cases hrun with
    | budget _ _ => exact .inl rfl
    | ifYes _ _ _ g0 h1 =>
      simp [XProg.kids] at g0
      subst g0
      exact ih hk hr.more h1
    | ifNo _ _ ht _ _ => simp only [XProg.cond] at ht; rw [hc, h] at ht; cases ht
    | _ => simp [XProg.kind] at *
  | @no n c p q i k h g ih =>
    intro hk fuel r c' r' hr hrun
    have hc := cond (Nat.le_trans g.le hk) hr
    cases hrun with
    | budget _ _ => exact .inl rfl
    | ifNo _ _ _ g0 h1 =>
      simp [XProg.kids] at g0
      subst g0
      exact ih hk hr.more h1
    | ifYes _ _ ht _ _ => simp only [XProg.cond] at ht; rw [hc, h] at ht; cases ht
    | _ => simp [XProg.kind] at *
  | @stop n c p i h =>
    intro hk fuel r c' r' hr hrun
    have hc := cond hk hr
    cases hrun with
    | budget _ _ => exact .inl rfl
    | whileNo _ _ _ => exact .inr ⟨rfl, hr.more⟩
    | whileBad _ _ ht _ _ _ => simp only [XProg.cond] at ht; rw [hc, h] at ht; cases ht
    | whileOk _ _ ht _ _ _ => simp only [XProg.cond] at ht; rw [hc, h] at ht; cases ht
    | _ => simp [XProg.kind] at *
  | @round n c p i j k h g r' ih1 ih2 =>
    intro hk fuel r c' r2 hr hrun
    have hj := r'.le
    have hc := cond (Nat.le_trans g.le (Nat.le_trans hj hk)) hr
    cases hrun with
    | budget _ _ => exact .inl rfl
    | whileNo _ _ ht => simp only [XProg.cond] at ht; rw [hc, h] at ht; cases ht
    | whileBad _ _ _ g0 h1 hc0 =>
      simp [XProg.kids] at g0
      subst g0
      rcases ih1 (by omega) hr.more h1 with h2 | ⟨h2, _⟩
      · exact .inl h2
      · exact absurd h2 hc0
    | whileOk _ _ _ g0 h1 h2 =>
      simp [XProg.kids] at g0
      subst g0
      rcases ih1 (by omega) hr.more h1 with h3 | ⟨_, h3⟩
      · cases h3
      · exact ih2 hk h3 h2
    | _ => simp [XProg.kind] at *
end
structure TrW (w : XWorld) (r : RS) : Prop where
  len : r.ta.length = r.tc.length + 1
  last : r.ta.getD r.tc.length 0 = at0 w r.st
theorem TrW.more {w : XWorld} {r : RS} (h : TrW w r) : TrW w (more r) := ⟨h.len, h.last⟩
theorem TrW.done {w : XWorld} {r : RS} (h : TrW w r) (n : Int) : TrW w (done w r n) := by
  refine ⟨?_, ?_⟩
  · show (r.ta ++ [_]).length = (r.tc ++ [n]).length + 1
    simp [h.len]
  · show (r.ta ++ [at0 w (nxt w r n)]).getD (r.tc ++ [n]).length 0 = at0 w (nxt w r n)
    rw [List.getD_eq_getElem?_getD, List.length_append, List.length_singleton, ← h.len, List.getElem?_append_right (Nat.le_refl _)]
    simp
inductive Fol (w : XWorld) (v : XWord) : Nat → Int → Nat → Int → Prop
  | nil {i s} : Fol w v i s i s
  | cons {i s j t} (h : at0 w s = atW v i) (hn : 0 ≤ nxS w s (acV v i)) (g : Fol w v (i + 1) (nxS w s (acV v i)) j t) : Fol w v i s j t
theorem Fol.trans {w : XWorld} {v : XWord} {i j k : Nat} {s t u : Int} (h : Fol w v i s j t) (g : Fol w v j t k u) : Fol w v i s k u := by
  induction h with
  | nil => exact g
  | cons h hn _ ih => exact .cons h hn (ih g)
theorem pre_get {l m : List Int} (h : l <+: m) {i : Nat} (hi : i < l.length) : m.getD i 0 = l.getD i 0 := by
  obtain ⟨x, rfl⟩ := h
  rw [List.getD_eq_getElem?_getD, List.getD_eq_getElem?_getD, List.getElem?_append_left hi]
theorem run_word {t a : Int} {w : XWorld} {fuel : Int} {p : XProg} {r : RS} {c : Int} {r' : RS} (h : Run w fuel p r c r') : POk t a p → TrW w r → TrW w r' ∧ r.tc <+: r'.tc ∧ r.ta <+: r'.ta ∧
    (c = 0 → ∀ v : XWord, r'.tc <+: v.acts → r'.ta <+: v.atoms → PW v p r.tc.length r'.tc.length ∧ Fol w v r.tc.length r.st r'.tc.length r'.st) := by
  have here : ∀ {r : RS} {v : XWord}, TrW w r → r.ta <+: v.atoms → at0 w r.st = atW v r.tc.length := fun {r v} h h1 => by
    rw [atW, pre_get h1 (by rw [h.len]; omega), h.last]
  induction h with
  | seqBad hk g0 h hc ih =>
    intro hp hr
    obtain ⟨a1, a2, a3, _⟩ := ih (hp.kid (List.mem_of_getElem? g0)) hr
    exact ⟨a1, a2, a3, fun h => absurd h hc⟩
  | @seqOk p k0 k1 r r1 c r2 hk g0 g1 h h2 ih1 ih2 =>
    intro hp hr
    obtain ⟨a1, a2, a3, a4⟩ := ih1 (hp.kid (List.mem_of_getElem? g0)) hr
    obtain ⟨b1, b2, b3, b4⟩ := ih2 (hp.kid (List.mem_of_getElem? g1)) a1
    refine ⟨b1, a2.trans b2, a3.trans b3, fun hc v h1 h2 => ?_⟩
    have c1 := a4 rfl v (b2.trans h1) (b3.trans h2)
    have c2 := b4 hc v h1 h2
    obtain ⟨pk, pn, pc, ks⟩ := p
    have hk : pk = 5 := hk
    subst hk
    obtain ⟨x, y, rfl⟩ := kids_two (l := ks) (by have := hp.len.2.1 rfl; have := hp.len.1; simp only [XProg.kids, XProg.kind] at *; omega)
    simp [XProg.kids] at g0 g1
    subst g0 g1
    exact ⟨.seq c1.1 c2.1, c1.2.trans c2.2⟩
  | budget hk hs => intro _ hr; exact ⟨hr, List.prefix_rfl, List.prefix_rfl, fun h => by cases h⟩
  | @skip p r hk hs =>
    intro _ hr
    refine ⟨hr.more, List.prefix_rfl, List.prefix_rfl, fun _ v h1 h2 => ?_⟩
    obtain ⟨pk, pn, pc, ks⟩ := p
    have hk : pk = 1 := hk
    subst hk
    exact ⟨.skip, .nil⟩
  | fail hk hs => intro _ hr; exact ⟨hr.more, List.prefix_rfl, List.prefix_rfl, fun h => by cases h⟩
  | actBad hk hs hn => intro _ hr; exact ⟨hr.more, List.prefix_rfl, List.prefix_rfl, fun h => by cases h⟩
  | @actOk p r hk hs hn =>
    intro _ hr
    refine ⟨hr.more.done p.num, List.prefix_append _ _, List.prefix_append _ _, fun _ v h1 h2 => ?_⟩
    obtain ⟨pk, pn, pc, ks⟩ := p
    have hk : pk = 3 := hk
    subst hk
    have h1 : r.tc ++ [pn] <+: v.acts := h1
    have h2 : r.ta ++ [at0 w (nxt w (Go.Proofs.YtaajacnceocpoaaGreat.more r) pn)] <+: v.atoms := h2
    have e1 : acV v r.tc.length = pn := by
      rw [acV, pre_get h1 (by simp)]
      simp
    have e2 := here hr ((List.prefix_append _ _).trans h2)
    have hl : (r.tc ++ [pn]).length = r.tc.length + 1 := by simp
    have e3 : nxt w (Go.Proofs.YtaajacnceocpoaaGreat.more r) pn = nxS w r.st (acV v r.tc.length) := by rw [e1]; rfl
    show PW v _ r.tc.length (r.tc ++ [pn]).length ∧ Fol w v r.tc.length r.st (r.tc ++ [pn]).length (nxt w (Go.Proofs.YtaajacnceocpoaaGreat.more r) pn)
    rw [hl]
    refine ⟨.act e1, .cons e2 ?_ ?_⟩
    · have : ¬ nxt w (Go.Proofs.YtaajacnceocpoaaGreat.more r) pn < 0 := hn
      omega
    · rw [e3]; exact .nil
  | assertNo hk hs ht => intro _ hr; exact ⟨hr.more, List.prefix_rfl, List.prefix_rfl, fun h => by cases h⟩
  | @assertYes p r hk hs ht =>
    intro _ hr
    refine ⟨hr.more, List.prefix_rfl, List.prefix_rfl, fun _ v h1 h2 => ?_⟩
    obtain ⟨pk, pn, pc, ks⟩ := p
    have hk : pk = 4 := hk
    subst hk
    exact ⟨.assert (by rw [← here hr h2]; exact ht), .nil⟩
  | @ifYes p k0 r c r2 hk hs ht g0 h ih =>
    intro hp hr
    obtain ⟨a1, a2, a3, a4⟩ := ih (hp.kid (List.mem_of_getElem? g0)) hr.more
    refine ⟨a1, a2, a3, fun hc v h1 h2 => ?_⟩
    have c1 := a4 hc v h1 h2
    obtain ⟨pk, pn, pc, ks⟩ := p
    have hk : pk = 6 := hk
    subst hk
    obtain ⟨x, y, rfl⟩ := kids_two (l := ks) (by have := hp.len.2.2.1 rfl; have := hp.len.1; simp only [XProg.kids, XProg.kind] at *; omega)
    simp [XProg.kids] at g0
    subst g0
    exact ⟨.yes (by rw [← here hr (a3.trans h2)]; exact ht) c1.1, c1.2⟩
  | @ifNo p k1 r c r2 hk hs ht g0 h ih =>
    intro hp hr
    obtain ⟨a1, a2, a3, a4⟩ := ih (hp.kid (List.mem_of_getElem? g0)) hr.more
    refine ⟨a1, a2, a3, fun hc v h1 h2 => ?_⟩
    have c1 := a4 hc v h1 h2
    obtain ⟨pk, pn, pc, ks⟩ := p
    have hk : pk = 6 := hk
    subst hk
    obtain ⟨x, y, rfl⟩ := kids_two (l := ks) (by have := hp.len.2.2.1 rfl; have := hp.len.1; simp only [XProg.kids, XProg.kind] at *; omega)
    simp [XProg.kids] at g0
    subst g0
    exact ⟨.no (by rw [← here hr (a3.trans h2)]; exact ht) c1.1, c1.2⟩
  | @whileNo p r hk hs ht =>
    intro hp hr
    refine ⟨hr.more, List.prefix_rfl, List.prefix_rfl, fun _ v h1 h2 => ?_⟩
    obtain ⟨pk, pn, pc, ks⟩ := p
    have hk : pk = 7 := hk
    subst hk
    obtain ⟨x, rfl⟩ := kids_one (l := ks) (by have := hp.len.2.2.2 rfl; have := hp.len.1; simp only [XProg.kids, XProg.kind] at *; omega)
    exact ⟨.stop (by rw [← here hr h2]; exact ht), .nil⟩
  | whileBad hk hs ht g0 h hc ih =>
    intro hp hr
    obtain ⟨a1, a2, a3, _⟩ := ih (hp.kid (List.mem_of_getElem? g0)) hr.more
    exact ⟨a1, a2, a3, fun h => absurd h hc⟩
  | @whileOk p k0 r r1 c r2 hk hs ht g0 h h2 ih1 ih2 =>
    intro hp hr
    obtain ⟨a1, a2, a3, a4⟩ := ih1 (hp.kid (List.mem_of_getElem? g0)) hr.more
    obtain ⟨b1, b2, b3, b4⟩ := ih2 hp a1
    refine ⟨b1, a2.trans b2, a3.trans b3, fun hc v h1 h3 => ?_⟩
    have c1 := a4 rfl v (b2.trans h1) (b3.trans h3)
    have c2 := b4 hc v h1 h3
    have hh := here hr (a3.trans (b3.trans h3))
    obtain ⟨pk, pn, pc, ks⟩ := p
    have hk : pk = 7 := hk
    subst hk
    obtain ⟨x, rfl⟩ := kids_one (l := ks) (by have := hp.len.2.2.2 rfl; have := hp.len.1; simp only [XProg.kids, XProg.kind] at *; omega)
    simp [XProg.kids] at g0
    subst g0
    exact ⟨.round (by rw [← hh]; exact ht) c1.1 c2.1, c1.2.trans c2.2⟩
theorem run_le {w : XWorld} {fuel : Int} {p : XProg} {r : RS} {c : Int} {r' : RS} (h : Run w fuel p r c r') : r.steps ≤ r'.steps := by
  induction h with
  | seqBad _ _ _ _ ih => exact ih
  | seqOk _ _ _ _ _ i1 i2 => omega
  | budget _ _ => omega
  | skip _ _ => show _ ≤ _ + 1; omega
  | fail _ _ => show _ ≤ _ + 1; omega
  | actBad _ _ _ => show _ ≤ _ + 1; omega
  | actOk _ _ _ => show _ ≤ _ + 1; omega
  | assertNo _ _ _ => show _ ≤ _ + 1; omega
  | assertYes _ _ _ => show _ ≤ _ + 1; omega
  | @ifYes _ _ r _ _ _ _ _ _ _ ih => have : r.steps + 1 ≤ _ := ih; omega
  | @ifNo _ _ r _ _ _ _ _ _ _ ih => have : r.steps + 1 ≤ _ := ih; omega
  | whileNo _ _ _ => show _ ≤ _ + 1; omega
  | @whileBad _ _ r _ _ _ _ _ _ _ _ ih => have : r.steps + 1 ≤ _ := ih; omega
  | @whileOk _ _ r _ _ _ _ _ _ _ _ _ i1 i2 => have : r.steps + 1 ≤ _ := i1; omega
theorem run_short2 {w : XWorld} {fuel : Int} {p : XProg} {r : RS} {c : Int} {r' : RS} (h : Run w fuel p r c r') : c = 0 → ∀ {f2 : Int} {c2 : Int} {r2 : RS}, r.steps ≤ f2 → Run w f2 p r c2 r2 → (r'.steps ≤ f2 → c2 = 0 ∧ r2 = r') ∧ (f2 < r'.steps → c2 = 7) := by
  have stop : ∀ {r : RS} {f2 : Int} {P : Prop}, r.steps = f2 → ((Go.Proofs.YtaajacnceocpoaaGreat.more r).steps ≤ f2 → P) ∧ (f2 < (Go.Proofs.YtaajacnceocpoaaGreat.more r).steps → (7 : Int) = 7) := fun {r f2 P} h => ⟨fun h1 => by have h1 : r.steps + 1 ≤ f2 := h1; omega, fun _ => rfl⟩
  have same : ∀ {r r2 : RS} {f2 : Int}, r.steps ≤ f2 → ¬ r.steps = f2 → r2.steps = r.steps + 1 → (r2.steps ≤ f2 → (0 : Int) = 0 ∧ r2 = r2) ∧ (f2 < r2.steps → (0 : Int) = 7) := fun h1 h2 h3 => ⟨fun _ => ⟨rfl, rfl⟩, fun h4 => by omega⟩
  induction h with
  | seqBad _ _ _ hc => intro h; exact absurd h hc
  | @seqOk p k0 k1 r r1 c r2 hk g0 g1 h1 h2 ih1 ih2 =>
    intro hc f2 c2 q hs hrun
    have l1 := run_le h1
    have l2 := run_le h2
    cases hrun with
    | seqBad _ k0' k1' k2' =>
      rw [g0] at k0'
      injection k0' with k0'
      subst k0'
      have i1 := ih1 rfl hs k1'
      refine ⟨fun h => absurd (i1.1 (by omega)).1 k2', fun _ => i1.2 ?_⟩
      have : ¬ r1.steps ≤ f2 := fun h => absurd (i1.1 h).1 k2'
      omega
    | seqOk _ k0' k1' k2' k3' =>
      rw [g0] at k0'
      injection k0' with k0'
      subst k0'
      rw [g1] at k1'
      injection k1' with k1'
      subst k1'
      have i1 := ih1 rfl hs k2'
      have hle : r1.steps ≤ f2 := by
        have : ¬ f2 < r1.steps := fun h => by have := i1.2 h; cases this
        omega
      obtain ⟨_, rfl⟩ := i1.1 hle
      exact ih2 hc hle k3'
    | budget hk' _ => exact absurd hk hk'
    | skip hk' _ => rw [hk] at hk'; cases hk'
    | fail hk' _ => rw [hk] at hk'; cases hk'
    | actBad hk' _ _ => rw [hk] at hk'; cases hk'
    | actOk hk' _ _ => rw [hk] at hk'; cases hk'
    | assertNo hk' _ _ => rw [hk] at hk'; cases hk'
    | assertYes hk' _ _ => rw [hk] at hk'; cases hk'
    | ifYes hk' _ _ _ _ => rw [hk] at hk'; cases hk'
    | ifNo hk' _ _ _ _ => rw [hk] at hk'; cases hk'
    | whileNo hk' _ _ => rw [hk] at hk'; cases hk'
    | whileBad hk' _ _ _ _ _ => rw [hk] at hk'; cases hk'
    | whileOk hk' _ _ _ _ _ => rw [hk] at hk'; cases hk'
  | budget _ _ => intro h; cases h
  | @skip p r hk hs0 =>
    intro hc f2 c2 q hs hrun
    cases hrun with
    | budget _ h => exact stop h
    | skip _ h => exact same hs h rfl
    | seqBad hk' _ _ _ => rw [hk] at hk'; cases hk'
    | seqOk hk' _ _ _ _ => rw [hk] at hk'; cases hk'
    | fail hk' _ => rw [hk] at hk'; cases hk'
    | actBad hk' _ _ => rw [hk] at hk'; cases hk'
    | actOk hk' _ _ => rw [hk] at hk'; cases hk'
    | assertNo hk' _ _ => rw [hk] at hk'; cases hk'
    | assertYes hk' _ _ => rw [hk] at hk'; cases hk'
    | ifYes hk' _ _ _ _ => rw [hk] at hk'; cases hk'
    | ifNo hk' _ _ _ _ => rw [hk] at hk'; cases hk'
    | whileNo hk' _ _ => rw [hk] at hk'; cases hk'
    | whileBad hk' _ _ _ _ _ => rw [hk] at hk'; cases hk'
    | whileOk hk' _ _ _ _ _ => rw [hk] at hk'; cases hk'
  | fail _ _ => intro h; cases h
  | actBad _ _ _ => intro h; cases h
  | @actOk p r hk hs0 hn =>
    intro hc f2 c2 q hs hrun
    cases hrun with
    | budget _ h => exact stop h
    | actOk _ h _ => exact same hs h rfl
    | actBad _ _ h => exact absurd h hn
    | seqBad hk' _ _ _ => rw [hk] at hk'; cases hk'
    | seqOk hk' _ _ _ _ => rw [hk] at hk'; cases hk'
    | skip hk' _ => rw [hk] at hk'; cases hk'
    | fail hk' _ => rw [hk] at hk'; cases hk'
    | assertNo hk' _ _ => rw [hk] at hk'; cases hk'
    | assertYes hk' _ _ => rw [hk] at hk'; cases hk'
    | ifYes hk' _ _ _ _ => rw [hk] at hk'; cases hk'
    | ifNo hk' _ _ _ _ => rw [hk] at hk'; cases hk'
    | whileNo hk' _ _ => rw [hk] at hk'; cases hk'
    | whileBad hk' _ _ _ _ _ => rw [hk] at hk'; cases hk'
    | whileOk hk' _ _ _ _ _ => rw [hk] at hk'; cases hk'
  | assertNo _ _ _ => intro h; cases h
  | @assertYes p r hk hs0 ht =>
    intro hc f2 c2 q hs hrun
    cases hrun with
    | budget _ h => exact stop h
    | assertYes _ h _ => exact same hs h rfl
    | seqBad hk' _ _ _ => rw [hk] at hk'; cases hk'
    | seqOk hk' _ _ _ _ => rw [hk] at hk'; cases hk'
    | skip hk' _ => rw [hk] at hk'; cases hk'
    | fail hk' _ => rw [hk] at hk'; cases hk'
    | actBad hk' _ _ => rw [hk] at hk'; cases hk'
    | actOk hk' _ _ => rw [hk] at hk'; cases hk'
    | assertNo _ _ ht' => rw [ht] at ht'; cases ht'
    | ifYes hk' _ _ _ _ => rw [hk] at hk'; cases hk'
    | ifNo hk' _ _ _ _ => rw [hk] at hk'; cases hk'
    | whileNo hk' _ _ => rw [hk] at hk'; cases hk'
    | whileBad hk' _ _ _ _ _ => rw [hk] at hk'; cases hk'
    | whileOk hk' _ _ _ _ _ => rw [hk] at hk'; cases hk'
  | @ifYes p k0 r c r2 hk hs0 ht g0 h ih =>
    intro hc f2 c2 q hs hrun
    have l1 : r.steps + 1 ≤ r2.steps := run_le h
    cases hrun with
    | budget _ h => exact ⟨fun h1 => by omega, fun _ => rfl⟩
    | ifYes _ h1 _ k0' k1' =>
      rw [g0] at k0'
      injection k0' with k0'
      subst k0'
      exact ih hc (by show r.steps + 1 ≤ f2; omega) k1'
    | seqBad hk' _ _ _ => rw [hk] at hk'; cases hk'
    | seqOk hk' _ _ _ _ => rw [hk] at hk'; cases hk'
    | skip hk' _ => rw [hk] at hk'; cases hk'
    | fail hk' _ => rw [hk] at hk'; cases hk'
    | actBad hk' _ _ => rw [hk] at hk'; cases hk'
    | actOk hk' _ _ => rw [hk] at hk'; cases hk'
    | assertNo hk' _ _ => rw [hk] at hk'; cases hk'
    | assertYes hk' _ _ => rw [hk] at hk'; cases hk'
    | ifNo _ _ ht' _ _ => rw [ht] at ht'; cases ht'
    | whileNo hk' _ _ => rw [hk] at hk'; cases hk'
    | whileBad hk' _ _ _ _ _ => rw [hk] at hk'; cases hk'
    | whileOk hk' _ _ _ _ _ => rw [hk] at hk'; cases hk'
  | @ifNo p k0 r c r2 hk hs0 ht g0 h ih =>
    intro hc f2 c2 q hs hrun
    have l1 : r.steps + 1 ≤ r2.steps := run_le h
    cases hrun with
    | budget _ h => exact ⟨fun h1 => by omega, fun _ => rfl⟩
    | ifNo _ h1 _ k0' k1' =>
      rw [g0] at k0'
      injection k0' with k0'
      subst k0'
      exact ih hc (by show r.steps + 1 ≤ f2; omega) k1'
    | seqBad hk' _ _ _ => rw [hk] at hk'; cases hk'
    | seqOk hk' _ _ _ _ => rw [hk] at hk'; cases hk'
    | skip hk' _ => rw [hk] at hk'; cases hk'
    | fail hk' _ => rw [hk] at hk'; cases hk'
    | actBad hk' _ _ => rw [hk] at hk'; cases hk'
    | actOk hk' _ _ => rw [hk] at hk'; cases hk'
    | assertNo hk' _ _ => rw [hk] at hk'; cases hk'
    | assertYes hk' _ _ => rw [hk] at hk'; cases hk'
    | ifYes _ _ ht' _ _ => rw [ht] at ht'; cases ht'
    | whileNo hk' _ _ => rw [hk] at hk'; cases hk'
    | whileBad hk' _ _ _ _ _ => rw [hk] at hk'; cases hk'
    | whileOk hk' _ _ _ _ _ => rw [hk] at hk'; cases hk'
  | @whileNo p r hk hs0 ht =>
    intro hc f2 c2 q hs hrun
    cases hrun with
    | budget _ h => exact stop h
    | whileNo _ h _ => exact same hs h rfl
    | seqBad hk' _ _ _ => rw [hk] at hk'; cases hk'
    | seqOk hk' _ _ _ _ => rw [hk] at hk'; cases hk'
    | skip hk' _ => rw [hk] at hk'; cases hk'
    | fail hk' _ => rw [hk] at hk'; cases hk'
    | actBad hk' _ _ => rw [hk] at hk'; cases hk'
    | actOk hk' _ _ => rw [hk] at hk'; cases hk'
    | assertNo hk' _ _ => rw [hk] at hk'; cases hk'
    | assertYes hk' _ _ => rw [hk] at hk'; cases hk'
    | ifYes hk' _ _ _ _ => rw [hk] at hk'; cases hk'
    | ifNo hk' _ _ _ _ => rw [hk] at hk'; cases hk'
    | whileBad _ _ ht' _ _ _ => rw [ht] at ht'; cases ht'
    | whileOk _ _ ht' _ _ _ => rw [ht] at ht'; cases ht'
  | whileBad _ _ _ _ _ hc => intro h; exact absurd h hc
  | @whileOk p k0 r r1 c r2 hk hs0 ht g0 h1 h2 ih1 ih2 =>
    intro hc f2 c2 q hs hrun
    have l1 : r.steps + 1 ≤ r1.steps := run_le h1
    have l2 := run_le h2
    cases hrun with
    | budget _ h => exact ⟨fun h1 => by omega, fun _ => rfl⟩
    | whileBad _ h3 _ k0' k1' k2' =>
      rw [g0] at k0'
      injection k0' with k0'
      subst k0'
      have i1 := ih1 rfl (by show r.steps + 1 ≤ f2; omega) k1'
      refine ⟨fun h => absurd (i1.1 (by omega)).1 k2', fun _ => i1.2 ?_⟩
      have : ¬ r1.steps ≤ f2 := fun h => absurd (i1.1 h).1 k2'
      omega
    | whileOk _ h3 _ k0' k1' k2' =>
      rw [g0] at k0'
      injection k0' with k0'
      subst k0'
      have i1 := ih1 rfl (by show r.steps + 1 ≤ f2; omega) k1'
      have hle : r1.steps ≤ f2 := by
        have : ¬ f2 < r1.steps := fun h => by have := i1.2 h; cases this
        omega
      obtain ⟨_, rfl⟩ := i1.1 hle
      exact ih2 hc hle k2'
    | seqBad hk' _ _ _ => rw [hk] at hk'; cases hk'
    | seqOk hk' _ _ _ _ => rw [hk] at hk'; cases hk'
    | skip hk' _ => rw [hk] at hk'; cases hk'
    | fail hk' _ => rw [hk] at hk'; cases hk'
    | actBad hk' _ _ => rw [hk] at hk'; cases hk'
    | actOk hk' _ _ => rw [hk] at hk'; cases hk'
    | assertNo hk' _ _ => rw [hk] at hk'; cases hk'
    | assertYes hk' _ _ => rw [hk] at hk'; cases hk'
    | ifYes hk' _ _ _ _ => rw [hk] at hk'; cases hk'
    | ifNo hk' _ _ _ _ => rw [hk] at hk'; cases hk'
    | whileNo _ _ ht' => rw [ht] at ht'; cases ht'
end Go.Proofs.YtaajacnceocpoaaGreat

namespace Go.Proofs.YtaajacnceocpoaaGreat
open Go Go.KA Go.Proofs
set_option maxHeartbeats 16000000
set_option maxRecDepth 100000
theorem word_act {t a : Int} {v : XWord} (h : wordB t a v = true) {i : Nat} (hi : i < v.acts.length) : 0 ≤ acV v i ∧ acV v i < a := by
  simp only [wordB, Bool.and_eq_true, List.all_eq_true] at h
  have := h.2.2 (acV v i) (by rw [acV, getD_eq hi]; exact List.getElem_mem _)
  simp only [rng, Bool.and_eq_true, decide_eq_true_eq] at this
  omega
theorem st_in {t a : Int} {w : XWorld} {v : XWord} {s : Int} (hw : WOk w) (hA : (w.acts.length : Int) = a) (h : wordB t a v = true) (hs : 0 ≤ s ∧ s < w.atoms.length) : ∀ i, i ≤ v.acts.length → (∀ j, j < i → 0 ≤ stS w v s (j + 1)) → 0 ≤ stS w v s i ∧ stS w v s i < w.atoms.length
  | 0, _, _ => hs
  | i + 1, hi, hj => by
    have h1 := st_in hw hA h hs i (by omega) fun j hj' => hj j (by omega)
    have h2 := word_act h (i := i) (by omega)
    refine ⟨hj i (by omega), ?_⟩
    have h3 : (acV v i).toNat < w.acts.length := by omega
    have h4 := hw.row (w.acts.getD (acV v i).toNat []) (by rw [getD_eq h3]; exact List.getElem_mem _)
    have h5 : (stS w v s i).toNat < (w.acts.getD (acV v i).toNat []).length := by rw [h4.1]; omega
    show (w.acts.getD (acV v i).toNat []).getD (stS w v s i).toNat 0 < _
    rw [getD_eq h5]
    exact (h4.2 _ (List.getElem_mem _)).2
def FolI (w : XWorld) (v : XWord) (s : Int) (i : Nat) (st : Int) : Prop := (i ≤ v.atoms.length ∧ st = stS w v s (min i v.acts.length)) ∧ ((∀ j, j < i → at0 w (stS w v s j) = atW v j) ∧ (∀ j, j < i → j < v.acts.length → 0 ≤ stS w v s (j + 1)))
section
variable {w : XWorld} {v : XWord} {s : Int} {i : Nat} {st : Int}
theorem FolI.act (h : FolI w v s i st) (hi : i < v.acts.length) (hl : v.atoms.length = v.acts.length + 1) (ha : at0 w st = atW v i) (hn : 0 ≤ nxS w st (acV v i)) : FolI w v s (i + 1) (nxS w st (acV v i)) := by
  obtain ⟨⟨h1, h2⟩, h3, h4⟩ := h
  rw [show min i v.acts.length = i by omega] at h2
  subst h2
  refine ⟨⟨by omega, by rw [show min (i + 1) v.acts.length = i + 1 by omega]; rfl⟩, fun j hj => ?_, fun j hj hjn => ?_⟩
  · rcases Nat.lt_succ_iff_lt_or_eq.1 hj with hj | rfl
    · exact h3 j hj
    · exact ha
  · rcases Nat.lt_succ_iff_lt_or_eq.1 hj with hj | rfl
    · exact h4 j hj hjn
    · exact hn
theorem FolI.stay (h : FolI w v s i st) (hi : ¬ i < v.acts.length) (hi2 : i < v.atoms.length) (hl : v.atoms.length = v.acts.length + 1) (ha : at0 w st = atW v i) : FolI w v s (i + 1) st := by
  obtain ⟨⟨h1, h2⟩, h3, h4⟩ := h
  have e : v.acts.length = i := by omega
  refine ⟨⟨by omega, by rw [h2, show min (i + 1) v.acts.length = min i v.acts.length by omega]⟩, fun j hj => ?_, fun j hj hjn => ?_⟩
  · rcases Nat.lt_succ_iff_lt_or_eq.1 hj with hj | rfl
    · exact h3 j hj
    · rw [show min j v.acts.length = j by omega] at h2
      rw [← h2]; exact ha
  · exact h4 j (by omega) hjn
theorem FolI.bad (h : FolI w v s i st) (hF : FolW w v s) (hi2 : i < v.atoms.length) (hl : v.atoms.length = v.acts.length + 1) : at0 w st = atW v i ∧ (i < v.acts.length → 0 ≤ nxS w st (acV v i)) := by
  obtain ⟨⟨h1, h2⟩, h3, h4⟩ := h
  rw [show min i v.acts.length = i by omega] at h2
  subst h2
  exact ⟨hF.at_ i (by omega), fun hi => hF.nn i hi⟩
theorem FolI.all (h : FolI w v s i st) (hi : ¬ i < v.atoms.length) (hl : v.atoms.length = v.acts.length + 1) : FolW w v s :=
  ⟨fun j hj => h.2.1 j (by omega), fun j hj => h.2.2 j (by omega) hj⟩
theorem FolI.at_end (h : FolI w v s i st) (hi : ¬ i < v.atoms.length) (hl : v.atoms.length = v.acts.length + 1) : stS w v s v.acts.length = st := by
  have := h.1.2
  rw [show min i v.acts.length = v.acts.length by omega] at this
  exact this.symm
end
theorem FollowWord_ok {t a : Int} {w : XWorld} (hs : goodSig t a = true) (hw : goodWorld t a w = true) (v : XWord) (hv : wordB t a v = true) (s : Int) (h0 : 0 ≤ s ∧ s < w.atoms.length) (R : SV) (hy : FolW w v s → .tup [I (stS w v s v.acts.length), I 0] = R) (hn : ¬ FolW w v s → .tup [I 0, I 4] = R) :
    CallF Tryz.prog 13 [.a 2 [J t, J a], .a 2 (encWorld w), I s, .a 2 (encWord v)] R := by
  have hv1 := hv
  simp only [wordB, Bool.and_eq_true, decide_eq_true_eq] at hv1
  have hb := sig_bounds hs
  have c1 := ValidWorld_ok t a w
  rw [hs, hw] at c1
  have c2 := isWord_ok t a hb.1 hb.2 v (by omega)
  rw [hv] at c2
  have hWok := worldOk hw
  have hst := st_in (v := v) hWok.1 hWok.2 hv h0
  have hrow : ∀ i, i < v.acts.length → (w.acts.getD (v.acts.getD i 0).toNat []).length = w.atoms.length := fun i hi => by
    have h9 := word_act hv hi
    have h8 := hWok.2
    simp only [acV] at h9
    have h3 : (v.acts.getD i 0).toNat < w.acts.length := by omega
    exact (hWok.1.row _ (by rw [getD_eq h3]; exact List.getElem_mem _)).1
  refine callF_of_vc htb hm Tryz.func13 rfl rfl rfl rfl (ann := fun _ => none) (gh := fun _ => false) ?_
  repeat' ((conv => whnf); first | (guard_target = Done _; refine Done.mk ?_; first | ((refine hn fun hF => ?_; have h9 := FolI.bad ha hF (by omega) (by omega); first | (exact h h9.1) | (have h8 := h9.2 (by omega); simp only [nxS, acV] at h8; omega)); done) | ((rw [← hy (FolI.all ha (by omega) (by omega)), FolI.at_end ha (by omega) (by omega)]; rfl); done) | skip) | (guard_target =~ LoopE 6 _ _ _ _ _ _; refine LoopE.mk { α := Int × Nat, keep := [5, 7, 30, 31], ov := fun ⟨st, i⟩ => [(2, I st), (32, I (i : Nat))], φ := fun ⟨st, i⟩ => FolI w v s i st, μ := fun ⟨st, i⟩ => v.atoms.length - i } (LoopN.mk ((s, 0) : Int × Nat) (by exact ⟨⟨Nat.zero_le _, by simp [stS]⟩, fun j hj => by omega, fun j hj => by omega⟩) (by repeat' ((conv => whnf) <;> first | exact trivial | kernel_rfl | constructor)) (by repeat' ((conv => whnf) <;> first | exact trivial | kernel_rfl | constructor)) (by repeat' ((conv => whnf) <;> first | exact trivial | refine ⟨?_, ?_⟩ | exact rfl | (simp only [List.map_append, List.map_cons, List.map_nil, List.map_set]; first | done | rfl))) (fun A ha => ?_) (by intro A; first | rfl | (obtain ⟨_, _⟩ := A; rfl) | (obtain ⟨_, _, _⟩ := A; rfl))); obtain ⟨st, i⟩ := A; have ha : FolI w v s i st := ha; have hsi := hst (min i v.acts.length) (by omega) (fun j hj => ha.2.2 j (by omega) (by omega)); have hse := ha.1.2; rw [← hse] at hsi) | (guard_target = Gh _ _ _ _ _; refine Gh.go ⟨(((w.acts.getD (v.acts.getD i 0).toNat []).getD st.toNat 0, i + 1) : Int × Nat), (by (have hlt : i < v.acts.length := (by omega)); exact FolI.act ha hlt (by omega) (by assumption) (by show 0 ≤ (w.acts.getD (v.acts.getD i 0).toNat []).getD st.toNat 0; omega)), (by first | (show _ < _; simp only []; omega) | omega | (simp; omega)), (by repeat' ((conv => whnf) <;> first | exact trivial | kernel_rfl | constructor)), (by repeat' ((conv => whnf) <;> first | exact trivial | kernel_rfl | constructor)), (by repeat' ((conv => whnf) <;> first | exact trivial | refine ⟨?_, ?_⟩ | exact rfl | (simp only [List.map_append, List.map_cons, List.map_nil, List.map_set]; first | done | rfl)))⟩) | (guard_target = Gh _ _ _ _ _; refine Gh.go ⟨((st, i + 1) : Int × Nat), (by (have hge : ¬ i < v.acts.length := (by omega)); exact FolI.stay ha hge (by omega) (by omega) (by assumption)), (by first | (show _ < _; simp only []; omega) | omega | (simp; omega)), (by repeat' ((conv => whnf) <;> first | exact trivial | kernel_rfl | constructor)), (by repeat' ((conv => whnf) <;> first | exact trivial | kernel_rfl | constructor)), (by repeat' ((conv => whnf) <;> first | exact trivial | refine ⟨?_, ?_⟩ | exact rfl | (simp only [List.map_append, List.map_cons, List.map_nil, List.map_set]; first | done | rfl)))⟩) | (guard_target = Fact _ _; refine Fact.mk fun hL => ?_; (try simp only [List.length_map, maxLen] at hL)) | (guard_target = Branch _ _ _; (first | apply Branch.dec | apply Branch.beq | apply Branch.bne | apply Branch.ndec | apply Branch.nb | apply Branch.mk) <;> intro h <;> (try simp only [List.length_map] at h) <;> (try omega) <;> (try contradiction)) | (guard_target = CallN _ 39 _ _ _ _; refine CallN.pure _ _ rfl (c1) rfl _ rfl ?_) | (guard_target = CallN _ 49 _ _ _ _; refine CallN.pure _ _ rfl (c2) rfl _ rfl ?_) | (guard_target = CallN _ 51 _ _ _ _; refine CallN.pure _ _ rfl (within_ok _ _ _) rfl _ rfl ?_) | (guard_target = Arith _ _ _; refine Arith.fit (by apply wrap_fit <;> first | omega | (simp only [List.length_map]; omega)) ?_) | (guard_target = Arith _ _ _; refine Arith.fit (by decide) ?_) | (guard_target = Index _ _ _; first | refine Index.mk _ (idx_getD (l := v.atoms) (d := 0) (i := i) (by omega)) ?_ | refine Index.mk _ (idx_getD (l := w.atoms) (d := 0) (i := st.toNat) (by omega)) ?_ | refine Index.mk _ (idx_getD (l := v.acts) (d := 0) (i := i) (by omega)) ?_ | refine Index.mk _ (idx_getD (f := fun l : List Int => ([.ro 1 (l.map eI)] : List CV)) (l := w.acts) (d := []) (i := (v.acts.getD i 0).toNat) (by have h9 := word_act hv (i := i) (by omega); have h8 := hWok.2; simp only [acV] at h9; omega)) ?_ | refine Index.mk _ (idx_getD (f := eI) (l := w.acts.getD (v.acts.getD i 0).toNat []) (d := 0) (i := st.toNat) (by rw [hrow i (by omega)]; omega)) ?_ | refine Index.mk _ (idx_map (by omega)) ?_) | (guard_target = Need (_ = true) _; refine Need.mk (by first | kernel_rfl | rfl) ?_) | (guard_target = LinkV _ _ _; refine LinkV.no ?_) | (guard_target = GhO _ _ _ _; refine GhO.go ?_) | (guard_target = Need _ _; refine Need.mk (by first | (omega) | ((have h9 := word_act hv (i := i) (by omega); have h8 := hWok.2; simp only [acV] at h9; refine ⟨by omega, ?_⟩; rw [List.length_map]; omega)) | ((refine ⟨by omega, ?_⟩; rw [List.length_map, hrow i (by omega)]; omega)) | ((have h9 := word_act hv (i := i) (by omega); simp only [acV] at h9; exact h9.1)) | ((rw [List.length_map]; have h9 := word_act hv (i := i) (by omega); have h8 := hWok.2; simp only [acV] at h9; omega)) | ((rw [List.length_map, hrow i (by omega)]; omega)) | omega | (simp only [List.length_map]; omega)) ?_))
  all_goals first | rfl | trivial | (exfalso; have hr : rng 0 ((w.atoms.length : Int) - 1) s = true := (by simp only [rng, Bool.and_eq_true, decide_eq_true_eq]; omega); have h9 := h; rw [hr] at h9; cases h9; done)
end Go.Proofs.YtaajacnceocpoaaGreat

namespace Go.Proofs.YtaajacnceocpoaaGreat
open Go Go.KA Go.Proofs
set_option maxHeartbeats 16000000
set_option maxRecDepth 100000
theorem a2Long_ok (code more : List UInt8) : CallF Tryz.prog 5 [.c (.ro 1 (code.map eU8)), .c (.ro 1 (more.map eU8))] (B (decide (3000 < code.length) || decide (3000 < more.length))) := by
  refine callF_of_vc htb hm Tryz.func5 rfl rfl rfl rfl (ann := fun _ => none) (gh := fun _ => false) ?_
  repeat' ((conv => whnf); first | (guard_target = Done _; refine Done.mk ?_; first | (rfl; done) | (simp_all [normS, normV]; done) | (simp_all [normS, normV]; omega; done) | (simp_all [normS, normV]; intros; omega; done) | (simp_all [-List.all_eq_true, -List.all_eq_false, normS, normV]; done) | (simp_all [-List.all_eq_true, -List.all_eq_false, normS, normV]; omega; done) | skip) | (guard_target = Fact _ _; refine Fact.mk fun hL => ?_; (try simp only [List.length_map, maxLen] at hL)) | (guard_target = Branch _ _ _; (first | apply Branch.dec | apply Branch.beq | apply Branch.bne | apply Branch.ndec | apply Branch.nb | apply Branch.mk) <;> intro h <;> (try simp only [List.length_map] at h) <;> (try omega) <;> (try contradiction)) | (guard_target = Need _ _; refine Need.mk (by first  | omega | (simp only [List.length_map]; omega)) ?_))
  all_goals first | rfl | trivial | (simp_all [normS, normV]; done) | (simp_all [normS, normV]; omega) | (rw [show decide (3000 < code.length) = false by simp; omega, Bool.false_or, List.length_map]; exact congrArg B (decide_eq_decide.2 (by omega)))
theorem a2prog_bud (code : List UInt8) : budProg (a2prog code).2 ≤ 1048576 := by
  have h := (progP_ok (drawSig (src0 code)).1 5 ⟨(drawSig (src0 code)).2, 9⟩).2
  unfold a2prog a2pr
  simp only []
  split
  · show budProg (progP _ 5 _).1 ≤ _
    omega
  · show 0 ≤ 1048576
    omega
theorem goodE_tree {t a : Int} {e : XExpr} (h : goodE t a e = true) : treeB t a e = true := by
  simp only [goodE, Bool.and_eq_true] at h
  exact h.2.2
mutual
theorem left_nod : ∀ (e : XExpr) (n : Int), 0 ≤ leftE e n → leftE e n = n - nod e
  | .mk k m ks, n, h => by
    simp only [leftE] at h ⊢
    have h1 := left_nodS ks (n - 1) h
    simp only [nod, budExpr]
    omega
theorem left_nodS : ∀ (l : List XExpr) (n : Int), 0 ≤ leftS l n → leftS l n = n - budExprS l
  | [], n, h => by simp [budExprS, leftS]
  | x :: xs, n, h => by
    simp only [leftS] at h ⊢
    by_cases hn : n < 0
    · rw [if_pos hn] at h; omega
    · rw [if_neg hn] at h ⊢
      by_cases h0 : leftE x n < 0
      · rw [leftS_neg h0] at h; omega
      · have h1 := left_nod x n (by omega)
        have h2 := left_nodS xs (leftE x n) h
        simp only [budExprS]
        simp only [nod] at h1
        omega
end
theorem goodE_nod {t a : Int} {e : XExpr} (h : goodE t a e = true) : nod e ≤ 1000 := by
  simp only [goodE, Bool.and_eq_true, decide_eq_true_eq] at h
  have := left_nod e 200 h.1
  omega
theorem fol_st {w : XWorld} {v : XWord} {sb : Int} {i j : Nat} {s t : Int} (h : Fol w v i s j t) : s = stS w v sb i → i ≤ j ∧ t = stS w v sb j ∧ ∀ k, i ≤ k → k < j → at0 w (stS w v sb k) = atW v k ∧ 0 ≤ stS w v sb (k + 1) := by
  induction h with
  | nil => intro h; exact ⟨Nat.le_refl _, h, fun k h1 h2 => by omega⟩
  | @cons i s j t h hn g ih =>
    intro hs
    subst hs
    obtain ⟨h1, h2, h3⟩ := ih rfl
    refine ⟨by omega, h2, fun k hk1 hk2 => ?_⟩
    rcases Nat.eq_or_lt_of_le hk1 with e | e
    · subst e; exact ⟨h, hn⟩
    · exact h3 k e hk2
theorem run_rng {t a : Int} {w : XWorld} {fuel : Int} (hw : WOk w) (hA : (w.acts.length : Int) = a) (hfu : fuel ≤ 500) (hat : ∀ x ∈ w.atoms, 0 ≤ x ∧ x ≤ atomsN t - 1) {p : XProg} {r : RS} {c : Int} {r' : RS} (h : Run w fuel p r c r') : POk t a p → RB w fuel r →
    (∀ x ∈ r.ta, 0 ≤ x ∧ x ≤ atomsN t - 1) ∧ (∀ x ∈ r.tc, 0 ≤ x ∧ x < a) → (∀ x ∈ r'.ta, 0 ≤ x ∧ x ≤ atomsN t - 1) ∧ (∀ x ∈ r'.tc, 0 ≤ x ∧ x < a) := by
  have inc : ∀ {r : RS}, RB w fuel r → ¬ r.steps = fuel → RB w fuel (more r) := fun {r} hr hs => ⟨hr.st.inc (by have := hr.le; omega), by show r.steps + 1 ≤ fuel; have := hr.le; omega⟩
  induction h with
  | seqBad hk g0 h hc ih => intro hp hr hx; exact ih (hp.kid (List.mem_of_getElem? g0)) hr hx
  | seqOk hk g0 g1 h h2 ih1 ih2 =>
    intro hp hr hx
    have hp0 := hp.kid (List.mem_of_getElem? g0)
    exact ih2 (hp.kid (List.mem_of_getElem? g1)) (h.keeps hw hA hfu hp0 hr).1 (ih1 hp0 hr hx)
  | budget hk hs => intro _ _ hx; exact hx
  | skip hk hs => intro _ _ hx; exact hx
  | fail hk hs => intro _ _ hx; exact hx
  | actBad hk hs hn => intro _ _ hx; exact hx
  | @actOk p r hk hs hn =>
    intro hp hr hx
    have h1 := hp.act hk
    have h2 := nxt_b hw (inc hr hs).st (act := p.num) (by omega)
    refine ⟨fun x hx' => ?_, fun x hx' => ?_⟩
    · rcases List.mem_append.1 hx' with hx' | hx'
      · exact hx.1 x hx'
      · rw [List.mem_singleton.1 hx']
        refine hat _ ?_
        rw [at0, getD_eq (by omega)]
        exact List.getElem_mem _
    · rcases List.mem_append.1 hx' with hx' | hx'
      · exact hx.2 x hx'
      · rw [List.mem_singleton.1 hx']
        exact h1
  | assertNo hk hs ht => intro _ _ hx; exact hx
  | assertYes hk hs ht => intro _ _ hx; exact hx
  | ifYes hk hs ht g0 h ih => intro hp hr hx; exact ih (hp.kid (List.mem_of_getElem? g0)) (inc hr hs) hx
  | ifNo hk hs ht g0 h ih => intro hp hr hx; exact ih (hp.kid (List.mem_of_getElem? g0)) (inc hr hs) hx
  | whileNo hk hs ht => intro _ _ hx; exact hx
  | whileBad hk hs ht g0 h hc ih => intro hp hr hx; exact ih (hp.kid (List.mem_of_getElem? g0)) (inc hr hs) hx
  | whileOk hk hs ht g0 h h2 ih1 ih2 =>
    intro hp hr hx
    have hp0 := hp.kid (List.mem_of_getElem? g0)
    exact ih2 hp (h.keeps hw hA hfu hp0 (inc hr hs)).1 (ih1 hp0 (inc hr hs) hx)
theorem run_code {w : XWorld} {fuel : Int} {p : XProg} {r : RS} {c : Int} {r' : RS} (h : Run w fuel p r c r') : c = 0 ∨ c = 4 ∨ c = 7 := by
  induction h <;> omega
section
variable {t a : Int} {w : XWorld} {p : XProg} {s : Nat} (hs : goodSig t a = true) (hw : goodWorld t a w = true) (hp : goodP t a p = true) (hx : s < w.atoms.length) (he : goodE t a (progE p) = true)
include hs hw hp hx he
theorem trace_word {r' : RS} (hr : Run w 500 p ⟨(s : Int), [at0 w (s : Int)], [], 0⟩ 0 r') : r'.ta.length = r'.tc.length + 1 ∧ (r'.tc.length ≤ 10 → wordB t a ⟨r'.ta, r'.tc⟩ = true) ∧ matchB ⟨r'.ta, r'.tc⟩ (progE p) = true ∧ FolW w ⟨r'.ta, r'.tc⟩ s ∧ stS w ⟨r'.ta, r'.tc⟩ s r'.tc.length = r'.st ∧ 1 ≤ r'.steps ∧ r'.steps ≤ 500 := by
  have _ := hs
  have _ := hw
  have _ := hp
  have _ := hx
  have _ := he
  have h4 : runOk w s 500 = true := by
    simp only [runOk, rng, Bool.and_eq_true, decide_eq_true_eq]
    omega
  have hb := run_begin h4
  have hW := worldOk hw
  have hP := progOk hp
  have hk := hr.keeps hW.1 hW.2 (Int.le_refl 500) hP hb
  have hT := tree_of _ (goodE_tree he)
  have htr := run_word hr hP ⟨rfl, rfl⟩
  have hv := htr.2.2.2 rfl ⟨r'.ta, r'.tc⟩ List.prefix_rfl List.prefix_rfl
  have hl := htr.1.len
  have hat : ∀ x ∈ w.atoms, 0 ≤ x ∧ x ≤ atomsN t - 1 := by
    simp only [goodWorld, Bool.and_eq_true, List.all_eq_true, rng, decide_eq_true_eq] at hw
    intro x hx
    have := hw
    first | exact this.1.2 x hx | exact this.1.1.2 x hx | exact this.2.1 x hx | exact this.1.1.1.2 x hx
  have hrg := run_rng hW.1 hW.2 (Int.le_refl 500) hat hr hP hb ⟨fun x h => by
    simp at h
    subst h
    refine hat _ ?_
    rw [at0, getD_eq (by show (s : Int).toNat < _; omega)]
    exact List.getElem_mem _, fun x h => by simp at h⟩
  have hf := fol_st (sb := (s : Int)) hv.2 rfl
  refine ⟨hl, fun h10 => ?_, ?_, ⟨fun i hi => ?_, fun i hi => (hf.2.2 i (Nat.zero_le _) hi).2⟩, hf.2.1.symm, by have := hk.2.2 rfl; show 1 ≤ r'.steps; have h0 : (0 : Int) < r'.steps := this; omega, hk.1.le⟩
  · simp only [wordB, Bool.and_eq_true, decide_eq_true_eq, List.all_eq_true, rng]
    exact ⟨⟨h10, hl⟩, fun x hx => hrg.1 x hx, fun x hx => by have := hrg.2 x hx; omega⟩
  · rw [match_in hT (by show r'.tc.length + 1 = r'.ta.length; omega), prog_in (t := t) (a := a) (POk.form _ p (Nat.le_refl _) hP) (POk.conds (fun c hc => ⟨tree_of _ hc.2, hc.1⟩) _ p (Nat.le_refl _) hP)]
    exact hv.1
  · have hi : i ≤ r'.tc.length := hi
    rcases Nat.eq_or_lt_of_le hi with e | e
    · subst e
      have := hf.2.1
      rw [← this]
      exact htr.1.last.symm
    · exact (hf.2.2 i (Nat.zero_le _) e).1
theorem word_trace {c : Int} {r' : RS} (hr : Run w 500 p ⟨(s : Int), [at0 w (s : Int)], [], 0⟩ c r') (v : XWord) (hv : wordB t a v = true) (h1 : matchB v (progE p) = true) (h2 : FolW w v s) : c = 7 ∨ (c = 0 ∧ r'.st = stS w v s v.acts.length ∧ v = ⟨r'.ta, r'.tc⟩) := by
  have _ := hs
  have _ := hw
  have _ := hp
  have _ := hx
  have _ := he
  simp only [wordB, Bool.and_eq_true, decide_eq_true_eq] at hv
  have hT := tree_of _ (goodE_tree he)
  have hP := progOk hp
  rw [match_in hT (by omega), prog_in (t := t) (a := a) (POk.form _ p (Nat.le_refl _) hP) (POk.conds (fun c hc => ⟨tree_of _ hc.2, hc.1⟩) _ p (Nat.le_refl _) hP)] at h1
  have h0 : AtW w v s 0 ⟨(s : Int), [at0 w (s : Int)], [], 0⟩ := ⟨rfl, rfl, by
    have := h2.at_ 0 (Nat.zero_le _)
    show [at0 w (stS w v s 0)] = _
    rw [this]
    have hlen : 0 < v.atoms.length := by omega
    obtain ⟨va, vc⟩ := v
    cases va with
    | nil => simp at hlen
    | cons x l => rfl⟩
  rcases word_run (by omega) h2 h1 (Nat.le_refl _) h0 hr with h | ⟨h, h3⟩
  · exact .inl h
  · refine .inr ⟨h, h3.st, ?_⟩
    have e1 := h3.tc
    have e2 := h3.ta
    rw [List.take_of_length_le (by omega)] at e1 e2
    rw [e1, e2]
end
end Go.Proofs.YtaajacnceocpoaaGreat

namespace Go.Proofs.YtaajacnceocpoaaGreat
open Go Go.KA Go.Proofs
set_option maxHeartbeats 16000000
set_option maxRecDepth 100000
theorem SameWord_ok (v u : XWord) : CallF Tryz.prog 15 [.a 2 (encWord v), .a 2 (encWord u)] (B (eqv v.atoms u.atoms && eqv v.acts u.acts)) := by
  have c1 := l00Same_ok v.atoms u.atoms
  have c2 := l00Same_ok v.acts u.acts
  generalize eqv v.atoms u.atoms = b1 at c1 ⊢
  generalize eqv v.acts u.acts = b2 at c2 ⊢
  refine callF_of_vc htb hm Tryz.func15 rfl rfl rfl rfl (ann := fun _ => none) (gh := fun _ => false) ?_
  repeat' ((conv => whnf); first | (guard_target = Done _; refine Done.mk ?_) | (guard_target = Branch _ _ _; (first | apply Branch.dec | apply Branch.beq | apply Branch.bne | apply Branch.ndec | apply Branch.nb | apply Branch.mk) <;> intro h <;> (try simp only [List.length_map] at h) <;> (try omega) <;> (try contradiction)) | (guard_target = CallN _ 54 _ _ _ _; refine CallN.pure _ _ rfl (c1) rfl _ rfl ?_) | (guard_target = CallN _ 54 _ _ _ _; refine CallN.pure _ _ rfl (c2) rfl _ rfl ?_) | (guard_target = Need _ _; refine Need.mk (by first  | omega | (simp only [List.length_map]; omega)) ?_))
  all_goals first | rfl | trivial | (simp_all [normS, normV]; done)
def headW (x : XWord) (z : Int) : XWord := ⟨z :: x.atoms.drop 1, x.acts⟩
theorem headW_ok {t a : Int} {x : XWord} (h : wordB t a x = true) {z : Int} (hz : 0 ≤ z ∧ z ≤ atomsN t - 1) : wordB t a (headW x z) = true := by
  simp only [wordB, Bool.and_eq_true, decide_eq_true_eq, List.all_eq_true, headW] at h ⊢
  refine ⟨⟨decide_eq_true h.1.1, decide_eq_true (by simp; omega)⟩, fun y hy => ?_, h.2.2⟩
  rcases List.mem_cons.1 hy with rfl | hy
  · simp only [rng, Bool.and_eq_true, decide_eq_true_eq]; omega
  · exact h.2.1 y (List.mem_of_mem_drop hy)
theorem headW_some {x : XWord} {z : Int} : (headW x z).atoms.map eI = [eI z] ++ ((x.atoms.map eI).drop (1 : Int).toNat).take (((x.atoms.map eI).length : Int).toNat - (1 : Int).toNat) := by
  show (z :: x.atoms.drop 1).map eI = _
  rw [List.map_cons, List.map_drop, List.singleton_append]
  congr 1
  rw [List.take_of_length_le]
  · rfl
  · rw [List.length_drop]; simp
theorem headW_none {x : XWord} {z : Int} (h : x.atoms.length = 1) : (headW x z).atoms.map eI = [eI z] ++ [] := by
  show (z :: x.atoms.drop 1).map eI = _
  rw [List.drop_of_length_le (by omega)]
  rfl
theorem Runs_law (code more : List UInt8) : CallF Tryz.prog 3 [.c (.ro 1 (code.map eU8)), .c (.ro 1 (more.map eU8))] (B true) := by
  have lg := a2Long_ok code more
  by_cases hb : 3000 < code.length ∨ 3000 < more.length
  · rw [show (decide (3000 < code.length) || decide (3000 < more.length)) = true by simpa using hb] at lg
    refine callF_of_vc htb hm Tryz.func3 rfl rfl rfl rfl (ann := fun _ => none) (gh := fun _ => false) ?_
    repeat' ((conv => whnf); first | (guard_target = Done _; refine Done.mk ?_) | (guard_target = Fact _ _; refine Fact.mk fun hL => ?_; (try simp only [List.length_map, maxLen] at hL)) | (guard_target = Branch _ _ _; (first | apply Branch.dec | apply Branch.beq | apply Branch.bne | apply Branch.ndec | apply Branch.nb | apply Branch.mk) <;> intro h <;> (try simp only [List.length_map] at h) <;> (try omega) <;> (try contradiction)) | (guard_target = CallN _ 5 _ _ _ _; refine CallN.pure _ _ rfl (lg) rfl _ rfl ?_) | (guard_target = Arith _ _ _; refine Arith.fit (by apply wrap_fit <;> first | omega | (simp only [List.length_map]; omega)) ?_) | (guard_target = Arith _ _ _; refine Arith.fit (by decide) ?_) | (guard_target = Index _ _ _; first  | refine Index.mk _ (idx_map (by omega)) ?_) | (guard_target = Need (_ = true) _; refine Need.mk (by first | kernel_rfl | rfl) ?_) | (guard_target = LinkV _ _ _; refine LinkV.no ?_) | (guard_target = GhO _ _ _ _; refine GhO.go ?_) | (guard_target = Need _ _; refine Need.mk (by first  | omega | (simp only [List.length_map]; omega)) ?_))
    all_goals first | rfl | trivial
  rw [show (decide (3000 < code.length) || decide (3000 < more.length)) = false by simpa [Nat.not_lt] using hb] at lg
  have hc : code.length ≤ 3000 ∧ more.length ≤ 3000 := by omega
  have c1 := A2Prog_ok code hc.1
  have gi := a2sig_in code
  obtain ⟨gp, ge⟩ := a2prog_good code
  have bp := a2prog_bud code
  generalize a2prog code = X at c1 gi gp ge bp
  obtain ⟨⟨t, a⟩, p⟩ := X
  have hs := sig_good gi
  have c2 := A2World_ok gi more hc.2
  have hw := a2world_good gi more
  generalize a2world ⟨t, a⟩ more = w at c2 hw
  simp only [] at c1 gi gp ge bp hs c2 hw
  have hN : 1 ≤ w.atoms.length ∧ w.atoms.length ≤ 12 := by
    simp only [goodWorld, rng, Bool.and_eq_true, decide_eq_true_eq] at hw
    omega
  have c4 := ProgExpr_ok hs gp bp ge
  rw [encExpr_eq] at c4
  have hsb := sig_bounds hs
  have c7 := a2At_ok more hc.2 ((w.atoms.length : Nat) : Int) (by unfold I64; omega)
  obtain ⟨sa, sb⟩ := a2at_in more (n := ((w.atoms.length : Nat) : Int)) (by omega)
  obtain ⟨s, hs7⟩ : ∃ s : Nat, a2at more ((w.atoms.length : Nat) : Int) = (s : Int) := ⟨(a2at more ((w.atoms.length : Nat) : Int)).toNat, by omega⟩
  rw [hs7] at c7 sb
  have c7 := c7
  rw [show w.atoms.length = (w.atoms.map eI).length by simp] at c7
  have hsN : s < w.atoms.length := by omega
  have hW := worldOk hw
  have hT := tree_of _ (goodE_tree ge)
  have h4 : ∀ f : Int, 0 ≤ f → f ≤ 500 → runOk w s f = true := fun f h1 h2 => by
    simp only [runOk, rng, Bool.and_eq_true, decide_eq_true_eq]
    omega
  have hz : 0 ≤ w.atoms.getD s 0 ∧ w.atoms.getD s 0 ≤ atomsN t - 1 := by
    simp only [goodWorld, Bool.and_eq_true, List.all_eq_true, rng, decide_eq_true_eq] at hw
    exact hw.2.1 _ (by rw [getD_eq hsN]; exact List.getElem_mem _)
  have cA := A2Word_ok t a hsb.1 hsb.2 hT (goodE_nod ge) ge code hc.1
  have cM : ∀ v, wordB t a v = true → _ := fun v hv => Matches_ok hsb.1 hsb.2 v hv hT ge
  have cF : ∀ v, wordB t a v = true → ∀ R, _ := fun v hv R => FollowWord_ok hs hw v hv (s : Int) ⟨by omega, by omega⟩ R
  have cMr : ∀ (v : XWord) (rows : List (List CV)), wordB t a v = true → v.atoms.map eI = rows → CallF Tryz.prog 12 [.a 2 [J t, J a], .a 3 (toldE (progE p)), .a 2 [.ro 1 rows, .ro 1 (v.acts.map eI)]] (.tup [B (matchB v (progE p)), I 0]) := by
    rintro v _ hv rfl
    exact cM v hv
  have cFr : ∀ (v : XWord) (rows : List (List CV)) (R : SV), wordB t a v = true → v.atoms.map eI = rows → (FolW w v s → .tup [I (stS w v s v.acts.length), I 0] = R) → (¬ FolW w v s → .tup [I 0, I 4] = R) → CallF Tryz.prog 13 [.a 2 [J t, J a], .a 2 (encWorld w), I (s : Int), .a 2 [.ro 1 rows, .ro 1 (v.acts.map eI)]] R := by
    rintro v _ R hv rfl h1 h2
    exact cF v hv R h1 h2
  have cSr : ∀ (v u : XWord) (rows : List (List CV)), v.atoms.map eI = rows → CallF Tryz.prog 15 [.a 2 [.ro 1 rows, .ro 1 (v.acts.map eI)], .a 2 (encWord u)] (B (eqv v.atoms u.atoms && eqv v.acts u.acts)) := by
    rintro v u _ rfl
    exact SameWord_ok v u
  obtain ⟨c, r', hr⟩ := Run.ex hW.1 hW.2 (Int.le_refl 500) _ _ p ⟨(s : Int), [at0 w (s : Int)], [], 0⟩ (Nat.le_refl _) (Nat.le_refl _) (progOk gp) (run_begin (h4 500 (by omega) (by omega)))
  have hwt := word_trace hs hw gp hsN ge hr
  rcases run_code hr with rfl | hc4
  · have htw := trace_word hs hw gp hsN ge hr
    have e1 := implProg_run t a w p s 500 hs hw gp (h4 500 (by omega) (by omega)) hr
    have e2 := specProg_run t a w p s 500 bp hs hw gp (h4 500 (by omega) (by omega)) hr
    obtain ⟨c2', r2, hr2⟩ := Run.ex (fuel := r'.steps - 1) hW.1 hW.2 (by omega) _ _ p ⟨(s : Int), [at0 w (s : Int)], [], 0⟩ (Nat.le_refl _) (Nat.le_refl _) (progOk gp) (run_begin (h4 _ (by omega) (by omega)))
    have hc7 : c2' = 7 := (run_short2 hr rfl (by show (0 : Int) ≤ _; omega) hr2).2 (by omega)
    subst hc7
    have e3 := implProg_bad t a w p s (r'.steps - 1) hs hw gp (h4 _ (by omega) (by omega)) hr2 (by omega)
    have cM1 : r'.tc.length ≤ 10 → CallF Tryz.prog 12 [.a 2 [J t, J a], .a 3 (toldE (progE p)), .a 2 [.ro 1 (r'.ta.map eI), .ro 1 (r'.tc.map eI)]] (.tup [B true, I 0]) := fun h => by
      have := cM ⟨r'.ta, r'.tc⟩ (htw.2.1 h)
      rwa [htw.2.2.1] at this
    have cF1 : r'.tc.length ≤ 10 → CallF Tryz.prog 13 [.a 2 [J t, J a], .a 2 (encWorld w), I (s : Int), .a 2 [.ro 1 (r'.ta.map eI), .ro 1 (r'.tc.map eI)]] (.tup [I r'.st, I 0]) := fun h =>
      cF ⟨r'.ta, r'.tc⟩ (htw.2.1 h) _ (fun _ => by rw [← htw.2.2.2.2.1]) (fun h => absurd htw.2.2.2.1 h)
    clear cM cF
    generalize progE p = e at c4 cA cMr cM1 hwt
    obtain ⟨pk, pn, ⟨ck, cn, cs⟩, ks⟩ := p
    refine callF_of_vc htb hm Tryz.func3 rfl rfl rfl rfl (ann := fun _ => none) (gh := fun _ => false) ?_
    repeat' ((conv => whnf); first | (guard_target = Done _; refine Done.mk ?_) | (guard_target = Fact _ _; refine Fact.mk fun hL => ?_; (try simp only [List.length_map, maxLen] at hL)) | (guard_target = Branch _ _ _; (first | apply Branch.dec | apply Branch.beq | apply Branch.bne | apply Branch.ndec | apply Branch.nb | apply Branch.mk) <;> intro h <;> (try simp only [List.length_map] at h) <;> (try omega) <;> (try contradiction)) | (guard_target = CallN _ 5 _ _ _ _; refine CallN.pure _ _ rfl (lg) rfl _ rfl ?_) | (guard_target = CallN _ 6 _ _ _ _; refine CallN.gen [] _ _ _ rfl (c1) rfl rfl _ rfl ?_) | (guard_target = CallN _ 7 _ _ _ _; refine CallN.gen [] _ _ _ rfl (c2) rfl rfl _ rfl ?_) | (guard_target = CallN _ 8 _ _ _ _; refine CallN.pure _ _ rfl (c7) rfl _ rfl ?_) | (guard_target = CallN _ 11 _ _ _ _; refine CallN.gen [] _ _ _ rfl (c4) rfl rfl _ rfl ?_) | (guard_target = CallN _ 10 _ _ _ _; refine CallN.gen [] _ _ _ rfl (e1) rfl rfl _ rfl ?_) | (guard_target = CallN _ 9 _ _ _ _; refine CallN.gen [] _ _ _ rfl (e2) rfl rfl _ rfl ?_) | (guard_target = CallN _ 10 _ _ _ _; refine CallN.gen [] _ _ _ rfl (e3) rfl rfl _ rfl ?_) | (guard_target = CallN _ 12 _ _ _ _; refine CallN.pure _ _ rfl (cM1 (by omega)) rfl _ rfl ?_) | (guard_target = CallN _ 13 _ _ _ _; refine CallN.pure _ _ rfl (cF1 (by omega)) rfl _ rfl ?_) | (guard_target = CallN _ 12 _ _ _ _; refine CallN.pure _ _ rfl (cMr (headW x (w.atoms.getD s 0)) _ hH hE) rfl _ rfl ?_) | (guard_target = CallN _ 15 _ _ _ _; refine CallN.pure _ _ rfl (cSr (headW x (w.atoms.getD s 0)) ⟨r'.ta, r'.tc⟩ _ hE) rfl _ rfl ?_) | (guard_target = CallN _ 14 _ _ _ _; refine CallN.ex rfl [] _ _ _ _ rfl cA rfl rfl (fun x hx => ?_); have hxl := hx; simp only [wordB, Bool.and_eq_true, decide_eq_true_eq] at hxl; have hH := headW_ok hx hz) | (guard_target = SliceW _ _ _ _ _ _; ((rcases (show x.atoms.length = 1 ∨ 1 < x.atoms.length by omega) with h1 | h1) <;> first | (refine SliceW.none (by rw [List.length_map]; omega) ?_; have hE := headW_none (z := w.atoms.getD s 0) h1) | (refine SliceW.some (by rw [List.length_map]; omega) ?_; have hE := headW_some (x := x) (z := w.atoms.getD s 0)))) | (guard_target = CallN _ 13 _ _ _ _; ((rcases Classical.em (FolW w (headW x (w.atoms.getD s 0)) (s : Int)) with hq | hq) <;> first | (refine CallN.pure _ _ rfl (cFr (headW x (w.atoms.getD s 0)) _ _ hH hE (fun _ => rfl) (fun h => absurd hq h)) rfl _ rfl ?_) | (refine CallN.pure _ _ rfl (cFr (headW x (w.atoms.getD s 0)) _ _ hH hE (fun h => absurd h hq) (fun _ => rfl)) rfl _ rfl ?_))) | (guard_target = Arith _ _ _; refine Arith.fit (by apply wrap_fit <;> first | omega | (simp only [List.length_map]; omega)) ?_) | (guard_target = Arith _ _ _; refine Arith.fit (by decide) ?_) | (guard_target = Index _ _ _; first | refine Index.mk _ (idx_getD (l := w.atoms) (d := 0) (i := s) (by omega)) ?_ | refine Index.mk _ (idx_map (by omega)) ?_) | (guard_target = Need (_ = true) _; refine Need.mk (by first | kernel_rfl | rfl) ?_) | (guard_target = LinkV _ _ _; refine LinkV.no ?_) | (guard_target = GhO _ _ _ _; refine GhO.go ?_) | (guard_target = Need _ _; refine Need.mk (by first | ((simp only [List.length_map, List.length_cons, List.length_nil, List.length_append, List.length_drop, List.length_take, maxLen]; first | omega | (constructor <;> omega))) | omega | (simp only [List.length_map]; omega)) ?_))
    all_goals first | rfl | trivial | ((rcases hwt (headW x (w.atoms.getD s 0)) hH (by assumption) hq with h9 | ⟨h11, h9, h10⟩); (exfalso; omega); first | (exact absurd h9.symm h) | (rw [h10]; simp [normS, normV]; done))
  · have hc0 : ¬ c = 0 := by omega
    have e1 := implProg_bad t a w p s 500 hs hw gp (h4 500 (by omega) (by omega)) hr hc0
    have e2 := specProg_bad t a w p s 500 bp hs hw gp (h4 500 (by omega) (by omega)) hr hc0
    clear cM cF
    generalize progE p = e at c4 cA cMr hwt
    obtain ⟨pk, pn, ⟨ck, cn, cs⟩, ks⟩ := p
    refine callF_of_vc htb hm Tryz.func3 rfl rfl rfl rfl (ann := fun _ => none) (gh := fun _ => false) ?_
    repeat' ((conv => whnf); first | (guard_target = Done _; refine Done.mk ?_) | (guard_target = Fact _ _; refine Fact.mk fun hL => ?_; (try simp only [List.length_map, maxLen] at hL)) | (guard_target = Branch _ _ _; (first | apply Branch.dec | apply Branch.beq | apply Branch.bne | apply Branch.ndec | apply Branch.nb | apply Branch.mk) <;> intro h <;> (try simp only [List.length_map] at h) <;> (try omega) <;> (try contradiction)) | (guard_target = CallN _ 5 _ _ _ _; refine CallN.pure _ _ rfl (lg) rfl _ rfl ?_) | (guard_target = CallN _ 6 _ _ _ _; refine CallN.gen [] _ _ _ rfl (c1) rfl rfl _ rfl ?_) | (guard_target = CallN _ 7 _ _ _ _; refine CallN.gen [] _ _ _ rfl (c2) rfl rfl _ rfl ?_) | (guard_target = CallN _ 8 _ _ _ _; refine CallN.pure _ _ rfl (c7) rfl _ rfl ?_) | (guard_target = CallN _ 11 _ _ _ _; refine CallN.gen [] _ _ _ rfl (c4) rfl rfl _ rfl ?_) | (guard_target = CallN _ 10 _ _ _ _; refine CallN.gen [] _ _ _ rfl (e1) rfl rfl _ rfl ?_) | (guard_target = CallN _ 9 _ _ _ _; refine CallN.gen [] _ _ _ rfl (e2) rfl rfl _ rfl ?_) | (guard_target = CallN _ 12 _ _ _ _; refine CallN.pure _ _ rfl (cMr (headW x (w.atoms.getD s 0)) _ hH hE) rfl _ rfl ?_) | (guard_target = CallN _ 14 _ _ _ _; refine CallN.ex rfl [] _ _ _ _ rfl cA rfl rfl (fun x hx => ?_); have hxl := hx; simp only [wordB, Bool.and_eq_true, decide_eq_true_eq] at hxl; have hH := headW_ok hx hz) | (guard_target = SliceW _ _ _ _ _ _; ((rcases (show x.atoms.length = 1 ∨ 1 < x.atoms.length by omega) with h1 | h1) <;> first | (refine SliceW.none (by rw [List.length_map]; omega) ?_; have hE := headW_none (z := w.atoms.getD s 0) h1) | (refine SliceW.some (by rw [List.length_map]; omega) ?_; have hE := headW_some (x := x) (z := w.atoms.getD s 0)))) | (guard_target = CallN _ 13 _ _ _ _; ((rcases Classical.em (FolW w (headW x (w.atoms.getD s 0)) (s : Int)) with hq | hq) <;> first | (refine CallN.pure _ _ rfl (cFr (headW x (w.atoms.getD s 0)) _ _ hH hE (fun _ => rfl) (fun h => absurd hq h)) rfl _ rfl ?_) | (refine CallN.pure _ _ rfl (cFr (headW x (w.atoms.getD s 0)) _ _ hH hE (fun h => absurd h hq) (fun _ => rfl)) rfl _ rfl ?_))) | (guard_target = Arith _ _ _; refine Arith.fit (by apply wrap_fit <;> first | omega | (simp only [List.length_map]; omega)) ?_) | (guard_target = Arith _ _ _; refine Arith.fit (by decide) ?_) | (guard_target = Index _ _ _; first | refine Index.mk _ (idx_getD (l := w.atoms) (d := 0) (i := s) (by omega)) ?_ | refine Index.mk _ (idx_map (by omega)) ?_) | (guard_target = Need (_ = true) _; refine Need.mk (by first | kernel_rfl | rfl) ?_) | (guard_target = LinkV _ _ _; refine LinkV.no ?_) | (guard_target = GhO _ _ _ _; refine GhO.go ?_) | (guard_target = Need _ _; refine Need.mk (by first | ((simp only [List.length_map, List.length_cons, List.length_nil, List.length_append, List.length_drop, List.length_take, maxLen]; first | omega | (constructor <;> omega))) | omega | (simp only [List.length_map]; omega)) ?_))
    all_goals first | rfl | trivial | (exfalso; (rcases hwt (headW x (w.atoms.getD s 0)) hH (by assumption) hq with h9 | ⟨h11, _⟩) <;> omega)
end Go.Proofs.YtaajacnceocpoaaGreat
