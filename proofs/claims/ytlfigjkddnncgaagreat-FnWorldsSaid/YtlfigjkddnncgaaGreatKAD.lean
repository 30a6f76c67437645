/- Contracts of the runners of programs and flowcharts: how they begin, make a step, do an action. No conditions. -/
import Derived.Test.YtlfigjkddnncgaaGreatKAC
namespace Go.Proofs.YtlfigjkddnncgaaGreat
open Go Go.KA Go.Proofs
structure RS where
  st : Int
  ta : List Int
  tc : List Int
  steps : Int
abbrev ctI (w : XWorld) (fuel : Int) (r : RS) : List CV := [.ro 1 (w.atoms.map eI), .ro 1 (w.acts.map fun l => [.ro 1 (l.map eI)]), J r.st, .ows 2 1 (r.ta.map eI), .ows 2 1 (r.tc.map eI), J fuel, J r.steps]
abbrev ctS (w : XWorld) (fuel : Int) (r : RS) (code : Int) : List CV := [.rp 2 (encWorld w), J r.st, .ows 2 1 (r.ta.map eI), .ows 2 1 (r.tc.map eI), J r.steps, J fuel, J code]
def runOk (w : XWorld) (state fuel : Int) : Bool := rng 0 ((w.atoms.length : Int) - 1) state && rng 0 500 fuel
set_option maxHeartbeats 4000000
set_option maxRecDepth 100000
theorem isRun_ok (w : XWorld) (state fuel : Int) : CallF Tryz.prog 58 [.a 2 (encWorld w), I state, I fuel] (B (runOk w state fuel)) := by
  refine callF_of_vc htb hm Tryz.func58 rfl rfl rfl rfl (ann := fun _ => none) (gh := fun _ => false) ?_
  repeat' ((conv => whnf); first | (guard_target = Done _; refine Done.mk ?_; first | (rfl; done) | (simp_all [runOk, normS, normV]; done) | (simp_all [runOk, normS, normV]; omega; done) | (simp_all [runOk, normS, normV]; intros; omega; done) | (simp_all [-List.all_eq_true, -List.all_eq_false, runOk, normS, normV]; done) | (simp_all [-List.all_eq_true, -List.all_eq_false, runOk, normS, normV]; omega; done) | skip) | (guard_target = RetX _ _; refine RetX.mk ?_ ?_) | (guard_target = Fact _ _; refine Fact.mk fun hL => ?_; (try simp only [List.length_map, maxLen] at hL)) | (guard_target = Branch _ _ _; (first | refine Branch.dec ?_ ?_ | refine Branch.beq ?_ ?_ | refine Branch.bne ?_ ?_ | refine Branch.ndec ?_ ?_ | refine Branch.nb ?_ ?_ | refine Branch.mk ?_ ?_) <;> intro h <;> (try simp only [List.length_map] at h) <;> (try omega) <;> (try contradiction)) | (guard_target = CallN _ 72 _ _ _ _; refine CallN.pure _ _ rfl (within_ok _ _ _) rfl _ rfl ?_) | (guard_target = Arith _ _ _; refine Arith.fit (wrap_fit (by first | omega | (simp only [List.length_map]; omega)) (by first | omega | (simp only [List.length_map]; omega))) ?_) | (guard_target = Arith _ _ _; refine Arith.fit (by decide) ?_) | (guard_target = Index _ _ _; first  | refine Index.mk _ (idx_map (by omega)) ?_) | (guard_target = Need (_ = true) _; refine Need.mk (by first | kernel_rfl | rfl) ?_) | (guard_target = LinkV _ _ _; first  | refine LinkV.no ?_) | (guard_target = GhO _ _ _ _; refine GhO.go ?_) | (guard_target = Need _ _; refine Need.mk (by first  | omega | (simp only [List.length_map]; omega)) ?_))
def at0 (w : XWorld) (state : Int) : Int := w.atoms.getD state.toNat 0
theorem newRunner_ok (w : XWorld) (state fuel : Int) (h : runOk w state fuel = true) : CallX Tryz.prog 59 [.a 2 (encWorld w), I state, I fuel] [] (.c (.op (ctI w fuel ⟨state, [at0 w state], [], 0⟩))) := by
  have hb : 0 ≤ state ∧ state < w.atoms.length := by
    simp only [runOk, rng, Bool.and_eq_true, decide_eq_true_eq] at h
    omega
  refine callX_of_vc htb hm Tryz.func59 rfl rfl rfl rfl (ann := fun _ => none) (gh := fun _ => false) ?_
  repeat' ((conv => whnf); first | (guard_target = Done _; refine Done.mk ?_) | (guard_target = RetX _ _; refine RetX.mk ?_ ?_) | (guard_target = Fact _ _; refine Fact.mk fun hL => ?_; (try simp only [List.length_map, maxLen] at hL)) | (guard_target = Branch _ _ _; (first | refine Branch.dec ?_ ?_ | refine Branch.beq ?_ ?_ | refine Branch.bne ?_ ?_ | refine Branch.ndec ?_ ?_ | refine Branch.nb ?_ ?_ | refine Branch.mk ?_ ?_) <;> intro h <;> (try simp only [List.length_map] at h) <;> (try omega) <;> (try contradiction)) | (guard_target = Arith _ _ _; refine Arith.fit (wrap_fit (by first | omega | (simp only [List.length_map]; omega)) (by first | omega | (simp only [List.length_map]; omega))) ?_) | (guard_target = Arith _ _ _; refine Arith.fit (by decide) ?_) | (guard_target = Index _ _ _; first | refine Index.mk _ (idx_getD (d := 0) (i := state.toNat) (by omega)) ?_ | refine Index.mk _ (idx_map (by omega)) ?_) | (guard_target = Need (_ = true) _; refine Need.mk (by first | kernel_rfl | rfl) ?_) | (guard_target = LinkV _ _ _; first  | refine LinkV.no ?_) | (guard_target = GhO _ _ _ _; refine GhO.go ?_) | (guard_target = Need _ _; refine Need.mk (by first  | omega | (simp only [List.length_map]; omega)) ?_))
  all_goals first | rfl | trivial
/-! ### truth of conditions -/
def bitE (n atom : Int) : Bool := (IntKind.i64.wrap ((BitVec.ofInt 64 (atom.fdiv (2 ^ (min n.toNat 64))) &&& BitVec.ofInt 64 1).toNat)) == 1
mutual
def truthE : XExpr → Int → Bool
  | .mk k n kids, atom => if k = 2 then true else if k = 3 then bitE n atom else if k = 5 then !((truthL kids atom).getD 0 false) else if k = 6 then (truthL kids atom).getD 0 false || (truthL kids atom).getD 1 false else if k = 7 then (truthL kids atom).getD 0 false && (truthL kids atom).getD 1 false else false
def truthL : List XExpr → Int → List Bool
  | [], _ => []
  | x :: xs, atom => truthE x atom :: truthL xs atom
end
theorem truthL_map (atom : Int) : ∀ l : List XExpr, truthL l atom = l.map fun x => truthE x atom
  | [] => rfl
  | x :: xs => by simp only [truthL, List.map_cons]; rw [truthL_map atom xs]
theorem truthL_get {l : List XExpr} {i : Nat} (h : i < l.length) (atom : Int) : (truthL l atom).getD i false = truthE l[i] atom := by
  rw [truthL_map, List.getD_eq_getElem?_getD, List.getElem?_map, List.getElem?_eq_getElem h]
  rfl
theorem truthE_eq (e : XExpr) (atom : Int) : truthE e atom = if e.kind = 2 then true else if e.kind = 3 then bitE e.num atom else if e.kind = 5 then !((truthL e.kids atom).getD 0 false) else if e.kind = 6 then (truthL e.kids atom).getD 0 false || (truthL e.kids atom).getD 1 false else if e.kind = 7 then (truthL e.kids atom).getD 0 false && (truthL e.kids atom).getD 1 false else false := by
  cases e
  rfl
def okC (t a : Int) (e : XExpr) : Prop := condB e = true ∧ treeB t a e = true
theorem okC_len {t a : Int} {e : XExpr} (h : okC t a e) : (e.kids.length : Int) = kidsN e.kind ∧ (e.kind = 3 → 0 ≤ e.num) ∧ (1 ≤ e.kind ∧ e.kind ≤ 7 ∧ e.kind ≠ 4) := by
  have h1 := h.1
  have h2 := h.2
  rw [condB_eq] at h1
  rw [treeB_eq] at h2
  simp only [Bool.and_eq_true, rng, decide_eq_true_eq, beq_iff_eq, Bool.not_eq_true', beq_eq_false_iff_ne] at h1 h2
  refine ⟨h2.1, fun h3 => ?_, by omega⟩
  rw [if_pos h3] at h2
  have := h2.2
  simp only [Bool.and_eq_true, decide_eq_true_eq] at this
  exact this.1
theorem okC_kid {t a : Int} {e : XExpr} (h : okC t a e) {x : XExpr} (hx : x ∈ e.kids) : okC t a x := by
  have hl := okC_len h
  have h1 := h.1
  have h2 := h.2
  rw [condB_eq] at h1
  rw [treeB_eq] at h2
  simp only [Bool.and_eq_true, List.all_eq_true, beq_iff_eq] at h1 h2
  refine ⟨h1.2 x hx, ?_⟩
  by_cases h3 : e.kind = 3
  · have : kidsN e.kind = 0 := by rw [h3]; rfl
    have : e.kids = [] := List.length_eq_zero_iff.1 (by omega)
    rw [this] at hx; cases hx
  have h4 : ¬ e.kind = 4 := hl.2.2.2.2
  rw [if_neg h3, if_neg h4] at h2
  have := h2.2
  simp only [Bool.and_eq_true, List.all_eq_true] at this
  exact this.2.2 x hx
theorem kids5 (k : Int) : (k = 5 → kidsN k = 1) ∧ (k = 6 → kidsN k = 2) ∧ (k = 7 → kidsN k = 2) := by
  refine ⟨?_, ?_, ?_⟩ <;> rintro rfl <;> rfl
theorem u64_fit {z : Int} (h0 : 0 ≤ z) (h1 : z ≤ 18446744073709551615) : IntKind.u64.wrap z = z := by
  simp only [IntKind.wrap, IntKind.signed, IntKind.bits]
  simp
  omega
theorem truth_all (t a atom : Int) (e : XExpr) (h : okC t a e) (hx : ∀ x ∈ e.kids, CallF Tryz.prog 49 [.a 3 (encExpr x), I atom] (B (truthE x atom))) : CallF Tryz.prog 49 [.a 3 (toldE e), I atom] (B (truthE e atom)) := by
  have hl := okC_len h
  have hk := kids5 e.kind
  have g0 : ∀ h0 : 0 < e.kids.length, (truthL e.kids atom).getD 0 false = truthE e.kids[0] atom := fun h0 => truthL_get h0 atom
  have g1 : ∀ h1 : 1 < e.kids.length, (truthL e.kids atom).getD 1 false = truthE e.kids[1] atom := fun h1 => truthL_get h1 atom
  rw [truthE_eq]
  refine callF_of_vc htb hm Tryz.func49 rfl rfl rfl rfl (ann := fun _ => none) (gh := fun _ => false) ?_
  repeat' ((conv => whnf); first | (guard_target = Done _; refine Done.mk ?_; first | (simp [*]; rfl; done) | (simp_all [normS, normV]; done) | (rw [if_neg (show ¬ e.kind = 2 by omega), if_neg (show ¬ e.kind = 3 by omega), g0 (by omega), g1 (by omega)]; simp_all [normS, normV]; done) | (rw [if_neg (show ¬ e.kind = 2 by omega), if_neg (show ¬ e.kind = 3 by omega), g0 (by omega)]; simp_all [normS, normV]; done) | (rw [if_neg (show ¬ e.kind = 2 by omega), if_neg (show ¬ e.kind = 3 by omega), if_neg (show ¬ e.kind = 5 by omega), if_neg (show ¬ e.kind = 6 by omega), if_pos (show e.kind = 7 by omega), g0 (by omega), g1 (by omega)]; simp_all [normS, normV]; done) | skip) | (guard_target = RetX _ _; refine RetX.mk ?_ ?_) | (guard_target = Fact _ _; refine Fact.mk fun hL => ?_; (try simp only [List.length_map, maxLen] at hL)) | (guard_target = Branch _ _ _; (first | refine Branch.dec ?_ ?_ | refine Branch.beq ?_ ?_ | refine Branch.bne ?_ ?_ | refine Branch.ndec ?_ ?_ | refine Branch.nb ?_ ?_ | refine Branch.mk ?_ ?_) <;> intro h <;> (try simp only [List.length_map] at h) <;> (try omega) <;> (try contradiction)) | (guard_target = CallN _ 49 _ _ _ _; refine CallN.pure _ _ rfl (hx _ (List.getElem_mem (by omega))) rfl _ rfl ?_) | (guard_target = Arith _ _ _; refine Arith.fit (wrap_fit (by first | omega | (simp only [List.length_map]; omega)) (by first | omega | (simp only [List.length_map]; omega))) ?_) | (guard_target = Arith _ _ _; refine Arith.fit (by decide) ?_) | (guard_target = Index _ _ _; first | refine Index.mk _ (idx_map (i := 0) (by omega)) ?_ | refine Index.mk _ (idx_map (i := 1) (by omega)) ?_ | refine Index.mk _ (idx_map (by omega)) ?_) | (guard_target = Need (_ = true) _; refine Need.mk (by first | kernel_rfl | rfl) ?_) | (guard_target = LinkV _ _ _; first  | refine LinkV.no ?_) | (guard_target = GhO _ _ _ _; refine GhO.go ?_) | (guard_target = Need _ _; refine Need.mk (by first  | omega | (simp only [List.length_map]; omega)) ?_))
theorem truth_ok (t a atom : Int) (e : XExpr) (h : okC t a e) : CallF Tryz.prog 49 [.a 3 (encExpr e), I atom] (B (truthE e atom)) := by
  rw [encExpr_eq]
  exact truth_all t a atom e h fun x _hx => truth_ok t a atom x (okC_kid h _hx)
  termination_by SizeOf.sizeOf e
  decreasing_by
    have := List.sizeOf_lt_of_mem _hx
    cases e
    simp only [XExpr.mk.sizeOf_spec]
    show SizeOf.sizeOf x < _
    simp only [XExpr.kids] at this
    omega
theorem l01True_all (t a atom : Int) (ht : t ≤ 3) (e : XExpr) (h : okC t a e) (hx : ∀ x ∈ e.kids, CallF Tryz.prog 101 [.c (.rp 3 (encExpr x)), I atom] (B (truthE x atom))) : CallF Tryz.prog 101 [.c (.rp 3 (toldE e)), I atom] (B (truthE e atom)) := by
  have hl := okC_len h
  have hk := kids5 e.kind
  have g0 : ∀ h0 : 0 < e.kids.length, (truthL e.kids atom).getD 0 false = truthE e.kids[0] atom := fun h0 => truthL_get h0 atom
  have g1 : ∀ h1 : 1 < e.kids.length, (truthL e.kids atom).getD 1 false = truthE e.kids[1] atom := fun h1 => truthL_get h1 atom
  have h3 : e.kind = 3 → e.num ≤ 2 := by
    intro h3
    have := h.2
    rw [treeB_eq] at this
    simp only [h3, Bool.and_eq_true, rng, decide_eq_true_eq, beq_iff_eq, if_true] at this
    have := this.2
    omega
  rw [truthE_eq]
  refine callF_of_vc htb hm Tryz.func101 rfl rfl rfl rfl (ann := fun _ => none) (gh := fun _ => false) ?_
  repeat' ((conv => whnf); first | (guard_target = Done _; refine Done.mk ?_; first | (simp [*]; rfl; done) | (simp_all [normS, normV]; done) | (rw [if_neg (show ¬ e.kind = 2 by omega), if_neg (show ¬ e.kind = 3 by omega), g0 (by omega), g1 (by omega)]; simp_all [normS, normV]; done) | (rw [if_neg (show ¬ e.kind = 2 by omega), if_neg (show ¬ e.kind = 3 by omega), g0 (by omega)]; simp_all [normS, normV]; done) | (rw [if_neg (show ¬ e.kind = 2 by omega), if_neg (show ¬ e.kind = 3 by omega), if_neg (show ¬ e.kind = 5 by omega), if_neg (show ¬ e.kind = 6 by omega), if_pos (show e.kind = 7 by omega), g0 (by omega), g1 (by omega)]; simp_all [normS, normV]; done) | skip) | (guard_target = RetX _ _; refine RetX.mk ?_ ?_) | (guard_target = Fact _ _; refine Fact.mk fun hL => ?_; (try simp only [List.length_map, maxLen] at hL)) | (guard_target = Branch _ _ _; (first | refine Branch.dec ?_ ?_ | refine Branch.beq ?_ ?_ | refine Branch.bne ?_ ?_ | refine Branch.ndec ?_ ?_ | refine Branch.nb ?_ ?_ | refine Branch.mk ?_ ?_) <;> intro h <;> (try simp only [List.length_map] at h) <;> (try omega) <;> (try contradiction)) | (guard_target = CallN _ 101 _ _ _ _; refine CallN.pure _ _ rfl (hx _ (List.getElem_mem (by omega))) rfl _ rfl ?_) | (guard_target = Arith IntKind.u64 _ _; refine Arith.fit (u64_fit (by omega) (by omega)) ?_) | (guard_target = Arith _ _ _; refine Arith.fit (wrap_fit (by first | omega | (simp only [List.length_map]; omega)) (by first | omega | (simp only [List.length_map]; omega))) ?_) | (guard_target = Arith _ _ _; refine Arith.fit (by decide) ?_) | (guard_target = Index _ _ _; first | refine Index.mk _ (idx_map (i := 0) (by omega)) ?_ | refine Index.mk _ (idx_map (i := 1) (by omega)) ?_ | refine Index.mk _ (idx_map (by omega)) ?_) | (guard_target = Need (_ = true) _; refine Need.mk (by first | kernel_rfl | rfl) ?_) | (guard_target = LinkV _ _ _; first  | refine LinkV.no ?_) | (guard_target = GhO _ _ _ _; refine GhO.go ?_) | (guard_target = Need _ _; refine Need.mk (by first  | omega | (simp only [List.length_map]; omega)) ?_))
theorem l01True_ok (t a atom : Int) (ht : t ≤ 3) (e : XExpr) (h : okC t a e) : CallF Tryz.prog 101 [.c (.rp 3 (encExpr e)), I atom] (B (truthE e atom)) := by
  rw [encExpr_eq]
  exact l01True_all t a atom ht e h fun x _hx => l01True_ok t a atom ht x (okC_kid h _hx)
  termination_by SizeOf.sizeOf e
  decreasing_by
    have := List.sizeOf_lt_of_mem _hx
    cases e
    simp only [XExpr.mk.sizeOf_spec]
    show SizeOf.sizeOf x < _
    simp only [XExpr.kids] at this
    omega
end Go.Proofs.YtlfigjkddnncgaaGreat

namespace Go.Proofs.YtlfigjkddnncgaaGreat
open Go Go.KA Go.Proofs
set_option maxHeartbeats 4000000
set_option maxRecDepth 100000
abbrev more (r : RS) : RS := ⟨r.st, r.ta, r.tc, r.steps + 1⟩
theorem stepI_stop (w : XWorld) (fuel : Int) (r : RS) (h : r.steps = fuel) : CallX Tryz.prog 125 [.c (.op (ctI w fuel r))] [some [.op (ctI w fuel r)]] (I 7) := by
  refine callX_of_vc htb hm Tryz.func125 rfl rfl rfl rfl (ann := fun _ => none) (gh := fun _ => false) ?_
  repeat' ((conv => whnf); first | (guard_target = Done _; refine Done.mk ?_) | (guard_target = RetX _ _; refine RetX.mk ?_ ?_) | (guard_target = Fact _ _; refine Fact.mk fun hL => ?_; (try simp only [List.length_map, maxLen] at hL)) | (guard_target = Branch _ _ _; (first | refine Branch.dec ?_ ?_ | refine Branch.beq ?_ ?_ | refine Branch.bne ?_ ?_ | refine Branch.ndec ?_ ?_ | refine Branch.nb ?_ ?_ | refine Branch.mk ?_ ?_) <;> intro h <;> (try simp only [List.length_map] at h) <;> (try omega) <;> (try contradiction)) | (guard_target = Arith _ _ _; refine Arith.fit (wrap_fit (by first | omega | (simp only [List.length_map]; omega)) (by first | omega | (simp only [List.length_map]; omega))) ?_) | (guard_target = Arith _ _ _; refine Arith.fit (by decide) ?_) | (guard_target = Index _ _ _; first  | refine Index.mk _ (idx_map (by omega)) ?_) | (guard_target = Need (_ = true) _; refine Need.mk (by first | kernel_rfl | rfl) ?_) | (guard_target = LinkV _ _ _; first  | refine LinkV.no ?_) | (guard_target = GhO _ _ _ _; refine GhO.go ?_) | (guard_target = Need _ _; refine Need.mk (by first  | omega | (simp only [List.length_map]; omega)) ?_))
  all_goals first | rfl | exact ⟨rfl, trivial⟩
theorem stepI_go (w : XWorld) (fuel : Int) (r : RS) (h : ¬ r.steps = fuel) (hb : 0 ≤ r.steps ∧ r.steps ≤ 1000) : CallX Tryz.prog 125 [.c (.op (ctI w fuel r))] [some [.op (ctI w fuel (more r))]] (I 0) := by
  refine callX_of_vc htb hm Tryz.func125 rfl rfl rfl rfl (ann := fun _ => none) (gh := fun _ => false) ?_
  repeat' ((conv => whnf); first | (guard_target = Done _; refine Done.mk ?_) | (guard_target = RetX _ _; refine RetX.mk ?_ ?_) | (guard_target = Fact _ _; refine Fact.mk fun hL => ?_; (try simp only [List.length_map, maxLen] at hL)) | (guard_target = Branch _ _ _; (first | refine Branch.dec ?_ ?_ | refine Branch.beq ?_ ?_ | refine Branch.bne ?_ ?_ | refine Branch.ndec ?_ ?_ | refine Branch.nb ?_ ?_ | refine Branch.mk ?_ ?_) <;> intro h <;> (try simp only [List.length_map] at h) <;> (try omega) <;> (try contradiction)) | (guard_target = Arith _ _ _; refine Arith.fit (wrap_fit (by first | omega | (simp only [List.length_map]; omega)) (by first | omega | (simp only [List.length_map]; omega))) ?_) | (guard_target = Arith _ _ _; refine Arith.fit (by decide) ?_) | (guard_target = Index _ _ _; first  | refine Index.mk _ (idx_map (by omega)) ?_) | (guard_target = Need (_ = true) _; refine Need.mk (by first | kernel_rfl | rfl) ?_) | (guard_target = LinkV _ _ _; first  | refine LinkV.no ?_) | (guard_target = GhO _ _ _ _; refine GhO.go ?_) | (guard_target = Need _ _; refine Need.mk (by first  | omega | (simp only [List.length_map]; omega)) ?_))
  all_goals first | rfl | exact ⟨rfl, trivial⟩
def nxt (w : XWorld) (r : RS) (act : Int) : Int := (w.acts.getD act.toNat []).getD r.st.toNat 0
abbrev done (w : XWorld) (r : RS) (act : Int) : RS := ⟨nxt w r act, r.ta ++ [at0 w (nxt w r act)], r.tc ++ [act], r.steps⟩
structure StOk (w : XWorld) (r : RS) : Prop where
  st : 0 ≤ r.st ∧ r.st < w.atoms.length
  steps : 0 ≤ r.steps ∧ r.steps ≤ 1000
  ta : r.ta.length ≤ 10000 + r.steps.toNat
  tc : r.tc.length ≤ 10000 + r.steps.toNat
structure WOk (w : XWorld) : Prop where
  row : ∀ l ∈ w.acts, l.length = w.atoms.length ∧ ∀ x ∈ l, -1 ≤ x ∧ x < w.atoms.length
theorem nxt_b {w : XWorld} {r : RS} {act : Int} (hw : WOk w) (hr : StOk w r) (ha : 0 ≤ act ∧ act < w.acts.length) : (w.acts.getD act.toNat []).length = w.atoms.length ∧ -1 ≤ nxt w r act ∧ nxt w r act < w.atoms.length := by
  have h1 : act.toNat < w.acts.length := by omega
  have hst := hr.st
  have h2 := hw.row _ (List.getElem_mem h1)
  unfold nxt
  rw [getD_eq h1]
  refine ⟨h2.1, ?_⟩
  have h3 : r.st.toNat < w.acts[act.toNat].length := by omega
  rw [getD_eq h3]
  exact h2.2 _ (List.getElem_mem h3)
theorem do_bad (w : XWorld) (fuel act : Int) (r : RS) (hw : WOk w) (hr : StOk w r) (ha : 0 ≤ act ∧ act < w.acts.length) (h : nxt w r act < 0) : CallX Tryz.prog 126 [.c (.op (ctI w fuel r)), I act] [some [.op (ctI w fuel r)]] (I 4) := by
  have hn := nxt_b hw hr ha
  have hst := hr.st
  unfold nxt at h hn
  refine callX_of_vc htb hm Tryz.func126 rfl rfl rfl rfl (ann := fun _ => none) (gh := fun _ => false) ?_
  repeat' ((conv => whnf); first | (guard_target = Done _; refine Done.mk ?_) | (guard_target = RetX _ _; refine RetX.mk ?_ ?_) | (guard_target = Fact _ _; refine Fact.mk fun hL => ?_; (try simp only [List.length_map, maxLen] at hL)) | (guard_target = Branch _ _ _; (first | refine Branch.dec ?_ ?_ | refine Branch.beq ?_ ?_ | refine Branch.bne ?_ ?_ | refine Branch.ndec ?_ ?_ | refine Branch.nb ?_ ?_ | refine Branch.mk ?_ ?_) <;> intro h <;> (try simp only [List.length_map] at h) <;> (try omega) <;> (try contradiction)) | (guard_target = Arith _ _ _; refine Arith.fit (wrap_fit (by first | omega | (simp only [List.length_map]; omega)) (by first | omega | (simp only [List.length_map]; omega))) ?_) | (guard_target = Arith _ _ _; refine Arith.fit (by decide) ?_) | (guard_target = Index _ _ _; first | refine Index.mk _ (idx_getD (d := []) (i := act.toNat) (by omega)) ?_ | refine Index.mk _ (idx_getD (d := 0) (i := r.st.toNat) (by omega)) ?_ | refine Index.mk _ (idx_map (by omega)) ?_) | (guard_target = Need (_ = true) _; refine Need.mk (by first | kernel_rfl | rfl) ?_) | (guard_target = LinkV _ _ _; first  | refine LinkV.no ?_) | (guard_target = GhO _ _ _ _; refine GhO.go ?_) | (guard_target = Need _ _; refine Need.mk (by first  | omega | (simp only [List.length_map]; omega)) ?_))
  all_goals first | rfl | exact ⟨rfl, trivial⟩
theorem ctI_done (w : XWorld) (fuel act : Int) (r : RS) : ctI w fuel (done w r act) = [.ro 1 (w.atoms.map eI), .ro 1 (w.acts.map fun l => [.ro 1 (l.map eI)]), J (nxt w r act), .ows 2 1 (r.ta.map eI ++ [eI (at0 w (nxt w r act))]), .ows 2 1 (r.tc.map eI ++ [eI act]), J fuel, J r.steps] := by
  simp only [ctI, done, List.map_append, List.map_cons, List.map_nil]
theorem do_go (w : XWorld) (fuel act : Int) (r : RS) (hw : WOk w) (hr : StOk w r) (ha : 0 ≤ act ∧ act < w.acts.length) (h : ¬ nxt w r act < 0) : CallX Tryz.prog 126 [.c (.op (ctI w fuel r)), I act] [some [.op (ctI w fuel (done w r act))]] (I 0) := by
  have hn := nxt_b hw hr ha
  have hst := hr.st
  have hta := hr.ta
  have htc := hr.tc
  have hss := hr.steps
  rw [ctI_done]
  unfold nxt at h hn ⊢
  refine callX_of_vc htb hm Tryz.func126 rfl rfl rfl rfl (ann := fun _ => none) (gh := fun _ => false) ?_
  repeat' ((conv => whnf); first | (guard_target = Done _; refine Done.mk ?_) | (guard_target = RetX _ _; refine RetX.mk ?_ ?_) | (guard_target = Fact _ _; refine Fact.mk fun hL => ?_; (try simp only [List.length_map, maxLen] at hL)) | (guard_target = Branch _ _ _; (first | refine Branch.dec ?_ ?_ | refine Branch.beq ?_ ?_ | refine Branch.bne ?_ ?_ | refine Branch.ndec ?_ ?_ | refine Branch.nb ?_ ?_ | refine Branch.mk ?_ ?_) <;> intro h <;> (try simp only [List.length_map] at h) <;> (try omega) <;> (try contradiction)) | (guard_target = Arith _ _ _; refine Arith.fit (wrap_fit (by first | omega | (simp only [List.length_map]; omega)) (by first | omega | (simp only [List.length_map]; omega))) ?_) | (guard_target = Arith _ _ _; refine Arith.fit (by decide) ?_) | (guard_target = Index _ _ _; first | refine Index.mk _ (idx_getD (d := []) (i := act.toNat) (by omega)) ?_ | refine Index.mk _ (idx_getD (d := 0) (i := r.st.toNat) (by omega)) ?_ | refine Index.mk _ (idx_getD (d := 0) (i := ((w.acts.getD act.toNat []).getD r.st.toNat 0).toNat) (by omega)) ?_ | refine Index.mk _ (idx_map (by omega)) ?_) | (guard_target = Need (_ = true) _; refine Need.mk (by first | kernel_rfl | rfl) ?_) | (guard_target = LinkV _ _ _; first  | refine LinkV.no ?_) | (guard_target = GhO _ _ _ _; refine GhO.go ?_) | (guard_target = Need _ _; refine Need.mk (by first | (simp only [List.length_map, List.length_cons, List.length_nil, maxLen]; omega) | omega | (simp only [List.length_map]; omega)) ?_))
  all_goals first | rfl | exact ⟨rfl, trivial⟩
theorem holdsI_ok (t a : Int) (w : XWorld) (fuel : Int) (r : RS) (hr : StOk w r) (e : XExpr) (h : okC t a e) : CallX Tryz.prog 127 [.c (.op (ctI w fuel r)), .a 3 (encExpr e)] [some [.op (ctI w fuel r)], none] (B (truthE e (at0 w r.st))) := by
  have hst := hr.st
  refine callX_of_vc htb hm Tryz.func127 rfl rfl rfl rfl (ann := fun _ => none) (gh := fun _ => false) ?_
  repeat' ((conv => whnf); first | (guard_target = Done _; refine Done.mk ?_) | (guard_target = RetX _ _; refine RetX.mk ?_ ?_) | (guard_target = Fact _ _; refine Fact.mk fun hL => ?_; (try simp only [List.length_map, maxLen] at hL)) | (guard_target = Branch _ _ _; (first | refine Branch.dec ?_ ?_ | refine Branch.beq ?_ ?_ | refine Branch.bne ?_ ?_ | refine Branch.ndec ?_ ?_ | refine Branch.nb ?_ ?_ | refine Branch.mk ?_ ?_) <;> intro h <;> (try simp only [List.length_map] at h) <;> (try omega) <;> (try contradiction)) | (guard_target = CallN _ 49 _ _ _ _; refine CallN.pure _ _ rfl (truth_ok t a _ e h) rfl _ rfl ?_) | (guard_target = Arith _ _ _; refine Arith.fit (wrap_fit (by first | omega | (simp only [List.length_map]; omega)) (by first | omega | (simp only [List.length_map]; omega))) ?_) | (guard_target = Arith _ _ _; refine Arith.fit (by decide) ?_) | (guard_target = Index _ _ _; first | refine Index.mk _ (idx_getD (d := 0) (i := r.st.toNat) (by omega)) ?_ | refine Index.mk _ (idx_map (by omega)) ?_) | (guard_target = Need (_ = true) _; refine Need.mk (by first | kernel_rfl | rfl) ?_) | (guard_target = LinkV _ _ _; first  | refine LinkV.no ?_) | (guard_target = GhO _ _ _ _; refine GhO.go ?_) | (guard_target = Need _ _; refine Need.mk (by first  | omega | (simp only [List.length_map]; omega)) ?_))
  all_goals first | rfl | exact ⟨rfl, trivial⟩
abbrev noneT (code : Int) : SV := .tup [I 0, .a 2 [.ows 2 1 [], .ows 2 1 []], I 0, I code]
abbrev runT (r : RS) : SV := .tup [I r.st, .a 2 [.ows 2 1 (r.ta.map eI), .ows 2 1 (r.tc.map eI)], I r.steps, I 0]
theorem result_bad (w : XWorld) (fuel code : Int) (r : RS) (h : ¬ code = 0) : CallX Tryz.prog 60 [.c (.op (ctI w fuel r)), I code] [] (noneT code) := by
  refine callX_of_vc htb hm Tryz.func60 rfl rfl rfl rfl (ann := fun _ => none) (gh := fun _ => false) ?_
  repeat' ((conv => whnf); first | (guard_target = Done _; refine Done.mk ?_) | (guard_target = RetX _ _; refine RetX.mk ?_ ?_) | (guard_target = Fact _ _; refine Fact.mk fun hL => ?_; (try simp only [List.length_map, maxLen] at hL)) | (guard_target = Branch _ _ _; (first | refine Branch.dec ?_ ?_ | refine Branch.beq ?_ ?_ | refine Branch.bne ?_ ?_ | refine Branch.ndec ?_ ?_ | refine Branch.nb ?_ ?_ | refine Branch.mk ?_ ?_) <;> intro h <;> (try simp only [List.length_map] at h) <;> (try omega) <;> (try contradiction)) | (guard_target = Arith _ _ _; refine Arith.fit (wrap_fit (by first | omega | (simp only [List.length_map]; omega)) (by first | omega | (simp only [List.length_map]; omega))) ?_) | (guard_target = Arith _ _ _; refine Arith.fit (by decide) ?_) | (guard_target = Index _ _ _; first  | refine Index.mk _ (idx_map (by omega)) ?_) | (guard_target = Need (_ = true) _; refine Need.mk (by first | kernel_rfl | rfl) ?_) | (guard_target = LinkV _ _ _; first  | refine LinkV.no ?_) | (guard_target = GhO _ _ _ _; refine GhO.go ?_) | (guard_target = Need _ _; refine Need.mk (by first  | omega | (simp only [List.length_map]; omega)) ?_))
  all_goals first | rfl | trivial
theorem result_ok (w : XWorld) (fuel : Int) (r : RS) : CallX Tryz.prog 60 [.c (.op (ctI w fuel r)), I 0] [] (runT r) := by
  refine callX_of_vc htb hm Tryz.func60 rfl rfl rfl rfl (ann := fun _ => none) (gh := fun _ => false) ?_
  repeat' ((conv => whnf); first | (guard_target = Done _; refine Done.mk ?_) | (guard_target = RetX _ _; refine RetX.mk ?_ ?_) | (guard_target = Fact _ _; refine Fact.mk fun hL => ?_; (try simp only [List.length_map, maxLen] at hL)) | (guard_target = Branch _ _ _; (first | refine Branch.dec ?_ ?_ | refine Branch.beq ?_ ?_ | refine Branch.bne ?_ ?_ | refine Branch.ndec ?_ ?_ | refine Branch.nb ?_ ?_ | refine Branch.mk ?_ ?_) <;> intro h <;> (try simp only [List.length_map] at h) <;> (try omega) <;> (try contradiction)) | (guard_target = Arith _ _ _; refine Arith.fit (wrap_fit (by first | omega | (simp only [List.length_map]; omega)) (by first | omega | (simp only [List.length_map]; omega))) ?_) | (guard_target = Arith _ _ _; refine Arith.fit (by decide) ?_) | (guard_target = Index _ _ _; first  | refine Index.mk _ (idx_map (by omega)) ?_) | (guard_target = Need (_ = true) _; refine Need.mk (by first | kernel_rfl | rfl) ?_) | (guard_target = LinkV _ _ _; first  | refine LinkV.no ?_) | (guard_target = GhO _ _ _ _; refine GhO.go ?_) | (guard_target = Need _ _; refine Need.mk (by first  | omega | (simp only [List.length_map]; omega)) ?_))
  all_goals first | rfl | trivial
end Go.Proofs.YtlfigjkddnncgaaGreat

namespace Go.Proofs.YtlfigjkddnncgaaGreat
open Go Go.KA Go.Proofs
set_option maxHeartbeats 8000000
set_option maxRecDepth 100000
theorem condG_ok {t a : Int} {e : XExpr} (h : condG t a e = true) : okC t a e := by
  simp only [condG, goodE, Bool.and_eq_true] at h
  exact ⟨h.2, h.1.2.2⟩
section
variable {t a : Int} {w : XWorld} {fuel : Int}  {R : Int × RS} {p : Int} {r : RS}
theorem StOk.inc (h : StOk w r) (hs : r.steps < 1000) : StOk w (more r) := by
  obtain ⟨h1, h2, h3, h4⟩ := h
  exact ⟨h1, by show 0 ≤ r.steps + 1 ∧ r.steps + 1 ≤ 1000; omega, by show r.ta.length ≤ 10000 + (r.steps + 1).toNat; omega, by show r.tc.length ≤ 10000 + (r.steps + 1).toNat; omega⟩
theorem StOk.fin (hw : WOk w) {act : Int} (h : StOk w r) (hs : r.steps < 1000) (ha : 0 ≤ act ∧ act < w.acts.length) (hn : ¬ nxt w (more r) act < 0) : StOk w (done w (more r) act) := by
  have hb := nxt_b hw (h.inc hs) ha
  obtain ⟨h1, h2, h3, h4⟩ := h
  exact ⟨by show 0 ≤ nxt w (more r) act ∧ nxt w (more r) act < w.atoms.length; omega, by show 0 ≤ r.steps + 1 ∧ r.steps + 1 ≤ 1000; omega, by show (r.ta ++ [_]).length ≤ 10000 + (r.steps + 1).toNat; rw [List.length_append, List.length_singleton]; omega, by show (r.tc ++ [_]).length ≤ 10000 + (r.steps + 1).toNat; rw [List.length_append, List.length_singleton]; omega⟩
end
theorem holdsI_ok' (t a : Int) (w : XWorld) (fuel : Int) (r : RS) (hr : StOk w r) (e : XExpr) (h : okC t a e) : CallX Tryz.prog 127 [.c (.op (ctI w fuel r)), .a 3 (toldE e)] [some [.op (ctI w fuel r)], none] (B (truthE e (at0 w r.st))) := by
  have := holdsI_ok t a w fuel r hr e h
  rwa [encExpr_eq] at this
end Go.Proofs.YtlfigjkddnncgaaGreat

namespace Go.Proofs.YtlfigjkddnncgaaGreat
open Go Go.KA Go.Proofs
set_option maxHeartbeats 8000000
set_option maxRecDepth 100000
end Go.Proofs.YtlfigjkddnncgaaGreat
