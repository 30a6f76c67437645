/- Contracts of the functions that look whether lists of expressions, steps, claims and proofs are valid. No conditions. -/
import Derived.Test.YtmpcfplelpdbhaaGreatXa
import Derived.Test.YtmpcfplelpdbhaaGreatEngX
namespace Go.Proofs.YtmpcfplelpdbhaaGreat
open Go Go.KA Go.Proofs
set_option maxHeartbeats 16000000
set_option maxRecDepth 100000
theorem sig_bounds {t a : Int} (h : goodSig t a = true) : (0 ≤ t ∧ t ≤ 3) ∧ (0 ≤ a ∧ a ≤ 4) := by
  simp only [goodSig, rng, Bool.and_eq_true, decide_eq_true_eq] at h
  omega
theorem isExpr_ok (t a : Int) (ht : 0 ≤ t ∧ t ≤ 3) (ha : 0 ≤ a ∧ a ≤ 4) (e : XExpr) : CallF Tryz.prog 164 [.a 2 [J t, J a], .a 3 (encExpr e)] (B (goodE t a e)) := by
  rw [← shE_good]
  refine callF_of_vc htb hm Tryz.func164 rfl rfl rfl rfl (ann := fun _ => none) (gh := fun _ => false) ?_
  repeat' ((conv => whnf); first | (guard_target = Done _; refine Done.mk ?_; first | (rfl; done) | skip) | (guard_target = RetX _ _; refine RetX.mk ?_ ?_) | (guard_target = Fact _ _; refine Fact.mk fun hL => ?_; (try simp only [List.length_map, maxLen] at hL)) | (guard_target = Branch _ _ _; (first | refine Branch.dec ?_ ?_ | refine Branch.beq ?_ ?_ | refine Branch.bne ?_ ?_ | refine Branch.ndec ?_ ?_ | refine Branch.nb ?_ ?_ | refine Branch.mk ?_ ?_) <;> intro h <;> (try simp only [List.length_map] at h) <;> (try omega) <;> (try contradiction)) | (guard_target = CallN _ 213 _ _ _ _; refine CallN.pure _ _ rfl (shaped_ok t a ht ha e 200 40 (by omega) (by omega)) rfl _ rfl ?_) | (guard_target = Arith _ _ _; refine Arith.fit (wrap_fit (by first | omega | (simp only [List.length_map]; omega)) (by first | omega | (simp only [List.length_map]; omega))) ?_) | (guard_target = Arith _ _ _; refine Arith.fit (by decide) ?_) | (guard_target = Index _ _ _; first  | refine Index.mk _ (idx_map (by omega)) ?_) | (guard_target = Need (_ = true) _; refine Need.mk (by first | kernel_rfl | rfl) ?_) | (guard_target = LinkV _ _ _; first  | refine LinkV.no ?_) | (guard_target = GhO _ _ _ _; refine GhO.go ?_) | (guard_target = Need _ _; refine Need.mk (by first  | omega | (simp only [List.length_map]; omega)) ?_))
theorem l01Ok_ok (t a : Int) (e : XExpr) (hl : budExpr e ≤ 1048576) : CallF Tryz.prog 148 [.a 2 [J t, J a], .c (.rp 3 (encExpr e))] (B (goodSig t a && goodE t a e)) := by
  refine callF_of_vc htb hm Tryz.func148 rfl rfl rfl rfl (ann := fun _ => none) (gh := fun _ => false) ?_
  repeat' ((conv => whnf); first | (guard_target = Done _; refine Done.mk ?_; first | (rfl; done) | (simp_all [goodE, normS, normV]; done) | (simp_all [goodE, normS, normV]; omega; done) | (simp_all [goodE, normS, normV]; intros; omega; done) | (simp_all [-List.all_eq_true, -List.all_eq_false, goodE, normS, normV]; done) | (simp_all [-List.all_eq_true, -List.all_eq_false, goodE, normS, normV]; omega; done) | skip) | (guard_target = RetX _ _; refine RetX.mk ?_ ?_) | (guard_target = Fact _ _; refine Fact.mk fun hL => ?_; (try simp only [List.length_map, maxLen] at hL)) | (guard_target = Branch _ _ _; (first | refine Branch.dec ?_ ?_ | refine Branch.beq ?_ ?_ | refine Branch.bne ?_ ?_ | refine Branch.ndec ?_ ?_ | refine Branch.nb ?_ ?_ | refine Branch.mk ?_ ?_) <;> intro h <;> (try simp only [List.length_map] at h) <;> (try omega) <;> (try contradiction)) | (guard_target = CallN _ 86 _ _ _ _; refine CallN.pure _ _ rfl (l01Sig_ok t a) rfl _ rfl ?_) | (guard_target = CallN _ 202 _ _ _ _; refine CallN.pure _ _ rfl (l01Left_ok e 200 (by omega) (by omega)) rfl _ rfl ?_) | (guard_target = CallN _ 203 _ _ _ _; refine CallN.pure _ _ rfl (l01Depth_ok e hl) rfl _ rfl ?_) | (guard_target = CallN _ 204 _ _ _ _; refine CallN.pure _ _ rfl (l01Tree_ok t a (sig_bounds ‹_›).1 (sig_bounds ‹_›).2 e) rfl _ rfl ?_) | (guard_target = Arith _ _ _; refine Arith.fit (wrap_fit (by first | omega | (simp only [List.length_map]; omega)) (by first | omega | (simp only [List.length_map]; omega))) ?_) | (guard_target = Arith _ _ _; refine Arith.fit (by decide) ?_) | (guard_target = Index _ _ _; first  | refine Index.mk _ (idx_map (by omega)) ?_) | (guard_target = Need (_ = true) _; refine Need.mk (by first | kernel_rfl | rfl) ?_) | (guard_target = LinkV _ _ _; first  | refine LinkV.no ?_) | (guard_target = GhO _ _ _ _; refine GhO.go ?_) | (guard_target = Need _ _; refine Need.mk (by first  | omega | (simp only [List.length_map]; omega)) ?_))
theorem all_stop {α : Type} {p : α → Bool} {l : List α} {i : Nat} (h : i < l.length) (hp : p l[i] = false) : l.all p = false := all_no h hp
theorem all_go {α : Type} {p : α → Bool} {l : List α} {i : Nat} (h : i < l.length) (ha : i ≤ l.length ∧ (l.take i).all p = true) (hp : p l[i] = true) : i + 1 ≤ l.length ∧ (l.take (i + 1)).all p = true := ⟨h, all_more h ha.2 hp⟩
theorem all_end {α : Type} {p : α → Bool} {l : List α} {i : Nat} (h : ¬ (i : Int) < (l.length : Int)) (ha : i ≤ l.length ∧ (l.take i).all p = true) : l.all p = true := by
  have := ha.2
  rwa [List.take_of_length_le (by omega)] at this
theorem idx_getD {α : Type} {f : α → List CV} {l : List α} {i : Nat} {d : α} (h : i < l.length) : (l.map f)[i]? = some (f (l.getD i d)) := by
  rw [List.getElem?_map, List.getElem?_eq_getElem h, List.getD_eq_getElem?_getD, List.getElem?_eq_getElem h]
  rfl
theorem getD_eq {α : Type} {l : List α} {i : Nat} {d : α} (h : i < l.length) : l.getD i d = l[i] := by
  rw [List.getD_eq_getElem?_getD, List.getElem?_eq_getElem h]
  rfl
/-! ### lists of expressions -/
end Go.Proofs.YtmpcfplelpdbhaaGreat

namespace Go.Proofs.YtmpcfplelpdbhaaGreat
open Go Go.KA Go.Proofs
set_option maxHeartbeats 16000000
set_option maxRecDepth 100000
def condG (t a : Int) (e : XExpr) : Bool := goodE t a e && condB e
theorem isCond_ok (t a : Int) (ht : 0 ≤ t ∧ t ≤ 3) (ha : 0 ≤ a ∧ a ≤ 4) (e : XExpr) : CallF Tryz.prog 103 [.a 2 [J t, J a], .a 3 (encExpr e)] (B (condG t a e)) := by
  refine callF_of_vc htb hm Tryz.func103 rfl rfl rfl rfl (ann := fun _ => none) (gh := fun _ => false) ?_
  repeat' ((conv => whnf); first | (guard_target = Done _; refine Done.mk ?_; first | (rfl; done) | (simp_all [condG, normS, normV]; done) | (simp_all [condG, normS, normV]; omega; done) | (simp_all [condG, normS, normV]; intros; omega; done) | (simp_all [-List.all_eq_true, -List.all_eq_false, condG, normS, normV]; done) | (simp_all [-List.all_eq_true, -List.all_eq_false, condG, normS, normV]; omega; done) | skip) | (guard_target = RetX _ _; refine RetX.mk ?_ ?_) | (guard_target = Fact _ _; refine Fact.mk fun hL => ?_; (try simp only [List.length_map, maxLen] at hL)) | (guard_target = Branch _ _ _; (first | refine Branch.dec ?_ ?_ | refine Branch.beq ?_ ?_ | refine Branch.bne ?_ ?_ | refine Branch.ndec ?_ ?_ | refine Branch.nb ?_ ?_ | refine Branch.mk ?_ ?_) <;> intro h <;> (try simp only [List.length_map] at h) <;> (try omega) <;> (try contradiction)) | (guard_target = CallN _ 164 _ _ _ _; refine CallN.pure _ _ rfl (isExpr_ok t a ht ha e) rfl _ rfl ?_) | (guard_target = CallN _ 165 _ _ _ _; refine CallN.pure _ _ rfl (isCondition_ok e) rfl _ rfl ?_) | (guard_target = Arith _ _ _; refine Arith.fit (wrap_fit (by first | omega | (simp only [List.length_map]; omega)) (by first | omega | (simp only [List.length_map]; omega))) ?_) | (guard_target = Arith _ _ _; refine Arith.fit (by decide) ?_) | (guard_target = Index _ _ _; first  | refine Index.mk _ (idx_map (by omega)) ?_) | (guard_target = Need (_ = true) _; refine Need.mk (by first | kernel_rfl | rfl) ?_) | (guard_target = LinkV _ _ _; first  | refine LinkV.no ?_) | (guard_target = GhO _ _ _ _; refine GhO.go ?_) | (guard_target = Need _ _; refine Need.mk (by first  | omega | (simp only [List.length_map]; omega)) ?_))
theorem l06Cond_ok (t a : Int) (hs : goodSig t a = true) (e : XExpr) (hl : budExpr e ≤ 1048576) : CallF Tryz.prog 87 [.a 2 [J t, J a], .c (.rp 3 (encExpr e))] (B (condG t a e)) := by
  refine callF_of_vc htb hm Tryz.func87 rfl rfl rfl rfl (ann := fun _ => none) (gh := fun _ => false) ?_
  repeat' ((conv => whnf); first | (guard_target = Done _; refine Done.mk ?_; first | (rfl; done) | (simp_all [condG, normS, normV]; done) | (simp_all [condG, normS, normV]; omega; done) | (simp_all [condG, normS, normV]; intros; omega; done) | (simp_all [-List.all_eq_true, -List.all_eq_false, condG, normS, normV]; done) | (simp_all [-List.all_eq_true, -List.all_eq_false, condG, normS, normV]; omega; done) | skip) | (guard_target = RetX _ _; refine RetX.mk ?_ ?_) | (guard_target = Fact _ _; refine Fact.mk fun hL => ?_; (try simp only [List.length_map, maxLen] at hL)) | (guard_target = Branch _ _ _; (first | refine Branch.dec ?_ ?_ | refine Branch.beq ?_ ?_ | refine Branch.bne ?_ ?_ | refine Branch.ndec ?_ ?_ | refine Branch.nb ?_ ?_ | refine Branch.mk ?_ ?_) <;> intro h <;> (try simp only [List.length_map] at h) <;> (try omega) <;> (try contradiction)) | (guard_target = CallN _ 148 _ _ _ _; refine CallN.pure _ _ rfl (l01Ok_ok t a e hl) rfl _ rfl ?_) | (guard_target = CallN _ 149 _ _ _ _; refine CallN.pure _ _ rfl (l01Condition_ok e) rfl _ rfl ?_) | (guard_target = Arith _ _ _; refine Arith.fit (wrap_fit (by first | omega | (simp only [List.length_map]; omega)) (by first | omega | (simp only [List.length_map]; omega))) ?_) | (guard_target = Arith _ _ _; refine Arith.fit (by decide) ?_) | (guard_target = Index _ _ _; first  | refine Index.mk _ (idx_map (by omega)) ?_) | (guard_target = Need (_ = true) _; refine Need.mk (by first | kernel_rfl | rfl) ?_) | (guard_target = LinkV _ _ _; first  | refine LinkV.no ?_) | (guard_target = GhO _ _ _ _; refine GhO.go ?_) | (guard_target = Need _ _; refine Need.mk (by first  | omega | (simp only [List.length_map]; omega)) ?_))
/-! ### flowcharts -/
def atomsN (t : Int) : Int := if t = 0 then 1 else if t = 1 then 2 else if t = 2 then 4 else 8
theorem atomsIn_ok (t a : Int) (ht : 0 ≤ t ∧ t ≤ 3) : CallF Tryz.prog 168 [.a 2 [J t, J a]] (I (atomsN t)) := by
  have h4 : t = 0 ∨ t = 1 ∨ t = 2 ∨ t = 3 := by omega
  rcases h4 with rfl | rfl | rfl | rfl
  all_goals
    refine callF_of_vc htb hm Tryz.func168 rfl rfl rfl rfl (ann := fun _ => none) (gh := fun _ => false) ?_
    repeat' ((conv => whnf); first | (guard_target = Done _; refine Done.mk ?_; first | (rfl; done) | skip) | (guard_target = RetX _ _; refine RetX.mk ?_ ?_) | (guard_target = Fact _ _; refine Fact.mk fun hL => ?_; (try simp only [List.length_map, maxLen] at hL)) | (guard_target = Branch _ _ _; (first | refine Branch.dec ?_ ?_ | refine Branch.beq ?_ ?_ | refine Branch.bne ?_ ?_ | refine Branch.ndec ?_ ?_ | refine Branch.nb ?_ ?_ | refine Branch.mk ?_ ?_) <;> intro h <;> (try simp only [List.length_map] at h) <;> (try omega) <;> (try contradiction)) | (guard_target = Arith _ _ _; refine Arith.fit (wrap_fit (by (first | omega | decide)) (by (first | omega | decide))) ?_) | (guard_target = Arith _ _ _; refine Arith.fit (by decide) ?_) | (guard_target = Index _ _ _; first  | refine Index.mk _ (idx_map (by omega)) ?_) | (guard_target = Need (_ = true) _; refine Need.mk (by first | kernel_rfl | rfl) ?_) | (guard_target = LinkV _ _ _; first  | refine LinkV.no ?_) | (guard_target = GhO _ _ _ _; refine GhO.go ?_) | (guard_target = Need _ _; refine Need.mk (by first  | omega | (simp only [List.length_map]; omega)) ?_))
theorem atoms_b {t : Int} (h : 0 ≤ t ∧ t ≤ 3) : 1 ≤ atomsN t ∧ atomsN t ≤ 8 := by
  have : t = 0 ∨ t = 1 ∨ t = 2 ∨ t = 3 := by omega
  rcases this with rfl | rfl | rfl | rfl <;> decide
theorem l01Atoms_ok (t a : Int) (ht : 0 ≤ t ∧ t ≤ 3) : CallF Tryz.prog 158 [.a 2 [J t, J a]] (I (atomsN t)) := by
  have h4 : t = 0 ∨ t = 1 ∨ t = 2 ∨ t = 3 := by omega
  rcases h4 with rfl | rfl | rfl | rfl
  all_goals
    refine callF_of_vc htb hm Tryz.func158 rfl rfl rfl rfl (ann := fun _ => none) (gh := fun _ => false) ?_
    repeat' ((conv => whnf); first | (guard_target = Done _; refine Done.mk ?_; first | (rfl; done) | skip) | (guard_target = RetX _ _; refine RetX.mk ?_ ?_) | (guard_target = Fact _ _; refine Fact.mk fun hL => ?_; (try simp only [List.length_map, maxLen] at hL)) | (guard_target = Branch _ _ _; (first | refine Branch.dec ?_ ?_ | refine Branch.beq ?_ ?_ | refine Branch.bne ?_ ?_ | refine Branch.ndec ?_ ?_ | refine Branch.nb ?_ ?_ | refine Branch.mk ?_ ?_) <;> intro h <;> (try simp only [List.length_map] at h) <;> (try omega) <;> (try contradiction)) | (guard_target = Arith _ _ _; refine Arith.fit (wrap_fit (by (first | omega | decide)) (by (first | omega | decide))) ?_) | (guard_target = Arith _ _ _; refine Arith.fit (by decide) ?_) | (guard_target = Index _ _ _; first  | refine Index.mk _ (idx_map (by omega)) ?_) | (guard_target = Need (_ = true) _; refine Need.mk (by first | kernel_rfl | rfl) ?_) | (guard_target = LinkV _ _ _; first  | refine LinkV.no ?_) | (guard_target = GhO _ _ _ _; refine GhO.go ?_) | (guard_target = Need _ _; refine Need.mk (by first  | omega | (simp only [List.length_map]; omega)) ?_))
/-! ### truth of conditions -/
def bitE (n atom : Int) : Bool := (IntKind.i64.wrap ((BitVec.ofInt 64 (atom.fdiv (2 ^ (min n.toNat 64))) &&& BitVec.ofInt 64 1).toNat)) == 1
mutual
def truthE : XExpr → Int → Bool
  | .mk k n kids, atom => if k = 2 then true else if k = 3 then bitE n atom else if k = 5 then !((truthL kids atom).getD 0 false) else if k = 6 then (truthL kids atom).getD 0 false || (truthL kids atom).getD 1 false else if k = 7 then (truthL kids atom).getD 0 false && (truthL kids atom).getD 1 false else false
def truthL : List XExpr → Int → List Bool
  | [], _ => []
  | x :: xs, atom => truthE x atom :: truthL xs atom
end
theorem truthL_map (atom : Int) : ∀ l : List XExpr, truthL l atom = l.map fun x => truthE x atom
  | [] => rfl
  | x :: xs => by simp only [truthL, List.map_cons]; rw [truthL_map atom xs]
theorem truthL_get {l : List XExpr} {i : Nat} (h : i < l.length) (atom : Int) : (truthL l atom).getD i false = truthE l[i] atom := by
  rw [truthL_map, List.getD_eq_getElem?_getD, List.getElem?_map, List.getElem?_eq_getElem h]
  rfl
theorem truthE_eq (e : XExpr) (atom : Int) : truthE e atom = if e.kind = 2 then true else if e.kind = 3 then bitE e.num atom else if e.kind = 5 then !((truthL e.kids atom).getD 0 false) else if e.kind = 6 then (truthL e.kids atom).getD 0 false || (truthL e.kids atom).getD 1 false else if e.kind = 7 then (truthL e.kids atom).getD 0 false && (truthL e.kids atom).getD 1 false else false := by
  cases e
  rfl
def okC (t a : Int) (e : XExpr) : Prop := condB e = true ∧ treeB t a e = true
theorem okC_len {t a : Int} {e : XExpr} (h : okC t a e) : (e.kids.length : Int) = kidsN e.kind ∧ (e.kind = 3 → 0 ≤ e.num) ∧ (1 ≤ e.kind ∧ e.kind ≤ 7 ∧ e.kind ≠ 4) := by
  have h1 := h.1
  have h2 := h.2
  rw [condB_eq] at h1
  rw [treeB_eq] at h2
  simp only [Bool.and_eq_true, rng, decide_eq_true_eq, beq_iff_eq, Bool.not_eq_true', beq_eq_false_iff_ne] at h1 h2
  refine ⟨h2.1, fun h3 => ?_, by omega⟩
  rw [if_pos h3] at h2
  have := h2.2
  simp only [Bool.and_eq_true, decide_eq_true_eq] at this
  exact this.1
theorem okC_kid {t a : Int} {e : XExpr} (h : okC t a e) {x : XExpr} (hx : x ∈ e.kids) : okC t a x := by
  have hl := okC_len h
  have h1 := h.1
  have h2 := h.2
  rw [condB_eq] at h1
  rw [treeB_eq] at h2
  simp only [Bool.and_eq_true, List.all_eq_true, beq_iff_eq] at h1 h2
  refine ⟨h1.2 x hx, ?_⟩
  by_cases h3 : e.kind = 3
  · have : kidsN e.kind = 0 := by rw [h3]; rfl
    have : e.kids = [] := List.length_eq_zero_iff.1 (by omega)
    rw [this] at hx; cases hx
  have h4 : ¬ e.kind = 4 := hl.2.2.2.2
  rw [if_neg h3, if_neg h4] at h2
  have := h2.2
  simp only [Bool.and_eq_true, List.all_eq_true] at this
  exact this.2.2 x hx
theorem kids5 (k : Int) : (k = 5 → kidsN k = 1) ∧ (k = 6 → kidsN k = 2) ∧ (k = 7 → kidsN k = 2) := by
  refine ⟨?_, ?_, ?_⟩ <;> rintro rfl <;> rfl
theorem u64_fit {z : Int} (h0 : 0 ≤ z) (h1 : z ≤ 18446744073709551615) : IntKind.u64.wrap z = z := by
  simp only [IntKind.wrap, IntKind.signed, IntKind.bits]
  simp
  omega
theorem truth_all (t a atom : Int) (e : XExpr) (h : okC t a e) (hx : ∀ x ∈ e.kids, CallF Tryz.prog 167 [.a 3 (encExpr x), I atom] (B (truthE x atom))) : CallF Tryz.prog 167 [.a 3 (toldE e), I atom] (B (truthE e atom)) := by
  have hl := okC_len h
  have hk := kids5 e.kind
  have g0 : ∀ h0 : 0 < e.kids.length, (truthL e.kids atom).getD 0 false = truthE e.kids[0] atom := fun h0 => truthL_get h0 atom
  have g1 : ∀ h1 : 1 < e.kids.length, (truthL e.kids atom).getD 1 false = truthE e.kids[1] atom := fun h1 => truthL_get h1 atom
  rw [truthE_eq]
  refine callF_of_vc htb hm Tryz.func167 rfl rfl rfl rfl (ann := fun _ => none) (gh := fun _ => false) ?_
  repeat' ((conv => whnf); first | (guard_target = Done _; refine Done.mk ?_; first | (simp [*]; rfl; done) | (simp_all [normS, normV]; done) | (rw [if_neg (show ¬ e.kind = 2 by omega), if_neg (show ¬ e.kind = 3 by omega), g0 (by omega), g1 (by omega)]; simp_all [normS, normV]; done) | (rw [if_neg (show ¬ e.kind = 2 by omega), if_neg (show ¬ e.kind = 3 by omega), g0 (by omega)]; simp_all [normS, normV]; done) | (rw [if_neg (show ¬ e.kind = 2 by omega), if_neg (show ¬ e.kind = 3 by omega), if_neg (show ¬ e.kind = 5 by omega), if_neg (show ¬ e.kind = 6 by omega), if_pos (show e.kind = 7 by omega), g0 (by omega), g1 (by omega)]; simp_all [normS, normV]; done) | skip) | (guard_target = RetX _ _; refine RetX.mk ?_ ?_) | (guard_target = Fact _ _; refine Fact.mk fun hL => ?_; (try simp only [List.length_map, maxLen] at hL)) | (guard_target = Branch _ _ _; (first | refine Branch.dec ?_ ?_ | refine Branch.beq ?_ ?_ | refine Branch.bne ?_ ?_ | refine Branch.ndec ?_ ?_ | refine Branch.nb ?_ ?_ | refine Branch.mk ?_ ?_) <;> intro h <;> (try simp only [List.length_map] at h) <;> (try omega) <;> (try contradiction)) | (guard_target = CallN _ 167 _ _ _ _; refine CallN.pure _ _ rfl (hx _ (List.getElem_mem (by omega))) rfl _ rfl ?_) | (guard_target = Arith _ _ _; refine Arith.fit (wrap_fit (by first | omega | (simp only [List.length_map]; omega)) (by first | omega | (simp only [List.length_map]; omega))) ?_) | (guard_target = Arith _ _ _; refine Arith.fit (by decide) ?_) | (guard_target = Index _ _ _; first | refine Index.mk _ (idx_map (i := 0) (by omega)) ?_ | refine Index.mk _ (idx_map (i := 1) (by omega)) ?_ | refine Index.mk _ (idx_map (by omega)) ?_) | (guard_target = Need (_ = true) _; refine Need.mk (by first | kernel_rfl | rfl) ?_) | (guard_target = LinkV _ _ _; first  | refine LinkV.no ?_) | (guard_target = GhO _ _ _ _; refine GhO.go ?_) | (guard_target = Need _ _; refine Need.mk (by first  | omega | (simp only [List.length_map]; omega)) ?_))
theorem truth_ok (t a atom : Int) (e : XExpr) (h : okC t a e) : CallF Tryz.prog 167 [.a 3 (encExpr e), I atom] (B (truthE e atom)) := by
  rw [encExpr_eq]
  exact truth_all t a atom e h fun x _hx => truth_ok t a atom x (okC_kid h _hx)
  termination_by SizeOf.sizeOf e
  decreasing_by
    have := List.sizeOf_lt_of_mem _hx
    cases e
    simp only [XExpr.mk.sizeOf_spec]
    show SizeOf.sizeOf x < _
    simp only [XExpr.kids] at this
    omega
theorem l01True_all (t a atom : Int) (ht : t ≤ 3) (e : XExpr) (h : okC t a e) (hx : ∀ x ∈ e.kids, CallF Tryz.prog 153 [.c (.rp 3 (encExpr x)), I atom] (B (truthE x atom))) : CallF Tryz.prog 153 [.c (.rp 3 (toldE e)), I atom] (B (truthE e atom)) := by
  have hl := okC_len h
  have hk := kids5 e.kind
  have g0 : ∀ h0 : 0 < e.kids.length, (truthL e.kids atom).getD 0 false = truthE e.kids[0] atom := fun h0 => truthL_get h0 atom
  have g1 : ∀ h1 : 1 < e.kids.length, (truthL e.kids atom).getD 1 false = truthE e.kids[1] atom := fun h1 => truthL_get h1 atom
  have h3 : e.kind = 3 → e.num ≤ 2 := by
    intro h3
    have := h.2
    rw [treeB_eq] at this
    simp only [h3, Bool.and_eq_true, rng, decide_eq_true_eq, beq_iff_eq, if_true] at this
    have := this.2
    omega
  rw [truthE_eq]
  refine callF_of_vc htb hm Tryz.func153 rfl rfl rfl rfl (ann := fun _ => none) (gh := fun _ => false) ?_
  repeat' ((conv => whnf); first | (guard_target = Done _; refine Done.mk ?_; first | (simp [*]; rfl; done) | (simp_all [normS, normV]; done) | (rw [if_neg (show ¬ e.kind = 2 by omega), if_neg (show ¬ e.kind = 3 by omega), g0 (by omega), g1 (by omega)]; simp_all [normS, normV]; done) | (rw [if_neg (show ¬ e.kind = 2 by omega), if_neg (show ¬ e.kind = 3 by omega), g0 (by omega)]; simp_all [normS, normV]; done) | (rw [if_neg (show ¬ e.kind = 2 by omega), if_neg (show ¬ e.kind = 3 by omega), if_neg (show ¬ e.kind = 5 by omega), if_neg (show ¬ e.kind = 6 by omega), if_pos (show e.kind = 7 by omega), g0 (by omega), g1 (by omega)]; simp_all [normS, normV]; done) | skip) | (guard_target = RetX _ _; refine RetX.mk ?_ ?_) | (guard_target = Fact _ _; refine Fact.mk fun hL => ?_; (try simp only [List.length_map, maxLen] at hL)) | (guard_target = Branch _ _ _; (first | refine Branch.dec ?_ ?_ | refine Branch.beq ?_ ?_ | refine Branch.bne ?_ ?_ | refine Branch.ndec ?_ ?_ | refine Branch.nb ?_ ?_ | refine Branch.mk ?_ ?_) <;> intro h <;> (try simp only [List.length_map] at h) <;> (try omega) <;> (try contradiction)) | (guard_target = CallN _ 153 _ _ _ _; refine CallN.pure _ _ rfl (hx _ (List.getElem_mem (by omega))) rfl _ rfl ?_) | (guard_target = Arith IntKind.u64 _ _; refine Arith.fit (u64_fit (by omega) (by omega)) ?_) | (guard_target = Arith _ _ _; refine Arith.fit (wrap_fit (by first | omega | (simp only [List.length_map]; omega)) (by first | omega | (simp only [List.length_map]; omega))) ?_) | (guard_target = Arith _ _ _; refine Arith.fit (by decide) ?_) | (guard_target = Index _ _ _; first | refine Index.mk _ (idx_map (i := 0) (by omega)) ?_ | refine Index.mk _ (idx_map (i := 1) (by omega)) ?_ | refine Index.mk _ (idx_map (by omega)) ?_) | (guard_target = Need (_ = true) _; refine Need.mk (by first | kernel_rfl | rfl) ?_) | (guard_target = LinkV _ _ _; first  | refine LinkV.no ?_) | (guard_target = GhO _ _ _ _; refine GhO.go ?_) | (guard_target = Need _ _; refine Need.mk (by first  | omega | (simp only [List.length_map]; omega)) ?_))
theorem l01True_ok (t a atom : Int) (ht : t ≤ 3) (e : XExpr) (h : okC t a e) : CallF Tryz.prog 153 [.c (.rp 3 (encExpr e)), I atom] (B (truthE e atom)) := by
  rw [encExpr_eq]
  exact l01True_all t a atom ht e h fun x _hx => l01True_ok t a atom ht x (okC_kid h _hx)
  termination_by SizeOf.sizeOf e
  decreasing_by
    have := List.sizeOf_lt_of_mem _hx
    cases e
    simp only [XExpr.mk.sizeOf_spec]
    show SizeOf.sizeOf x < _
    simp only [XExpr.kids] at this
    omega

theorem condG_ok {t a : Int} {e : XExpr} (h : condG t a e = true) : okC t a e := by
  simp only [condG, goodE, Bool.and_eq_true] at h
  exact ⟨h.2, h.1.2.2⟩
end Go.Proofs.YtmpcfplelpdbhaaGreat
