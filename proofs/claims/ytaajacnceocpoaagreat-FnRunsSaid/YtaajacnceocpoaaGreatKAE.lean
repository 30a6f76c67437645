/- Contracts of the functions that look whether a program has the form of the table, the program's and the reference's, and the plain law that both look for the same. No conditions. -/
import Derived.Test.YtaajacnceocpoaaGreatKAD
namespace Go.Proofs.YtaajacnceocpoaaGreat
open Go Go.KA Go.Proofs
set_option maxHeartbeats 16000000
set_option maxRecDepth 100000
def pkN (k : Int) : Int := if k = 1 ∨ k = 2 ∨ k = 3 ∨ k = 4 then 0 else if k = 7 then 1 else if k = 5 ∨ k = 6 then 2 else -1
def askB (k : Int) : Bool := decide (k = 4 ∨ k = 6 ∨ k = 7)
theorem progForm_ok (k : Int) : CallF Tryz.prog 157 [I k] (.tup [I (pkN k), B (askB k)]) := by
  have h0 : k = 1 ∨ k = 2 ∨ k = 3 ∨ k = 4 ∨ k = 5 ∨ k = 6 ∨ k = 7 ∨ ¬ (k = 1 ∨ k = 2 ∨ k = 3 ∨ k = 4 ∨ k = 5 ∨ k = 6 ∨ k = 7) := by omega
  refine callF_of_vc htb hm Tryz.func157 rfl rfl rfl rfl (ann := fun _ => none) (gh := fun _ => false) ?_
  repeat' ((conv => whnf); first | (guard_target = Done _; refine Done.mk ?_; first | (simp_all [pkN, askB, normS, normV]; done) | skip) | (guard_target = Branch _ _ _; (first | apply Branch.dec | apply Branch.beq | apply Branch.bne | apply Branch.ndec | apply Branch.nb | apply Branch.mk) <;> intro h <;> (try simp only [List.length_map] at h) <;> (try omega) <;> (try contradiction)) | (guard_target = Need _ _; refine Need.mk (by first  | omega | (simp only [List.length_map]; omega)) ?_))
theorem l06Kids_ok (k : Int) : CallF Tryz.prog 150 [I k] (I (pkN k)) := by
  refine callF_of_vc htb hm Tryz.func150 rfl rfl rfl rfl (ann := fun _ => none) (gh := fun _ => false) ?_
  repeat' ((conv => whnf); first | (guard_target = Done _; refine Done.mk ?_; first | (simp_all [pkN, normS, normV]; done) | skip) | (guard_target = Branch _ _ _; (first | apply Branch.dec | apply Branch.beq | apply Branch.bne | apply Branch.ndec | apply Branch.nb | apply Branch.mk) <;> intro h <;> (try simp only [List.length_map] at h) <;> (try omega) <;> (try contradiction)) | (guard_target = Need _ _; refine Need.mk (by first  | omega | (simp only [List.length_map]; omega)) ?_))
theorem l06Asks_ok (k : Int) : CallF Tryz.prog 151 [I k] (B (askB k)) := by
  refine callF_of_vc htb hm Tryz.func151 rfl rfl rfl rfl (ann := fun _ => none) (gh := fun _ => false) ?_
  repeat' ((conv => whnf); first | (guard_target = Done _; refine Done.mk ?_; first | (simp_all [askB, normS, normV]; done) | (by_cases h7 : k = 7 <;> simp_all [askB, normS, normV]; done) | skip) | (guard_target = Branch _ _ _; (first | apply Branch.dec | apply Branch.beq | apply Branch.bne | apply Branch.ndec | apply Branch.nb | apply Branch.mk) <;> intro h <;> (try simp only [List.length_map] at h) <;> (try omega) <;> (try contradiction)) | (guard_target = Need _ _; refine Need.mk (by first  | omega | (simp only [List.length_map]; omega)) ?_))
def pnode (t a k n : Int) (c : XExpr) : Bool := (if k = 3 then rng 0 (a - 1) n else n == 0) && (if askB k then condG t a c else noneB c)
abbrev toldP (e : XProg) : List CV := [J e.kind, J e.num, J e.cond.kind, J e.cond.num, .ro 3 (e.cond.kids.map encExpr), .ro 6 (e.kids.map encProg)]
mutual
def pfE (t a : Int) : XProg → Int → Int → Option Int
  | .mk k n c kids, nodes, depth => if nodes = 0 ∨ depth = 0 ∨ pkN k ≠ kids.length then none else if pnode t a k n c = true then pfS t a kids (nodes - 1) (depth - 1) else none
def pfS (t a : Int) : List XProg → Int → Int → Option Int
  | [], nodes, _ => some nodes
  | x :: xs, nodes, depth => match pfE t a x nodes depth with
    | none => none
    | some m => pfS t a xs m depth
end
theorem pfE_eq (t a : Int) (e : XProg) (nodes depth : Int) : pfE t a e nodes depth = if nodes = 0 ∨ depth = 0 ∨ pkN e.kind ≠ e.kids.length then none else if pnode t a e.kind e.num e.cond = true then pfS t a e.kids (nodes - 1) (depth - 1) else none := by
  cases e
  rfl
theorem pfS_step (t a : Int) {l : List XProg} {i : Nat} {m d : Int} (h : i < l.length) : pfS t a (l.drop i) m d = match pfE t a l[i] m d with | none => none | some m' => pfS t a (l.drop (i + 1)) m' d := by
  rw [List.drop_eq_getElem_cons h]
  rfl
mutual
theorem pfE_range (t a : Int) : ∀ (e : XProg) (n d r : Int), 0 ≤ n → pfE t a e n d = some r → 0 ≤ r ∧ r ≤ n
  | .mk k num c kids, n, d, r, hn, h => by
    unfold pfE at h
    by_cases h1 : n = 0 ∨ d = 0 ∨ pkN k ≠ kids.length
    · rw [if_pos h1] at h; cases h
    rw [if_neg h1] at h
    by_cases h2 : pnode t a k num c = true
    · rw [if_pos h2] at h
      have := pfS_range t a kids (n - 1) (d - 1) r (by omega) h
      omega
    · rw [if_neg h2] at h; cases h
theorem pfS_range (t a : Int) : ∀ (l : List XProg) (n d r : Int), 0 ≤ n → pfS t a l n d = some r → 0 ≤ r ∧ r ≤ n
  | [], n, d, r, hn, h => by
    simp only [pfS, Option.some.injEq] at h
    omega
  | x :: xs, n, d, r, hn, h => by
    simp only [pfS] at h
    split at h
    · cases h
    rename_i m hm
    have h1 := pfE_range t a x n d m hn hm
    have h2 := pfS_range t a xs m d r h1.1 h
    omega
end
theorem isCond_ok' (t a : Int) (ht : 0 ≤ t ∧ t ≤ 3) (ha : 0 ≤ a ∧ a ≤ 4) (e : XExpr) : CallF Tryz.prog 130 [.a 2 [J t, J a], .a 3 (toldE e)] (B (condG t a e)) := by
  have := isCond_ok t a ht ha e
  rwa [encExpr_eq] at this
theorem progFits_all (t a : Int) (ht : 0 ≤ t ∧ t ≤ 3) (ha : 0 ≤ a ∧ a ≤ 4) (e : XProg) (nodes depth : Int) (hn : 0 ≤ nodes ∧ nodes ≤ 1048576) (hd : 0 ≤ depth ∧ depth ≤ 1048576)
    (hx : ∀ x ∈ e.kids, ∀ nodes depth : Int, 0 ≤ nodes ∧ nodes ≤ 1048576 → 0 ≤ depth ∧ depth ≤ 1048576 → CallF Tryz.prog 105 [.a 2 [J t, J a], .a 6 (encProg x), I nodes, I depth] (shR (pfE t a x nodes depth))) :
    CallF Tryz.prog 105 [.a 2 [J t, J a], .a 6 (toldP e), I nodes, I depth] (shR (pfE t a e nodes depth)) := by
  refine callF_of_vc htb hm Tryz.func105 rfl rfl rfl rfl (ann := fun _ => none) (gh := fun _ => false) ?_
  repeat' ((conv => whnf); first | (guard_target = Done _; refine Done.mk ?_; first | (rw [pfE_eq]; simp_all [shR, normS, normV, pnode, askB]; done) | (have hn' : pfE t a e.kids[i] m (depth - 1) = none := (by simpa using h); have hq := pfS_step t a (m := m) (d := depth - 1) (show i < e.kids.length by omega); rw [hn'] at hq; rw [pfE_eq, ha.2.2, hq]; simp [shR, normS, normV]; done) | (rw [pfE_eq, ha.2.2, List.drop_of_length_le (by omega)]; simp_all [shR, pfS, normS, normV, pnode, askB]; done) | skip) | (guard_target =~ LoopE 10 _ _ _ _ _ _; refine LoopE.mk { α := Nat × Int, keep := [3, 4, 78, 79], ov := fun ⟨i, m⟩ => [(2, I m), (80, I i)], φ := fun ⟨i, m⟩ => i ≤ e.kids.length ∧ (0 ≤ m ∧ m ≤ 1048576) ∧ pfS t a e.kids (nodes - 1) (depth - 1) = pfS t a (e.kids.drop i) m (depth - 1), μ := fun ⟨i, m⟩ => e.kids.length - i } (LoopN.mk ((0, nodes - 1) : Nat × Int) (by exact ⟨Nat.zero_le _, ⟨by show 0 ≤ nodes - 1; omega, by show nodes - 1 ≤ 1048576; omega⟩, rfl⟩) (by repeat' ((conv => whnf) <;> first | exact trivial | kernel_rfl | constructor)) (by repeat' ((conv => whnf) <;> first | exact trivial | kernel_rfl | constructor)) (by repeat' ((conv => whnf) <;> first | exact trivial | refine ⟨?_, ?_⟩ | exact rfl | (simp only [List.map_append, List.map_cons, List.map_nil, List.map_set]; first | done | rfl))) (fun A ha => ?_) (by intro A; first | rfl | (obtain ⟨_, _⟩ := A; rfl) | (obtain ⟨_, _, _⟩ := A; rfl))); obtain ⟨i, m⟩ := A; have ha : i ≤ e.kids.length ∧ (0 ≤ m ∧ m ≤ 1048576) ∧ pfS t a e.kids (nodes - 1) (depth - 1) = pfS t a (e.kids.drop i) m (depth - 1) := ha) | (guard_target = Gh _ _ _ _ _; refine Gh.go ⟨((i + 1, (pfE t a e.kids[i] m (depth - 1)).getD 0) : Nat × Int), (by obtain ⟨hi, hm, hs⟩ := ha; obtain ⟨r, hr⟩ := Option.isSome_iff_exists.1 h; exact ⟨by show i + 1 ≤ _; omega, (by have := pfE_range t a _ _ _ _ hm.1 hr; rw [hr]; simp only [Option.getD_some]; omega), (by rw [hs, pfS_step t a (show i < e.kids.length by omega), hr]; rfl)⟩), (by first | (show _ < _; simp only []; omega) | omega | (simp; omega)), (by repeat' ((conv => whnf) <;> first | exact trivial | kernel_rfl | constructor)), (by repeat' ((conv => whnf) <;> first | exact trivial | kernel_rfl | constructor)), (by repeat' ((conv => whnf) <;> first | exact trivial | refine ⟨?_, ?_⟩ | exact rfl | (simp only [List.map_append, List.map_cons, List.map_nil, List.map_set]; first | done | rfl)))⟩) | (guard_target = Fact _ _; refine Fact.mk fun hL => ?_; (try simp only [List.length_map, maxLen] at hL)) | (guard_target = Branch _ _ _; (first | apply Branch.dec | apply Branch.beq | apply Branch.bne | apply Branch.ndec | apply Branch.nb | apply Branch.mk) <;> intro h <;> (try simp only [List.length_map] at h) <;> (try omega) <;> (try contradiction)) | (guard_target = CallN _ 157 _ _ _ _; refine CallN.pure _ _ rfl (progForm_ok _) rfl _ rfl ?_) | (guard_target = CallN _ 51 _ _ _ _; refine CallN.pure _ _ rfl (within_ok _ _ _) rfl _ rfl ?_) | (guard_target = CallN _ 130 _ _ _ _; refine CallN.pure _ _ rfl (isCond_ok' t a ht (by assumption) e.cond) rfl _ rfl ?_) | (guard_target = CallN _ 158 _ _ _ _; refine CallN.pure _ _ rfl (isNone_ok e.cond) rfl _ rfl ?_) | (guard_target = CallN _ 105 _ _ _ _; refine CallN.pure _ _ rfl (hx _ (List.getElem_mem (by omega)) m (depth - 1) (by omega) (by omega)) rfl _ rfl ?_) | (guard_target = Arith _ _ _; refine Arith.fit (by apply wrap_fit <;> first | omega | (simp only [List.length_map]; omega)) ?_) | (guard_target = Arith _ _ _; refine Arith.fit (by decide) ?_) | (guard_target = Index _ _ _; first | refine Index.mk _ (idx_map (i := i) (by omega)) ?_ | refine Index.mk _ (idx_map (by omega)) ?_) | (guard_target = Need (_ = true) _; refine Need.mk (by first | kernel_rfl | rfl) ?_) | (guard_target = LinkV _ _ _; refine LinkV.no ?_) | (guard_target = GhO _ _ _ _; refine GhO.go ?_) | (guard_target = Need _ _; refine Need.mk (by first  | omega | (simp only [List.length_map]; omega)) ?_))
theorem progFits_ok (t a : Int) (ht : 0 ≤ t ∧ t ≤ 3) (ha : 0 ≤ a ∧ a ≤ 4) (e : XProg) (nodes depth : Int) (hn : 0 ≤ nodes ∧ nodes ≤ 1048576) (hd : 0 ≤ depth ∧ depth ≤ 1048576) : CallF Tryz.prog 105 [.a 2 [J t, J a], .a 6 (encProg e), I nodes, I depth] (shR (pfE t a e nodes depth)) := by
  rw [encProg_eq]
  exact progFits_all t a ht ha e nodes depth hn hd fun x _hx nodes depth hn hd => progFits_ok t a ht ha x nodes depth hn hd
  termination_by SizeOf.sizeOf e
  decreasing_by
    have := List.sizeOf_lt_of_mem _hx
    cases e
    simp only [XProg.mk.sizeOf_spec]
    show SizeOf.sizeOf x < _
    simp only [XProg.kids] at this
    omega
mutual
def plE : XProg → Int → Int
  | .mk _ _ _ kids, left => plS kids (left - 1)
def plS : List XProg → Int → Int
  | [], left => left
  | x :: xs, left => if left < 0 then left else plS xs (plE x left)
end
mutual
def pdE : XProg → Nat
  | .mk _ _ _ kids => pdS kids + 1
def pdS : List XProg → Nat
  | [] => 0
  | x :: xs => max (pdE x) (pdS xs)
end
mutual
def ptE (t a : Int) : XProg → Bool
  | .mk k n c kids => ((kids.length : Int) == pkN k) && (pnode t a k n c && ptS t a kids)
def ptS (t a : Int) : List XProg → Bool
  | [] => true
  | x :: xs => ptE t a x && ptS t a xs
end
theorem ptS_all (t a : Int) : ∀ l : List XProg, ptS t a l = l.all (ptE t a)
  | [] => rfl
  | x :: xs => by simp only [ptS, List.all_cons]; rw [ptS_all t a xs]
theorem ptE_eq (t a : Int) (e : XProg) : ptE t a e = (((e.kids.length : Int) == pkN e.kind) && (pnode t a e.kind e.num e.cond && e.kids.all (ptE t a))) := by
  cases e
  simp only [ptE, ptS_all]
  rfl
theorem plE_eq (e : XProg) (left : Int) : plE e left = plS e.kids (left - 1) := by
  cases e
  rfl
theorem pdE_eq (e : XProg) : pdE e = pdS e.kids + 1 := by
  cases e
  rfl
theorem plS_neg {left : Int} (h : left < 0) : ∀ l : List XProg, plS l left = left
  | [] => rfl
  | x :: xs => by simp only [plS]; rw [if_pos h]
theorem plS_append : ∀ (l m : List XProg) (left : Int), plS (l ++ m) left = plS m (plS l left)
  | [], _, _ => rfl
  | x :: xs, m, left => by
    simp only [List.cons_append, plS]
    by_cases h : left < 0
    · rw [if_pos h, if_pos h, plS_neg h]
    · rw [if_neg h, if_neg h, plS_append xs m]
mutual
theorem plE_range : ∀ (e : XProg) (left : Int), 0 ≤ left → -1 ≤ plE e left ∧ plE e left ≤ left - 1
  | .mk _ _ _ kids, left, h => by
    have := plS_range kids (left - 1) (by omega)
    simp only [plE]
    exact this
theorem plS_range : ∀ (l : List XProg) (left : Int), -1 ≤ left → -1 ≤ plS l left ∧ plS l left ≤ left
  | [], left, h => ⟨h, Int.le_refl _⟩
  | x :: xs, left, h => by
    simp only [plS]
    by_cases hn : left < 0
    · rw [if_pos hn]; omega
    · rw [if_neg hn]
      have h1 := plE_range x left (by omega)
      have h2 := plS_range xs (plE x left) h1.1
      omega
end
theorem plS_take {l : List XProg} {i : Nat} {left : Int} (h : i < l.length) (hp : 0 ≤ plS (l.take i) left) : plS (l.take (i + 1)) left = plE l[i] (plS (l.take i) left) := by
  rw [List.take_add_one, List.getElem?_eq_getElem h, plS_append]
  simp only [Option.toList_some, plS]
  rw [if_neg (by omega)]
theorem plS_stop {l : List XProg} {i : Nat} {left : Int} (hp : plS (l.take i) left < 0) : plS l left = plS (l.take i) left := by
  have h : l = l.take i ++ l.drop i := (List.take_append_drop i l).symm
  conv => lhs; rw [h]
  rw [plS_append, plS_neg hp]
theorem pdS_take {l : List XProg} {i : Nat} (h : i < l.length) : pdS (l.take (i + 1)) = max (pdS (l.take i)) (pdE l[i]) := by
  induction l generalizing i with
  | nil => simp at h
  | cons x xs ih =>
    cases i with
    | zero => simp [pdS]
    | succ i =>
      simp only [List.length_cons, Nat.add_lt_add_iff_right] at h
      simp only [List.take_succ_cons, pdS, List.getElem_cons_succ, ih h]
      omega
mutual
theorem pdE_le : ∀ e : XProg, pdE e ≤ budProg e + 1
  | .mk k n c kids => by
    have := pdS_le kids
    simp only [pdE, budProg]
    omega
theorem pdS_le : ∀ l : List XProg, pdS l ≤ budProgS l
  | [] => Nat.le_refl _
  | x :: xs => by
    have h1 := pdE_le x
    have h2 := pdS_le xs
    simp only [pdS, budProgS]
    omega
end
/-! ### the plain law -/
mutual
theorem pfE_law (t a : Int) : ∀ (e : XProg) (n d : Int), 0 ≤ n → 0 ≤ d → pfE t a e n d = if 0 ≤ plE e n ∧ (pdE e : Int) ≤ d ∧ ptE t a e = true then some (plE e n) else none
  | .mk k num c kids, n, d, hn, hd => by
    have hr := plE_range (.mk k num c kids) n hn
    have hS := pfS_law t a kids (n - 1) (d - 1)
    unfold pfE
    have e1 : plE (.mk k num c kids) n = plS kids (n - 1) := rfl
    have e2 : pdE (.mk k num c kids) = pdS kids + 1 := rfl
    have e3 : ptE t a (.mk k num c kids) = (((kids.length : Int) == pkN k) && (pnode t a k num c && ptS t a kids)) := rfl
    by_cases h1 : n = 0 ∨ d = 0 ∨ pkN k ≠ kids.length
    · rw [if_pos h1, if_neg]
      rw [e1, e2, e3]
      rw [e1] at hr
      rintro ⟨g1, g2, g3⟩
      rcases h1 with h1 | h1 | h1
      · omega
      · omega
      · simp only [Bool.and_eq_true, beq_iff_eq] at g3
        exact h1 g3.1.symm
    rw [if_neg h1]
    have hl : ((kids.length : Int) == pkN k) = true := by simp only [beq_iff_eq]; omega
    by_cases h2 : pnode t a k num c = true
    · rw [if_pos h2, hS (by omega) (by omega)]
      have key : (0 ≤ plS kids (n - 1) ∧ (pdS kids : Int) ≤ d - 1 ∧ ptS t a kids = true) ↔ (0 ≤ plE (.mk k num c kids) n ∧ (pdE (.mk k num c kids) : Int) ≤ d ∧ ptE t a (.mk k num c kids) = true) := by
        rw [e1, e2, e3, hl, h2]
        simp only [Bool.true_and]
        constructor
        · rintro ⟨g1, g2, g3⟩; exact ⟨g1, by omega, g3⟩
        · rintro ⟨g1, g2, g3⟩; exact ⟨g1, by omega, g3⟩
      rw [ite_iff key, e1]
    · rw [if_neg h2, if_neg]
      rw [e3]
      rintro ⟨_, _, g3⟩
      simp only [Bool.and_eq_true] at g3
      exact h2 g3.2.1
theorem pfS_law (t a : Int) : ∀ (l : List XProg) (n d : Int), 0 ≤ n → 0 ≤ d → pfS t a l n d = if 0 ≤ plS l n ∧ (pdS l : Int) ≤ d ∧ ptS t a l = true then some (plS l n) else none
  | [], n, d, hn, hd => by
    rw [if_pos ⟨hn, hd, rfl⟩]
    rfl
  | x :: xs, n, d, hn, hd => by
    have e1 : plS (x :: xs) n = plS xs (plE x n) := by simp only [plS]; rw [if_neg (by omega : ¬ n < 0)]
    have e2 : pdS (x :: xs) = max (pdE x) (pdS xs) := rfl
    have e3 : ptS t a (x :: xs) = (ptE t a x && ptS t a xs) := rfl
    have e4 : pfS t a (x :: xs) n d = match pfE t a x n d with | none => none | some m => pfS t a xs m d := rfl
    rw [e4, pfE_law t a x n d hn hd]
    by_cases h : 0 ≤ plE x n ∧ (pdE x : Int) ≤ d ∧ ptE t a x = true
    · rw [if_pos h]
      show pfS t a xs (plE x n) d = _
      rw [pfS_law t a xs (plE x n) d h.1 hd]
      have := h.2.1
      have key : (0 ≤ plS xs (plE x n) ∧ (pdS xs : Int) ≤ d ∧ ptS t a xs = true) ↔ (0 ≤ plS (x :: xs) n ∧ (pdS (x :: xs) : Int) ≤ d ∧ ptS t a (x :: xs) = true) := ?_
      · rw [ite_iff key, e1]
      rw [e1, e2, e3, h.2.2, Bool.true_and]
      constructor
      · rintro ⟨g1, g2, g3⟩; exact ⟨g1, by omega, g3⟩
      · rintro ⟨g1, g2, g3⟩; exact ⟨g1, by omega, g3⟩
    · rw [if_neg h, if_neg]
      rw [e1, e2, e3]
      rintro ⟨g1, g2, g3⟩
      simp only [Bool.and_eq_true] at g3
      refine h ⟨?_, by omega, g3.1⟩
      by_cases hneg : plE x n < 0
      · rw [plS_neg hneg] at g1
        exact g1
      · omega
end
def goodP (t a : Int) (e : XProg) : Bool := decide (0 ≤ plE e 60) && (decide ((pdE e : Int) ≤ 20) && ptE t a e)
theorem pfE_good (t a : Int) (e : XProg) : (pfE t a e 60 20).isSome = goodP t a e := by
  rw [pfE_law t a e 60 20 (by omega) (by omega)]
  unfold goodP
  by_cases h1 : 0 ≤ plE e 60 <;> by_cases h2 : (pdE e : Int) ≤ 20 <;> cases ptE t a e <;> simp [h1, h2]
end Go.Proofs.YtaajacnceocpoaaGreat

namespace Go.Proofs.YtaajacnceocpoaaGreat
open Go Go.KA Go.Proofs
set_option maxHeartbeats 16000000
set_option maxRecDepth 100000
theorem isProg_ok (t a : Int) (ht : 0 ≤ t ∧ t ≤ 3) (ha : 0 ≤ a ∧ a ≤ 4) (e : XProg) : CallF Tryz.prog 40 [.a 2 [J t, J a], .a 6 (encProg e)] (B (goodP t a e)) := by
  rw [← pfE_good]
  refine callF_of_vc htb hm Tryz.func40 rfl rfl rfl rfl (ann := fun _ => none) (gh := fun _ => false) ?_
  repeat' ((conv => whnf); first | (guard_target = Done _; refine Done.mk ?_; first | (rfl; done) | skip) | (guard_target = CallN _ 105 _ _ _ _; refine CallN.pure _ _ rfl (progFits_ok t a ht ha e 60 20 (by omega) (by omega)) rfl _ rfl ?_) | (guard_target = Need (_ = true) _; refine Need.mk (by first | kernel_rfl | rfl) ?_) | (guard_target = GhO _ _ _ _; refine GhO.go ?_) | (guard_target = Need _ _; refine Need.mk (by first  | omega | (simp only [List.length_map]; omega)) ?_))
theorem l06Left_all (e : XProg) (left : Int) (h0 : 0 ≤ left) (h1 : left ≤ 1048576) (hx : ∀ x ∈ e.kids, ∀ left : Int, 0 ≤ left → left ≤ 1048576 → CallF Tryz.prog 88 [.c (.rp 6 (encProg x)), I left] (I (plE x left))) : CallF Tryz.prog 88 [.c (.rp 6 (toldP e)), I left] (I (plE e left)) := by
  refine callF_of_vc htb hm Tryz.func88 rfl rfl rfl rfl (ann := fun _ => none) (gh := fun _ => false) ?_
  repeat' ((conv => whnf); first | (guard_target = Done _; refine Done.mk ?_; first | (rw [plE_eq, plS_stop (i := i) (by rw [← ha.2.1]; omega), ← ha.2.1]; rfl; done) | (rw [plE_eq, ← List.take_of_length_le (l := e.kids) (i := i) (by omega), ← ha.2.1]; rfl; done) | skip) | (guard_target =~ LoopE 3 _ _ _ _ _ _; refine LoopE.mk { α := Nat × Int, keep := [0], ov := fun ⟨i, m⟩ => [(1, I m), (5, I i)], φ := fun ⟨i, m⟩ => i ≤ e.kids.length ∧ m = plS (e.kids.take i) (left - 1) ∧ -1 ≤ m ∧ m ≤ 1048576, μ := fun ⟨i, m⟩ => e.kids.length - i } (LoopN.mk ((0, left - 1) : Nat × Int) (by exact ⟨Nat.zero_le _, rfl, by show -1 ≤ left - 1; omega, by show left - 1 ≤ 1048576; omega⟩) (by repeat' ((conv => whnf) <;> first | exact trivial | kernel_rfl | constructor)) (by repeat' ((conv => whnf) <;> first | exact trivial | kernel_rfl | constructor)) (by repeat' ((conv => whnf) <;> first | exact trivial | refine ⟨?_, ?_⟩ | exact rfl | (simp only [List.map_append, List.map_cons, List.map_nil, List.map_set]; first | done | rfl))) (fun A ha => ?_) (by intro A; first | rfl | (obtain ⟨_, _⟩ := A; rfl) | (obtain ⟨_, _, _⟩ := A; rfl))); obtain ⟨i, m⟩ := A; have ha : i ≤ e.kids.length ∧ m = plS (e.kids.take i) (left - 1) ∧ -1 ≤ m ∧ m ≤ 1048576 := ha) | (guard_target = Gh _ _ _ _ _; refine Gh.go ⟨((i + 1, plE e.kids[i] m) : Nat × Int), (by have hh := plE_range e.kids[i] m (by omega); exact ⟨by show i + 1 ≤ _; omega, by show plE e.kids[i] m = _; rw [plS_take (by omega) (by rw [← ha.2.1]; omega), ← ha.2.1], by show -1 ≤ plE e.kids[i] m; omega, by show plE e.kids[i] m ≤ _; omega⟩), (by first | (show _ < _; simp only []; omega) | omega | (simp; omega)), (by repeat' ((conv => whnf) <;> first | exact trivial | kernel_rfl | constructor)), (by repeat' ((conv => whnf) <;> first | exact trivial | kernel_rfl | constructor)), (by repeat' ((conv => whnf) <;> first | exact trivial | refine ⟨?_, ?_⟩ | exact rfl | (simp only [List.map_append, List.map_cons, List.map_nil, List.map_set]; first | done | rfl)))⟩) | (guard_target = Fact _ _; refine Fact.mk fun hL => ?_; (try simp only [List.length_map, maxLen] at hL)) | (guard_target = Branch _ _ _; (first | apply Branch.dec | apply Branch.beq | apply Branch.bne | apply Branch.ndec | apply Branch.nb | apply Branch.mk) <;> intro h <;> (try simp only [List.length_map] at h) <;> (try omega) <;> (try contradiction)) | (guard_target = CallN _ 88 _ _ _ _; refine CallN.pure _ _ rfl (hx _ (List.getElem_mem (by omega)) m (by omega) (by omega)) rfl _ rfl ?_) | (guard_target = Arith _ _ _; refine Arith.fit (by apply wrap_fit <;> first | omega | (simp only [List.length_map]; omega)) ?_) | (guard_target = Arith _ _ _; refine Arith.fit (by decide) ?_) | (guard_target = Index _ _ _; first | refine Index.mk _ (idx_map (i := i) (by omega)) ?_ | refine Index.mk _ (idx_map (by omega)) ?_) | (guard_target = LinkV _ _ _; refine LinkV.no ?_) | (guard_target = Need _ _; refine Need.mk (by first  | omega | (simp only [List.length_map]; omega)) ?_))
theorem l06Left_ok (e : XProg) (left : Int) (h0 : 0 ≤ left) (h1 : left ≤ 1048576) : CallF Tryz.prog 88 [.c (.rp 6 (encProg e)), I left] (I (plE e left)) := by
  rw [encProg_eq]
  exact l06Left_all e left h0 h1 fun x _hx left h0 h1 => l06Left_ok x left h0 h1
  termination_by SizeOf.sizeOf e
  decreasing_by
    have := List.sizeOf_lt_of_mem _hx
    cases e
    simp only [XProg.mk.sizeOf_spec]
    show SizeOf.sizeOf x < _
    simp only [XProg.kids] at this
    omega
theorem l06Depth_all (e : XProg) (hl : budProg e ≤ 1048576) (hx : ∀ x ∈ e.kids, CallF Tryz.prog 89 [.c (.rp 6 (encProg x))] (I (pdE x))) : CallF Tryz.prog 89 [.c (.rp 6 (toldP e))] (I (pdE e)) := by
  have hd := pdE_le e
  rw [pdE_eq] at hd
  refine callF_of_vc htb hm Tryz.func89 rfl rfl rfl rfl (ann := fun _ => none) (gh := fun _ => false) ?_
  repeat' ((conv => whnf); first | (guard_target = Done _; refine Done.mk ?_; first | (rw [pdE_eq, ← List.take_of_length_le (l := e.kids) (i := i) (by omega), ← ha.2]; rfl; done) | skip) | (guard_target =~ LoopE 3 _ _ _ _ _ _; refine LoopE.mk { α := Nat × Nat, keep := [0], ov := fun ⟨i, m⟩ => [(3, I (m : Nat)), (4, I i)], φ := fun ⟨i, m⟩ => i ≤ e.kids.length ∧ m = pdS (e.kids.take i), μ := fun ⟨i, m⟩ => e.kids.length - i } (LoopN.mk ((0, 0) : Nat × Nat) (by exact ⟨Nat.zero_le _, rfl⟩) (by repeat' ((conv => whnf) <;> first | exact trivial | kernel_rfl | constructor)) (by repeat' ((conv => whnf) <;> first | exact trivial | kernel_rfl | constructor)) (by repeat' ((conv => whnf) <;> first | exact trivial | refine ⟨?_, ?_⟩ | exact rfl | (simp only [List.map_append, List.map_cons, List.map_nil, List.map_set]; first | done | rfl))) (fun A ha => ?_) (by intro A; first | rfl | (obtain ⟨_, _⟩ := A; rfl) | (obtain ⟨_, _, _⟩ := A; rfl))); obtain ⟨i, m⟩ := A; have ha : i ≤ e.kids.length ∧ m = pdS (e.kids.take i) := ha) | (guard_target = Gh _ _ _ _ _; refine Gh.go ⟨((i + 1, max m (pdE e.kids[i])) : Nat × Nat), (by exact ⟨by show i + 1 ≤ _; omega, by show max m (pdE e.kids[i]) = _; rw [pdS_take (by omega), ← ha.2]⟩), (by first | (show _ < _; simp only []; omega) | omega | (simp; omega)), (by repeat' ((conv => whnf) <;> first | exact trivial | kernel_rfl | constructor)), (by repeat' ((conv => whnf) <;> first | exact trivial | kernel_rfl | constructor)), (by repeat' ((conv => whnf) <;> first | exact trivial | refine ⟨?_, ?_⟩ | exact rfl | (simp only [List.map_append, List.map_cons, List.map_nil, List.map_set]; first | done | rfl)))⟩) | (guard_target = Fact _ _; refine Fact.mk fun hL => ?_; (try simp only [List.length_map, maxLen] at hL)) | (guard_target = Branch _ _ _; (first | apply Branch.dec | apply Branch.beq | apply Branch.bne | apply Branch.ndec | apply Branch.nb | apply Branch.mk) <;> intro h <;> (try simp only [List.length_map] at h) <;> (try omega) <;> (try contradiction)) | (guard_target = CallN _ 89 _ _ _ _; refine CallN.pure _ _ rfl (hx _ (List.getElem_mem (by omega))) rfl _ rfl ?_) | (guard_target = CallN _ 96 _ _ _ _; refine CallN.pure _ _ rfl (max_ok _ _) rfl _ rfl ?_) | (guard_target = Arith _ _ _; refine Arith.fit (wrap_fit (by (first | omega | (have h9 := ha.2; rw [List.take_of_length_le (by omega)] at h9; omega))) (by (first | omega | (have h9 := ha.2; rw [List.take_of_length_le (by omega)] at h9; omega)))) ?_) | (guard_target = Arith _ _ _; refine Arith.fit (by decide) ?_) | (guard_target = Index _ _ _; first | refine Index.mk _ (idx_map (i := i) (by omega)) ?_ | refine Index.mk _ (idx_map (by omega)) ?_) | (guard_target = LinkV _ _ _; refine LinkV.no ?_) | (guard_target = Need _ _; refine Need.mk (by first  | omega | (simp only [List.length_map]; omega)) ?_))
theorem l06Depth_ok (e : XProg) (hl : budProg e ≤ 1048576) : CallF Tryz.prog 89 [.c (.rp 6 (encProg e))] (I (pdE e)) := by
  rw [encProg_eq]
  exact l06Depth_all e hl fun x _hx => l06Depth_ok x (by
    have := budS_mem budProg _hx
    cases e
    simp only [budProg, budProgS_eq] at hl
    simp only [XProg.kids] at this
    omega)
  termination_by SizeOf.sizeOf e
  decreasing_by
    have := List.sizeOf_lt_of_mem _hx
    cases e
    simp only [XProg.mk.sizeOf_spec]
    show SizeOf.sizeOf x < _
    simp only [XProg.kids] at this
    omega
theorem l06Tree_all (t a : Int) (hs : goodSig t a = true) (e : XProg) (hl : budExpr e.cond ≤ 1048576) (hx : ∀ x ∈ e.kids, CallF Tryz.prog 90 [.a 2 [J t, J a], .c (.rp 6 (encProg x))] (B (ptE t a x))) : CallF Tryz.prog 90 [.a 2 [J t, J a], .c (.rp 6 (toldP e))] (B (ptE t a e)) := by
  have hb := sig_bounds hs
  have hc := l06Cond_ok t a hs e.cond hl
  rw [encExpr_eq] at hc
  have hc' : CallF Tryz.prog 128 [.a 2 [J t, J a], .c (.rp 4 ((toldP e).drop 2))] (B (condG t a e.cond)) := hc.cut (.same (.cut (k := 3) (by omega) .nil))
  have hc0 : CallF Tryz.prog 152 [.c (.rp 4 ((toldP e).drop 2))] (B (noneB e.cond)) := (l06None_ok e.cond).cut (.cut (k := 3) (by omega) .nil)
  refine callF_of_vc htb hm Tryz.func90 rfl rfl rfl rfl (ann := fun _ => none) (gh := fun _ => false) ?_
  repeat' ((conv => whnf); first | (guard_target = Done _; refine Done.mk ?_; first | (rw [ptE_eq, all_stop (i := i) (by omega) h]; simp [normS, normV]; done) | (rw [ptE_eq, all_end (by omega) ha]; simp_all [pnode, askB, normS, normV]; done) | (rw [ptE_eq]; simp_all [pnode, askB, normS, normV]; done) | (rw [ptE_eq]; simp_all [pnode, askB, normS, normV]; omega; done) | skip) | (guard_target =~ LoopE 8 _ _ _ _ _ _; refine LoopE.mk { α := Nat, keep := [1, 2], ov := fun i => [(5, I i)], φ := fun i => i ≤ e.kids.length ∧ (e.kids.take i).all (ptE t a) = true, μ := fun i => e.kids.length - i } (LoopN.mk (0 : Nat) (by exact ⟨Nat.zero_le _, rfl⟩) (by repeat' ((conv => whnf) <;> first | exact trivial | kernel_rfl | constructor)) (by repeat' ((conv => whnf) <;> first | exact trivial | kernel_rfl | constructor)) (by repeat' ((conv => whnf) <;> first | exact trivial | refine ⟨?_, ?_⟩ | exact rfl | (simp only [List.map_append, List.map_cons, List.map_nil, List.map_set]; first | done | rfl))) (fun (i : Nat) ha => ?_) (by intro A; first | rfl | (obtain ⟨_, _⟩ := A; rfl) | (obtain ⟨_, _, _⟩ := A; rfl))); have ha : i ≤ e.kids.length ∧ (e.kids.take i).all (ptE t a) = true := ha) | (guard_target = Gh _ _ _ _ _; refine Gh.go ⟨(i + 1 : Nat), (by exact all_go (by omega) ha h), (by first | (show _ < _; simp only []; omega) | omega | (simp; omega)), (by repeat' ((conv => whnf) <;> first | exact trivial | kernel_rfl | constructor)), (by repeat' ((conv => whnf) <;> first | exact trivial | kernel_rfl | constructor)), (by repeat' ((conv => whnf) <;> first | exact trivial | refine ⟨?_, ?_⟩ | exact rfl | (simp only [List.map_append, List.map_cons, List.map_nil, List.map_set]; first | done | rfl)))⟩) | (guard_target = Fact _ _; refine Fact.mk fun hL => ?_; (try simp only [List.length_map, maxLen] at hL)) | (guard_target = Branch _ _ _; (first | apply Branch.dec | apply Branch.beq | apply Branch.bne | apply Branch.ndec | apply Branch.nb | apply Branch.mk) <;> intro h <;> (try simp only [List.length_map] at h) <;> (try omega) <;> (try contradiction)) | (guard_target = CallN _ 150 _ _ _ _; refine CallN.pure _ _ rfl (l06Kids_ok _) rfl _ rfl ?_) | (guard_target = CallN _ 151 _ _ _ _; refine CallN.pure _ _ rfl (l06Asks_ok _) rfl _ rfl ?_) | (guard_target = CallN _ 98 _ _ _ _; refine CallN.pure _ _ rfl (l00In_ok _ _ _) rfl _ rfl ?_) | (guard_target = CallN _ 128 _ _ _ _; refine CallN.pure _ _ rfl (hc') rfl _ rfl ?_) | (guard_target = CallN _ 152 _ _ _ _; refine CallN.pure _ _ rfl (hc0) rfl _ rfl ?_) | (guard_target = CallN _ 90 _ _ _ _; refine CallN.pure _ _ rfl (hx _ (List.getElem_mem (by omega))) rfl _ rfl ?_) | (guard_target = Arith _ _ _; refine Arith.fit (by apply wrap_fit <;> first | omega | (simp only [List.length_map]; omega)) ?_) | (guard_target = Arith _ _ _; refine Arith.fit (by decide) ?_) | (guard_target = Index _ _ _; first | refine Index.mk _ (idx_map (i := i) (by omega)) ?_ | refine Index.mk _ (idx_map (by omega)) ?_) | (guard_target = Need (_ = true) _; refine Need.mk (by first | kernel_rfl | rfl) ?_) | (guard_target = LinkV _ _ _; refine LinkV.no ?_) | (guard_target = GhO _ _ _ _; refine GhO.go ?_) | (guard_target = Need _ _; refine Need.mk (by first  | omega | (simp only [List.length_map]; omega)) ?_))
theorem l06Tree_ok (t a : Int) (hs : goodSig t a = true) (e : XProg) (hl : budProg e ≤ 1048576) : CallF Tryz.prog 90 [.a 2 [J t, J a], .c (.rp 6 (encProg e))] (B (ptE t a e)) := by
  rw [encProg_eq]
  refine l06Tree_all t a hs e ?_ fun x _hx => l06Tree_ok t a hs x ?_
  · cases e
    simp only [budProg] at hl
    show budExpr _ ≤ _
    simp only [XProg.cond]
    omega
  · have := budS_mem budProg _hx
    cases e
    simp only [budProg, budProgS_eq] at hl
    simp only [XProg.kids] at this
    omega
  termination_by SizeOf.sizeOf e
  decreasing_by
    have := List.sizeOf_lt_of_mem _hx
    cases e
    simp only [XProg.mk.sizeOf_spec]
    show SizeOf.sizeOf x < _
    simp only [XProg.kids] at this
    omega
theorem l06Ok_ok (t a : Int) (e : XProg) (hl : budProg e ≤ 1048576) : CallF Tryz.prog 30 [.a 2 [J t, J a], .c (.rp 6 (encProg e))] (B (goodSig t a && goodP t a e)) := by
  refine callF_of_vc htb hm Tryz.func30 rfl rfl rfl rfl (ann := fun _ => none) (gh := fun _ => false) ?_
  repeat' ((conv => whnf); first | (guard_target = Done _; refine Done.mk ?_; first | (rfl; done) | (simp_all [goodP, normS, normV]; done) | (simp_all [goodP, normS, normV]; omega; done) | (simp_all [goodP, normS, normV]; intros; omega; done) | (simp_all [-List.all_eq_true, -List.all_eq_false, goodP, normS, normV]; done) | (simp_all [-List.all_eq_true, -List.all_eq_false, goodP, normS, normV]; omega; done) | skip) | (guard_target = Branch _ _ _; (first | apply Branch.dec | apply Branch.beq | apply Branch.bne | apply Branch.ndec | apply Branch.nb | apply Branch.mk) <;> intro h <;> (try simp only [List.length_map] at h) <;> (try omega) <;> (try contradiction)) | (guard_target = CallN _ 87 _ _ _ _; refine CallN.pure _ _ rfl (l01Sig_ok t a) rfl _ rfl ?_) | (guard_target = CallN _ 88 _ _ _ _; refine CallN.pure _ _ rfl (l06Left_ok e 60 (by omega) (by omega)) rfl _ rfl ?_) | (guard_target = CallN _ 89 _ _ _ _; refine CallN.pure _ _ rfl (l06Depth_ok e hl) rfl _ rfl ?_) | (guard_target = CallN _ 90 _ _ _ _; refine CallN.pure _ _ rfl (l06Tree_ok t a ‹_› e hl) rfl _ rfl ?_) | (guard_target = Need _ _; refine Need.mk (by first  | omega | (simp only [List.length_map]; omega)) ?_))
end Go.Proofs.YtaajacnceocpoaaGreat
