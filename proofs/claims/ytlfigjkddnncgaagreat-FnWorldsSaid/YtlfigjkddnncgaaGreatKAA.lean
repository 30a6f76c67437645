/- Contracts of the program's and the reference's functions that look whether signatures and conditions are valid. No conditions. -/
import Derived.Test.YtlfigjkddnncgaaGreatRt
namespace Go.Proofs.YtlfigjkddnncgaaGreat
open Go Go.KA Go.Proofs
theorem _root_.Go.KA.Branch.dec {p : Prop} {_i : Decidable p} {A B : Prop} (t : p → A) (f : ¬ p → B) : Branch (decide p) A B := Branch.mk (fun h => t (of_decide_eq_true h)) (fun h => f (of_decide_eq_false h))
theorem _root_.Go.KA.Branch.ndec {p : Prop} {_i : Decidable p} {A B : Prop} (t : ¬ p → A) (f : p → B) : Branch (!(decide p)) A B := Branch.mk (fun h => t (by simpa using h)) (fun h => f (by simpa using h))
theorem _root_.Go.KA.Branch.beq {a b : Int} {A B : Prop} (t : a = b → A) (f : ¬ a = b → B) : Branch (a == b) A B := Branch.mk (fun h => t (by simpa using h)) (fun h => f (by simpa using h))
theorem _root_.Go.KA.Branch.bne {a b : Int} {A B : Prop} (t : ¬ a = b → A) (f : a = b → B) : Branch (a != b) A B := Branch.mk (fun h => t (by simpa using h)) (fun h => f (by simpa using h))
theorem _root_.Go.KA.Branch.nb {b : Bool} {A B : Prop} (t : b = false → A) (f : b = true → B) : Branch (!b) A B := Branch.mk (fun h => t (by simpa using h)) (fun h => f (by simpa using h))
abbrev J (n : Int) : CV := .val (.int .i64 n)
def rng (lo hi n : Int) : Bool := decide (lo ≤ n) && decide (n ≤ hi)
theorem within_ok (n lo hi : Int) : CallF Tryz.prog 72 [I n, I lo, I hi] (B (rng lo hi n)) := by
  refine callF_of_vc htb hm Tryz.func72 rfl rfl rfl rfl (ann := fun _ => none) (gh := fun _ => false) ?_
  refine Branch.mk (fun h => ?_) (fun h => ?_)
  · refine Done.mk ?_
    unfold rng; rw [h]; rfl
  · refine Done.mk ?_
    unfold rng; rw [h]; rfl
theorem l00In_ok (n lo hi : Int) : CallF Tryz.prog 113 [I n, I lo, I hi] (B (rng lo hi n)) := by
  refine callF_of_vc htb hm Tryz.func113 rfl rfl rfl rfl (ann := fun _ => none) (gh := fun _ => false) ?_
  refine Branch.mk (fun h => ?_) (fun h => ?_)
  · have h1 : decide (lo ≤ n) = true := by simpa using h
    refine Done.mk ?_
    unfold rng; rw [h1]; rfl
  · have h1 : decide (lo ≤ n) = false := by simpa using h
    refine Done.mk ?_
    unfold rng; rw [h1]; rfl
def goodSig (a b : Int) : Bool := rng 0 3 a && rng 0 4 b
theorem validSig_ok (a b : Int) : CallF Tryz.prog 115 [.a 2 [J a, J b]] (B (goodSig a b)) := by
  refine callF_of_vc htb hm Tryz.func115 rfl rfl rfl rfl (ann := fun _ => none) (gh := fun _ => false) ?_
  refine CallN.pure _ _ rfl (within_ok _ _ _) rfl _ rfl ?_
  refine Branch.mk (fun h => ?_) (fun h => ?_)
  · refine CallN.pure _ _ rfl (within_ok _ _ _) rfl _ rfl ?_
    refine Done.mk ?_
    unfold goodSig; rw [h]; rfl
  · refine Done.mk ?_
    unfold goodSig; rw [h]; rfl
theorem l01Sig_ok (a b : Int) : CallF Tryz.prog 105 [.a 2 [J a, J b]] (B (goodSig a b)) := by
  refine callF_of_vc htb hm Tryz.func105 rfl rfl rfl rfl (ann := fun _ => none) (gh := fun _ => false) ?_
  refine CallN.pure _ _ rfl (l00In_ok _ _ _) rfl _ rfl ?_
  refine Branch.mk (fun h => ?_) (fun h => ?_)
  · refine CallN.pure _ _ rfl (l00In_ok _ _ _) rfl _ rfl ?_
    refine Done.mk ?_
    unfold goodSig; rw [h]; rfl
  · refine Done.mk ?_
    unfold goodSig; rw [h]; rfl

/-! ### Expressions -/
abbrev toldE (e : XExpr) : List CV := [J e.kind, J e.num, .ro 3 (e.kids.map encExpr)]
def noneB (e : XExpr) : Bool := (e.kind == 0) && ((e.num == 0) && ((e.kids.length : Int) == 0))
theorem isNone_ok (e : XExpr) : CallF Tryz.prog 167 [.a 3 (toldE e)] (B (noneB e)) := by
  refine callF_of_vc htb hm Tryz.func167 rfl rfl rfl rfl (ann := fun _ => none) (gh := fun _ => false) ?_
  refine Branch.mk (fun h1 => ?_) (fun h1 => ?_)
  · refine Branch.mk (fun h2 => ?_) (fun h2 => ?_)
    · refine Fact.mk fun _ => ?_
      refine Done.mk ?_
      unfold noneB; rw [h1, h2, List.length_map]; rfl
    · refine Done.mk ?_
      unfold noneB; rw [h1, h2]; rfl
  · refine Done.mk ?_
    unfold noneB; rw [h1]; rfl
theorem l06None_ok (e : XExpr) : CallF Tryz.prog 170 [.c (.rp 3 (toldE e))] (B (noneB e)) := by
  refine callF_of_vc htb hm Tryz.func170 rfl rfl rfl rfl (ann := fun _ => none) (gh := fun _ => false) ?_
  refine Branch.mk (fun h1 => ?_) (fun h1 => ?_)
  · refine Branch.mk (fun h2 => ?_) (fun h2 => ?_)
    · refine Fact.mk fun _ => ?_
      refine Done.mk ?_
      unfold noneB; rw [h1, h2, List.length_map]; rfl
    · refine Done.mk ?_
      unfold noneB; rw [h1, h2]; rfl
  · refine Done.mk ?_
    unfold noneB; rw [h1]; rfl
mutual
def condB : XExpr → Bool
  | .mk kind _ kids => (rng 1 7 kind && !(kind == 4)) && condS kids
def condS : List XExpr → Bool
  | [] => true
  | x :: xs => condB x && condS xs
end
theorem condS_all : ∀ l : List XExpr, condS l = l.all condB
  | [] => rfl
  | x :: xs => by simp only [condS, List.all_cons]; rw [condS_all xs]
theorem condB_eq (e : XExpr) : condB e = ((rng 1 7 e.kind && !(e.kind == 4)) && e.kids.all condB) := by
  cases e
  simp only [condB, condS_all]
  rfl
theorem all_no {α : Type} {p : α → Bool} {l : List α} {i : Nat} (h : i < l.length) (hp : p l[i] = false) : l.all p = false := by
  rw [List.all_eq_false]
  exact ⟨l[i], List.getElem_mem h, by simp [hp]⟩
theorem all_more {α : Type} {p : α → Bool} {l : List α} {i : Nat} (h : i < l.length) (ha : (l.take i).all p = true) (hp : p l[i] = true) : (l.take (i + 1)).all p = true := by
  rw [List.take_add_one, List.getElem?_eq_getElem h, List.all_append, ha]
  simp [hp]
theorem l01Condition_all (e : XExpr) (hx : ∀ x ∈ e.kids, CallF Tryz.prog 160 [.c (.rp 3 (encExpr x))] (B (condB x))) : CallF Tryz.prog 160 [.c (.rp 3 (toldE e))] (B (condB e)) := by
  refine callF_of_vc htb hm Tryz.func160 rfl rfl rfl rfl (ann := fun n => match n with | 4 => some { α := Nat, keep := [0], ov := fun i => [(3, I i)], φ := fun i => i ≤ e.kids.length ∧ (e.kids.take i).all condB = true, μ := fun i => e.kids.length - i } | _ => none) (gh := fun _ => false) ?_
  refine CallN.pure _ _ rfl (l00In_ok _ _ _) rfl _ rfl ?_
  refine Branch.mk (fun h1 => ?_) (fun h1 => ?_)
  · refine Done.mk ?_
    have : rng 1 7 e.kind = false := by simpa using h1
    rw [condB_eq, this]; rfl
  have h1 : rng 1 7 e.kind = true := by simpa using h1
  refine Branch.mk (fun h2 => ?_) (fun h2 => ?_)
  · refine Done.mk ?_
    rw [condB_eq, h1, h2]; rfl
  refine LoopN.mk (0 : Nat) ⟨Nat.zero_le _, rfl⟩ ⟨⟨rfl, rfl⟩, trivial⟩ ⟨⟨rfl, rfl⟩, trivial⟩ trivial ?_ (fun _ => rfl)
  intro (i : Nat) (hi : i ≤ e.kids.length ∧ (e.kids.take i).all condB = true)
  obtain ⟨hi, ha⟩ := hi
  refine Fact.mk fun hL => ?_
  refine Branch.mk (fun h => ?_) (fun h => ?_)
  · have h := of_decide_eq_true h
    rw [List.length_map] at h hL
    have hi' : i < e.kids.length := by omega
    refine Need.mk (by omega) (Index.mk (encExpr e.kids[i]) (by simp [hi']) ?_)
    refine CallN.pure _ _ rfl (hx _ (List.getElem_mem hi')) rfl _ rfl ?_
    refine Branch.mk (fun hb => ?_) (fun hb => ?_)
    · refine Done.mk ?_
      rw [condB_eq, h1, h2, all_no hi' (by simpa using hb)]; rfl
    · simp only [maxLen] at hL
      refine Arith.fit (wrap_fit (by omega) (by omega)) ?_
      exact Gh.go ⟨i + 1, ⟨hi', all_more hi' ha (by simpa using hb)⟩, (by show e.kids.length - (i + 1) < e.kids.length - i; omega), ⟨⟨rfl, rfl⟩, trivial⟩, ⟨⟨rfl, rfl⟩, trivial⟩, trivial⟩
  · have h := of_decide_eq_false h
    rw [List.length_map] at h
    have : i = e.kids.length := by omega
    subst this
    refine Done.mk ?_
    rw [List.take_length] at ha
    rw [condB_eq, h1, h2, ha]; rfl
theorem l01Condition_ok (e : XExpr) : CallF Tryz.prog 160 [.c (.rp 3 (encExpr e))] (B (condB e)) := by
  rw [encExpr_eq]
  exact l01Condition_all e fun x _hx => l01Condition_ok x
  termination_by SizeOf.sizeOf e
  decreasing_by
    have := List.sizeOf_lt_of_mem _hx
    cases e
    simp only [XExpr.mk.sizeOf_spec]
    show SizeOf.sizeOf x < _
    simp only [XExpr.kids] at this
    omega
end Go.Proofs.YtlfigjkddnncgaaGreat

namespace Go.Proofs.YtlfigjkddnncgaaGreat
open Go Go.KA Go.Proofs
def kidsN (k : Int) : Int := if k == 1 || (k == 2 || (k == 3 || k == 4)) then 0 else if k == 5 || k == 8 then 1 else if k == 6 || k == 7 then 2 else -1
theorem l01Kids_ok (k : Int) : CallF Tryz.prog 161 [I k] (I (kidsN k)) := by
  refine callF_of_vc htb hm Tryz.func161 rfl rfl rfl rfl (ann := fun _ => none) (gh := fun _ => false) ?_
  refine Branch.mk (fun h1 => Done.mk (by simp [kidsN, h1]; rfl)) (fun h1 => ?_)
  refine Branch.mk (fun h2 => Done.mk (by simp [kidsN, h1, h2]; rfl)) (fun h2 => ?_)
  refine Branch.mk (fun h3 => Done.mk (by simp [kidsN, h1, h2, h3]; rfl)) (fun h3 => ?_)
  refine Branch.mk (fun h4 => Done.mk (by simp [kidsN, h1, h2, h3, h4]; rfl)) (fun h4 => ?_)
  refine Branch.mk (fun h5 => Done.mk (by simp [kidsN, h1, h2, h3, h4, h5]; rfl)) (fun h5 => ?_)
  refine Branch.mk (fun h8 => Done.mk (by simp [kidsN, h1, h2, h3, h4, h5, h8]; rfl)) (fun h8 => ?_)
  refine Branch.mk (fun h6 => Done.mk (by simp [kidsN, h1, h2, h3, h4, h5, h6, h8]; rfl)) (fun h6 => ?_)
  refine Branch.mk (fun h7 => Done.mk (by simp [kidsN, h1, h2, h3, h4, h5, h6, h7, h8]; rfl)) (fun h7 => ?_)
  exact Done.mk (by simp [kidsN, h1, h2, h3, h4, h5, h6, h7, h8]; rfl)
theorem kidsOf_ok (k : Int) : CallF Tryz.prog 171 [I k] (I (kidsN k)) := by
  refine callF_of_vc htb hm Tryz.func171 rfl rfl rfl rfl (ann := fun _ => none) (gh := fun _ => false) ?_
  refine Branch.mk (fun h1 => Done.mk (by simp [kidsN, h1]; rfl)) (fun h1 => ?_)
  refine Branch.mk (fun h2 => Done.mk (by simp [kidsN, h1, h2]; rfl)) (fun h2 => ?_)
  refine Branch.mk (fun h3 => Done.mk (by simp [kidsN, h1, h2, h3]; rfl)) (fun h3 => ?_)
  refine Branch.mk (fun h4 => Done.mk (by simp [kidsN, h1, h2, h3, h4]; rfl)) (fun h4 => ?_)
  refine Branch.mk (fun h5 => Done.mk (by simp [kidsN, h1, h2, h3, h4, h5]; rfl)) (fun h5 => ?_)
  refine Branch.mk (fun h8 => Done.mk (by simp [kidsN, h1, h2, h3, h4, h5, h8]; rfl)) (fun h8 => ?_)
  refine Branch.mk (fun h6 => Done.mk (by simp [kidsN, h1, h2, h3, h4, h5, h6, h8]; rfl)) (fun h6 => ?_)
  refine Branch.mk (fun h7 => Done.mk (by simp [kidsN, h1, h2, h3, h4, h5, h6, h7, h8]; rfl)) (fun h7 => ?_)
  exact Done.mk (by simp [kidsN, h1, h2, h3, h4, h5, h6, h7, h8]; rfl)
theorem isCondition_all (e : XExpr) (hx : ∀ x ∈ e.kids, CallF Tryz.prog 55 [.a 3 (encExpr x)] (B (condB x))) : CallF Tryz.prog 55 [.a 3 (toldE e)] (B (condB e)) := by
  refine callF_of_vc htb hm Tryz.func55 rfl rfl rfl rfl (ann := fun n => match n with | 10 => some { α := Nat, keep := [2, 15, 16], ov := fun i => [(17, I i)], φ := fun i => i ≤ e.kids.length ∧ (e.kids.take i).all condB = true, μ := fun i => e.kids.length - i } | _ => none) (gh := fun _ => false) ?_
  refine Branch.mk (fun hh => ?_) (fun h1 => Branch.mk (fun hh => ?_) (fun h2 => Branch.mk (fun hh => ?_) (fun h3 => Branch.mk (fun hh => ?_) (fun h5 => Branch.mk (fun hh => ?_) (fun h6 => Branch.mk (fun hh => ?_) (fun h7 => ?_))))))
  rotate_left 6
  · refine Done.mk ?_
    have : condB e = false := by
      rw [condB_eq]
      simp only [beq_eq_false_iff_ne, ne_eq] at h1 h2 h3 h5 h6 h7
      have : (rng 1 7 e.kind && !(e.kind == 4)) = false := by
        simp only [rng, Bool.and_eq_false_iff, decide_eq_false_iff_not, Bool.not_eq_false', beq_iff_eq]
        omega
      rw [this]; rfl
    rw [this]; rfl
  all_goals
    have hk : (rng 1 7 e.kind && !(e.kind == 4)) = true := by
      have hq := eq_of_beq hh
      rw [hq]; rfl
    refine Fact.mk fun hL => ?_
    refine LoopN.mk (0 : Nat) ⟨Nat.zero_le _, rfl⟩ ⟨⟨rfl, rfl⟩, trivial⟩ ⟨⟨rfl, rfl⟩, ⟨rfl, rfl⟩, ⟨rfl, rfl⟩, trivial⟩ ⟨⟨rfl, rfl⟩, trivial⟩ ?_ (fun _ => rfl)
    intro (i : Nat) (hi : i ≤ e.kids.length ∧ (e.kids.take i).all condB = true)
    obtain ⟨hi, ha⟩ := hi
    rw [List.length_map] at hL
    refine Branch.mk (fun h => ?_) (fun h => ?_)
    · have h := of_decide_eq_true h
      rw [List.length_map] at h
      have hi' : i < e.kids.length := by omega
      refine Need.mk (by omega) (Index.mk (encExpr e.kids[i]) (by simp [hi']) ?_)
      refine CallN.pure _ _ rfl (hx _ (List.getElem_mem hi')) rfl _ rfl ?_
      refine Branch.mk (fun hb => ?_) (fun hb => ?_)
      · refine Done.mk ?_
        rw [condB_eq, hk, all_no hi' (by simpa using hb)]; rfl
      · simp only [maxLen] at hL
        refine Arith.fit (wrap_fit (by omega) (by omega)) ?_
        exact Gh.go ⟨i + 1, ⟨hi', all_more hi' ha (by simpa using hb)⟩, (by show e.kids.length - (i + 1) < e.kids.length - i; omega), ⟨⟨rfl, rfl⟩, trivial⟩, ⟨⟨rfl, rfl⟩, ⟨rfl, rfl⟩, ⟨rfl, rfl⟩, trivial⟩, ⟨⟨rfl, rfl⟩, trivial⟩⟩
    · have h := of_decide_eq_false h
      rw [List.length_map] at h
      have : i = e.kids.length := by omega
      subst this
      refine Done.mk ?_
      rw [List.take_length] at ha
      rw [condB_eq, hk, ha]; rfl
theorem isCondition_ok (e : XExpr) : CallF Tryz.prog 55 [.a 3 (encExpr e)] (B (condB e)) := by
  rw [encExpr_eq]
  exact isCondition_all e fun x _hx => isCondition_ok x
  termination_by SizeOf.sizeOf e
  decreasing_by
    have := List.sizeOf_lt_of_mem _hx
    cases e
    simp only [XExpr.mk.sizeOf_spec]
    show SizeOf.sizeOf x < _
    simp only [XExpr.kids] at this
    omega
end Go.Proofs.YtlfigjkddnncgaaGreat

namespace Go.Proofs.YtlfigjkddnncgaaGreat
open Go Go.KA Go.Proofs
def nodesE : XExpr → Nat := fun e => budExpr e + 1
mutual
def leftE : XExpr → Int → Int
  | .mk _ _ kids, left => leftS kids (left - 1)
def leftS : List XExpr → Int → Int
  | [], left => left
  | x :: xs, left => if left < 0 then left else leftS xs (leftE x left)
end
mutual
def depthE : XExpr → Nat
  | .mk _ _ kids => depthS kids + 1
def depthS : List XExpr → Nat
  | [] => 0
  | x :: xs => max (depthE x) (depthS xs)
end
theorem depthE_eq (e : XExpr) : depthE e = depthS e.kids + 1 := by
  cases e
  rfl
theorem leftE_eq (e : XExpr) (left : Int) : leftE e left = leftS e.kids (left - 1) := by
  cases e
  rfl
theorem depthS_take {l : List XExpr} {i : Nat} (h : i < l.length) : depthS (l.take (i + 1)) = max (depthS (l.take i)) (depthE l[i]) := by
  induction l generalizing i with
  | nil => simp at h
  | cons x xs ih =>
    cases i with
    | zero => simp [depthS]
    | succ i =>
      simp only [List.length_cons, Nat.add_lt_add_iff_right] at h
      simp only [List.take_succ_cons, depthS, List.getElem_cons_succ, ih h]
      omega
mutual
theorem depthE_le : ∀ e : XExpr, depthE e ≤ budExpr e + 1
  | .mk k n kids => by
    have := depthS_le kids
    simp only [depthE, budExpr]
    omega
theorem depthS_le : ∀ l : List XExpr, depthS l ≤ budExprS l
  | [] => Nat.le_refl _
  | x :: xs => by
    have h1 := depthE_le x
    have h2 := depthS_le xs
    simp only [depthS, budExprS]
    omega
end
theorem max_ok (a b : Nat) : CallF Tryz.prog 111 [I a, I b] (I (max a b : Nat)) := by
  refine callF_of_vc htb hm Tryz.func111 rfl rfl rfl rfl (ann := fun _ => none) (gh := fun _ => false) ?_
  refine Branch.mk (fun h => ?_) (fun h => ?_)
  · have h : (a : Int) > b := of_decide_eq_true h
    refine Done.mk ?_
    rw [Nat.max_eq_left (by omega)]; rfl
  · have h : ¬ (a : Int) > b := of_decide_eq_false h
    refine Done.mk ?_
    rw [Nat.max_eq_right (by omega)]; rfl
theorem l01Depth_all (e : XExpr) (hl : budExpr e ≤ 1048576) (hx : ∀ x ∈ e.kids, CallF Tryz.prog 107 [.c (.rp 3 (encExpr x))] (I (depthE x))) : CallF Tryz.prog 107 [.c (.rp 3 (toldE e))] (I (depthE e)) := by
  refine callF_of_vc htb hm Tryz.func107 rfl rfl rfl rfl (ann := fun n => match n with | 3 => some { α := Nat, keep := [0], ov := fun i => [(4, I i), (3, I (depthS (e.kids.take i)))], φ := fun i => i ≤ e.kids.length, μ := fun i => e.kids.length - i } | _ => none) (gh := fun _ => false) ?_
  have hd := depthE_le e
  rw [depthE_eq] at hd
  refine LoopN.mk (0 : Nat) (Nat.zero_le _) ⟨⟨rfl, rfl⟩, ⟨rfl, rfl⟩, trivial⟩ ⟨⟨rfl, rfl⟩, trivial⟩ trivial ?_ (fun _ => rfl)
  intro (i : Nat) (hi : i ≤ e.kids.length)
  refine Fact.mk fun hL => ?_
  refine Branch.mk (fun h => ?_) (fun h => ?_)
  · have h := of_decide_eq_true h
    rw [List.length_map] at h hL
    have hi' : i < e.kids.length := by omega
    refine Need.mk (by omega) (Index.mk (encExpr e.kids[i]) (by simp [hi']) ?_)
    refine CallN.pure _ _ rfl (hx _ (List.getElem_mem hi')) rfl _ rfl ?_
    refine CallN.pure _ _ rfl (max_ok _ _) rfl _ rfl ?_
    simp only [maxLen] at hL
    refine Arith.fit (wrap_fit (by omega) (by omega)) ?_
    refine Gh.go ⟨i + 1, hi', (by show e.kids.length - (i + 1) < e.kids.length - i; omega), ⟨⟨rfl, rfl⟩, ⟨?_, rfl⟩, trivial⟩, ⟨⟨rfl, rfl⟩, trivial⟩, trivial⟩
    exact congrArg (fun n : Nat => I n) (depthS_take hi').symm
  · have h := of_decide_eq_false h
    rw [List.length_map] at h
    have : i = e.kids.length := by omega
    subst this
    refine Arith.fit (wrap_fit (by omega) (by rw [List.take_length]; omega)) ?_
    refine Done.mk ?_
    rw [depthE_eq, List.take_length]; rfl
end Go.Proofs.YtlfigjkddnncgaaGreat

namespace Go.Proofs.YtlfigjkddnncgaaGreat
open Go Go.KA Go.Proofs
theorem leftS_neg {left : Int} (h : left < 0) : ∀ l : List XExpr, leftS l left = left
  | [] => rfl
  | x :: xs => by simp only [leftS]; rw [if_pos h]
theorem leftS_append : ∀ (l m : List XExpr) (left : Int), leftS (l ++ m) left = leftS m (leftS l left)
  | [], _, _ => rfl
  | x :: xs, m, left => by
    simp only [List.cons_append, leftS]
    by_cases h : left < 0
    · rw [if_pos h, if_pos h, leftS_neg h]
    · rw [if_neg h, if_neg h, leftS_append xs m]
mutual
theorem leftE_range : ∀ (e : XExpr) (left : Int), 0 ≤ left → -1 ≤ leftE e left ∧ leftE e left ≤ left - 1
  | .mk _ _ kids, left, h => by
    have := leftS_range kids (left - 1) (by omega)
    simp only [leftE]
    exact this
theorem leftS_range : ∀ (l : List XExpr) (left : Int), -1 ≤ left → -1 ≤ leftS l left ∧ leftS l left ≤ left
  | [], left, h => ⟨h, Int.le_refl _⟩
  | x :: xs, left, h => by
    simp only [leftS]
    by_cases hn : left < 0
    · rw [if_pos hn]; omega
    · rw [if_neg hn]
      have h1 := leftE_range x left (by omega)
      have h2 := leftS_range xs (leftE x left) h1.1
      omega
end
theorem leftS_take {l : List XExpr} {i : Nat} {left : Int} (h : i < l.length) (hp : 0 ≤ leftS (l.take i) left) : leftS (l.take (i + 1)) left = leftE l[i] (leftS (l.take i) left) := by
  rw [List.take_add_one, List.getElem?_eq_getElem h, leftS_append]
  simp only [Option.toList_some, leftS]
  rw [if_neg (by omega)]
theorem leftS_stop {l : List XExpr} {i : Nat} {left : Int} (hp : leftS (l.take i) left < 0) : leftS l left = leftS (l.take i) left := by
  have h : l = l.take i ++ l.drop i := (List.take_append_drop i l).symm
  conv => lhs; rw [h]
  rw [leftS_append, leftS_neg hp]
theorem l01Left_all (e : XExpr) (left : Int) (h0 : 0 ≤ left) (h1 : left ≤ 1048576) (hx : ∀ x ∈ e.kids, ∀ left : Int, 0 ≤ left → left ≤ 1048576 → CallF Tryz.prog 106 [.c (.rp 3 (encExpr x)), I left] (I (leftE x left))) : CallF Tryz.prog 106 [.c (.rp 3 (toldE e)), I left] (I (leftE e left)) := by
  refine callF_of_vc htb hm Tryz.func106 rfl rfl rfl rfl (ann := fun n => match n with | 3 => some { α := Nat, keep := [0], ov := fun i => [(5, I i), (1, I (leftS (e.kids.take i) (left - 1)))], φ := fun i => i ≤ e.kids.length, μ := fun i => e.kids.length - i } | _ => none) (gh := fun _ => false) ?_
  refine Arith.fit (wrap_fit (by omega) (by omega)) ?_
  refine LoopN.mk (0 : Nat) (Nat.zero_le _) ⟨⟨rfl, rfl⟩, ⟨rfl, rfl⟩, trivial⟩ ⟨⟨rfl, rfl⟩, trivial⟩ trivial ?_ (fun _ => rfl)
  intro (i : Nat) (hi : i ≤ e.kids.length)
  have hr := leftS_range (e.kids.take i) (left - 1) (by omega)
  refine Fact.mk fun hL => ?_
  refine Branch.mk (fun h => ?_) (fun h => ?_)
  · have h := of_decide_eq_true h
    rw [List.length_map] at h hL
    have hi' : i < e.kids.length := by omega
    refine Branch.mk (fun hg => ?_) (fun hg => ?_)
    · have hg : leftS (e.kids.take i) (left - 1) ≥ 0 := of_decide_eq_true hg
      refine Need.mk (by omega) (Index.mk (encExpr e.kids[i]) (by simp [hi']) ?_)
      refine CallN.pure _ _ rfl (hx _ (List.getElem_mem hi') (leftS (e.kids.take i) (left - 1)) (by omega) (by omega)) rfl _ rfl ?_
      simp only [maxLen] at hL
      refine Arith.fit (wrap_fit (by omega) (by omega)) ?_
      refine Gh.go ⟨i + 1, hi', (by show e.kids.length - (i + 1) < e.kids.length - i; omega), ⟨⟨rfl, rfl⟩, ⟨?_, rfl⟩, trivial⟩, ⟨⟨rfl, rfl⟩, trivial⟩, trivial⟩
      exact congrArg I (leftS_take hi' (by omega)).symm
    · have hg : ¬ leftS (e.kids.take i) (left - 1) ≥ 0 := of_decide_eq_false hg
      refine Done.mk ?_
      rw [leftE_eq, leftS_stop (l := e.kids) (i := i) (by omega)]; rfl
  · have h := of_decide_eq_false h
    rw [List.length_map] at h
    have : i = e.kids.length := by omega
    subst this
    refine Done.mk ?_
    rw [leftE_eq, List.take_length]; rfl
theorem l01Left_ok (e : XExpr) (left : Int) (h0 : 0 ≤ left) (h1 : left ≤ 1048576) : CallF Tryz.prog 106 [.c (.rp 3 (encExpr e)), I left] (I (leftE e left)) := by
  rw [encExpr_eq]
  exact l01Left_all e left h0 h1 fun x _hx left h0 h1 => l01Left_ok x left h0 h1
  termination_by SizeOf.sizeOf e
  decreasing_by
    have := List.sizeOf_lt_of_mem _hx
    cases e
    simp only [XExpr.mk.sizeOf_spec]
    show SizeOf.sizeOf x < _
    simp only [XExpr.kids] at this
    omega
theorem l01Depth_ok (e : XExpr) (hl : budExpr e ≤ 1048576) : CallF Tryz.prog 107 [.c (.rp 3 (encExpr e))] (I (depthE e)) := by
  rw [encExpr_eq]
  exact l01Depth_all e hl fun x _hx => l01Depth_ok x (by
    have := budS_mem budExpr _hx
    cases e
    simp only [budExpr, budExprS_eq] at hl
    simp only [XExpr.kids] at this
    omega)
  termination_by SizeOf.sizeOf e
  decreasing_by
    have := List.sizeOf_lt_of_mem _hx
    cases e
    simp only [XExpr.mk.sizeOf_spec]
    show SizeOf.sizeOf x < _
    simp only [XExpr.kids] at this
    omega
end Go.Proofs.YtlfigjkddnncgaaGreat

namespace Go.Proofs.YtlfigjkddnncgaaGreat
open Go Go.KA Go.Proofs
mutual
def treeB (t a : Int) : XExpr → Bool
  | .mk k n kids => ((kids.length : Int) == kidsN k) && (if k == 3 then rng 0 (t - 1) n else if k == 4 then rng 0 (a - 1) n else (n == 0) && ((!(k == 5) || condS kids) && treeS t a kids))
def treeS (t a : Int) : List XExpr → Bool
  | [] => true
  | x :: xs => treeB t a x && treeS t a xs
end
theorem treeS_all (t a : Int) : ∀ l : List XExpr, treeS t a l = l.all (treeB t a)
  | [] => rfl
  | x :: xs => by simp only [treeS, List.all_cons]; rw [treeS_all t a xs]
theorem treeB_eq (t a : Int) (e : XExpr) : treeB t a e = (((e.kids.length : Int) == kidsN e.kind) && (if e.kind == 3 then rng 0 (t - 1) e.num else if e.kind == 4 then rng 0 (a - 1) e.num else (e.num == 0) && ((!(e.kind == 5) || e.kids.all condB) && e.kids.all (treeB t a)))) := by
  cases e
  simp only [treeB, treeS_all, condS_all]
  rfl
set_option maxHeartbeats 8000000 in
theorem l01Tree_all (t a : Int) (ht : 0 ≤ t ∧ t ≤ 3) (ha : 0 ≤ a ∧ a ≤ 4) (e : XExpr) (hx : ∀ x ∈ e.kids, CallF Tryz.prog 108 [.a 2 [J t, J a], .c (.rp 3 (encExpr x))] (B (treeB t a x))) : CallF Tryz.prog 108 [.a 2 [J t, J a], .c (.rp 3 (toldE e))] (B (treeB t a e)) := by
  refine callF_of_vc htb hm Tryz.func108 rfl rfl rfl rfl (ann := fun n => match n with | 11 => some { α := Nat, keep := [1, 2], ov := fun i => [(5, I i)], φ := fun i => i ≤ e.kids.length ∧ (e.kids.take i).all (treeB t a) = true, μ := fun i => e.kids.length - i } | _ => none) (gh := fun _ => false) ?_
  refine Need.mk (by kernel_rfl) ?_
  refine CallN.pure _ _ rfl (l01Kids_ok _) rfl _ rfl ?_
  refine Need.mk (by kernel_rfl) ?_
  refine Branch.mk (fun h1 => ?_) (fun h1 => ?_)
  · refine Done.mk ?_
    rw [List.length_map] at h1
    have : ((e.kids.length : Int) == kidsN e.kind) = false := by simpa using h1
    rw [treeB_eq, this]; rfl
  rw [List.length_map] at h1
  have h1 : ((e.kids.length : Int) == kidsN e.kind) = true := by simpa using h1
  refine Branch.mk (fun h3 => ?_) (fun h3 => ?_)
  · refine Need.mk (by kernel_rfl) ?_
    refine Arith.fit (wrap_fit (by omega) (by omega)) ?_
    refine CallN.pure _ _ rfl (l00In_ok _ _ _) rfl _ rfl ?_
    refine Need.mk (by kernel_rfl) ?_
    refine Done.mk ?_
    rw [treeB_eq, h1, h3]; rfl
  refine Branch.mk (fun h4 => ?_) (fun h4 => ?_)
  · refine Need.mk (by kernel_rfl) ?_
    refine Arith.fit (wrap_fit (by omega) (by omega)) ?_
    refine CallN.pure _ _ rfl (l00In_ok _ _ _) rfl _ rfl ?_
    refine Need.mk (by kernel_rfl) ?_
    refine Done.mk ?_
    rw [treeB_eq, h1, h3, h4]; rfl
  refine Branch.mk (fun h0 => ?_) (fun h0 => ?_)
  · refine Done.mk ?_
    have : (e.num == 0) = false := by simpa using h0
    rw [treeB_eq, h1, h3, h4, this]; rfl
  have h0 : (e.num == 0) = true := by simpa using h0
  refine Branch.mk (fun h5 => ?_) (fun h5 => ?_)
  · have hk : e.kind = 5 := eq_of_beq h5
    have hl1 : (e.kids.length : Int) = 1 := by
      have := eq_of_beq h1
      rw [hk] at this
      exact this
    have hi0 : 0 < e.kids.length := by omega
    have hone : e.kids.all condB = condB e.kids[0] := by
      match hm : e.kids, hi0, hl1 with
      | [x], _, _ => simp
    refine Need.mk (by omega) (Index.mk (encExpr e.kids[0]) (by show (e.kids.map encExpr)[0]? = _; rw [List.getElem?_map, List.getElem?_eq_getElem hi0]; rfl) ?_)
    refine CallN.pure _ _ rfl (l01Condition_ok _) rfl _ rfl ?_
    refine Branch.mk (fun hc => ?_) (fun hc => ?_)
    · refine Done.mk ?_
      have hc : condB e.kids[0] = false := by simpa using hc
      rw [treeB_eq, h1, h3, h4, h0, h5, hone, hc]; rfl
    have hc : condB e.kids[0] = true := by simpa using hc
    have hC : (!(e.kind == 5) || e.kids.all condB) = true := by rw [hone, hc, h5]; rfl
    refine LoopN.mk (0 : Nat) ⟨Nat.zero_le _, rfl⟩ ⟨⟨rfl, rfl⟩, trivial⟩ ⟨⟨rfl, rfl⟩, ⟨rfl, rfl⟩, trivial⟩ ⟨⟨rfl, rfl⟩, trivial⟩ ?_ (fun _ => rfl)
    intro (i : Nat) (hi : i ≤ e.kids.length ∧ (e.kids.take i).all (treeB t a) = true)
    obtain ⟨hi, hal⟩ := hi
    refine Fact.mk fun hL => ?_
    refine Branch.mk (fun h => ?_) (fun h => ?_)
    · have h := of_decide_eq_true h
      rw [List.length_map] at h hL
      have hi' : i < e.kids.length := by omega
      refine Need.mk (by kernel_rfl) ?_
      refine Need.mk (by omega) (Index.mk (encExpr e.kids[i]) (by simp [hi']) ?_)
      refine CallN.pure _ _ rfl (hx _ (List.getElem_mem hi')) rfl _ rfl ?_
      refine Need.mk (by kernel_rfl) ?_
      refine Branch.mk (fun hb => ?_) (fun hb => ?_)
      · refine Done.mk ?_
        rw [treeB_eq, h1, h3, h4, h0, hC, all_no hi' (by simpa using hb)]; rfl
      · simp only [maxLen] at hL
        refine Arith.fit (wrap_fit (by omega) (by omega)) ?_
        exact Gh.go ⟨i + 1, ⟨hi', all_more hi' hal (by simpa using hb)⟩, (by show e.kids.length - (i + 1) < e.kids.length - i; omega), ⟨⟨rfl, rfl⟩, trivial⟩, ⟨⟨rfl, rfl⟩, ⟨rfl, rfl⟩, trivial⟩, ⟨⟨rfl, rfl⟩, trivial⟩⟩
    · have h := of_decide_eq_false h
      rw [List.length_map] at h
      have : i = e.kids.length := by omega
      subst this
      refine Done.mk ?_
      rw [List.take_length] at hal
      rw [treeB_eq, h1, h3, h4, h0, hC, hal]; rfl
  · have hC : (!(e.kind == 5) || e.kids.all condB) = true := by rw [h5]; rfl
    refine LoopN.mk (0 : Nat) ⟨Nat.zero_le _, rfl⟩ ⟨⟨rfl, rfl⟩, trivial⟩ ⟨⟨rfl, rfl⟩, ⟨rfl, rfl⟩, trivial⟩ ⟨⟨rfl, rfl⟩, trivial⟩ ?_ (fun _ => rfl)
    intro (i : Nat) (hi : i ≤ e.kids.length ∧ (e.kids.take i).all (treeB t a) = true)
    obtain ⟨hi, hal⟩ := hi
    refine Fact.mk fun hL => ?_
    refine Branch.mk (fun h => ?_) (fun h => ?_)
    · have h := of_decide_eq_true h
      rw [List.length_map] at h hL
      have hi' : i < e.kids.length := by omega
      refine Need.mk (by kernel_rfl) ?_
      refine Need.mk (by omega) (Index.mk (encExpr e.kids[i]) (by simp [hi']) ?_)
      refine CallN.pure _ _ rfl (hx _ (List.getElem_mem hi')) rfl _ rfl ?_
      refine Need.mk (by kernel_rfl) ?_
      refine Branch.mk (fun hb => ?_) (fun hb => ?_)
      · refine Done.mk ?_
        rw [treeB_eq, h1, h3, h4, h0, hC, all_no hi' (by simpa using hb)]; rfl
      · simp only [maxLen] at hL
        refine Arith.fit (wrap_fit (by omega) (by omega)) ?_
        exact Gh.go ⟨i + 1, ⟨hi', all_more hi' hal (by simpa using hb)⟩, (by show e.kids.length - (i + 1) < e.kids.length - i; omega), ⟨⟨rfl, rfl⟩, trivial⟩, ⟨⟨rfl, rfl⟩, ⟨rfl, rfl⟩, trivial⟩, ⟨⟨rfl, rfl⟩, trivial⟩⟩
    · have h := of_decide_eq_false h
      rw [List.length_map] at h
      have : i = e.kids.length := by omega
      subst this
      refine Done.mk ?_
      rw [List.take_length] at hal
      rw [treeB_eq, h1, h3, h4, h0, hC, hal]; rfl
theorem l01Tree_ok (t a : Int) (ht : 0 ≤ t ∧ t ≤ 3) (ha : 0 ≤ a ∧ a ≤ 4) (e : XExpr) : CallF Tryz.prog 108 [.a 2 [J t, J a], .c (.rp 3 (encExpr e))] (B (treeB t a e)) := by
  rw [encExpr_eq]
  exact l01Tree_all t a ht ha e fun x _hx => l01Tree_ok t a ht ha x
  termination_by SizeOf.sizeOf e
  decreasing_by
    have := List.sizeOf_lt_of_mem _hx
    cases e
    simp only [XExpr.mk.sizeOf_spec]
    show SizeOf.sizeOf x < _
    simp only [XExpr.kids] at this
    omega
end Go.Proofs.YtlfigjkddnncgaaGreat
