/- Contracts of the program's and the reference's functions that look whether signatures and conditions are valid. No conditions. -/
import Derived.Test.YtbbaadkgmdkjdaaGreatTy
namespace Go.Proofs.YtbbaadkgmdkjdaaGreat
open Go Go.KA Go.Proofs
theorem _root_.Go.KA.Branch.dec {p : Prop} {_i : Decidable p} {A B : Prop} (t : p → A) (f : ¬ p → B) : Branch (decide p) A B := Branch.mk (fun h => t (of_decide_eq_true h)) (fun h => f (of_decide_eq_false h))
theorem _root_.Go.KA.Branch.ndec {p : Prop} {_i : Decidable p} {A B : Prop} (t : ¬ p → A) (f : p → B) : Branch (!(decide p)) A B := Branch.mk (fun h => t (by simpa using h)) (fun h => f (by simpa using h))
theorem _root_.Go.KA.Branch.beq {a b : Int} {A B : Prop} (t : a = b → A) (f : ¬ a = b → B) : Branch (a == b) A B := Branch.mk (fun h => t (by simpa using h)) (fun h => f (by simpa using h))
theorem _root_.Go.KA.Branch.bne {a b : Int} {A B : Prop} (t : ¬ a = b → A) (f : a = b → B) : Branch (a != b) A B := Branch.mk (fun h => t (by simpa using h)) (fun h => f (by simpa using h))
theorem _root_.Go.KA.Branch.nb {b : Bool} {A B : Prop} (t : b = false → A) (f : b = true → B) : Branch (!b) A B := Branch.mk (fun h => t (by simpa using h)) (fun h => f (by simpa using h))
abbrev J (n : Int) : CV := .val (.int .i64 n)
def rng (lo hi n : Int) : Bool := decide (lo ≤ n) && decide (n ≤ hi)
theorem within_ok (n lo hi : Int) : CallF Tryz.prog 51 [I n, I lo, I hi] (B (rng lo hi n)) := by
  refine callF_of_vc htb hm Tryz.func51 rfl rfl rfl rfl (ann := fun _ => none) (gh := fun _ => false) ?_
  refine Branch.mk (fun h => ?_) (fun h => ?_)
  · refine Done.mk ?_
    unfold rng; rw [h]; rfl
  · refine Done.mk ?_
    unfold rng; rw [h]; rfl
theorem l00In_ok (n lo hi : Int) : CallF Tryz.prog 90 [I n, I lo, I hi] (B (rng lo hi n)) := by
  refine callF_of_vc htb hm Tryz.func90 rfl rfl rfl rfl (ann := fun _ => none) (gh := fun _ => false) ?_
  refine Branch.mk (fun h => ?_) (fun h => ?_)
  · have h1 : decide (lo ≤ n) = true := by simpa using h
    refine Done.mk ?_
    unfold rng; rw [h1]; rfl
  · have h1 : decide (lo ≤ n) = false := by simpa using h
    refine Done.mk ?_
    unfold rng; rw [h1]; rfl
def goodSig (a b : Int) : Bool := rng 0 3 a && rng 0 4 b
theorem validSig_ok (a b : Int) : CallF Tryz.prog 50 [.a 2 [J a, J b]] (B (goodSig a b)) := by
  refine callF_of_vc htb hm Tryz.func50 rfl rfl rfl rfl (ann := fun _ => none) (gh := fun _ => false) ?_
  refine CallN.pure _ _ rfl (within_ok _ _ _) rfl _ rfl ?_
  refine Branch.mk (fun h => ?_) (fun h => ?_)
  · refine CallN.pure _ _ rfl (within_ok _ _ _) rfl _ rfl ?_
    refine Done.mk ?_
    unfold goodSig; rw [h]; rfl
  · refine Done.mk ?_
    unfold goodSig; rw [h]; rfl
theorem l01Sig_ok (a b : Int) : CallF Tryz.prog 101 [.a 2 [J a, J b]] (B (goodSig a b)) := by
  refine callF_of_vc htb hm Tryz.func101 rfl rfl rfl rfl (ann := fun _ => none) (gh := fun _ => false) ?_
  refine CallN.pure _ _ rfl (l00In_ok _ _ _) rfl _ rfl ?_
  refine Branch.mk (fun h => ?_) (fun h => ?_)
  · refine CallN.pure _ _ rfl (l00In_ok _ _ _) rfl _ rfl ?_
    refine Done.mk ?_
    unfold goodSig; rw [h]; rfl
  · refine Done.mk ?_
    unfold goodSig; rw [h]; rfl

/-! ### Expressions -/
abbrev toldE (e : XExpr) : List CV := [J e.kind, J e.num, .ro 3 (e.kids.map encExpr)]
def noneB (e : XExpr) : Bool := (e.kind == 0) && ((e.num == 0) && ((e.kids.length : Int) == 0))
mutual
def condB : XExpr → Bool
  | .mk kind _ kids => (rng 1 7 kind && !(kind == 4)) && condS kids
def condS : List XExpr → Bool
  | [] => true
  | x :: xs => condB x && condS xs
end
theorem condS_all : ∀ l : List XExpr, condS l = l.all condB
  | [] => rfl
  | x :: xs => by simp only [condS, List.all_cons]; rw [condS_all xs]
theorem condB_eq (e : XExpr) : condB e = ((rng 1 7 e.kind && !(e.kind == 4)) && e.kids.all condB) := by
  cases e
  simp only [condB, condS_all]
  rfl
theorem all_no {α : Type} {p : α → Bool} {l : List α} {i : Nat} (h : i < l.length) (hp : p l[i] = false) : l.all p = false := by
  rw [List.all_eq_false]
  exact ⟨l[i], List.getElem_mem h, by simp [hp]⟩
theorem all_more {α : Type} {p : α → Bool} {l : List α} {i : Nat} (h : i < l.length) (ha : (l.take i).all p = true) (hp : p l[i] = true) : (l.take (i + 1)).all p = true := by
  rw [List.take_add_one, List.getElem?_eq_getElem h, List.all_append, ha]
  simp [hp]
theorem l01Condition_all (e : XExpr) (hx : ∀ x ∈ e.kids, CallF Tryz.prog 218 [.c (.rp 3 (encExpr x))] (B (condB x))) : CallF Tryz.prog 218 [.c (.rp 3 (toldE e))] (B (condB e)) := by
  refine callF_of_vc htb hm Tryz.func218 rfl rfl rfl rfl (ann := fun n => match n with | 4 => some { α := Nat, keep := [0], ov := fun i => [(3, I i)], φ := fun i => i ≤ e.kids.length ∧ (e.kids.take i).all condB = true, μ := fun i => e.kids.length - i } | _ => none) (gh := fun _ => false) ?_
  refine CallN.pure _ _ rfl (l00In_ok _ _ _) rfl _ rfl ?_
  refine Branch.mk (fun h1 => ?_) (fun h1 => ?_)
  · refine Done.mk ?_
    have : rng 1 7 e.kind = false := by simpa using h1
    rw [condB_eq, this]; rfl
  have h1 : rng 1 7 e.kind = true := by simpa using h1
  refine Branch.mk (fun h2 => ?_) (fun h2 => ?_)
  · refine Done.mk ?_
    rw [condB_eq, h1, h2]; rfl
  refine LoopN.mk (0 : Nat) ⟨Nat.zero_le _, rfl⟩ ⟨⟨rfl, rfl⟩, trivial⟩ ⟨⟨rfl, rfl⟩, trivial⟩ trivial ?_ (fun _ => rfl)
  intro (i : Nat) (hi : i ≤ e.kids.length ∧ (e.kids.take i).all condB = true)
  obtain ⟨hi, ha⟩ := hi
  refine Fact.mk fun hL => ?_
  refine Branch.mk (fun h => ?_) (fun h => ?_)
  · have h := of_decide_eq_true h
    rw [List.length_map] at h hL
    have hi' : i < e.kids.length := by omega
    refine Need.mk (by omega) (Index.mk (encExpr e.kids[i]) (by simp [hi']) ?_)
    refine CallN.pure _ _ rfl (hx _ (List.getElem_mem hi')) rfl _ rfl ?_
    refine Branch.mk (fun hb => ?_) (fun hb => ?_)
    · refine Done.mk ?_
      rw [condB_eq, h1, h2, all_no hi' (by simpa using hb)]; rfl
    · simp only [maxLen] at hL
      refine Arith.fit (wrap_fit (by omega) (by omega)) ?_
      exact Gh.go ⟨i + 1, ⟨hi', all_more hi' ha (by simpa using hb)⟩, (by show e.kids.length - (i + 1) < e.kids.length - i; omega), ⟨⟨rfl, rfl⟩, trivial⟩, ⟨⟨rfl, rfl⟩, trivial⟩, trivial⟩
  · have h := of_decide_eq_false h
    rw [List.length_map] at h
    have : i = e.kids.length := by omega
    subst this
    refine Done.mk ?_
    rw [List.take_length] at ha
    rw [condB_eq, h1, h2, ha]; rfl
theorem l01Condition_ok (e : XExpr) : CallF Tryz.prog 218 [.c (.rp 3 (encExpr e))] (B (condB e)) := by
  rw [encExpr_eq]
  exact l01Condition_all e fun x _hx => l01Condition_ok x
  termination_by SizeOf.sizeOf e
  decreasing_by
    have := List.sizeOf_lt_of_mem _hx
    cases e
    simp only [XExpr.mk.sizeOf_spec]
    show SizeOf.sizeOf x < _
    simp only [XExpr.kids] at this
    omega
end Go.Proofs.YtbbaadkgmdkjdaaGreat
