/- Contracts of the reference's functions that count the nodes and the levels of an expression. No conditions. -/
import Derived.Test.YtbbaadkgmdkjdaaGreatRb
namespace Go.Proofs.YtbbaadkgmdkjdaaGreat
open Go Go.KA Go.Proofs
def nodesE : XExpr → Nat := fun e => budExpr e + 1
mutual
def leftE : XExpr → Int → Int
  | .mk _ _ kids, left => leftS kids (left - 1)
def leftS : List XExpr → Int → Int
  | [], left => left
  | x :: xs, left => if left < 0 then left else leftS xs (leftE x left)
end
mutual
def depthE : XExpr → Nat
  | .mk _ _ kids => depthS kids + 1
def depthS : List XExpr → Nat
  | [] => 0
  | x :: xs => max (depthE x) (depthS xs)
end
theorem depthE_eq (e : XExpr) : depthE e = depthS e.kids + 1 := by
  cases e
  rfl
theorem leftE_eq (e : XExpr) (left : Int) : leftE e left = leftS e.kids (left - 1) := by
  cases e
  rfl
theorem depthS_take {l : List XExpr} {i : Nat} (h : i < l.length) : depthS (l.take (i + 1)) = max (depthS (l.take i)) (depthE l[i]) := by
  induction l generalizing i with
  | nil => simp at h
  | cons x xs ih =>
    cases i with
    | zero => simp [depthS]
    | succ i =>
      simp only [List.length_cons, Nat.add_lt_add_iff_right] at h
      simp only [List.take_succ_cons, depthS, List.getElem_cons_succ, ih h]
      omega
mutual
theorem depthE_le : ∀ e : XExpr, depthE e ≤ budExpr e + 1
  | .mk k n kids => by
    have := depthS_le kids
    simp only [depthE, budExpr]
    omega
theorem depthS_le : ∀ l : List XExpr, depthS l ≤ budExprS l
  | [] => Nat.le_refl _
  | x :: xs => by
    have h1 := depthE_le x
    have h2 := depthS_le xs
    simp only [depthS, budExprS]
    omega
end
theorem max_ok (a b : Nat) : CallF Tryz.prog 216 [I a, I b] (I (max a b : Nat)) := by
  refine callF_of_vc htb hm Tryz.func216 rfl rfl rfl rfl (ann := fun _ => none) (gh := fun _ => false) ?_
  refine Branch.mk (fun h => ?_) (fun h => ?_)
  · have h : (a : Int) > b := of_decide_eq_true h
    refine Done.mk ?_
    rw [Nat.max_eq_left (by omega)]; rfl
  · have h : ¬ (a : Int) > b := of_decide_eq_false h
    refine Done.mk ?_
    rw [Nat.max_eq_right (by omega)]; rfl
theorem l01Depth_all (e : XExpr) (hl : budExpr e ≤ 1048576) (hx : ∀ x ∈ e.kids, CallF Tryz.prog 208 [.c (.rp 3 (encExpr x))] (I (depthE x))) : CallF Tryz.prog 208 [.c (.rp 3 (toldE e))] (I (depthE e)) := by
  refine callF_of_vc htb hm Tryz.func208 rfl rfl rfl rfl (ann := fun n => match n with | 3 => some { α := Nat, keep := [0], ov := fun i => [(4, I i), (3, I (depthS (e.kids.take i)))], φ := fun i => i ≤ e.kids.length, μ := fun i => e.kids.length - i } | _ => none) (gh := fun _ => false) ?_
  have hd := depthE_le e
  rw [depthE_eq] at hd
  refine LoopN.mk (0 : Nat) (Nat.zero_le _) ⟨⟨rfl, rfl⟩, ⟨rfl, rfl⟩, trivial⟩ ⟨⟨rfl, rfl⟩, trivial⟩ trivial ?_ (fun _ => rfl)
  intro (i : Nat) (hi : i ≤ e.kids.length)
  refine Fact.mk fun hL => ?_
  refine Branch.mk (fun h => ?_) (fun h => ?_)
  · have h := of_decide_eq_true h
    rw [List.length_map] at h hL
    have hi' : i < e.kids.length := by omega
    refine Need.mk (by omega) (Index.mk (encExpr e.kids[i]) (by simp [hi']) ?_)
    refine CallN.pure _ _ rfl (hx _ (List.getElem_mem hi')) rfl _ rfl ?_
    refine CallN.pure _ _ rfl (max_ok _ _) rfl _ rfl ?_
    simp only [maxLen] at hL
    refine Arith.fit (wrap_fit (by omega) (by omega)) ?_
    refine Gh.go ⟨i + 1, hi', (by show e.kids.length - (i + 1) < e.kids.length - i; omega), ⟨⟨rfl, rfl⟩, ⟨?_, rfl⟩, trivial⟩, ⟨⟨rfl, rfl⟩, trivial⟩, trivial⟩
    exact congrArg (fun n : Nat => I n) (depthS_take hi').symm
  · have h := of_decide_eq_false h
    rw [List.length_map] at h
    have : i = e.kids.length := by omega
    subst this
    refine Arith.fit (wrap_fit (by omega) (by rw [List.take_length]; omega)) ?_
    refine Done.mk ?_
    rw [depthE_eq, List.take_length]; rfl
end Go.Proofs.YtbbaadkgmdkjdaaGreat
