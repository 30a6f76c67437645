/- Contracts of the program's and the reference's functions that look whether expressions are valid: numbers of kids, of nodes, of levels. No conditions. -/
import Derived.Test.YtbbaadkgmdkjdaaGreatRa
namespace Go.Proofs.YtbbaadkgmdkjdaaGreat
open Go Go.KA Go.Proofs
def kidsN (k : Int) : Int := if k == 1 || (k == 2 || (k == 3 || k == 4)) then 0 else if k == 5 || k == 8 then 1 else if k == 6 || k == 7 then 2 else -1
theorem l01Kids_ok (k : Int) : CallF Tryz.prog 217 [I k] (I (kidsN k)) := by
  refine callF_of_vc htb hm Tryz.func217 rfl rfl rfl rfl (ann := fun _ => none) (gh := fun _ => false) ?_
  refine Branch.mk (fun h1 => Done.mk (by simp [kidsN, h1]; rfl)) (fun h1 => ?_)
  refine Branch.mk (fun h2 => Done.mk (by simp [kidsN, h1, h2]; rfl)) (fun h2 => ?_)
  refine Branch.mk (fun h3 => Done.mk (by simp [kidsN, h1, h2, h3]; rfl)) (fun h3 => ?_)
  refine Branch.mk (fun h4 => Done.mk (by simp [kidsN, h1, h2, h3, h4]; rfl)) (fun h4 => ?_)
  refine Branch.mk (fun h5 => Done.mk (by simp [kidsN, h1, h2, h3, h4, h5]; rfl)) (fun h5 => ?_)
  refine Branch.mk (fun h8 => Done.mk (by simp [kidsN, h1, h2, h3, h4, h5, h8]; rfl)) (fun h8 => ?_)
  refine Branch.mk (fun h6 => Done.mk (by simp [kidsN, h1, h2, h3, h4, h5, h6, h8]; rfl)) (fun h6 => ?_)
  refine Branch.mk (fun h7 => Done.mk (by simp [kidsN, h1, h2, h3, h4, h5, h6, h7, h8]; rfl)) (fun h7 => ?_)
  exact Done.mk (by simp [kidsN, h1, h2, h3, h4, h5, h6, h7, h8]; rfl)
theorem kidsOf_ok (k : Int) : CallF Tryz.prog 215 [I k] (I (kidsN k)) := by
  refine callF_of_vc htb hm Tryz.func215 rfl rfl rfl rfl (ann := fun _ => none) (gh := fun _ => false) ?_
  refine Branch.mk (fun h1 => Done.mk (by simp [kidsN, h1]; rfl)) (fun h1 => ?_)
  refine Branch.mk (fun h2 => Done.mk (by simp [kidsN, h1, h2]; rfl)) (fun h2 => ?_)
  refine Branch.mk (fun h3 => Done.mk (by simp [kidsN, h1, h2, h3]; rfl)) (fun h3 => ?_)
  refine Branch.mk (fun h4 => Done.mk (by simp [kidsN, h1, h2, h3, h4]; rfl)) (fun h4 => ?_)
  refine Branch.mk (fun h5 => Done.mk (by simp [kidsN, h1, h2, h3, h4, h5]; rfl)) (fun h5 => ?_)
  refine Branch.mk (fun h8 => Done.mk (by simp [kidsN, h1, h2, h3, h4, h5, h8]; rfl)) (fun h8 => ?_)
  refine Branch.mk (fun h6 => Done.mk (by simp [kidsN, h1, h2, h3, h4, h5, h6, h8]; rfl)) (fun h6 => ?_)
  refine Branch.mk (fun h7 => Done.mk (by simp [kidsN, h1, h2, h3, h4, h5, h6, h7, h8]; rfl)) (fun h7 => ?_)
  exact Done.mk (by simp [kidsN, h1, h2, h3, h4, h5, h6, h7, h8]; rfl)
theorem isCondition_all (e : XExpr) (hx : ∀ x ∈ e.kids, CallF Tryz.prog 207 [.a 3 (encExpr x)] (B (condB x))) : CallF Tryz.prog 207 [.a 3 (toldE e)] (B (condB e)) := by
  refine callF_of_vc htb hm Tryz.func207 rfl rfl rfl rfl (ann := fun n => match n with | 10 => some { α := Nat, keep := [2, 15, 16], ov := fun i => [(17, I i)], φ := fun i => i ≤ e.kids.length ∧ (e.kids.take i).all condB = true, μ := fun i => e.kids.length - i } | _ => none) (gh := fun _ => false) ?_
  refine Branch.mk (fun hh => ?_) (fun h1 => Branch.mk (fun hh => ?_) (fun h2 => Branch.mk (fun hh => ?_) (fun h3 => Branch.mk (fun hh => ?_) (fun h5 => Branch.mk (fun hh => ?_) (fun h6 => Branch.mk (fun hh => ?_) (fun h7 => ?_))))))
  rotate_left 6
  · refine Done.mk ?_
    have : condB e = false := by
      rw [condB_eq]
      simp only [beq_eq_false_iff_ne, ne_eq] at h1 h2 h3 h5 h6 h7
      have : (rng 1 7 e.kind && !(e.kind == 4)) = false := by
        simp only [rng, Bool.and_eq_false_iff, decide_eq_false_iff_not, Bool.not_eq_false', beq_iff_eq]
        omega
      rw [this]; rfl
    rw [this]; rfl
  all_goals
    have hk : (rng 1 7 e.kind && !(e.kind == 4)) = true := by
      have hq := eq_of_beq hh
      rw [hq]; rfl
    refine Fact.mk fun hL => ?_
    refine LoopN.mk (0 : Nat) ⟨Nat.zero_le _, rfl⟩ ⟨⟨rfl, rfl⟩, trivial⟩ ⟨⟨rfl, rfl⟩, ⟨rfl, rfl⟩, ⟨rfl, rfl⟩, trivial⟩ ⟨⟨rfl, rfl⟩, trivial⟩ ?_ (fun _ => rfl)
    intro (i : Nat) (hi : i ≤ e.kids.length ∧ (e.kids.take i).all condB = true)
    obtain ⟨hi, ha⟩ := hi
    rw [List.length_map] at hL
    refine Branch.mk (fun h => ?_) (fun h => ?_)
    · have h := of_decide_eq_true h
      rw [List.length_map] at h
      have hi' : i < e.kids.length := by omega
      refine Need.mk (by omega) (Index.mk (encExpr e.kids[i]) (by simp [hi']) ?_)
      refine CallN.pure _ _ rfl (hx _ (List.getElem_mem hi')) rfl _ rfl ?_
      refine Branch.mk (fun hb => ?_) (fun hb => ?_)
      · refine Done.mk ?_
        rw [condB_eq, hk, all_no hi' (by simpa using hb)]; rfl
      · simp only [maxLen] at hL
        refine Arith.fit (wrap_fit (by omega) (by omega)) ?_
        exact Gh.go ⟨i + 1, ⟨hi', all_more hi' ha (by simpa using hb)⟩, (by show e.kids.length - (i + 1) < e.kids.length - i; omega), ⟨⟨rfl, rfl⟩, trivial⟩, ⟨⟨rfl, rfl⟩, ⟨rfl, rfl⟩, ⟨rfl, rfl⟩, trivial⟩, ⟨⟨rfl, rfl⟩, trivial⟩⟩
    · have h := of_decide_eq_false h
      rw [List.length_map] at h
      have : i = e.kids.length := by omega
      subst this
      refine Done.mk ?_
      rw [List.take_length] at ha
      rw [condB_eq, hk, ha]; rfl
theorem isCondition_ok (e : XExpr) : CallF Tryz.prog 207 [.a 3 (encExpr e)] (B (condB e)) := by
  rw [encExpr_eq]
  exact isCondition_all e fun x _hx => isCondition_ok x
  termination_by SizeOf.sizeOf e
  decreasing_by
    have := List.sizeOf_lt_of_mem _hx
    cases e
    simp only [XExpr.mk.sizeOf_spec]
    show SizeOf.sizeOf x < _
    simp only [XExpr.kids] at this
    omega
end Go.Proofs.YtbbaadkgmdkjdaaGreat
