/- Contracts of the laws' own functions sz... No conditions. -/
import Derived.Test.YtmpcfplelpdbhaaGreatTy
namespace Go.Proofs.YtmpcfplelpdbhaaGreat
open Go Go.KA Go.Proofs
set_option maxRecDepth 100000
theorem szExprS_all (l : List XExpr) (left : Nat) (hl : left ≤ 1048576) (hx : ∀ x ∈ l, ∀ left : Nat, left ≤ 1048576 → CallF Tryz.prog 29 [.a 3 (encExpr x), I left] (I (szr (budExpr x) left))) : CallF Tryz.prog 83 [.c (.ro 3 (l.map encExpr)), I left] (I (szr (budS budExpr l) left)) := by
  refine callF_of_vc htb hm Tryz.func83 rfl rfl rfl rfl (ann := fun n => match n with | 5 => some { α := Nat, keep := [0], ov := fun i => [(5, I i), (1, I ((left - l.length - bsum budExpr (l.take i) : Nat) : Int))], φ := fun i => i ≤ l.length ∧ l.length + bsum budExpr (l.take i) ≤ left, μ := fun i => l.length - i } | _ => none) (gh := fun _ => false) ?_
  refine Fact.mk fun hL => ?_
  rw [List.length_map] at hL ⊢
  simp only [maxLen] at hL
  refine Arith.fit (wrap_fit (by omega) (by omega)) ?_
  refine Branch.mk (fun h => ?_) (fun h => ?_)
  · have h := of_decide_eq_true h
    refine Done.mk ?_
    refine congrArg I ?_
    unfold szr budS; rw [if_neg (by omega)]
  have h := of_decide_eq_false h
  refine LoopN.mk (0 : Nat) ⟨Nat.zero_le _, by simp [bsum]; omega⟩ ⟨⟨rfl, rfl⟩, ⟨?_, rfl⟩, trivial⟩ ⟨⟨rfl, rfl⟩, trivial⟩ trivial ?_ (fun _ => rfl)
  · refine congrArg I ?_
    simp [bsum]; omega
  intro (i : Nat) (hi : i ≤ l.length ∧ l.length + bsum budExpr (l.take i) ≤ left)
  obtain ⟨hi, hb⟩ := hi
  refine Fact.mk fun _ => ?_
  refine Branch.mk (fun h => ?_) (fun h => ?_)
  · have h := of_decide_eq_true h
    rw [List.length_map] at h
    have hi' : i < l.length := by omega
    have hg : l[i]? = some l[i] := List.getElem?_eq_getElem hi'
    refine Need.mk (by omega) (Index.mk (encExpr l[i]) (by simp [hi']) ?_)
    refine CallN.pure _ _ rfl (hx l[i] (List.getElem_mem hi') _ (by omega)) rfl _ rfl ?_
    have hs := bsum_take (f := budExpr) hg
    have hle := bsum_le (f := budExpr) l (i + 1)
    refine Branch.mk (fun h => ?_) (fun h => ?_)
    · have h := of_decide_eq_true h
      refine Done.mk ?_
      refine congrArg I ?_
      unfold szr at h ⊢
      unfold budS
      split at h
      · omega
      · rw [if_neg (by omega)]
    · have h := of_decide_eq_false h
      unfold szr at h
      split at h
      · rename_i hc
        refine Arith.fit (wrap_fit (by omega) (by omega)) ?_
        refine Gh.go ⟨i + 1, ⟨hi', by omega⟩, (by show l.length - (i + 1) < l.length - i; omega), ⟨⟨rfl, rfl⟩, ⟨?_, rfl⟩, trivial⟩, ⟨⟨rfl, rfl⟩, trivial⟩, trivial⟩
        refine congrArg I ?_
        unfold szr
        rw [if_pos hc]
        omega
      · omega
  · have h := of_decide_eq_false h
    rw [List.length_map] at h
    have : i = l.length := by omega
    subst this
    refine Done.mk ?_
    refine congrArg I ?_
    rw [List.take_length] at hb ⊢
    unfold szr budS
    rw [if_pos hb]
    omega
theorem szExpr_ok : ∀ (x : XExpr) (left : Nat), left ≤ 1048576 → CallF Tryz.prog 29 [.a 3 (encExpr x), I left] (I (szr (budExpr x) left))
  | .mk kind num kids, left, hl => by
    refine callF_of_vc htb hm Tryz.func29 rfl rfl rfl rfl (ann := fun _ => none) (gh := fun _ => false) ?_
    have hk0 := szExprS_all kids (left) (by omega) fun x hx => szExpr_ok x
    rw [← encExprS_map] at hk0
    refine CallN.pure _ _ rfl hk0 rfl _ rfl ?_
    refine Branch.mk (fun h => ?_) (fun h => ?_)
    · have h := szr_lt (of_decide_eq_true h)
      refine Done.mk ?_
      exact congrArg I (szr_neg (by simp only [budExpr, budExprS_eq]; omega)).symm
    have h0 := szr_pos (of_decide_eq_false h)
    have ht : budExpr (.mk kind num kids) ≤ left := by simp only [budExpr, budExprS_eq]; omega
    refine Done.mk ?_
    refine congrArg I ?_
    rw [szr_eq h0, szr_eq ht]
    simp only [budExpr, budExprS_eq]
    all_goals omega
  termination_by x => SizeOf.sizeOf x
  decreasing_by
    have := List.sizeOf_lt_of_mem hx
    simp only [XExpr.mk.sizeOf_spec]
    omega
theorem szExpr_ok' (x : XExpr) (left : Nat) (hl : left ≤ 1048576) : CallF Tryz.prog 29 [.a 3 [.val (.int .i64 x.kind), .val (.int .i64 x.num), .ro 3 (x.kids.map encExpr)], I left] (I (szr (budExpr x) left)) := by
  have h := szExpr_ok x left hl
  rw [encExpr_eq] at h
  exact h
theorem szPremise_ok (x : XPremise) (left : Nat) (hl : left ≤ 1048576) : CallF Tryz.prog 28 [.a 7 (encPremise x), I left] (I (szr (budPremise x) left)) := by
  refine callF_of_vc htb hm Tryz.func28 rfl rfl rfl rfl (ann := fun _ => none) (gh := fun _ => false) ?_
  have hk0 := szExpr_ok' x.pre (left) (by omega)
  conv => whnf
  refine CallN.pure _ _ rfl hk0 rfl _ rfl ?_
  refine Branch.mk (fun h => ?_) (fun h => ?_)
  · have h := szr_lt (of_decide_eq_true h)
    refine Done.mk ?_
    exact congrArg I (szr_neg (by simp only [budPremise]; omega)).symm
  have h0 := szr_pos (of_decide_eq_false h)
  rw [szr_eq h0]
  have hk1 := szExpr_ok' x.post (left - (budExpr x.pre)) (by omega)
  conv => whnf
  refine CallN.pure _ _ rfl hk1 rfl _ rfl ?_
  refine Branch.mk (fun h => ?_) (fun h => ?_)
  · have h := szr_lt (of_decide_eq_true h)
    refine Done.mk ?_
    exact congrArg I (szr_neg (by simp only [budPremise]; omega)).symm
  have h1 := szr_pos (of_decide_eq_false h)
  have ht : budPremise x ≤ left := by simp only [budPremise]; omega
  refine Done.mk ?_
  refine congrArg I ?_
  rw [szr_eq h1, szr_eq ht]
  simp only [budPremise]
  all_goals omega
theorem szPremiseS_all (l : List XPremise) (left : Nat) (hl : left ≤ 1048576) (hx : ∀ x ∈ l, ∀ left : Nat, left ≤ 1048576 → CallF Tryz.prog 28 [.a 7 (encPremise x), I left] (I (szr (budPremise x) left))) : CallF Tryz.prog 5 [.c (.ro 7 (l.map encPremise)), I left] (I (szr (budS budPremise l) left)) := by
  refine callF_of_vc htb hm Tryz.func5 rfl rfl rfl rfl (ann := fun n => match n with | 5 => some { α := Nat, keep := [0], ov := fun i => [(5, I i), (1, I ((left - l.length - bsum budPremise (l.take i) : Nat) : Int))], φ := fun i => i ≤ l.length ∧ l.length + bsum budPremise (l.take i) ≤ left, μ := fun i => l.length - i } | _ => none) (gh := fun _ => false) ?_
  refine Fact.mk fun hL => ?_
  rw [List.length_map] at hL ⊢
  simp only [maxLen] at hL
  refine Arith.fit (wrap_fit (by omega) (by omega)) ?_
  refine Branch.mk (fun h => ?_) (fun h => ?_)
  · have h := of_decide_eq_true h
    refine Done.mk ?_
    refine congrArg I ?_
    unfold szr budS; rw [if_neg (by omega)]
  have h := of_decide_eq_false h
  refine LoopN.mk (0 : Nat) ⟨Nat.zero_le _, by simp [bsum]; omega⟩ ⟨⟨rfl, rfl⟩, ⟨?_, rfl⟩, trivial⟩ ⟨⟨rfl, rfl⟩, trivial⟩ trivial ?_ (fun _ => rfl)
  · refine congrArg I ?_
    simp [bsum]; omega
  intro (i : Nat) (hi : i ≤ l.length ∧ l.length + bsum budPremise (l.take i) ≤ left)
  obtain ⟨hi, hb⟩ := hi
  refine Fact.mk fun _ => ?_
  refine Branch.mk (fun h => ?_) (fun h => ?_)
  · have h := of_decide_eq_true h
    rw [List.length_map] at h
    have hi' : i < l.length := by omega
    have hg : l[i]? = some l[i] := List.getElem?_eq_getElem hi'
    refine Need.mk (by omega) (Index.mk (encPremise l[i]) (by simp [hi']) ?_)
    refine CallN.pure _ _ rfl (hx l[i] (List.getElem_mem hi') _ (by omega)) rfl _ rfl ?_
    have hs := bsum_take (f := budPremise) hg
    have hle := bsum_le (f := budPremise) l (i + 1)
    refine Branch.mk (fun h => ?_) (fun h => ?_)
    · have h := of_decide_eq_true h
      refine Done.mk ?_
      refine congrArg I ?_
      unfold szr at h ⊢
      unfold budS
      split at h
      · omega
      · rw [if_neg (by omega)]
    · have h := of_decide_eq_false h
      unfold szr at h
      split at h
      · rename_i hc
        refine Arith.fit (wrap_fit (by omega) (by omega)) ?_
        refine Gh.go ⟨i + 1, ⟨hi', by omega⟩, (by show l.length - (i + 1) < l.length - i; omega), ⟨⟨rfl, rfl⟩, ⟨?_, rfl⟩, trivial⟩, ⟨⟨rfl, rfl⟩, trivial⟩, trivial⟩
        refine congrArg I ?_
        unfold szr
        rw [if_pos hc]
        omega
      · omega
  · have h := of_decide_eq_false h
    rw [List.length_map] at h
    have : i = l.length := by omega
    subst this
    refine Done.mk ?_
    refine congrArg I ?_
    rw [List.take_length] at hb ⊢
    unfold szr budS
    rw [if_pos hb]
    omega
theorem szPremiseS_ok (l : List XPremise) (left : Nat) (hl : left ≤ 1048576) : CallF Tryz.prog 5 [.c (.ro 7 (l.map encPremise)), I left] (I (szr (budS budPremise l) left)) := szPremiseS_all l left hl fun x _ => szPremise_ok x
theorem szProgS_all (l : List XProg) (left : Nat) (hl : left ≤ 1048576) (hx : ∀ x ∈ l, ∀ left : Nat, left ≤ 1048576 → CallF Tryz.prog 30 [.a 6 (encProg x), I left] (I (szr (budProg x) left))) : CallF Tryz.prog 84 [.c (.ro 6 (l.map encProg)), I left] (I (szr (budS budProg l) left)) := by
  refine callF_of_vc htb hm Tryz.func84 rfl rfl rfl rfl (ann := fun n => match n with | 5 => some { α := Nat, keep := [0], ov := fun i => [(5, I i), (1, I ((left - l.length - bsum budProg (l.take i) : Nat) : Int))], φ := fun i => i ≤ l.length ∧ l.length + bsum budProg (l.take i) ≤ left, μ := fun i => l.length - i } | _ => none) (gh := fun _ => false) ?_
  refine Fact.mk fun hL => ?_
  rw [List.length_map] at hL ⊢
  simp only [maxLen] at hL
  refine Arith.fit (wrap_fit (by omega) (by omega)) ?_
  refine Branch.mk (fun h => ?_) (fun h => ?_)
  · have h := of_decide_eq_true h
    refine Done.mk ?_
    refine congrArg I ?_
    unfold szr budS; rw [if_neg (by omega)]
  have h := of_decide_eq_false h
  refine LoopN.mk (0 : Nat) ⟨Nat.zero_le _, by simp [bsum]; omega⟩ ⟨⟨rfl, rfl⟩, ⟨?_, rfl⟩, trivial⟩ ⟨⟨rfl, rfl⟩, trivial⟩ trivial ?_ (fun _ => rfl)
  · refine congrArg I ?_
    simp [bsum]; omega
  intro (i : Nat) (hi : i ≤ l.length ∧ l.length + bsum budProg (l.take i) ≤ left)
  obtain ⟨hi, hb⟩ := hi
  refine Fact.mk fun _ => ?_
  refine Branch.mk (fun h => ?_) (fun h => ?_)
  · have h := of_decide_eq_true h
    rw [List.length_map] at h
    have hi' : i < l.length := by omega
    have hg : l[i]? = some l[i] := List.getElem?_eq_getElem hi'
    refine Need.mk (by omega) (Index.mk (encProg l[i]) (by simp [hi']) ?_)
    refine CallN.pure _ _ rfl (hx l[i] (List.getElem_mem hi') _ (by omega)) rfl _ rfl ?_
    have hs := bsum_take (f := budProg) hg
    have hle := bsum_le (f := budProg) l (i + 1)
    refine Branch.mk (fun h => ?_) (fun h => ?_)
    · have h := of_decide_eq_true h
      refine Done.mk ?_
      refine congrArg I ?_
      unfold szr at h ⊢
      unfold budS
      split at h
      · omega
      · rw [if_neg (by omega)]
    · have h := of_decide_eq_false h
      unfold szr at h
      split at h
      · rename_i hc
        refine Arith.fit (wrap_fit (by omega) (by omega)) ?_
        refine Gh.go ⟨i + 1, ⟨hi', by omega⟩, (by show l.length - (i + 1) < l.length - i; omega), ⟨⟨rfl, rfl⟩, ⟨?_, rfl⟩, trivial⟩, ⟨⟨rfl, rfl⟩, trivial⟩, trivial⟩
        refine congrArg I ?_
        unfold szr
        rw [if_pos hc]
        omega
      · omega
  · have h := of_decide_eq_false h
    rw [List.length_map] at h
    have : i = l.length := by omega
    subst this
    refine Done.mk ?_
    refine congrArg I ?_
    rw [List.take_length] at hb ⊢
    unfold szr budS
    rw [if_pos hb]
    omega
theorem szProg_ok : ∀ (x : XProg) (left : Nat), left ≤ 1048576 → CallF Tryz.prog 30 [.a 6 (encProg x), I left] (I (szr (budProg x) left))
  | .mk kind num cond kids, left, hl => by
    refine callF_of_vc htb hm Tryz.func30 rfl rfl rfl rfl (ann := fun _ => none) (gh := fun _ => false) ?_
    have hk0 := szExpr_ok' cond (left) (by omega)
    refine CallN.pure _ _ rfl hk0 rfl _ rfl ?_
    refine Branch.mk (fun h => ?_) (fun h => ?_)
    · have h := szr_lt (of_decide_eq_true h)
      refine Done.mk ?_
      exact congrArg I (szr_neg (by simp only [budProg, budProgS_eq]; omega)).symm
    have h0 := szr_pos (of_decide_eq_false h)
    rw [szr_eq h0]
    have hk1 := szProgS_all kids (left - (budExpr cond)) (by omega) fun x hx => szProg_ok x
    rw [← encProgS_map] at hk1
    refine CallN.pure _ _ rfl hk1 rfl _ rfl ?_
    refine Branch.mk (fun h => ?_) (fun h => ?_)
    · have h := szr_lt (of_decide_eq_true h)
      refine Done.mk ?_
      exact congrArg I (szr_neg (by simp only [budProg, budProgS_eq]; omega)).symm
    have h1 := szr_pos (of_decide_eq_false h)
    have ht : budProg (.mk kind num cond kids) ≤ left := by simp only [budProg, budProgS_eq]; omega
    refine Done.mk ?_
    refine congrArg I ?_
    rw [szr_eq h1, szr_eq ht]
    simp only [budProg, budProgS_eq]
    all_goals omega
  termination_by x => SizeOf.sizeOf x
  decreasing_by
    have := List.sizeOf_lt_of_mem hx
    simp only [XProg.mk.sizeOf_spec]
    omega
theorem szProg_ok' (x : XProg) (left : Nat) (hl : left ≤ 1048576) : CallF Tryz.prog 30 [.a 6 [.val (.int .i64 x.kind), .val (.int .i64 x.num), .val (.int .i64 x.cond.kind), .val (.int .i64 x.cond.num), .ro 3 (x.cond.kids.map encExpr), .ro 6 (x.kids.map encProg)], I left] (I (szr (budProg x) left)) := by
  have h := szProg_ok x left hl
  rw [encProg_eq] at h
  exact h
theorem szTriple_ok (x : XTriple) (left : Nat) (hl : left ≤ 1048576) : CallF Tryz.prog 6 [.a 12 (encTriple x), I left] (I (szr (budTriple x) left)) := by
  refine callF_of_vc htb hm Tryz.func6 rfl rfl rfl rfl (ann := fun _ => none) (gh := fun _ => false) ?_
  have hk0 := szExpr_ok' x.pre (left) (by omega)
  conv => whnf
  refine CallN.pure _ _ rfl hk0 rfl _ rfl ?_
  refine Branch.mk (fun h => ?_) (fun h => ?_)
  · have h := szr_lt (of_decide_eq_true h)
    refine Done.mk ?_
    exact congrArg I (szr_neg (by simp only [budTriple]; omega)).symm
  have h0 := szr_pos (of_decide_eq_false h)
  rw [szr_eq h0]
  have hk1 := szProg_ok' x.prog (left - (budExpr x.pre)) (by omega)
  conv => whnf
  refine CallN.pure _ _ rfl hk1 rfl _ rfl ?_
  refine Branch.mk (fun h => ?_) (fun h => ?_)
  · have h := szr_lt (of_decide_eq_true h)
    refine Done.mk ?_
    exact congrArg I (szr_neg (by simp only [budTriple]; omega)).symm
  have h1 := szr_pos (of_decide_eq_false h)
  rw [szr_eq h1]
  have hk2 := szExpr_ok' x.post (left - (budExpr x.pre) - (budProg x.prog)) (by omega)
  conv => whnf
  refine CallN.pure _ _ rfl hk2 rfl _ rfl ?_
  refine Branch.mk (fun h => ?_) (fun h => ?_)
  · have h := szr_lt (of_decide_eq_true h)
    refine Done.mk ?_
    exact congrArg I (szr_neg (by simp only [budTriple]; omega)).symm
  have h2 := szr_pos (of_decide_eq_false h)
  have ht : budTriple x ≤ left := by simp only [budTriple]; omega
  refine Done.mk ?_
  refine congrArg I ?_
  rw [szr_eq h2, szr_eq ht]
  simp only [budTriple]
  all_goals omega
end Go.Proofs.YtmpcfplelpdbhaaGreat
