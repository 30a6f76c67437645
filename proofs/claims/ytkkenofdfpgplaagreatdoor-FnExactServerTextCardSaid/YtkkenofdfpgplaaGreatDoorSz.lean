/- Contracts of the laws' own functions sz... No conditions. -/
import Derived.Test.YtkkenofdfpgplaaGreatDoorTy
namespace Go.Proofs.YtkkenofdfpgplaaGreatDoor
open Go Go.KA Go.Proofs
set_option maxRecDepth 100000
theorem szInt64S_ok (l : List Int) (left : Nat) (hl : left ≤ 1048576) : CallF Tryz.prog 80 [.c (.ro 1 (l.map eI)), I left] (I (szr l.length left)) := by
  refine callF_of_vc htb hm Tryz.func80 rfl rfl rfl rfl (ann := fun _ => none) (gh := fun _ => false) ?_
  refine Fact.mk fun hL => ?_
  rw [List.length_map] at hL ⊢
  simp only [maxLen] at hL
  refine Arith.fit (wrap_fit (by omega) (by omega)) ?_
  refine Branch.mk (fun h => ?_) (fun h => ?_)
  · have h := of_decide_eq_true h
    refine Done.mk ?_
    refine congrArg I ?_
    unfold szr; rw [if_neg (by omega)]
  · have h := of_decide_eq_false h
    refine Done.mk ?_
    refine congrArg I ?_
    unfold szr; rw [if_pos (by omega)]
    omega
theorem szExprS_all (l : List XExpr) (left : Nat) (hl : left ≤ 1048576) (hx : ∀ x ∈ l, ∀ left : Nat, left ≤ 1048576 → CallF Tryz.prog 132 [.a 3 (encExpr x), I left] (I (szr (budExpr x) left))) : CallF Tryz.prog 146 [.c (.ro 3 (l.map encExpr)), I left] (I (szr (budS budExpr l) left)) := by
  refine callF_of_vc htb hm Tryz.func146 rfl rfl rfl rfl (ann := fun n => match n with | 5 => some { α := Nat, keep := [0], ov := fun i => [(5, I i), (1, I ((left - l.length - bsum budExpr (l.take i) : Nat) : Int))], φ := fun i => i ≤ l.length ∧ l.length + bsum budExpr (l.take i) ≤ left, μ := fun i => l.length - i } | _ => none) (gh := fun _ => false) ?_
  refine Fact.mk fun hL => ?_
  rw [List.length_map] at hL ⊢
  simp only [maxLen] at hL
  refine Arith.fit (wrap_fit (by omega) (by omega)) ?_
  refine Branch.mk (fun h => ?_) (fun h => ?_)
  · have h := of_decide_eq_true h
    refine Done.mk ?_
    refine congrArg I ?_
    unfold szr budS; rw [if_neg (by omega)]
  have h := of_decide_eq_false h
  refine LoopN.mk (0 : Nat) ⟨Nat.zero_le _, by simp [bsum]; omega⟩ ⟨⟨rfl, rfl⟩, ⟨?_, rfl⟩, trivial⟩ ⟨⟨rfl, rfl⟩, trivial⟩ trivial ?_ (fun _ => rfl)
  · refine congrArg I ?_
    simp [bsum]; omega
  intro (i : Nat) (hi : i ≤ l.length ∧ l.length + bsum budExpr (l.take i) ≤ left)
  obtain ⟨hi, hb⟩ := hi
  refine Fact.mk fun _ => ?_
  refine Branch.mk (fun h => ?_) (fun h => ?_)
  · have h := of_decide_eq_true h
    rw [List.length_map] at h
    have hi' : i < l.length := by omega
    have hg : l[i]? = some l[i] := List.getElem?_eq_getElem hi'
    refine Need.mk (by omega) (Index.mk (encExpr l[i]) (by simp [hi']) ?_)
    refine CallN.pure _ _ rfl (hx l[i] (List.getElem_mem hi') _ (by omega)) rfl _ rfl ?_
    have hs := bsum_take (f := budExpr) hg
    have hle := bsum_le (f := budExpr) l (i + 1)
    refine Branch.mk (fun h => ?_) (fun h => ?_)
    · have h := of_decide_eq_true h
      refine Done.mk ?_
      refine congrArg I ?_
      unfold szr at h ⊢
      unfold budS
      split at h
      · omega
      · rw [if_neg (by omega)]
    · have h := of_decide_eq_false h
      unfold szr at h
      split at h
      · rename_i hc
        refine Arith.fit (wrap_fit (by omega) (by omega)) ?_
        refine Gh.go ⟨i + 1, ⟨hi', by omega⟩, (by show l.length - (i + 1) < l.length - i; omega), ⟨⟨rfl, rfl⟩, ⟨?_, rfl⟩, trivial⟩, ⟨⟨rfl, rfl⟩, trivial⟩, trivial⟩
        refine congrArg I ?_
        unfold szr
        rw [if_pos hc]
        omega
      · omega
  · have h := of_decide_eq_false h
    rw [List.length_map] at h
    have : i = l.length := by omega
    subst this
    refine Done.mk ?_
    refine congrArg I ?_
    rw [List.take_length] at hb ⊢
    unfold szr budS
    rw [if_pos hb]
    omega
theorem szExpr_ok : ∀ (x : XExpr) (left : Nat), left ≤ 1048576 → CallF Tryz.prog 132 [.a 3 (encExpr x), I left] (I (szr (budExpr x) left))
  | .mk kind num kids, left, hl => by
    refine callF_of_vc htb hm Tryz.func132 rfl rfl rfl rfl (ann := fun _ => none) (gh := fun _ => false) ?_
    have hk0 := szExprS_all kids (left) (by omega) fun x hx => szExpr_ok x
    rw [← encExprS_map] at hk0
    refine CallN.pure _ _ rfl hk0 rfl _ rfl ?_
    refine Branch.mk (fun h => ?_) (fun h => ?_)
    · have h := szr_lt (of_decide_eq_true h)
      refine Done.mk ?_
      exact congrArg I (szr_neg (by simp only [budExpr, budExprS_eq]; omega)).symm
    have h0 := szr_pos (of_decide_eq_false h)
    have ht : budExpr (.mk kind num kids) ≤ left := by simp only [budExpr, budExprS_eq]; omega
    refine Done.mk ?_
    refine congrArg I ?_
    rw [szr_eq h0, szr_eq ht]
    simp only [budExpr, budExprS_eq]
    all_goals omega
  termination_by x => SizeOf.sizeOf x
  decreasing_by
    have := List.sizeOf_lt_of_mem hx
    simp only [XExpr.mk.sizeOf_spec]
    omega
theorem szExpr_ok' (x : XExpr) (left : Nat) (hl : left ≤ 1048576) : CallF Tryz.prog 132 [.a 3 [.val (.int .i64 x.kind), .val (.int .i64 x.num), .ro 3 (x.kids.map encExpr)], I left] (I (szr (budExpr x) left)) := by
  have h := szExpr_ok x left hl
  rw [encExpr_eq] at h
  exact h
theorem szExprS_ok (l : List XExpr) (left : Nat) (hl : left ≤ 1048576) : CallF Tryz.prog 146 [.c (.ro 3 (l.map encExpr)), I left] (I (szr (budS budExpr l) left)) := szExprS_all l left hl fun x _ => szExpr_ok x
theorem szProofStep_ok (x : XProofStep) (left : Nat) (hl : left ≤ 1048576) : CallF Tryz.prog 147 [.a 5 (encProofStep x), I left] (I (szr (budProofStep x) left)) := by
  refine callF_of_vc htb hm Tryz.func147 rfl rfl rfl rfl (ann := fun _ => none) (gh := fun _ => false) ?_
  have hk0 := szInt64S_ok x.path (left) (by omega)
  conv => whnf
  refine CallN.pure _ _ rfl hk0 rfl _ rfl ?_
  refine Branch.mk (fun h => ?_) (fun h => ?_)
  · have h := szr_lt (of_decide_eq_true h)
    refine Done.mk ?_
    exact congrArg I (szr_neg (by simp only [budProofStep]; omega)).symm
  have h0 := szr_pos (of_decide_eq_false h)
  rw [szr_eq h0]
  have hk1 := szExprS_ok x.tests (left - x.path.length) (by omega)
  conv => whnf
  refine CallN.pure _ _ rfl hk1 rfl _ rfl ?_
  refine Branch.mk (fun h => ?_) (fun h => ?_)
  · have h := szr_lt (of_decide_eq_true h)
    refine Done.mk ?_
    exact congrArg I (szr_neg (by simp only [budProofStep]; omega)).symm
  have h1 := szr_pos (of_decide_eq_false h)
  rw [szr_eq h1]
  have hk2 := szExprS_ok x.acts (left - x.path.length - (budS budExpr x.tests)) (by omega)
  conv => whnf
  refine CallN.pure _ _ rfl hk2 rfl _ rfl ?_
  refine Branch.mk (fun h => ?_) (fun h => ?_)
  · have h := szr_lt (of_decide_eq_true h)
    refine Done.mk ?_
    exact congrArg I (szr_neg (by simp only [budProofStep]; omega)).symm
  have h2 := szr_pos (of_decide_eq_false h)
  have ht : budProofStep x ≤ left := by simp only [budProofStep]; omega
  refine Done.mk ?_
  refine congrArg I ?_
  rw [szr_eq h2, szr_eq ht]
  simp only [budProofStep]
  all_goals omega
theorem szProofStepS_all (l : List XProofStep) (left : Nat) (hl : left ≤ 1048576) (hx : ∀ x ∈ l, ∀ left : Nat, left ≤ 1048576 → CallF Tryz.prog 147 [.a 5 (encProofStep x), I left] (I (szr (budProofStep x) left))) : CallF Tryz.prog 133 [.c (.ro 5 (l.map encProofStep)), I left] (I (szr (budS budProofStep l) left)) := by
  refine callF_of_vc htb hm Tryz.func133 rfl rfl rfl rfl (ann := fun n => match n with | 5 => some { α := Nat, keep := [0], ov := fun i => [(5, I i), (1, I ((left - l.length - bsum budProofStep (l.take i) : Nat) : Int))], φ := fun i => i ≤ l.length ∧ l.length + bsum budProofStep (l.take i) ≤ left, μ := fun i => l.length - i } | _ => none) (gh := fun _ => false) ?_
  refine Fact.mk fun hL => ?_
  rw [List.length_map] at hL ⊢
  simp only [maxLen] at hL
  refine Arith.fit (wrap_fit (by omega) (by omega)) ?_
  refine Branch.mk (fun h => ?_) (fun h => ?_)
  · have h := of_decide_eq_true h
    refine Done.mk ?_
    refine congrArg I ?_
    unfold szr budS; rw [if_neg (by omega)]
  have h := of_decide_eq_false h
  refine LoopN.mk (0 : Nat) ⟨Nat.zero_le _, by simp [bsum]; omega⟩ ⟨⟨rfl, rfl⟩, ⟨?_, rfl⟩, trivial⟩ ⟨⟨rfl, rfl⟩, trivial⟩ trivial ?_ (fun _ => rfl)
  · refine congrArg I ?_
    simp [bsum]; omega
  intro (i : Nat) (hi : i ≤ l.length ∧ l.length + bsum budProofStep (l.take i) ≤ left)
  obtain ⟨hi, hb⟩ := hi
  refine Fact.mk fun _ => ?_
  refine Branch.mk (fun h => ?_) (fun h => ?_)
  · have h := of_decide_eq_true h
    rw [List.length_map] at h
    have hi' : i < l.length := by omega
    have hg : l[i]? = some l[i] := List.getElem?_eq_getElem hi'
    refine Need.mk (by omega) (Index.mk (encProofStep l[i]) (by simp [hi']) ?_)
    refine CallN.pure _ _ rfl (hx l[i] (List.getElem_mem hi') _ (by omega)) rfl _ rfl ?_
    have hs := bsum_take (f := budProofStep) hg
    have hle := bsum_le (f := budProofStep) l (i + 1)
    refine Branch.mk (fun h => ?_) (fun h => ?_)
    · have h := of_decide_eq_true h
      refine Done.mk ?_
      refine congrArg I ?_
      unfold szr at h ⊢
      unfold budS
      split at h
      · omega
      · rw [if_neg (by omega)]
    · have h := of_decide_eq_false h
      unfold szr at h
      split at h
      · rename_i hc
        refine Arith.fit (wrap_fit (by omega) (by omega)) ?_
        refine Gh.go ⟨i + 1, ⟨hi', by omega⟩, (by show l.length - (i + 1) < l.length - i; omega), ⟨⟨rfl, rfl⟩, ⟨?_, rfl⟩, trivial⟩, ⟨⟨rfl, rfl⟩, trivial⟩, trivial⟩
        refine congrArg I ?_
        unfold szr
        rw [if_pos hc]
        omega
      · omega
  · have h := of_decide_eq_false h
    rw [List.length_map] at h
    have : i = l.length := by omega
    subst this
    refine Done.mk ?_
    refine congrArg I ?_
    rw [List.take_length] at hb ⊢
    unfold szr budS
    rw [if_pos hb]
    omega
theorem szProofStepS_ok (l : List XProofStep) (left : Nat) (hl : left ≤ 1048576) : CallF Tryz.prog 133 [.c (.ro 5 (l.map encProofStep)), I left] (I (szr (budS budProofStep l) left)) := szProofStepS_all l left hl fun x _ => szProofStep_ok x
theorem szClaim_ok (x : XClaim) (left : Nat) (hl : left ≤ 1048576) : CallF Tryz.prog 121 [.a 9 (encClaim x), I left] (I (szr (budClaim x) left)) := by
  refine callF_of_vc htb hm Tryz.func121 rfl rfl rfl rfl (ann := fun _ => none) (gh := fun _ => false) ?_
  have hk0 := szExpr_ok' x.left (left) (by omega)
  conv => whnf
  refine CallN.pure _ _ rfl hk0 rfl _ rfl ?_
  refine Branch.mk (fun h => ?_) (fun h => ?_)
  · have h := szr_lt (of_decide_eq_true h)
    refine Done.mk ?_
    exact congrArg I (szr_neg (by simp only [budClaim]; omega)).symm
  have h0 := szr_pos (of_decide_eq_false h)
  rw [szr_eq h0]
  have hk1 := szExpr_ok' x.right (left - (budExpr x.left)) (by omega)
  conv => whnf
  refine CallN.pure _ _ rfl hk1 rfl _ rfl ?_
  refine Branch.mk (fun h => ?_) (fun h => ?_)
  · have h := szr_lt (of_decide_eq_true h)
    refine Done.mk ?_
    exact congrArg I (szr_neg (by simp only [budClaim]; omega)).symm
  have h1 := szr_pos (of_decide_eq_false h)
  rw [szr_eq h1]
  have hk2 := szProofStepS_ok x.steps (left - (budExpr x.left) - (budExpr x.right)) (by omega)
  conv => whnf
  refine CallN.pure _ _ rfl hk2 rfl _ rfl ?_
  refine Branch.mk (fun h => ?_) (fun h => ?_)
  · have h := szr_lt (of_decide_eq_true h)
    refine Done.mk ?_
    exact congrArg I (szr_neg (by simp only [budClaim]; omega)).symm
  have h2 := szr_pos (of_decide_eq_false h)
  have ht : budClaim x ≤ left := by simp only [budClaim]; omega
  refine Done.mk ?_
  refine congrArg I ?_
  rw [szr_eq h2, szr_eq ht]
  simp only [budClaim]
  all_goals omega
theorem szClaimS_all (l : List XClaim) (left : Nat) (hl : left ≤ 1048576) (hx : ∀ x ∈ l, ∀ left : Nat, left ≤ 1048576 → CallF Tryz.prog 121 [.a 9 (encClaim x), I left] (I (szr (budClaim x) left))) : CallF Tryz.prog 104 [.c (.ro 9 (l.map encClaim)), I left] (I (szr (budS budClaim l) left)) := by
  refine callF_of_vc htb hm Tryz.func104 rfl rfl rfl rfl (ann := fun n => match n with | 5 => some { α := Nat, keep := [0], ov := fun i => [(5, I i), (1, I ((left - l.length - bsum budClaim (l.take i) : Nat) : Int))], φ := fun i => i ≤ l.length ∧ l.length + bsum budClaim (l.take i) ≤ left, μ := fun i => l.length - i } | _ => none) (gh := fun _ => false) ?_
  refine Fact.mk fun hL => ?_
  rw [List.length_map] at hL ⊢
  simp only [maxLen] at hL
  refine Arith.fit (wrap_fit (by omega) (by omega)) ?_
  refine Branch.mk (fun h => ?_) (fun h => ?_)
  · have h := of_decide_eq_true h
    refine Done.mk ?_
    refine congrArg I ?_
    unfold szr budS; rw [if_neg (by omega)]
  have h := of_decide_eq_false h
  refine LoopN.mk (0 : Nat) ⟨Nat.zero_le _, by simp [bsum]; omega⟩ ⟨⟨rfl, rfl⟩, ⟨?_, rfl⟩, trivial⟩ ⟨⟨rfl, rfl⟩, trivial⟩ trivial ?_ (fun _ => rfl)
  · refine congrArg I ?_
    simp [bsum]; omega
  intro (i : Nat) (hi : i ≤ l.length ∧ l.length + bsum budClaim (l.take i) ≤ left)
  obtain ⟨hi, hb⟩ := hi
  refine Fact.mk fun _ => ?_
  refine Branch.mk (fun h => ?_) (fun h => ?_)
  · have h := of_decide_eq_true h
    rw [List.length_map] at h
    have hi' : i < l.length := by omega
    have hg : l[i]? = some l[i] := List.getElem?_eq_getElem hi'
    refine Need.mk (by omega) (Index.mk (encClaim l[i]) (by simp [hi']) ?_)
    refine CallN.pure _ _ rfl (hx l[i] (List.getElem_mem hi') _ (by omega)) rfl _ rfl ?_
    have hs := bsum_take (f := budClaim) hg
    have hle := bsum_le (f := budClaim) l (i + 1)
    refine Branch.mk (fun h => ?_) (fun h => ?_)
    · have h := of_decide_eq_true h
      refine Done.mk ?_
      refine congrArg I ?_
      unfold szr at h ⊢
      unfold budS
      split at h
      · omega
      · rw [if_neg (by omega)]
    · have h := of_decide_eq_false h
      unfold szr at h
      split at h
      · rename_i hc
        refine Arith.fit (wrap_fit (by omega) (by omega)) ?_
        refine Gh.go ⟨i + 1, ⟨hi', by omega⟩, (by show l.length - (i + 1) < l.length - i; omega), ⟨⟨rfl, rfl⟩, ⟨?_, rfl⟩, trivial⟩, ⟨⟨rfl, rfl⟩, trivial⟩, trivial⟩
        refine congrArg I ?_
        unfold szr
        rw [if_pos hc]
        omega
      · omega
  · have h := of_decide_eq_false h
    rw [List.length_map] at h
    have : i = l.length := by omega
    subst this
    refine Done.mk ?_
    refine congrArg I ?_
    rw [List.take_length] at hb ⊢
    unfold szr budS
    rw [if_pos hb]
    omega
theorem szClaimS_ok (l : List XClaim) (left : Nat) (hl : left ≤ 1048576) : CallF Tryz.prog 104 [.c (.ro 9 (l.map encClaim)), I left] (I (szr (budS budClaim l) left)) := szClaimS_all l left hl fun x _ => szClaim_ok x
theorem szProof_ok (x : XProof) (left : Nat) (hl : left ≤ 1048576) : CallF Tryz.prog 81 [.a 3 (encProof x), I left] (I (szr (budProof x) left)) := by
  refine callF_of_vc htb hm Tryz.func81 rfl rfl rfl rfl (ann := fun _ => none) (gh := fun _ => false) ?_
  have hk0 := szClaimS_ok x.claims (left) (by omega)
  conv => whnf
  refine CallN.pure _ _ rfl hk0 rfl _ rfl ?_
  refine Branch.mk (fun h => ?_) (fun h => ?_)
  · have h := szr_lt (of_decide_eq_true h)
    refine Done.mk ?_
    exact congrArg I (szr_neg (by simp only [budProof, budSig]; omega)).symm
  have h0 := szr_pos (of_decide_eq_false h)
  have ht : budProof x ≤ left := by simp only [budProof, budSig]; omega
  refine Done.mk ?_
  refine congrArg I ?_
  rw [szr_eq h0, szr_eq ht]
  simp only [budProof, budSig]
  all_goals omega
theorem szEntry_ok (x : XEntry) (left : Nat) (hl : left ≤ 1048576) : CallF Tryz.prog 62 [.a 5 (encEntry x), I left] (I (szr (budEntry x) left)) := by
  refine callF_of_vc htb hm Tryz.func62 rfl rfl rfl rfl (ann := fun _ => none) (gh := fun _ => false) ?_
  have hk0 := szInt64S_ok x.rests (left) (by omega)
  conv => whnf
  refine CallN.pure _ _ rfl hk0 rfl _ rfl ?_
  refine Branch.mk (fun h => ?_) (fun h => ?_)
  · have h := szr_lt (of_decide_eq_true h)
    refine Done.mk ?_
    exact congrArg I (szr_neg (by simp only [budEntry]; omega)).symm
  have h0 := szr_pos (of_decide_eq_false h)
  rw [szr_eq h0]
  have hk1 := szProof_ok x.proof (left - x.rests.length) (by omega)
  conv => whnf
  refine CallN.pure _ _ rfl hk1 rfl _ rfl ?_
  refine Branch.mk (fun h => ?_) (fun h => ?_)
  · have h := szr_lt (of_decide_eq_true h)
    refine Done.mk ?_
    exact congrArg I (szr_neg (by simp only [budEntry]; omega)).symm
  have h1 := szr_pos (of_decide_eq_false h)
  have ht : budEntry x ≤ left := by simp only [budEntry]; omega
  refine Done.mk ?_
  refine congrArg I ?_
  rw [szr_eq h1, szr_eq ht]
  simp only [budEntry]
  all_goals omega
theorem szNote_ok (x : XNote) (left : Nat) (hl : left ≤ 1048576) : CallF Tryz.prog 45 [.a 7 (encNote x), I left] (I (szr (budNote x) left)) := by
  refine callF_of_vc htb hm Tryz.func45 rfl rfl rfl rfl (ann := fun _ => none) (gh := fun _ => false) ?_
  have hk0 := szEntry_ok x.entry (left) (by omega)
  conv => whnf
  refine CallN.pure _ _ rfl hk0 rfl _ rfl ?_
  refine Branch.mk (fun h => ?_) (fun h => ?_)
  · have h := szr_lt (of_decide_eq_true h)
    refine Done.mk ?_
    exact congrArg I (szr_neg (by simp only [budNote]; omega)).symm
  have h0 := szr_pos (of_decide_eq_false h)
  have ht : budNote x ≤ left := by simp only [budNote]; omega
  refine Done.mk ?_
  refine congrArg I ?_
  rw [szr_eq h0, szr_eq ht]
  simp only [budNote]
  all_goals omega
theorem szNoteS_all (l : List XNote) (left : Nat) (hl : left ≤ 1048576) (hx : ∀ x ∈ l, ∀ left : Nat, left ≤ 1048576 → CallF Tryz.prog 45 [.a 7 (encNote x), I left] (I (szr (budNote x) left))) : CallF Tryz.prog 44 [.c (.ro 7 (l.map encNote)), I left] (I (szr (budS budNote l) left)) := by
  refine callF_of_vc htb hm Tryz.func44 rfl rfl rfl rfl (ann := fun n => match n with | 5 => some { α := Nat, keep := [0], ov := fun i => [(5, I i), (1, I ((left - l.length - bsum budNote (l.take i) : Nat) : Int))], φ := fun i => i ≤ l.length ∧ l.length + bsum budNote (l.take i) ≤ left, μ := fun i => l.length - i } | _ => none) (gh := fun _ => false) ?_
  refine Fact.mk fun hL => ?_
  rw [List.length_map] at hL ⊢
  simp only [maxLen] at hL
  refine Arith.fit (wrap_fit (by omega) (by omega)) ?_
  refine Branch.mk (fun h => ?_) (fun h => ?_)
  · have h := of_decide_eq_true h
    refine Done.mk ?_
    refine congrArg I ?_
    unfold szr budS; rw [if_neg (by omega)]
  have h := of_decide_eq_false h
  refine LoopN.mk (0 : Nat) ⟨Nat.zero_le _, by simp [bsum]; omega⟩ ⟨⟨rfl, rfl⟩, ⟨?_, rfl⟩, trivial⟩ ⟨⟨rfl, rfl⟩, trivial⟩ trivial ?_ (fun _ => rfl)
  · refine congrArg I ?_
    simp [bsum]; omega
  intro (i : Nat) (hi : i ≤ l.length ∧ l.length + bsum budNote (l.take i) ≤ left)
  obtain ⟨hi, hb⟩ := hi
  refine Fact.mk fun _ => ?_
  refine Branch.mk (fun h => ?_) (fun h => ?_)
  · have h := of_decide_eq_true h
    rw [List.length_map] at h
    have hi' : i < l.length := by omega
    have hg : l[i]? = some l[i] := List.getElem?_eq_getElem hi'
    refine Need.mk (by omega) (Index.mk (encNote l[i]) (by simp [hi']) ?_)
    refine CallN.pure _ _ rfl (hx l[i] (List.getElem_mem hi') _ (by omega)) rfl _ rfl ?_
    have hs := bsum_take (f := budNote) hg
    have hle := bsum_le (f := budNote) l (i + 1)
    refine Branch.mk (fun h => ?_) (fun h => ?_)
    · have h := of_decide_eq_true h
      refine Done.mk ?_
      refine congrArg I ?_
      unfold szr at h ⊢
      unfold budS
      split at h
      · omega
      · rw [if_neg (by omega)]
    · have h := of_decide_eq_false h
      unfold szr at h
      split at h
      · rename_i hc
        refine Arith.fit (wrap_fit (by omega) (by omega)) ?_
        refine Gh.go ⟨i + 1, ⟨hi', by omega⟩, (by show l.length - (i + 1) < l.length - i; omega), ⟨⟨rfl, rfl⟩, ⟨?_, rfl⟩, trivial⟩, ⟨⟨rfl, rfl⟩, trivial⟩, trivial⟩
        refine congrArg I ?_
        unfold szr
        rw [if_pos hc]
        omega
      · omega
  · have h := of_decide_eq_false h
    rw [List.length_map] at h
    have : i = l.length := by omega
    subst this
    refine Done.mk ?_
    refine congrArg I ?_
    rw [List.take_length] at hb ⊢
    unfold szr budS
    rw [if_pos hb]
    omega
theorem szNoteS_ok (l : List XNote) (left : Nat) (hl : left ≤ 1048576) : CallF Tryz.prog 44 [.c (.ro 7 (l.map encNote)), I left] (I (szr (budS budNote l) left)) := szNoteS_all l left hl fun x _ => szNote_ok x
theorem szServer_ok (x : XServer) (left : Nat) (hl : left ≤ 1048576) : CallF Tryz.prog 27 [.a 3 (encServer x), I left] (I (szr (budServer x) left)) := by
  refine callF_of_vc htb hm Tryz.func27 rfl rfl rfl rfl (ann := fun _ => none) (gh := fun _ => false) ?_
  have hk0 := szNoteS_ok x.notes (left) (by omega)
  conv => whnf
  refine CallN.pure _ _ rfl hk0 rfl _ rfl ?_
  refine Branch.mk (fun h => ?_) (fun h => ?_)
  · have h := szr_lt (of_decide_eq_true h)
    refine Done.mk ?_
    exact congrArg I (szr_neg (by simp only [budServer]; omega)).symm
  have h0 := szr_pos (of_decide_eq_false h)
  have ht : budServer x ≤ left := by simp only [budServer]; omega
  refine Done.mk ?_
  refine congrArg I ?_
  rw [szr_eq h0, szr_eq ht]
  simp only [budServer]
  all_goals omega
theorem szServerS_all (l : List XServer) (left : Nat) (hl : left ≤ 1048576) (hx : ∀ x ∈ l, ∀ left : Nat, left ≤ 1048576 → CallF Tryz.prog 27 [.a 3 (encServer x), I left] (I (szr (budServer x) left))) : CallF Tryz.prog 9 [.c (.ro 3 (l.map encServer)), I left] (I (szr (budS budServer l) left)) := by
  refine callF_of_vc htb hm Tryz.func9 rfl rfl rfl rfl (ann := fun n => match n with | 5 => some { α := Nat, keep := [0], ov := fun i => [(5, I i), (1, I ((left - l.length - bsum budServer (l.take i) : Nat) : Int))], φ := fun i => i ≤ l.length ∧ l.length + bsum budServer (l.take i) ≤ left, μ := fun i => l.length - i } | _ => none) (gh := fun _ => false) ?_
  refine Fact.mk fun hL => ?_
  rw [List.length_map] at hL ⊢
  simp only [maxLen] at hL
  refine Arith.fit (wrap_fit (by omega) (by omega)) ?_
  refine Branch.mk (fun h => ?_) (fun h => ?_)
  · have h := of_decide_eq_true h
    refine Done.mk ?_
    refine congrArg I ?_
    unfold szr budS; rw [if_neg (by omega)]
  have h := of_decide_eq_false h
  refine LoopN.mk (0 : Nat) ⟨Nat.zero_le _, by simp [bsum]; omega⟩ ⟨⟨rfl, rfl⟩, ⟨?_, rfl⟩, trivial⟩ ⟨⟨rfl, rfl⟩, trivial⟩ trivial ?_ (fun _ => rfl)
  · refine congrArg I ?_
    simp [bsum]; omega
  intro (i : Nat) (hi : i ≤ l.length ∧ l.length + bsum budServer (l.take i) ≤ left)
  obtain ⟨hi, hb⟩ := hi
  refine Fact.mk fun _ => ?_
  refine Branch.mk (fun h => ?_) (fun h => ?_)
  · have h := of_decide_eq_true h
    rw [List.length_map] at h
    have hi' : i < l.length := by omega
    have hg : l[i]? = some l[i] := List.getElem?_eq_getElem hi'
    refine Need.mk (by omega) (Index.mk (encServer l[i]) (by simp [hi']) ?_)
    refine CallN.pure _ _ rfl (hx l[i] (List.getElem_mem hi') _ (by omega)) rfl _ rfl ?_
    have hs := bsum_take (f := budServer) hg
    have hle := bsum_le (f := budServer) l (i + 1)
    refine Branch.mk (fun h => ?_) (fun h => ?_)
    · have h := of_decide_eq_true h
      refine Done.mk ?_
      refine congrArg I ?_
      unfold szr at h ⊢
      unfold budS
      split at h
      · omega
      · rw [if_neg (by omega)]
    · have h := of_decide_eq_false h
      unfold szr at h
      split at h
      · rename_i hc
        refine Arith.fit (wrap_fit (by omega) (by omega)) ?_
        refine Gh.go ⟨i + 1, ⟨hi', by omega⟩, (by show l.length - (i + 1) < l.length - i; omega), ⟨⟨rfl, rfl⟩, ⟨?_, rfl⟩, trivial⟩, ⟨⟨rfl, rfl⟩, trivial⟩, trivial⟩
        refine congrArg I ?_
        unfold szr
        rw [if_pos hc]
        omega
      · omega
  · have h := of_decide_eq_false h
    rw [List.length_map] at h
    have : i = l.length := by omega
    subst this
    refine Done.mk ?_
    refine congrArg I ?_
    rw [List.take_length] at hb ⊢
    unfold szr budS
    rw [if_pos hb]
    omega
theorem szServerS_ok (l : List XServer) (left : Nat) (hl : left ≤ 1048576) : CallF Tryz.prog 9 [.c (.ro 3 (l.map encServer)), I left] (I (szr (budS budServer l) left)) := szServerS_all l left hl fun x _ => szServer_ok x
theorem szPacket_ok (x : XPacket) (left : Nat) (hl : left ≤ 1048576) : CallF Tryz.prog 28 [.a 8 (encPacket x), I left] (I (szr (budPacket x) left)) := by
  refine callF_of_vc htb hm Tryz.func28 rfl rfl rfl rfl (ann := fun _ => none) (gh := fun _ => false) ?_
  have hk0 := szNote_ok x.note (left) (by omega)
  conv => whnf
  refine CallN.pure _ _ rfl hk0 rfl _ rfl ?_
  refine Branch.mk (fun h => ?_) (fun h => ?_)
  · have h := szr_lt (of_decide_eq_true h)
    refine Done.mk ?_
    exact congrArg I (szr_neg (by simp only [budPacket]; omega)).symm
  have h0 := szr_pos (of_decide_eq_false h)
  have ht : budPacket x ≤ left := by simp only [budPacket]; omega
  refine Done.mk ?_
  refine congrArg I ?_
  rw [szr_eq h0, szr_eq ht]
  simp only [budPacket]
  all_goals omega
theorem szPacketS_all (l : List XPacket) (left : Nat) (hl : left ≤ 1048576) (hx : ∀ x ∈ l, ∀ left : Nat, left ≤ 1048576 → CallF Tryz.prog 28 [.a 8 (encPacket x), I left] (I (szr (budPacket x) left))) : CallF Tryz.prog 10 [.c (.ro 8 (l.map encPacket)), I left] (I (szr (budS budPacket l) left)) := by
  refine callF_of_vc htb hm Tryz.func10 rfl rfl rfl rfl (ann := fun n => match n with | 5 => some { α := Nat, keep := [0], ov := fun i => [(5, I i), (1, I ((left - l.length - bsum budPacket (l.take i) : Nat) : Int))], φ := fun i => i ≤ l.length ∧ l.length + bsum budPacket (l.take i) ≤ left, μ := fun i => l.length - i } | _ => none) (gh := fun _ => false) ?_
  refine Fact.mk fun hL => ?_
  rw [List.length_map] at hL ⊢
  simp only [maxLen] at hL
  refine Arith.fit (wrap_fit (by omega) (by omega)) ?_
  refine Branch.mk (fun h => ?_) (fun h => ?_)
  · have h := of_decide_eq_true h
    refine Done.mk ?_
    refine congrArg I ?_
    unfold szr budS; rw [if_neg (by omega)]
  have h := of_decide_eq_false h
  refine LoopN.mk (0 : Nat) ⟨Nat.zero_le _, by simp [bsum]; omega⟩ ⟨⟨rfl, rfl⟩, ⟨?_, rfl⟩, trivial⟩ ⟨⟨rfl, rfl⟩, trivial⟩ trivial ?_ (fun _ => rfl)
  · refine congrArg I ?_
    simp [bsum]; omega
  intro (i : Nat) (hi : i ≤ l.length ∧ l.length + bsum budPacket (l.take i) ≤ left)
  obtain ⟨hi, hb⟩ := hi
  refine Fact.mk fun _ => ?_
  refine Branch.mk (fun h => ?_) (fun h => ?_)
  · have h := of_decide_eq_true h
    rw [List.length_map] at h
    have hi' : i < l.length := by omega
    have hg : l[i]? = some l[i] := List.getElem?_eq_getElem hi'
    refine Need.mk (by omega) (Index.mk (encPacket l[i]) (by simp [hi']) ?_)
    refine CallN.pure _ _ rfl (hx l[i] (List.getElem_mem hi') _ (by omega)) rfl _ rfl ?_
    have hs := bsum_take (f := budPacket) hg
    have hle := bsum_le (f := budPacket) l (i + 1)
    refine Branch.mk (fun h => ?_) (fun h => ?_)
    · have h := of_decide_eq_true h
      refine Done.mk ?_
      refine congrArg I ?_
      unfold szr at h ⊢
      unfold budS
      split at h
      · omega
      · rw [if_neg (by omega)]
    · have h := of_decide_eq_false h
      unfold szr at h
      split at h
      · rename_i hc
        refine Arith.fit (wrap_fit (by omega) (by omega)) ?_
        refine Gh.go ⟨i + 1, ⟨hi', by omega⟩, (by show l.length - (i + 1) < l.length - i; omega), ⟨⟨rfl, rfl⟩, ⟨?_, rfl⟩, trivial⟩, ⟨⟨rfl, rfl⟩, trivial⟩, trivial⟩
        refine congrArg I ?_
        unfold szr
        rw [if_pos hc]
        omega
      · omega
  · have h := of_decide_eq_false h
    rw [List.length_map] at h
    have : i = l.length := by omega
    subst this
    refine Done.mk ?_
    refine congrArg I ?_
    rw [List.take_length] at hb ⊢
    unfold szr budS
    rw [if_pos hb]
    omega
theorem szPacketS_ok (l : List XPacket) (left : Nat) (hl : left ≤ 1048576) : CallF Tryz.prog 10 [.c (.ro 8 (l.map encPacket)), I left] (I (szr (budS budPacket l) left)) := szPacketS_all l left hl fun x _ => szPacket_ok x
theorem szArchive_ok (x : XArchive) (left : Nat) (hl : left ≤ 1048576) : CallF Tryz.prog 4 [.a 4 (encArchive x), I left] (I (szr (budArchive x) left)) := by
  refine callF_of_vc htb hm Tryz.func4 rfl rfl rfl rfl (ann := fun _ => none) (gh := fun _ => false) ?_
  have hk0 := szServerS_ok x.servers (left) (by omega)
  conv => whnf
  refine CallN.pure _ _ rfl hk0 rfl _ rfl ?_
  refine Branch.mk (fun h => ?_) (fun h => ?_)
  · have h := szr_lt (of_decide_eq_true h)
    refine Done.mk ?_
    exact congrArg I (szr_neg (by simp only [budArchive, budSig]; omega)).symm
  have h0 := szr_pos (of_decide_eq_false h)
  rw [szr_eq h0]
  have hk1 := szPacketS_ok x.flying (left - (budS budServer x.servers)) (by omega)
  conv => whnf
  refine CallN.pure _ _ rfl hk1 rfl _ rfl ?_
  refine Branch.mk (fun h => ?_) (fun h => ?_)
  · have h := szr_lt (of_decide_eq_true h)
    refine Done.mk ?_
    exact congrArg I (szr_neg (by simp only [budArchive, budSig]; omega)).symm
  have h1 := szr_pos (of_decide_eq_false h)
  have ht : budArchive x ≤ left := by simp only [budArchive, budSig]; omega
  refine Done.mk ?_
  refine congrArg I ?_
  rw [szr_eq h1, szr_eq ht]
  simp only [budArchive, budSig]
  all_goals omega
end Go.Proofs.YtkkenofdfpgplaaGreatDoor
