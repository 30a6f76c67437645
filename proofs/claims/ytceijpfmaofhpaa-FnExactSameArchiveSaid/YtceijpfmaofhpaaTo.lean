/- Part of a proof engine for functions of the given program: what an operation, a loop and a call compute, symbolically. No conditions. -/
import Derived.Test.YtceijpfmaofhpaaTy
namespace Go.Proofs.Ytceijpfmaofhpaa
open Go Go.KA Go.Proofs
theorem toSig_ok (x : XSig) (_hl : budSig x ≤ 1048576) : CallF Try.prog 14 [.a 2 (encSig x)] (.a 2 (encSig x)) := by
  refine callF_of_vc htb hm Try.func14 rfl rfl rfl (ann := fun _ => none) ?_
  exact Done.mk rfl
theorem toInt64S_ok (l : List Int) (hl : l.length ≤ 1048576) : CallF Try.prog 85 [.c (.ro 1 (l.map eI))] (.c (.ro 1 (l.map eI))) := by
  refine callF_of_vc htb hm Try.func85 rfl rfl rfl (ann := fun n => match n with | 3 => some { α := Nat, keep := [0, 3], ov := fun i => [(4, I i)], hv := fun i => [(1, .row 2 1 (half eI [.val (.int .i64 0)] l i))], φ := fun i => i ≤ l.length, μ := fun i => l.length - i } | _ => none) ?_
  refine Fact.mk fun _ => ?_
  refine Need.mk (by simp only [List.length_map]; omega) ?_
  refine LoopN.mk (0 : Nat) (Nat.zero_le _) ⟨⟨rfl, rfl⟩, trivial⟩ ⟨⟨rfl, rfl⟩, ⟨rfl, rfl⟩, trivial⟩ ⟨⟨rfl, rfl⟩, ⟨?_, rfl⟩, trivial⟩ ?_
  · exact congrArg (Blk.row 2 1) (half_zero (by rw [List.length_map]; rfl))
  intro (i : Nat) (hi : i ≤ l.length)
  refine Fact.mk fun _ => ?_
  refine Branch.mk (fun h => ?_) (fun h => ?_)
  · have h := of_decide_eq_true h
    rw [List.length_map] at h
    have hi' : i < l.length := by omega
    refine Need.mk (by omega) (Index.mk (eI l[i]) (by simp [hi']) ?_)
    refine Need.mk ⟨by omega, by rw [half_len hi]; simpa using hi'⟩ ?_
    refine Index.mk [.val (.int .i64 0)] (half_get hi') ?_
    refine Arith.fit (wrap_fit (by omega) (by omega)) ?_
    refine ⟨i + 1, hi', (by show l.length - (i + 1) < l.length - i; omega), ⟨⟨rfl, rfl⟩, trivial⟩, ⟨⟨rfl, rfl⟩, ⟨rfl, rfl⟩, trivial⟩, ⟨⟨rfl, rfl⟩, ⟨?_, rfl⟩, trivial⟩⟩
    exact congrArg (Blk.row 2 1) (half_set hi')
  · have h := of_decide_eq_false h
    rw [List.length_map] at h
    have : i = l.length := by omega
    subst this
    refine Done.mk ?_
    exact congrArg (fun r => SV.c (.ro 1 r)) half_full
theorem toExprS_all (l : List XExpr) (hl : l.length ≤ 1048576) (hx : ∀ x ∈ l, CallF Try.prog 105 [.a 3 (encExpr x)] (.a 3 (encExpr x))) : CallF Try.prog 159 [.c (.ro 3 (l.map encExpr))] (.c (.ro 3 (l.map encExpr))) := by
  refine callF_of_vc htb hm Try.func159 rfl rfl rfl (ann := fun n => match n with | 3 => some { α := Nat, keep := [0, 3], ov := fun i => [(4, I i)], hv := fun i => [(1, .row 84 3 (half encExpr [.val (.int .i64 0), .val (.int .i64 0), .ro 3 []] l i))], φ := fun i => i ≤ l.length, μ := fun i => l.length - i } | _ => none) ?_
  refine Fact.mk fun _ => ?_
  refine Need.mk (by simp only [List.length_map]; omega) ?_
  refine LoopN.mk (0 : Nat) (Nat.zero_le _) ⟨⟨rfl, rfl⟩, trivial⟩ ⟨⟨rfl, rfl⟩, ⟨rfl, rfl⟩, trivial⟩ ⟨⟨rfl, rfl⟩, ⟨?_, rfl⟩, trivial⟩ ?_
  · exact congrArg (Blk.row 84 3) (half_zero (by rw [List.length_map]; rfl))
  intro (i : Nat) (hi : i ≤ l.length)
  refine Fact.mk fun _ => ?_
  refine Branch.mk (fun h => ?_) (fun h => ?_)
  · have h := of_decide_eq_true h
    rw [List.length_map] at h
    have hi' : i < l.length := by omega
    refine Need.mk (by omega) (Index.mk (encExpr l[i]) (by simp [hi']) ?_)
    refine CallN.pure _ _ rfl (hx l[i] (List.getElem_mem hi')) rfl ?_
    refine Need.mk ⟨by omega, by rw [half_len hi]; simpa using hi'⟩ ?_
    refine Index.mk [.val (.int .i64 0), .val (.int .i64 0), .ro 3 []] (half_get hi') ?_
    refine Arith.fit (wrap_fit (by omega) (by omega)) ?_
    refine ⟨i + 1, hi', (by show l.length - (i + 1) < l.length - i; omega), ⟨⟨rfl, rfl⟩, trivial⟩, ⟨⟨rfl, rfl⟩, ⟨rfl, rfl⟩, trivial⟩, ⟨⟨rfl, rfl⟩, ⟨?_, rfl⟩, trivial⟩⟩
    exact congrArg (Blk.row 84 3) (half_set hi')
  · have h := of_decide_eq_false h
    rw [List.length_map] at h
    have : i = l.length := by omega
    subst this
    refine Done.mk ?_
    exact congrArg (fun r => SV.c (.ro 3 r)) half_full
theorem toExpr_ok : ∀ (x : XExpr), budExpr x ≤ 1048576 → CallF Try.prog 105 [.a 3 (encExpr x)] (.a 3 (encExpr x))
  | .mk kind num kids, hl => by
    simp only [budExpr, budExprS_eq] at hl
    refine callF_of_vc htb hm Try.func105 rfl rfl rfl (ann := fun _ => none) ?_
    have hk0 := toExprS_all kids (by have := budS_len budExpr kids; omega) fun x hx => toExpr_ok x (by have := budS_mem budExpr hx; omega)
    rw [← encExprS_map] at hk0
    refine CallN.pure _ _ rfl hk0 rfl ?_
    exact Done.mk rfl
  termination_by x => SizeOf.sizeOf x
  decreasing_by
    have := List.sizeOf_lt_of_mem hx
    simp only [XExpr.mk.sizeOf_spec]
    omega
theorem toExpr_ok' (x : XExpr) (hl : budExpr x ≤ 1048576) : CallF Try.prog 105 [.a 3 [.val (.int .i64 x.kind), .val (.int .i64 x.num), .ro 3 (x.kids.map encExpr)]] (.a 3 [.val (.int .i64 x.kind), .val (.int .i64 x.num), .ro 3 (x.kids.map encExpr)]) := by
  have h := toExpr_ok x hl
  rw [encExpr_eq] at h
  exact h
theorem toExprS_ok (l : List XExpr) (hl : budS budExpr l ≤ 1048576) : CallF Try.prog 159 [.c (.ro 3 (l.map encExpr))] (.c (.ro 3 (l.map encExpr))) := toExprS_all l (by have := budS_len budExpr l; omega) fun x hx => toExpr_ok x (by have := budS_mem budExpr hx; omega)
theorem toProofStep_ok (x : XProofStep) (hl : budProofStep x ≤ 1048576) : CallF Try.prog 254 [.a 5 (encProofStep x)] (.a 5 (encProofStep x)) := by
  simp only [budProofStep] at hl
  refine callF_of_vc htb hm Try.func254 rfl rfl rfl (ann := fun _ => none) ?_
  have hk0 := toInt64S_ok x.path (by omega)
  refine CallN.pure _ _ rfl hk0 rfl ?_
  have hk1 := toExprS_ok x.tests (by omega)
  refine CallN.pure _ _ rfl hk1 rfl ?_
  have hk2 := toExprS_ok x.acts (by omega)
  refine CallN.pure _ _ rfl hk2 rfl ?_
  exact Done.mk rfl
theorem toProofStepS_all (l : List XProofStep) (hl : l.length ≤ 1048576) (hx : ∀ x ∈ l, CallF Try.prog 254 [.a 5 (encProofStep x)] (.a 5 (encProofStep x))) : CallF Try.prog 251 [.c (.ro 5 (l.map encProofStep))] (.c (.ro 5 (l.map encProofStep))) := by
  refine callF_of_vc htb hm Try.func251 rfl rfl rfl (ann := fun n => match n with | 3 => some { α := Nat, keep := [0, 3], ov := fun i => [(4, I i)], hv := fun i => [(1, .row 295 5 (half encProofStep [.val (.int .i64 0), .val (.bool false), .ro 1 [], .ro 3 [], .ro 3 []] l i))], φ := fun i => i ≤ l.length, μ := fun i => l.length - i } | _ => none) ?_
  refine Fact.mk fun _ => ?_
  refine Need.mk (by simp only [List.length_map]; omega) ?_
  refine LoopN.mk (0 : Nat) (Nat.zero_le _) ⟨⟨rfl, rfl⟩, trivial⟩ ⟨⟨rfl, rfl⟩, ⟨rfl, rfl⟩, trivial⟩ ⟨⟨rfl, rfl⟩, ⟨?_, rfl⟩, trivial⟩ ?_
  · exact congrArg (Blk.row 295 5) (half_zero (by rw [List.length_map]; rfl))
  intro (i : Nat) (hi : i ≤ l.length)
  refine Fact.mk fun _ => ?_
  refine Branch.mk (fun h => ?_) (fun h => ?_)
  · have h := of_decide_eq_true h
    rw [List.length_map] at h
    have hi' : i < l.length := by omega
    refine Need.mk (by omega) (Index.mk (encProofStep l[i]) (by simp [hi']) ?_)
    refine CallN.pure _ _ rfl (hx l[i] (List.getElem_mem hi')) rfl ?_
    refine Need.mk ⟨by omega, by rw [half_len hi]; simpa using hi'⟩ ?_
    refine Index.mk [.val (.int .i64 0), .val (.bool false), .ro 1 [], .ro 3 [], .ro 3 []] (half_get hi') ?_
    refine Arith.fit (wrap_fit (by omega) (by omega)) ?_
    refine ⟨i + 1, hi', (by show l.length - (i + 1) < l.length - i; omega), ⟨⟨rfl, rfl⟩, trivial⟩, ⟨⟨rfl, rfl⟩, ⟨rfl, rfl⟩, trivial⟩, ⟨⟨rfl, rfl⟩, ⟨?_, rfl⟩, trivial⟩⟩
    exact congrArg (Blk.row 295 5) (half_set hi')
  · have h := of_decide_eq_false h
    rw [List.length_map] at h
    have : i = l.length := by omega
    subst this
    refine Done.mk ?_
    exact congrArg (fun r => SV.c (.ro 5 r)) half_full
theorem toProofStepS_ok (l : List XProofStep) (hl : budS budProofStep l ≤ 1048576) : CallF Try.prog 251 [.c (.ro 5 (l.map encProofStep))] (.c (.ro 5 (l.map encProofStep))) := toProofStepS_all l (by have := budS_len budProofStep l; omega) fun x hx => toProofStep_ok x (by have := budS_mem budProofStep hx; omega)
theorem toClaim_ok (x : XClaim) (hl : budClaim x ≤ 1048576) : CallF Try.prog 248 [.a 9 (encClaim x)] (.a 9 (encClaim x)) := by
  simp only [budClaim] at hl
  refine callF_of_vc htb hm Try.func248 rfl rfl rfl (ann := fun _ => none) ?_
  have hk0 := toExpr_ok' x.left (by omega)
  refine CallN.pure _ _ rfl hk0 rfl ?_
  have hk1 := toExpr_ok' x.right (by omega)
  refine CallN.pure _ _ rfl hk1 rfl ?_
  have hk2 := toProofStepS_ok x.steps (by omega)
  refine CallN.pure _ _ rfl hk2 rfl ?_
  exact Done.mk rfl
theorem toClaimS_all (l : List XClaim) (hl : l.length ≤ 1048576) (hx : ∀ x ∈ l, CallF Try.prog 248 [.a 9 (encClaim x)] (.a 9 (encClaim x))) : CallF Try.prog 243 [.c (.ro 9 (l.map encClaim))] (.c (.ro 9 (l.map encClaim))) := by
  refine callF_of_vc htb hm Try.func243 rfl rfl rfl (ann := fun n => match n with | 3 => some { α := Nat, keep := [0, 3], ov := fun i => [(4, I i)], hv := fun i => [(1, .row 277 9 (half encClaim [.val (.int .i64 0), .val (.int .i64 0), .ro 3 [], .val (.int .i64 0), .val (.int .i64 0), .ro 3 [], .val (.int .i64 0), .val (.int .i64 0), .ro 5 []] l i))], φ := fun i => i ≤ l.length, μ := fun i => l.length - i } | _ => none) ?_
  refine Fact.mk fun _ => ?_
  refine Need.mk (by simp only [List.length_map]; omega) ?_
  refine LoopN.mk (0 : Nat) (Nat.zero_le _) ⟨⟨rfl, rfl⟩, trivial⟩ ⟨⟨rfl, rfl⟩, ⟨rfl, rfl⟩, trivial⟩ ⟨⟨rfl, rfl⟩, ⟨?_, rfl⟩, trivial⟩ ?_
  · exact congrArg (Blk.row 277 9) (half_zero (by rw [List.length_map]; rfl))
  intro (i : Nat) (hi : i ≤ l.length)
  refine Fact.mk fun _ => ?_
  refine Branch.mk (fun h => ?_) (fun h => ?_)
  · have h := of_decide_eq_true h
    rw [List.length_map] at h
    have hi' : i < l.length := by omega
    refine Need.mk (by omega) (Index.mk (encClaim l[i]) (by simp [hi']) ?_)
    refine CallN.pure _ _ rfl (hx l[i] (List.getElem_mem hi')) rfl ?_
    refine Need.mk ⟨by omega, by rw [half_len hi]; simpa using hi'⟩ ?_
    refine Index.mk [.val (.int .i64 0), .val (.int .i64 0), .ro 3 [], .val (.int .i64 0), .val (.int .i64 0), .ro 3 [], .val (.int .i64 0), .val (.int .i64 0), .ro 5 []] (half_get hi') ?_
    refine Arith.fit (wrap_fit (by omega) (by omega)) ?_
    refine ⟨i + 1, hi', (by show l.length - (i + 1) < l.length - i; omega), ⟨⟨rfl, rfl⟩, trivial⟩, ⟨⟨rfl, rfl⟩, ⟨rfl, rfl⟩, trivial⟩, ⟨⟨rfl, rfl⟩, ⟨?_, rfl⟩, trivial⟩⟩
    exact congrArg (Blk.row 277 9) (half_set hi')
  · have h := of_decide_eq_false h
    rw [List.length_map] at h
    have : i = l.length := by omega
    subst this
    refine Done.mk ?_
    exact congrArg (fun r => SV.c (.ro 9 r)) half_full
theorem toClaimS_ok (l : List XClaim) (hl : budS budClaim l ≤ 1048576) : CallF Try.prog 243 [.c (.ro 9 (l.map encClaim))] (.c (.ro 9 (l.map encClaim))) := toClaimS_all l (by have := budS_len budClaim l; omega) fun x hx => toClaim_ok x (by have := budS_mem budClaim hx; omega)
theorem toProof_ok (x : XProof) (hl : budProof x ≤ 1048576) : CallF Try.prog 236 [.a 3 (encProof x)] (.a 3 (encProof x)) := by
  simp only [budProof] at hl
  refine callF_of_vc htb hm Try.func236 rfl rfl rfl (ann := fun _ => none) ?_
  have hk0 := toSig_ok x.sig (by simp only [budSig]; omega)
  refine CallN.pure _ _ rfl hk0 rfl ?_
  have hk1 := toClaimS_ok x.claims (by omega)
  refine CallN.pure _ _ rfl hk1 rfl ?_
  exact Done.mk rfl
theorem toEntry_ok (x : XEntry) (hl : budEntry x ≤ 1048576) : CallF Try.prog 228 [.a 5 (encEntry x)] (.a 5 (encEntry x)) := by
  simp only [budEntry] at hl
  refine callF_of_vc htb hm Try.func228 rfl rfl rfl (ann := fun _ => none) ?_
  have hk0 := toInt64S_ok x.rests (by omega)
  refine CallN.pure _ _ rfl hk0 rfl ?_
  have hk1 := toProof_ok x.proof (by omega)
  refine CallN.pure _ _ rfl hk1 rfl ?_
  exact Done.mk rfl
theorem toNote_ok (x : XNote) (hl : budNote x ≤ 1048576) : CallF Try.prog 200 [.a 7 (encNote x)] (.a 7 (encNote x)) := by
  simp only [budNote] at hl
  refine callF_of_vc htb hm Try.func200 rfl rfl rfl (ann := fun _ => none) ?_
  have hk0 := toEntry_ok x.entry (by omega)
  refine CallN.pure _ _ rfl hk0 rfl ?_
  exact Done.mk rfl
theorem toNoteS_all (l : List XNote) (hl : l.length ≤ 1048576) (hx : ∀ x ∈ l, CallF Try.prog 200 [.a 7 (encNote x)] (.a 7 (encNote x))) : CallF Try.prog 199 [.c (.ro 7 (l.map encNote))] (.c (.ro 7 (l.map encNote))) := by
  refine callF_of_vc htb hm Try.func199 rfl rfl rfl (ann := fun n => match n with | 3 => some { α := Nat, keep := [0, 3], ov := fun i => [(4, I i)], hv := fun i => [(1, .row 130 7 (half encNote [.val (.bool false), .val (.int .i64 0), .val (.int .i64 0), .ro 1 [], .val (.int .i64 0), .val (.int .i64 0), .ro 9 []] l i))], φ := fun i => i ≤ l.length, μ := fun i => l.length - i } | _ => none) ?_
  refine Fact.mk fun _ => ?_
  refine Need.mk (by simp only [List.length_map]; omega) ?_
  refine LoopN.mk (0 : Nat) (Nat.zero_le _) ⟨⟨rfl, rfl⟩, trivial⟩ ⟨⟨rfl, rfl⟩, ⟨rfl, rfl⟩, trivial⟩ ⟨⟨rfl, rfl⟩, ⟨?_, rfl⟩, trivial⟩ ?_
  · exact congrArg (Blk.row 130 7) (half_zero (by rw [List.length_map]; rfl))
  intro (i : Nat) (hi : i ≤ l.length)
  refine Fact.mk fun _ => ?_
  refine Branch.mk (fun h => ?_) (fun h => ?_)
  · have h := of_decide_eq_true h
    rw [List.length_map] at h
    have hi' : i < l.length := by omega
    refine Need.mk (by omega) (Index.mk (encNote l[i]) (by simp [hi']) ?_)
    refine CallN.pure _ _ rfl (hx l[i] (List.getElem_mem hi')) rfl ?_
    refine Need.mk ⟨by omega, by rw [half_len hi]; simpa using hi'⟩ ?_
    refine Index.mk [.val (.bool false), .val (.int .i64 0), .val (.int .i64 0), .ro 1 [], .val (.int .i64 0), .val (.int .i64 0), .ro 9 []] (half_get hi') ?_
    refine Arith.fit (wrap_fit (by omega) (by omega)) ?_
    refine ⟨i + 1, hi', (by show l.length - (i + 1) < l.length - i; omega), ⟨⟨rfl, rfl⟩, trivial⟩, ⟨⟨rfl, rfl⟩, ⟨rfl, rfl⟩, trivial⟩, ⟨⟨rfl, rfl⟩, ⟨?_, rfl⟩, trivial⟩⟩
    exact congrArg (Blk.row 130 7) (half_set hi')
  · have h := of_decide_eq_false h
    rw [List.length_map] at h
    have : i = l.length := by omega
    subst this
    refine Done.mk ?_
    exact congrArg (fun r => SV.c (.ro 7 r)) half_full
theorem toNoteS_ok (l : List XNote) (hl : budS budNote l ≤ 1048576) : CallF Try.prog 199 [.c (.ro 7 (l.map encNote))] (.c (.ro 7 (l.map encNote))) := toNoteS_all l (by have := budS_len budNote l; omega) fun x hx => toNote_ok x (by have := budS_mem budNote hx; omega)
theorem toServer_ok (x : XServer) (hl : budServer x ≤ 1048576) : CallF Try.prog 138 [.a 3 (encServer x)] (.a 3 (encServer x)) := by
  simp only [budServer] at hl
  refine callF_of_vc htb hm Try.func138 rfl rfl rfl (ann := fun _ => none) ?_
  have hk0 := toNoteS_ok x.notes (by omega)
  refine CallN.pure _ _ rfl hk0 rfl ?_
  exact Done.mk rfl
theorem toServerS_all (l : List XServer) (hl : l.length ≤ 1048576) (hx : ∀ x ∈ l, CallF Try.prog 138 [.a 3 (encServer x)] (.a 3 (encServer x))) : CallF Try.prog 68 [.c (.ro 3 (l.map encServer))] (.c (.ro 3 (l.map encServer))) := by
  refine callF_of_vc htb hm Try.func68 rfl rfl rfl (ann := fun n => match n with | 3 => some { α := Nat, keep := [0, 3], ov := fun i => [(4, I i)], hv := fun i => [(1, .row 114 3 (half encServer [.val (.bool false), .ro 7 [], .val (.int .i64 0)] l i))], φ := fun i => i ≤ l.length, μ := fun i => l.length - i } | _ => none) ?_
  refine Fact.mk fun _ => ?_
  refine Need.mk (by simp only [List.length_map]; omega) ?_
  refine LoopN.mk (0 : Nat) (Nat.zero_le _) ⟨⟨rfl, rfl⟩, trivial⟩ ⟨⟨rfl, rfl⟩, ⟨rfl, rfl⟩, trivial⟩ ⟨⟨rfl, rfl⟩, ⟨?_, rfl⟩, trivial⟩ ?_
  · exact congrArg (Blk.row 114 3) (half_zero (by rw [List.length_map]; rfl))
  intro (i : Nat) (hi : i ≤ l.length)
  refine Fact.mk fun _ => ?_
  refine Branch.mk (fun h => ?_) (fun h => ?_)
  · have h := of_decide_eq_true h
    rw [List.length_map] at h
    have hi' : i < l.length := by omega
    refine Need.mk (by omega) (Index.mk (encServer l[i]) (by simp [hi']) ?_)
    refine CallN.pure _ _ rfl (hx l[i] (List.getElem_mem hi')) rfl ?_
    refine Need.mk ⟨by omega, by rw [half_len hi]; simpa using hi'⟩ ?_
    refine Index.mk [.val (.bool false), .ro 7 [], .val (.int .i64 0)] (half_get hi') ?_
    refine Arith.fit (wrap_fit (by omega) (by omega)) ?_
    refine ⟨i + 1, hi', (by show l.length - (i + 1) < l.length - i; omega), ⟨⟨rfl, rfl⟩, trivial⟩, ⟨⟨rfl, rfl⟩, ⟨rfl, rfl⟩, trivial⟩, ⟨⟨rfl, rfl⟩, ⟨?_, rfl⟩, trivial⟩⟩
    exact congrArg (Blk.row 114 3) (half_set hi')
  · have h := of_decide_eq_false h
    rw [List.length_map] at h
    have : i = l.length := by omega
    subst this
    refine Done.mk ?_
    exact congrArg (fun r => SV.c (.ro 3 r)) half_full
theorem toServerS_ok (l : List XServer) (hl : budS budServer l ≤ 1048576) : CallF Try.prog 68 [.c (.ro 3 (l.map encServer))] (.c (.ro 3 (l.map encServer))) := toServerS_all l (by have := budS_len budServer l; omega) fun x hx => toServer_ok x (by have := budS_mem budServer hx; omega)
theorem toPacket_ok (x : XPacket) (hl : budPacket x ≤ 1048576) : CallF Try.prog 139 [.a 8 (encPacket x)] (.a 8 (encPacket x)) := by
  simp only [budPacket] at hl
  refine callF_of_vc htb hm Try.func139 rfl rfl rfl (ann := fun _ => none) ?_
  have hk0 := toNote_ok x.note (by omega)
  refine CallN.pure _ _ rfl hk0 rfl ?_
  exact Done.mk rfl
theorem toPacketS_all (l : List XPacket) (hl : l.length ≤ 1048576) (hx : ∀ x ∈ l, CallF Try.prog 139 [.a 8 (encPacket x)] (.a 8 (encPacket x))) : CallF Try.prog 69 [.c (.ro 8 (l.map encPacket))] (.c (.ro 8 (l.map encPacket))) := by
  refine callF_of_vc htb hm Try.func69 rfl rfl rfl (ann := fun n => match n with | 3 => some { α := Nat, keep := [0, 3], ov := fun i => [(4, I i)], hv := fun i => [(1, .row 132 8 (half encPacket [.val (.int .i64 0), .val (.bool false), .val (.int .i64 0), .val (.int .i64 0), .ro 1 [], .val (.int .i64 0), .val (.int .i64 0), .ro 9 []] l i))], φ := fun i => i ≤ l.length, μ := fun i => l.length - i } | _ => none) ?_
  refine Fact.mk fun _ => ?_
  refine Need.mk (by simp only [List.length_map]; omega) ?_
  refine LoopN.mk (0 : Nat) (Nat.zero_le _) ⟨⟨rfl, rfl⟩, trivial⟩ ⟨⟨rfl, rfl⟩, ⟨rfl, rfl⟩, trivial⟩ ⟨⟨rfl, rfl⟩, ⟨?_, rfl⟩, trivial⟩ ?_
  · exact congrArg (Blk.row 132 8) (half_zero (by rw [List.length_map]; rfl))
  intro (i : Nat) (hi : i ≤ l.length)
  refine Fact.mk fun _ => ?_
  refine Branch.mk (fun h => ?_) (fun h => ?_)
  · have h := of_decide_eq_true h
    rw [List.length_map] at h
    have hi' : i < l.length := by omega
    refine Need.mk (by omega) (Index.mk (encPacket l[i]) (by simp [hi']) ?_)
    refine CallN.pure _ _ rfl (hx l[i] (List.getElem_mem hi')) rfl ?_
    refine Need.mk ⟨by omega, by rw [half_len hi]; simpa using hi'⟩ ?_
    refine Index.mk [.val (.int .i64 0), .val (.bool false), .val (.int .i64 0), .val (.int .i64 0), .ro 1 [], .val (.int .i64 0), .val (.int .i64 0), .ro 9 []] (half_get hi') ?_
    refine Arith.fit (wrap_fit (by omega) (by omega)) ?_
    refine ⟨i + 1, hi', (by show l.length - (i + 1) < l.length - i; omega), ⟨⟨rfl, rfl⟩, trivial⟩, ⟨⟨rfl, rfl⟩, ⟨rfl, rfl⟩, trivial⟩, ⟨⟨rfl, rfl⟩, ⟨?_, rfl⟩, trivial⟩⟩
    exact congrArg (Blk.row 132 8) (half_set hi')
  · have h := of_decide_eq_false h
    rw [List.length_map] at h
    have : i = l.length := by omega
    subst this
    refine Done.mk ?_
    exact congrArg (fun r => SV.c (.ro 8 r)) half_full
theorem toPacketS_ok (l : List XPacket) (hl : budS budPacket l ≤ 1048576) : CallF Try.prog 69 [.c (.ro 8 (l.map encPacket))] (.c (.ro 8 (l.map encPacket))) := toPacketS_all l (by have := budS_len budPacket l; omega) fun x hx => toPacket_ok x (by have := budS_mem budPacket hx; omega)
theorem toArchive_ok (x : XArchive) (hl : budArchive x ≤ 1048576) : CallF Try.prog 21 [.a 4 (encArchive x)] (.a 4 (encArchive x)) := by
  simp only [budArchive] at hl
  refine callF_of_vc htb hm Try.func21 rfl rfl rfl (ann := fun _ => none) ?_
  have hk0 := toSig_ok x.sig (by simp only [budSig]; omega)
  refine CallN.pure _ _ rfl hk0 rfl ?_
  have hk1 := toServerS_ok x.servers (by omega)
  refine CallN.pure _ _ rfl hk1 rfl ?_
  have hk2 := toPacketS_ok x.flying (by omega)
  refine CallN.pure _ _ rfl hk2 rfl ?_
  exact Done.mk rfl
theorem toBoolS_ok (l : List Bool) (hl : l.length ≤ 1048576) : CallF Try.prog 10 [.c (.ro 1 (l.map eB))] (.c (.ro 1 (l.map eB))) := by
  refine callF_of_vc htb hm Try.func10 rfl rfl rfl (ann := fun n => match n with | 3 => some { α := Nat, keep := [0, 3], ov := fun i => [(4, I i)], hv := fun i => [(1, .row 4 1 (half eB [.val (.bool false)] l i))], φ := fun i => i ≤ l.length, μ := fun i => l.length - i } | _ => none) ?_
  refine Fact.mk fun _ => ?_
  refine Need.mk (by simp only [List.length_map]; omega) ?_
  refine LoopN.mk (0 : Nat) (Nat.zero_le _) ⟨⟨rfl, rfl⟩, trivial⟩ ⟨⟨rfl, rfl⟩, ⟨rfl, rfl⟩, trivial⟩ ⟨⟨rfl, rfl⟩, ⟨?_, rfl⟩, trivial⟩ ?_
  · exact congrArg (Blk.row 4 1) (half_zero (by rw [List.length_map]; rfl))
  intro (i : Nat) (hi : i ≤ l.length)
  refine Fact.mk fun _ => ?_
  refine Branch.mk (fun h => ?_) (fun h => ?_)
  · have h := of_decide_eq_true h
    rw [List.length_map] at h
    have hi' : i < l.length := by omega
    refine Need.mk (by omega) (Index.mk (eB l[i]) (by simp [hi']) ?_)
    refine Need.mk ⟨by omega, by rw [half_len hi]; simpa using hi'⟩ ?_
    refine Index.mk [.val (.bool false)] (half_get hi') ?_
    refine Arith.fit (wrap_fit (by omega) (by omega)) ?_
    refine ⟨i + 1, hi', (by show l.length - (i + 1) < l.length - i; omega), ⟨⟨rfl, rfl⟩, trivial⟩, ⟨⟨rfl, rfl⟩, ⟨rfl, rfl⟩, trivial⟩, ⟨⟨rfl, rfl⟩, ⟨?_, rfl⟩, trivial⟩⟩
    exact congrArg (Blk.row 4 1) (half_set hi')
  · have h := of_decide_eq_false h
    rw [List.length_map] at h
    have : i = l.length := by omega
    subst this
    refine Done.mk ?_
    exact congrArg (fun r => SV.c (.ro 1 r)) half_full
theorem toSpot_ok (x : XSpot) (hl : budSpot x ≤ 1048576) : CallF Try.prog 147 [.a 7 (encSpot x)] (.a 7 (encSpot x)) := by
  simp only [budSpot] at hl
  refine callF_of_vc htb hm Try.func147 rfl rfl rfl (ann := fun _ => none) ?_
  have hk0 := toExpr_ok' x.cond (by omega)
  refine CallN.pure _ _ rfl hk0 rfl ?_
  exact Done.mk rfl
theorem toSpotS_all (l : List XSpot) (hl : l.length ≤ 1048576) (hx : ∀ x ∈ l, CallF Try.prog 147 [.a 7 (encSpot x)] (.a 7 (encSpot x))) : CallF Try.prog 87 [.c (.ro 7 (l.map encSpot))] (.c (.ro 7 (l.map encSpot))) := by
  refine callF_of_vc htb hm Try.func87 rfl rfl rfl (ann := fun n => match n with | 3 => some { α := Nat, keep := [0, 3], ov := fun i => [(4, I i)], hv := fun i => [(1, .row 226 7 (half encSpot [.val (.int .i64 0), .val (.int .i64 0), .val (.int .i64 0), .val (.int .i64 0), .ro 3 [], .val (.int .i64 0), .val (.int .i64 0)] l i))], φ := fun i => i ≤ l.length, μ := fun i => l.length - i } | _ => none) ?_
  refine Fact.mk fun _ => ?_
  refine Need.mk (by simp only [List.length_map]; omega) ?_
  refine LoopN.mk (0 : Nat) (Nat.zero_le _) ⟨⟨rfl, rfl⟩, trivial⟩ ⟨⟨rfl, rfl⟩, ⟨rfl, rfl⟩, trivial⟩ ⟨⟨rfl, rfl⟩, ⟨?_, rfl⟩, trivial⟩ ?_
  · exact congrArg (Blk.row 226 7) (half_zero (by rw [List.length_map]; rfl))
  intro (i : Nat) (hi : i ≤ l.length)
  refine Fact.mk fun _ => ?_
  refine Branch.mk (fun h => ?_) (fun h => ?_)
  · have h := of_decide_eq_true h
    rw [List.length_map] at h
    have hi' : i < l.length := by omega
    refine Need.mk (by omega) (Index.mk (encSpot l[i]) (by simp [hi']) ?_)
    refine CallN.pure _ _ rfl (hx l[i] (List.getElem_mem hi')) rfl ?_
    refine Need.mk ⟨by omega, by rw [half_len hi]; simpa using hi'⟩ ?_
    refine Index.mk [.val (.int .i64 0), .val (.int .i64 0), .val (.int .i64 0), .val (.int .i64 0), .ro 3 [], .val (.int .i64 0), .val (.int .i64 0)] (half_get hi') ?_
    refine Arith.fit (wrap_fit (by omega) (by omega)) ?_
    refine ⟨i + 1, hi', (by show l.length - (i + 1) < l.length - i; omega), ⟨⟨rfl, rfl⟩, trivial⟩, ⟨⟨rfl, rfl⟩, ⟨rfl, rfl⟩, trivial⟩, ⟨⟨rfl, rfl⟩, ⟨?_, rfl⟩, trivial⟩⟩
    exact congrArg (Blk.row 226 7) (half_set hi')
  · have h := of_decide_eq_false h
    rw [List.length_map] at h
    have : i = l.length := by omega
    subst this
    refine Done.mk ?_
    exact congrArg (fun r => SV.c (.ro 7 r)) half_full
theorem toSpotS_ok (l : List XSpot) (hl : budS budSpot l ≤ 1048576) : CallF Try.prog 87 [.c (.ro 7 (l.map encSpot))] (.c (.ro 7 (l.map encSpot))) := toSpotS_all l (by have := budS_len budSpot l; omega) fun x hx => toSpot_ok x (by have := budS_mem budSpot hx; omega)
theorem toFlow_ok (x : XFlow) (hl : budFlow x ≤ 1048576) : CallF Try.prog 27 [.a 2 (encFlow x)] (.a 2 (encFlow x)) := by
  simp only [budFlow] at hl
  refine callF_of_vc htb hm Try.func27 rfl rfl rfl (ann := fun _ => none) ?_
  have hk0 := toSpotS_ok x.spots (by omega)
  refine CallN.pure _ _ rfl hk0 rfl ?_
  exact Done.mk rfl
theorem toInt64SS_all (l : List (List Int)) (hl : l.length ≤ 1048576) (hx : ∀ x ∈ l, CallF Try.prog 85 [.c (.ro 1 (x.map eI))] (.c (.ro 1 (x.map eI)))) : CallF Try.prog 86 [.c (.ro 1 (l.map (fun l => [.ro 1 (l.map eI)])))] (.c (.ro 1 (l.map (fun l => [.ro 1 (l.map eI)])))) := by
  refine callF_of_vc htb hm Try.func86 rfl rfl rfl (ann := fun n => match n with | 3 => some { α := Nat, keep := [0, 3], ov := fun i => [(4, I i)], hv := fun i => [(1, .row 48 1 (half (fun l => [.ro 1 (l.map eI)]) [.ro 1 []] l i))], φ := fun i => i ≤ l.length, μ := fun i => l.length - i } | _ => none) ?_
  refine Fact.mk fun _ => ?_
  refine Need.mk (by simp only [List.length_map]; omega) ?_
  refine LoopN.mk (0 : Nat) (Nat.zero_le _) ⟨⟨rfl, rfl⟩, trivial⟩ ⟨⟨rfl, rfl⟩, ⟨rfl, rfl⟩, trivial⟩ ⟨⟨rfl, rfl⟩, ⟨?_, rfl⟩, trivial⟩ ?_
  · exact congrArg (Blk.row 48 1) (half_zero (by rw [List.length_map]; rfl))
  intro (i : Nat) (hi : i ≤ l.length)
  refine Fact.mk fun _ => ?_
  refine Branch.mk (fun h => ?_) (fun h => ?_)
  · have h := of_decide_eq_true h
    rw [List.length_map] at h
    have hi' : i < l.length := by omega
    refine Need.mk (by omega) (Index.mk ((fun l => [.ro 1 (l.map eI)]) l[i]) (by simp [hi']) ?_)
    refine CallN.pure _ _ rfl (hx l[i] (List.getElem_mem hi')) rfl ?_
    refine Need.mk ⟨by omega, by rw [half_len hi]; simpa using hi'⟩ ?_
    refine Index.mk [.ro 1 []] (half_get hi') ?_
    refine Arith.fit (wrap_fit (by omega) (by omega)) ?_
    refine ⟨i + 1, hi', (by show l.length - (i + 1) < l.length - i; omega), ⟨⟨rfl, rfl⟩, trivial⟩, ⟨⟨rfl, rfl⟩, ⟨rfl, rfl⟩, trivial⟩, ⟨⟨rfl, rfl⟩, ⟨?_, rfl⟩, trivial⟩⟩
    exact congrArg (Blk.row 48 1) (half_set hi')
  · have h := of_decide_eq_false h
    rw [List.length_map] at h
    have : i = l.length := by omega
    subst this
    refine Done.mk ?_
    exact congrArg (fun r => SV.c (.ro 1 r)) half_full
theorem toInt64SS_ok (l : List (List Int)) (hl : budS List.length l ≤ 1048576) : CallF Try.prog 86 [.c (.ro 1 (l.map (fun l => [.ro 1 (l.map eI)])))] (.c (.ro 1 (l.map (fun l => [.ro 1 (l.map eI)])))) := toInt64SS_all l (by have := budS_len List.length l; omega) fun x hx => toInt64S_ok x (by have := budS_mem List.length hx; omega)
theorem toProgS_all (l : List XProg) (hl : l.length ≤ 1048576) (hx : ∀ x ∈ l, CallF Try.prog 38 [.a 6 (encProg x)] (.a 6 (encProg x))) : CallF Try.prog 106 [.c (.ro 6 (l.map encProg))] (.c (.ro 6 (l.map encProg))) := by
  refine callF_of_vc htb hm Try.func106 rfl rfl rfl (ann := fun n => match n with | 3 => some { α := Nat, keep := [0, 3], ov := fun i => [(4, I i)], hv := fun i => [(1, .row 87 6 (half encProg [.val (.int .i64 0), .val (.int .i64 0), .val (.int .i64 0), .val (.int .i64 0), .ro 3 [], .ro 6 []] l i))], φ := fun i => i ≤ l.length, μ := fun i => l.length - i } | _ => none) ?_
  refine Fact.mk fun _ => ?_
  refine Need.mk (by simp only [List.length_map]; omega) ?_
  refine LoopN.mk (0 : Nat) (Nat.zero_le _) ⟨⟨rfl, rfl⟩, trivial⟩ ⟨⟨rfl, rfl⟩, ⟨rfl, rfl⟩, trivial⟩ ⟨⟨rfl, rfl⟩, ⟨?_, rfl⟩, trivial⟩ ?_
  · exact congrArg (Blk.row 87 6) (half_zero (by rw [List.length_map]; rfl))
  intro (i : Nat) (hi : i ≤ l.length)
  refine Fact.mk fun _ => ?_
  refine Branch.mk (fun h => ?_) (fun h => ?_)
  · have h := of_decide_eq_true h
    rw [List.length_map] at h
    have hi' : i < l.length := by omega
    refine Need.mk (by omega) (Index.mk (encProg l[i]) (by simp [hi']) ?_)
    refine CallN.pure _ _ rfl (hx l[i] (List.getElem_mem hi')) rfl ?_
    refine Need.mk ⟨by omega, by rw [half_len hi]; simpa using hi'⟩ ?_
    refine Index.mk [.val (.int .i64 0), .val (.int .i64 0), .val (.int .i64 0), .val (.int .i64 0), .ro 3 [], .ro 6 []] (half_get hi') ?_
    refine Arith.fit (wrap_fit (by omega) (by omega)) ?_
    refine ⟨i + 1, hi', (by show l.length - (i + 1) < l.length - i; omega), ⟨⟨rfl, rfl⟩, trivial⟩, ⟨⟨rfl, rfl⟩, ⟨rfl, rfl⟩, trivial⟩, ⟨⟨rfl, rfl⟩, ⟨?_, rfl⟩, trivial⟩⟩
    exact congrArg (Blk.row 87 6) (half_set hi')
  · have h := of_decide_eq_false h
    rw [List.length_map] at h
    have : i = l.length := by omega
    subst this
    refine Done.mk ?_
    exact congrArg (fun r => SV.c (.ro 6 r)) half_full
theorem toProg_ok : ∀ (x : XProg), budProg x ≤ 1048576 → CallF Try.prog 38 [.a 6 (encProg x)] (.a 6 (encProg x))
  | .mk kind num cond kids, hl => by
    simp only [budProg, budProgS_eq] at hl
    refine callF_of_vc htb hm Try.func38 rfl rfl rfl (ann := fun _ => none) ?_
    have hk0 := toExpr_ok' cond (by omega)
    refine CallN.pure _ _ rfl hk0 rfl ?_
    have hk1 := toProgS_all kids (by have := budS_len budProg kids; omega) fun x hx => toProg_ok x (by have := budS_mem budProg hx; omega)
    rw [← encProgS_map] at hk1
    refine CallN.pure _ _ rfl hk1 rfl ?_
    exact Done.mk rfl
  termination_by x => SizeOf.sizeOf x
  decreasing_by
    have := List.sizeOf_lt_of_mem hx
    simp only [XProg.mk.sizeOf_spec]
    omega
theorem toProg_ok' (x : XProg) (hl : budProg x ≤ 1048576) : CallF Try.prog 38 [.a 6 [.val (.int .i64 x.kind), .val (.int .i64 x.num), .val (.int .i64 x.cond.kind), .val (.int .i64 x.cond.num), .ro 3 (x.cond.kids.map encExpr), .ro 6 (x.kids.map encProg)]] (.a 6 [.val (.int .i64 x.kind), .val (.int .i64 x.num), .val (.int .i64 x.cond.kind), .val (.int .i64 x.cond.num), .ro 3 (x.cond.kids.map encExpr), .ro 6 (x.kids.map encProg)]) := by
  have h := toProg_ok x hl
  rw [encProg_eq] at h
  exact h
theorem toProgS_ok (l : List XProg) (hl : budS budProg l ≤ 1048576) : CallF Try.prog 106 [.c (.ro 6 (l.map encProg))] (.c (.ro 6 (l.map encProg))) := toProgS_all l (by have := budS_len budProg l; omega) fun x hx => toProg_ok x (by have := budS_mem budProg hx; omega)
theorem toWorld_ok (x : XWorld) (hl : budWorld x ≤ 1048576) : CallF Try.prog 26 [.a 2 (encWorld x)] (.a 2 (encWorld x)) := by
  simp only [budWorld] at hl
  refine callF_of_vc htb hm Try.func26 rfl rfl rfl (ann := fun _ => none) ?_
  have hk0 := toInt64S_ok x.atoms (by omega)
  refine CallN.pure _ _ rfl hk0 rfl ?_
  have hk1 := toInt64SS_ok x.acts (by omega)
  refine CallN.pure _ _ rfl hk1 rfl ?_
  exact Done.mk rfl
end Go.Proofs.Ytceijpfmaofhpaa
