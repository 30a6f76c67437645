/- Contracts of the laws' own functions to... No conditions. -/
import Derived.Test.YtkkenofdfpgplaaGreatDoorTy
namespace Go.Proofs.YtkkenofdfpgplaaGreatDoor
open Go Go.KA Go.Proofs
set_option maxRecDepth 100000
set_option maxHeartbeats 16000000 in
theorem toSig_ok (x : XSig) (_hl : budSig x ≤ 1048576) : CallX Tryz.prog 15 [.a 2 (encSig x)] [] (.a 2 (encSig x)) := by
  refine callX_of_vc htb hm Tryz.func15 rfl rfl rfl rfl (ann := fun _ => none) (gh := fun _ => false) ?_
  conv => whnf
  exact RetX.mk rfl trivial
set_option maxHeartbeats 16000000 in
theorem toInt64S_ok (l : List Int) (hl : l.length ≤ 1048576) : CallX Tryz.prog 86 [.c (.ro 1 (l.map eI))] [] (.c (.ows 2 1 (l.map eI))) := by
  refine callX_of_vc htb hm Tryz.func86 rfl rfl rfl rfl (ann := fun n => match n with | 3 => some { α := Nat, keep := [0, 3], ov := fun i => [(4, I i)], hv := fun i => [(1, Blk.row none 2 1 (half eI [.val (.int .i64 0)] l i))], φ := fun i => i ≤ l.length, μ := fun i => l.length - i } | _ => none) (gh := fun _ => false) ?_
  refine Fact.mk fun _ => ?_
  refine Need.mk (by simp only [List.length_map]; omega) ?_
  refine LoopN.mk (0 : Nat) (Nat.zero_le _) ⟨⟨rfl, rfl⟩, trivial⟩ ⟨⟨rfl, rfl⟩, ⟨rfl, rfl⟩, trivial⟩ ⟨⟨?_, rfl⟩, ⟨rfl, rfl⟩, trivial⟩ ?_ (fun _ => rfl)
  · exact congrArg (Blk.row none 2 1) (half_zero (by rw [List.length_map]; rfl))
  intro (i : Nat) (hi : i ≤ l.length)
  refine Fact.mk fun _ => ?_
  refine Branch.mk (fun h => ?_) (fun h => ?_)
  · have h := of_decide_eq_true h
    rw [List.length_map] at h
    have hi' : i < l.length := by omega
    refine Need.mk (by omega) (Index.mk (eI l[i]) (by simp [hi']) ?_)
    refine Need.mk ⟨by omega, by rw [half_len hi]; simpa using hi'⟩ ?_
    refine Index.mk [.val (.int .i64 0)] (half_get hi') ?_
    refine Arith.fit (wrap_fit (by omega) (by omega)) ?_
    refine Gh.go ⟨i + 1, hi', (by show l.length - (i + 1) < l.length - i; omega), ⟨⟨rfl, rfl⟩, trivial⟩, ⟨⟨rfl, rfl⟩, ⟨rfl, rfl⟩, trivial⟩, ⟨⟨?_, rfl⟩, ⟨rfl, rfl⟩, trivial⟩⟩
    exact congrArg (Blk.row none 2 1) (half_set hi')
  · have h := of_decide_eq_false h
    rw [List.length_map] at h
    have : i = l.length := by omega
    subst this
    refine RetX.mk ?_ trivial
    exact congrArg (fun r => SV.c (.ows 2 1 r)) half_full
set_option maxHeartbeats 16000000 in
theorem toExprS_all (l : List XExpr) (hl : l.length ≤ 1048576) (hx : ∀ x ∈ l, CallX Tryz.prog 140 [.a 3 (encExpr x)] [] (.a 3 [.val (.int .i64 x.kind), .val (.int .i64 x.num), .own 58 3 (x.kids.map ownExpr)])) : CallX Tryz.prog 151 [.c (.ro 3 (l.map encExpr))] [] (.c (.own 58 3 (l.map ownExpr))) := by
  refine callX_of_vc htb hm Tryz.func151 rfl rfl rfl rfl (ann := fun n => match n with | 3 => some { α := Nat, keep := [0, 3], ov := fun i => [(4, I i)], hv := fun i => [(1, Blk.orow none 58 3 (half ownExpr [.val (.int .i64 0), .val (.int .i64 0), .ro 3 []] l i))], φ := fun i => i ≤ l.length, μ := fun i => l.length - i } | _ => none) (gh := fun _ => false) ?_
  refine Fact.mk fun _ => ?_
  refine Need.mk (by simp only [List.length_map]; omega) ?_
  refine LoopN.mk (0 : Nat) (Nat.zero_le _) ⟨⟨rfl, rfl⟩, trivial⟩ ⟨⟨rfl, rfl⟩, ⟨rfl, rfl⟩, trivial⟩ ⟨⟨⟨⟨rfl, rfl⟩, rfl, ?_⟩, rfl⟩, ⟨rfl, rfl⟩, trivial⟩ ?_ (fun _ => rfl)
  · exact half_zero (by rw [List.length_map]; rfl)
  intro (i : Nat) (hi : i ≤ l.length)
  refine Fact.mk fun _ => ?_
  refine Branch.mk (fun h => ?_) (fun h => ?_)
  · have h := of_decide_eq_true h
    rw [List.length_map] at h
    have hi' : i < l.length := by omega
    refine Need.mk (by omega) (Index.mk (encExpr l[i]) (by simp [hi']) ?_)
    refine CallN.pure _ _ rfl (hx l[i] (List.getElem_mem hi')) rfl _ rfl ?_
    refine Need.mk ⟨by omega, by rw [half_len hi]; simpa using hi'⟩ ?_
    refine Index.mk [.val (.int .i64 0), .val (.int .i64 0), .ro 3 []] (half_get hi') ?_
    refine Arith.fit (wrap_fit (by omega) (by omega)) ?_
    refine Gh.go ⟨i + 1, hi', (by show l.length - (i + 1) < l.length - i; omega), ⟨⟨rfl, rfl⟩, trivial⟩, ⟨⟨rfl, rfl⟩, ⟨rfl, rfl⟩, trivial⟩, ⟨⟨?_, rfl⟩, ⟨rfl, rfl⟩, trivial⟩⟩
    exact congrArg (Blk.orow none 58 3) ((congrArg (List.set _ i) (ownExpr_eq l[i]).symm).trans (half_set hi'))
  · have h := of_decide_eq_false h
    rw [List.length_map] at h
    have : i = l.length := by omega
    subst this
    refine RetX.mk ?_ trivial
    exact congrArg (fun r => SV.c (.own 58 3 r)) half_full
set_option maxHeartbeats 16000000 in
theorem toExpr_ok : ∀ (x : XExpr), budExpr x ≤ 1048576 → CallX Tryz.prog 140 [.a 3 (encExpr x)] [] (.a 3 [.val (.int .i64 x.kind), .val (.int .i64 x.num), .own 58 3 (x.kids.map ownExpr)])
  | .mk kind num kids, hl => by
    simp only [budExpr, budExprS_eq] at hl
    refine callX_of_vc htb hm Tryz.func140 rfl rfl rfl rfl (ann := fun _ => none) (gh := fun _ => false) ?_
    have hk0 := toExprS_all kids (by have := budS_len budExpr kids; omega) fun x hx => toExpr_ok x (by have := budS_mem budExpr hx; omega)
    rw [← encExprS_map] at hk0
    refine CallN.pure _ _ rfl hk0 rfl _ rfl ?_
    exact RetX.mk rfl trivial
  termination_by x => SizeOf.sizeOf x
  decreasing_by
    have := List.sizeOf_lt_of_mem hx
    simp only [XExpr.mk.sizeOf_spec]
    omega
theorem toExpr_ok' (x : XExpr) (hl : budExpr x ≤ 1048576) : CallX Tryz.prog 140 [.a 3 [.val (.int .i64 x.kind), .val (.int .i64 x.num), .ro 3 (x.kids.map encExpr)]] [] (.a 3 [.val (.int .i64 x.kind), .val (.int .i64 x.num), .own 58 3 (x.kids.map ownExpr)]) := by
  have h := toExpr_ok x hl
  rw [encExpr_eq] at h
  exact h
set_option maxHeartbeats 16000000 in
theorem toExprS_ok (l : List XExpr) (hl : budS budExpr l ≤ 1048576) : CallX Tryz.prog 151 [.c (.ro 3 (l.map encExpr))] [] (.c (.own 58 3 (l.map ownExpr))) := toExprS_all l (by have := budS_len budExpr l; omega) fun x hx => toExpr_ok x (by have := budS_mem budExpr hx; omega)
set_option maxHeartbeats 16000000 in
theorem toProofStep_ok (x : XProofStep) (hl : budProofStep x ≤ 1048576) : CallX Tryz.prog 152 [.a 5 (encProofStep x)] [] (.a 5 (ownProofStep x)) := by
  simp only [budProofStep] at hl
  refine callX_of_vc htb hm Tryz.func152 rfl rfl rfl rfl (ann := fun _ => none) (gh := fun _ => false) ?_
  have hk0 := toInt64S_ok x.path (by omega)
  conv => whnf
  refine CallN.pure _ _ rfl hk0 rfl _ rfl ?_
  have hk1 := toExprS_ok x.tests (by omega)
  conv => whnf
  refine CallN.pure _ _ rfl hk1 rfl _ rfl ?_
  have hk2 := toExprS_ok x.acts (by omega)
  conv => whnf
  refine CallN.pure _ _ rfl hk2 rfl _ rfl ?_
  conv => whnf
  exact RetX.mk rfl trivial
set_option maxHeartbeats 16000000 in
theorem toProofStepS_all (l : List XProofStep) (hl : l.length ≤ 1048576) (hx : ∀ x ∈ l, CallX Tryz.prog 152 [.a 5 (encProofStep x)] [] (.a 5 (ownProofStep x))) : CallX Tryz.prog 141 [.c (.ro 5 (l.map encProofStep))] [] (.c (.own 183 5 (l.map ownProofStep))) := by
  refine callX_of_vc htb hm Tryz.func141 rfl rfl rfl rfl (ann := fun n => match n with | 3 => some { α := Nat, keep := [0, 3], ov := fun i => [(4, I i)], hv := fun i => [(1, Blk.orow none 183 5 (half ownProofStep [.val (.int .i64 0), .val (.bool false), .ro 1 [], .ro 3 [], .ro 3 []] l i))], φ := fun i => i ≤ l.length, μ := fun i => l.length - i } | _ => none) (gh := fun _ => false) ?_
  refine Fact.mk fun _ => ?_
  refine Need.mk (by simp only [List.length_map]; omega) ?_
  refine LoopN.mk (0 : Nat) (Nat.zero_le _) ⟨⟨rfl, rfl⟩, trivial⟩ ⟨⟨rfl, rfl⟩, ⟨rfl, rfl⟩, trivial⟩ ⟨⟨⟨⟨rfl, rfl⟩, rfl, ?_⟩, rfl⟩, ⟨rfl, rfl⟩, trivial⟩ ?_ (fun _ => rfl)
  · exact half_zero (by rw [List.length_map]; rfl)
  intro (i : Nat) (hi : i ≤ l.length)
  refine Fact.mk fun _ => ?_
  refine Branch.mk (fun h => ?_) (fun h => ?_)
  · have h := of_decide_eq_true h
    rw [List.length_map] at h
    have hi' : i < l.length := by omega
    refine Need.mk (by omega) (Index.mk (encProofStep l[i]) (by simp [hi']) ?_)
    refine CallN.pure _ _ rfl (hx l[i] (List.getElem_mem hi')) rfl _ rfl ?_
    refine Need.mk ⟨by omega, by rw [half_len hi]; simpa using hi'⟩ ?_
    refine Index.mk [.val (.int .i64 0), .val (.bool false), .ro 1 [], .ro 3 [], .ro 3 []] (half_get hi') ?_
    refine Arith.fit (wrap_fit (by omega) (by omega)) ?_
    refine Gh.go ⟨i + 1, hi', (by show l.length - (i + 1) < l.length - i; omega), ⟨⟨rfl, rfl⟩, trivial⟩, ⟨⟨rfl, rfl⟩, ⟨rfl, rfl⟩, trivial⟩, ⟨⟨?_, rfl⟩, ⟨rfl, rfl⟩, trivial⟩⟩
    exact congrArg (Blk.orow none 183 5) (half_set hi')
  · have h := of_decide_eq_false h
    rw [List.length_map] at h
    have : i = l.length := by omega
    subst this
    refine RetX.mk ?_ trivial
    exact congrArg (fun r => SV.c (.own 183 5 r)) half_full
set_option maxHeartbeats 16000000 in
theorem toProofStepS_ok (l : List XProofStep) (hl : budS budProofStep l ≤ 1048576) : CallX Tryz.prog 141 [.c (.ro 5 (l.map encProofStep))] [] (.c (.own 183 5 (l.map ownProofStep))) := toProofStepS_all l (by have := budS_len budProofStep l; omega) fun x hx => toProofStep_ok x (by have := budS_mem budProofStep hx; omega)
set_option maxHeartbeats 16000000 in
theorem toClaim_ok (x : XClaim) (hl : budClaim x ≤ 1048576) : CallX Tryz.prog 125 [.a 9 (encClaim x)] [] (.a 9 (ownClaim x)) := by
  simp only [budClaim] at hl
  refine callX_of_vc htb hm Tryz.func125 rfl rfl rfl rfl (ann := fun _ => none) (gh := fun _ => false) ?_
  have hk0 := toExpr_ok' x.left (by omega)
  conv => whnf
  refine CallN.pure _ _ rfl hk0 rfl _ rfl ?_
  have hk1 := toExpr_ok' x.right (by omega)
  conv => whnf
  refine CallN.pure _ _ rfl hk1 rfl _ rfl ?_
  have hk2 := toProofStepS_ok x.steps (by omega)
  conv => whnf
  refine CallN.pure _ _ rfl hk2 rfl _ rfl ?_
  conv => whnf
  exact RetX.mk rfl trivial
set_option maxHeartbeats 16000000 in
theorem toClaimS_all (l : List XClaim) (hl : l.length ≤ 1048576) (hx : ∀ x ∈ l, CallX Tryz.prog 125 [.a 9 (encClaim x)] [] (.a 9 (ownClaim x))) : CallX Tryz.prog 109 [.c (.ro 9 (l.map encClaim))] [] (.c (.own 104 9 (l.map ownClaim))) := by
  refine callX_of_vc htb hm Tryz.func109 rfl rfl rfl rfl (ann := fun n => match n with | 3 => some { α := Nat, keep := [0, 3], ov := fun i => [(4, I i)], hv := fun i => [(1, Blk.orow none 104 9 (half ownClaim [.val (.int .i64 0), .val (.int .i64 0), .ro 3 [], .val (.int .i64 0), .val (.int .i64 0), .ro 3 [], .val (.int .i64 0), .val (.int .i64 0), .ro 5 []] l i))], φ := fun i => i ≤ l.length, μ := fun i => l.length - i } | _ => none) (gh := fun _ => false) ?_
  refine Fact.mk fun _ => ?_
  refine Need.mk (by simp only [List.length_map]; omega) ?_
  refine LoopN.mk (0 : Nat) (Nat.zero_le _) ⟨⟨rfl, rfl⟩, trivial⟩ ⟨⟨rfl, rfl⟩, ⟨rfl, rfl⟩, trivial⟩ ⟨⟨⟨⟨rfl, rfl⟩, rfl, ?_⟩, rfl⟩, ⟨rfl, rfl⟩, trivial⟩ ?_ (fun _ => rfl)
  · exact half_zero (by rw [List.length_map]; rfl)
  intro (i : Nat) (hi : i ≤ l.length)
  refine Fact.mk fun _ => ?_
  refine Branch.mk (fun h => ?_) (fun h => ?_)
  · have h := of_decide_eq_true h
    rw [List.length_map] at h
    have hi' : i < l.length := by omega
    refine Need.mk (by omega) (Index.mk (encClaim l[i]) (by simp [hi']) ?_)
    refine CallN.pure _ _ rfl (hx l[i] (List.getElem_mem hi')) rfl _ rfl ?_
    refine Need.mk ⟨by omega, by rw [half_len hi]; simpa using hi'⟩ ?_
    refine Index.mk [.val (.int .i64 0), .val (.int .i64 0), .ro 3 [], .val (.int .i64 0), .val (.int .i64 0), .ro 3 [], .val (.int .i64 0), .val (.int .i64 0), .ro 5 []] (half_get hi') ?_
    refine Arith.fit (wrap_fit (by omega) (by omega)) ?_
    refine Gh.go ⟨i + 1, hi', (by show l.length - (i + 1) < l.length - i; omega), ⟨⟨rfl, rfl⟩, trivial⟩, ⟨⟨rfl, rfl⟩, ⟨rfl, rfl⟩, trivial⟩, ⟨⟨?_, rfl⟩, ⟨rfl, rfl⟩, trivial⟩⟩
    exact congrArg (Blk.orow none 104 9) (half_set hi')
  · have h := of_decide_eq_false h
    rw [List.length_map] at h
    have : i = l.length := by omega
    subst this
    refine RetX.mk ?_ trivial
    exact congrArg (fun r => SV.c (.own 104 9 r)) half_full
set_option maxHeartbeats 16000000 in
theorem toClaimS_ok (l : List XClaim) (hl : budS budClaim l ≤ 1048576) : CallX Tryz.prog 109 [.c (.ro 9 (l.map encClaim))] [] (.c (.own 104 9 (l.map ownClaim))) := toClaimS_all l (by have := budS_len budClaim l; omega) fun x hx => toClaim_ok x (by have := budS_mem budClaim hx; omega)
set_option maxHeartbeats 16000000 in
theorem toProof_ok (x : XProof) (hl : budProof x ≤ 1048576) : CallX Tryz.prog 87 [.a 3 (encProof x)] [] (.a 3 (ownProof x)) := by
  simp only [budProof] at hl
  refine callX_of_vc htb hm Tryz.func87 rfl rfl rfl rfl (ann := fun _ => none) (gh := fun _ => false) ?_
  have hk0 := toSig_ok x.sig (by simp only [budSig]; omega)
  conv => whnf
  refine CallN.pure _ _ rfl hk0 rfl _ rfl ?_
  have hk1 := toClaimS_ok x.claims (by omega)
  conv => whnf
  refine CallN.pure _ _ rfl hk1 rfl _ rfl ?_
  conv => whnf
  exact RetX.mk rfl trivial
set_option maxHeartbeats 16000000 in
theorem toEntry_ok (x : XEntry) (hl : budEntry x ≤ 1048576) : CallX Tryz.prog 68 [.a 5 (encEntry x)] [] (.a 5 (ownEntry x)) := by
  simp only [budEntry] at hl
  refine callX_of_vc htb hm Tryz.func68 rfl rfl rfl rfl (ann := fun _ => none) (gh := fun _ => false) ?_
  have hk0 := toInt64S_ok x.rests (by omega)
  conv => whnf
  refine CallN.pure _ _ rfl hk0 rfl _ rfl ?_
  have hk1 := toProof_ok x.proof (by omega)
  conv => whnf
  refine CallN.pure _ _ rfl hk1 rfl _ rfl ?_
  conv => whnf
  exact RetX.mk rfl trivial
set_option maxHeartbeats 16000000 in
theorem toNote_ok (x : XNote) (hl : budNote x ≤ 1048576) : CallX Tryz.prog 51 [.a 7 (encNote x)] [] (.a 7 (ownNote x)) := by
  simp only [budNote] at hl
  refine callX_of_vc htb hm Tryz.func51 rfl rfl rfl rfl (ann := fun _ => none) (gh := fun _ => false) ?_
  have hk0 := toEntry_ok x.entry (by omega)
  conv => whnf
  refine CallN.pure _ _ rfl hk0 rfl _ rfl ?_
  conv => whnf
  exact RetX.mk rfl trivial
set_option maxHeartbeats 16000000 in
theorem toNoteS_all (l : List XNote) (hl : l.length ≤ 1048576) (hx : ∀ x ∈ l, CallX Tryz.prog 51 [.a 7 (encNote x)] [] (.a 7 (ownNote x))) : CallX Tryz.prog 50 [.c (.ro 7 (l.map encNote))] [] (.c (.own 54 7 (l.map ownNote))) := by
  refine callX_of_vc htb hm Tryz.func50 rfl rfl rfl rfl (ann := fun n => match n with | 3 => some { α := Nat, keep := [0, 3], ov := fun i => [(4, I i)], hv := fun i => [(1, Blk.orow none 54 7 (half ownNote [.val (.bool false), .val (.int .i64 0), .val (.int .i64 0), .ro 1 [], .val (.int .i64 0), .val (.int .i64 0), .ro 9 []] l i))], φ := fun i => i ≤ l.length, μ := fun i => l.length - i } | _ => none) (gh := fun _ => false) ?_
  refine Fact.mk fun _ => ?_
  refine Need.mk (by simp only [List.length_map]; omega) ?_
  refine LoopN.mk (0 : Nat) (Nat.zero_le _) ⟨⟨rfl, rfl⟩, trivial⟩ ⟨⟨rfl, rfl⟩, ⟨rfl, rfl⟩, trivial⟩ ⟨⟨⟨⟨rfl, rfl⟩, rfl, ?_⟩, rfl⟩, ⟨rfl, rfl⟩, trivial⟩ ?_ (fun _ => rfl)
  · exact half_zero (by rw [List.length_map]; rfl)
  intro (i : Nat) (hi : i ≤ l.length)
  refine Fact.mk fun _ => ?_
  refine Branch.mk (fun h => ?_) (fun h => ?_)
  · have h := of_decide_eq_true h
    rw [List.length_map] at h
    have hi' : i < l.length := by omega
    refine Need.mk (by omega) (Index.mk (encNote l[i]) (by simp [hi']) ?_)
    refine CallN.pure _ _ rfl (hx l[i] (List.getElem_mem hi')) rfl _ rfl ?_
    refine Need.mk ⟨by omega, by rw [half_len hi]; simpa using hi'⟩ ?_
    refine Index.mk [.val (.bool false), .val (.int .i64 0), .val (.int .i64 0), .ro 1 [], .val (.int .i64 0), .val (.int .i64 0), .ro 9 []] (half_get hi') ?_
    refine Arith.fit (wrap_fit (by omega) (by omega)) ?_
    refine Gh.go ⟨i + 1, hi', (by show l.length - (i + 1) < l.length - i; omega), ⟨⟨rfl, rfl⟩, trivial⟩, ⟨⟨rfl, rfl⟩, ⟨rfl, rfl⟩, trivial⟩, ⟨⟨?_, rfl⟩, ⟨rfl, rfl⟩, trivial⟩⟩
    exact congrArg (Blk.orow none 54 7) (half_set hi')
  · have h := of_decide_eq_false h
    rw [List.length_map] at h
    have : i = l.length := by omega
    subst this
    refine RetX.mk ?_ trivial
    exact congrArg (fun r => SV.c (.own 54 7 r)) half_full
set_option maxHeartbeats 16000000 in
theorem toNoteS_ok (l : List XNote) (hl : budS budNote l ≤ 1048576) : CallX Tryz.prog 50 [.c (.ro 7 (l.map encNote))] [] (.c (.own 54 7 (l.map ownNote))) := toNoteS_all l (by have := budS_len budNote l; omega) fun x hx => toNote_ok x (by have := budS_mem budNote hx; omega)
set_option maxHeartbeats 16000000 in
theorem toServer_ok (x : XServer) (hl : budServer x ≤ 1048576) : CallX Tryz.prog 34 [.a 3 (encServer x)] [] (.a 3 (ownServer x)) := by
  simp only [budServer] at hl
  refine callX_of_vc htb hm Tryz.func34 rfl rfl rfl rfl (ann := fun _ => none) (gh := fun _ => false) ?_
  have hk0 := toNoteS_ok x.notes (by omega)
  conv => whnf
  refine CallN.pure _ _ rfl hk0 rfl _ rfl ?_
  conv => whnf
  exact RetX.mk rfl trivial
set_option maxHeartbeats 16000000 in
theorem toServerS_all (l : List XServer) (hl : l.length ≤ 1048576) (hx : ∀ x ∈ l, CallX Tryz.prog 34 [.a 3 (encServer x)] [] (.a 3 (ownServer x))) : CallX Tryz.prog 16 [.c (.ro 3 (l.map encServer))] [] (.c (.own 45 3 (l.map ownServer))) := by
  refine callX_of_vc htb hm Tryz.func16 rfl rfl rfl rfl (ann := fun n => match n with | 3 => some { α := Nat, keep := [0, 3], ov := fun i => [(4, I i)], hv := fun i => [(1, Blk.orow none 45 3 (half ownServer [.val (.bool false), .ro 7 [], .val (.int .i64 0)] l i))], φ := fun i => i ≤ l.length, μ := fun i => l.length - i } | _ => none) (gh := fun _ => false) ?_
  refine Fact.mk fun _ => ?_
  refine Need.mk (by simp only [List.length_map]; omega) ?_
  refine LoopN.mk (0 : Nat) (Nat.zero_le _) ⟨⟨rfl, rfl⟩, trivial⟩ ⟨⟨rfl, rfl⟩, ⟨rfl, rfl⟩, trivial⟩ ⟨⟨⟨⟨rfl, rfl⟩, rfl, ?_⟩, rfl⟩, ⟨rfl, rfl⟩, trivial⟩ ?_ (fun _ => rfl)
  · exact half_zero (by rw [List.length_map]; rfl)
  intro (i : Nat) (hi : i ≤ l.length)
  refine Fact.mk fun _ => ?_
  refine Branch.mk (fun h => ?_) (fun h => ?_)
  · have h := of_decide_eq_true h
    rw [List.length_map] at h
    have hi' : i < l.length := by omega
    refine Need.mk (by omega) (Index.mk (encServer l[i]) (by simp [hi']) ?_)
    refine CallN.pure _ _ rfl (hx l[i] (List.getElem_mem hi')) rfl _ rfl ?_
    refine Need.mk ⟨by omega, by rw [half_len hi]; simpa using hi'⟩ ?_
    refine Index.mk [.val (.bool false), .ro 7 [], .val (.int .i64 0)] (half_get hi') ?_
    refine Arith.fit (wrap_fit (by omega) (by omega)) ?_
    refine Gh.go ⟨i + 1, hi', (by show l.length - (i + 1) < l.length - i; omega), ⟨⟨rfl, rfl⟩, trivial⟩, ⟨⟨rfl, rfl⟩, ⟨rfl, rfl⟩, trivial⟩, ⟨⟨?_, rfl⟩, ⟨rfl, rfl⟩, trivial⟩⟩
    exact congrArg (Blk.orow none 45 3) (half_set hi')
  · have h := of_decide_eq_false h
    rw [List.length_map] at h
    have : i = l.length := by omega
    subst this
    refine RetX.mk ?_ trivial
    exact congrArg (fun r => SV.c (.own 45 3 r)) half_full
set_option maxHeartbeats 16000000 in
theorem toServerS_ok (l : List XServer) (hl : budS budServer l ≤ 1048576) : CallX Tryz.prog 16 [.c (.ro 3 (l.map encServer))] [] (.c (.own 45 3 (l.map ownServer))) := toServerS_all l (by have := budS_len budServer l; omega) fun x hx => toServer_ok x (by have := budS_mem budServer hx; omega)
set_option maxHeartbeats 16000000 in
theorem toPacket_ok (x : XPacket) (hl : budPacket x ≤ 1048576) : CallX Tryz.prog 35 [.a 8 (encPacket x)] [] (.a 8 (ownPacket x)) := by
  simp only [budPacket] at hl
  refine callX_of_vc htb hm Tryz.func35 rfl rfl rfl rfl (ann := fun _ => none) (gh := fun _ => false) ?_
  have hk0 := toNote_ok x.note (by omega)
  conv => whnf
  refine CallN.pure _ _ rfl hk0 rfl _ rfl ?_
  conv => whnf
  exact RetX.mk rfl trivial
set_option maxHeartbeats 16000000 in
theorem toPacketS_all (l : List XPacket) (hl : l.length ≤ 1048576) (hx : ∀ x ∈ l, CallX Tryz.prog 35 [.a 8 (encPacket x)] [] (.a 8 (ownPacket x))) : CallX Tryz.prog 17 [.c (.ro 8 (l.map encPacket))] [] (.c (.own 109 8 (l.map ownPacket))) := by
  refine callX_of_vc htb hm Tryz.func17 rfl rfl rfl rfl (ann := fun n => match n with | 3 => some { α := Nat, keep := [0, 3], ov := fun i => [(4, I i)], hv := fun i => [(1, Blk.orow none 109 8 (half ownPacket [.val (.int .i64 0), .val (.bool false), .val (.int .i64 0), .val (.int .i64 0), .ro 1 [], .val (.int .i64 0), .val (.int .i64 0), .ro 9 []] l i))], φ := fun i => i ≤ l.length, μ := fun i => l.length - i } | _ => none) (gh := fun _ => false) ?_
  refine Fact.mk fun _ => ?_
  refine Need.mk (by simp only [List.length_map]; omega) ?_
  refine LoopN.mk (0 : Nat) (Nat.zero_le _) ⟨⟨rfl, rfl⟩, trivial⟩ ⟨⟨rfl, rfl⟩, ⟨rfl, rfl⟩, trivial⟩ ⟨⟨⟨⟨rfl, rfl⟩, rfl, ?_⟩, rfl⟩, ⟨rfl, rfl⟩, trivial⟩ ?_ (fun _ => rfl)
  · exact half_zero (by rw [List.length_map]; rfl)
  intro (i : Nat) (hi : i ≤ l.length)
  refine Fact.mk fun _ => ?_
  refine Branch.mk (fun h => ?_) (fun h => ?_)
  · have h := of_decide_eq_true h
    rw [List.length_map] at h
    have hi' : i < l.length := by omega
    refine Need.mk (by omega) (Index.mk (encPacket l[i]) (by simp [hi']) ?_)
    refine CallN.pure _ _ rfl (hx l[i] (List.getElem_mem hi')) rfl _ rfl ?_
    refine Need.mk ⟨by omega, by rw [half_len hi]; simpa using hi'⟩ ?_
    refine Index.mk [.val (.int .i64 0), .val (.bool false), .val (.int .i64 0), .val (.int .i64 0), .ro 1 [], .val (.int .i64 0), .val (.int .i64 0), .ro 9 []] (half_get hi') ?_
    refine Arith.fit (wrap_fit (by omega) (by omega)) ?_
    refine Gh.go ⟨i + 1, hi', (by show l.length - (i + 1) < l.length - i; omega), ⟨⟨rfl, rfl⟩, trivial⟩, ⟨⟨rfl, rfl⟩, ⟨rfl, rfl⟩, trivial⟩, ⟨⟨?_, rfl⟩, ⟨rfl, rfl⟩, trivial⟩⟩
    exact congrArg (Blk.orow none 109 8) (half_set hi')
  · have h := of_decide_eq_false h
    rw [List.length_map] at h
    have : i = l.length := by omega
    subst this
    refine RetX.mk ?_ trivial
    exact congrArg (fun r => SV.c (.own 109 8 r)) half_full
set_option maxHeartbeats 16000000 in
theorem toPacketS_ok (l : List XPacket) (hl : budS budPacket l ≤ 1048576) : CallX Tryz.prog 17 [.c (.ro 8 (l.map encPacket))] [] (.c (.own 109 8 (l.map ownPacket))) := toPacketS_all l (by have := budS_len budPacket l; omega) fun x hx => toPacket_ok x (by have := budS_mem budPacket hx; omega)
set_option maxHeartbeats 16000000 in
theorem toArchive_ok (x : XArchive) (hl : budArchive x ≤ 1048576) : CallX Tryz.prog 6 [.a 4 (encArchive x)] [] (.a 4 (ownArchive x)) := by
  simp only [budArchive] at hl
  refine callX_of_vc htb hm Tryz.func6 rfl rfl rfl rfl (ann := fun _ => none) (gh := fun _ => false) ?_
  have hk0 := toSig_ok x.sig (by simp only [budSig]; omega)
  conv => whnf
  refine CallN.pure _ _ rfl hk0 rfl _ rfl ?_
  have hk1 := toServerS_ok x.servers (by omega)
  conv => whnf
  refine CallN.pure _ _ rfl hk1 rfl _ rfl ?_
  have hk2 := toPacketS_ok x.flying (by omega)
  conv => whnf
  refine CallN.pure _ _ rfl hk2 rfl _ rfl ?_
  conv => whnf
  exact RetX.mk rfl trivial
end Go.Proofs.YtkkenofdfpgplaaGreatDoor
