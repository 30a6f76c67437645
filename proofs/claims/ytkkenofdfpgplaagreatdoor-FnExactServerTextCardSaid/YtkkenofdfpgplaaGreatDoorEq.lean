/- Contracts of the laws' own functions eq... No conditions. -/
import Derived.Test.YtkkenofdfpgplaaGreatDoorTy
namespace Go.Proofs.YtkkenofdfpgplaaGreatDoor
open Go Go.KA Go.Proofs
set_option maxRecDepth 100000
theorem eqSig_ok (x y : XSig) : CallF Tryz.prog 24 [.a 2 (encSig x), .a 2 (encSig y)] (B (eqv x y)) := by
  refine callF_of_vc htb hm Tryz.func24 rfl rfl rfl rfl (ann := fun _ => none) (gh := fun _ => false) ?_
  refine Branch.mk (fun h => ?_) (fun h => ?_)
  · refine Done.mk ?_
    refine congrArg B (eqv_ne fun e => ?_).symm
    subst e
    simp at h
  have e0 : x.tests = y.tests := by simpa using h
  refine Branch.mk (fun h => ?_) (fun h => ?_)
  · refine Done.mk ?_
    refine congrArg B (eqv_ne fun e => ?_).symm
    subst e
    simp at h
  have e1 : x.actions = y.actions := by simpa using h
  refine Done.mk ?_
  refine congrArg B (eqv_of ?_).symm
  cases x; cases y; simp_all
theorem eqInt64S_ok (l m : List Int) : CallF Tryz.prog 102 [.c (.ro 1 (l.map eI)), .c (.ro 1 (m.map eI))] (B (eqv l m)) := by
  refine callF_of_vc htb hm Tryz.func102 rfl rfl rfl rfl (ann := fun n => match n with | 4 => some { α := Nat, keep := [0, 1], ov := fun i => [(5, I i)], φ := fun i => i ≤ l.length ∧ l.length = m.length ∧ l.take i = m.take i, μ := fun i => l.length - i } | _ => none) (gh := fun _ => false) ?_
  refine Fact.mk fun hl => Fact.mk fun hl' => ?_
  rw [List.length_map] at hl hl'
  refine Branch.mk (fun h => ?_) (fun h => ?_)
  · refine Done.mk ?_
    rw [List.length_map, List.length_map] at h
    refine congrArg B (eqv_ne fun e => ?_).symm
    subst e
    simp at h
  have hlm : l.length = m.length := by
    rw [List.length_map, List.length_map] at h
    simp only [bne_eq_false_iff_eq] at h
    omega
  refine LoopN.mk (0 : Nat) ⟨Nat.zero_le _, hlm, rfl⟩ ⟨⟨rfl, rfl⟩, trivial⟩ ⟨⟨rfl, rfl⟩, ⟨rfl, rfl⟩, trivial⟩ trivial ?_ (fun _ => rfl)
  intro (i : Nat) (hi : i ≤ l.length ∧ l.length = m.length ∧ l.take i = m.take i)
  refine Fact.mk fun _ => ?_
  refine Branch.mk (fun h => ?_) (fun h => ?_)
  · have h := of_decide_eq_true h
    rw [List.length_map] at h
    have h1 : i < l.length := by omega
    have h2 : i < m.length := by omega
    refine Need.mk (by kernel_rfl) ?_
    refine Need.mk (by omega) (Index.mk (eI l[i]) (by simp [h1]) ?_)
    refine Need.mk (by omega) (Index.mk (eI m[i]) (by simp [h2]) ?_)
    refine Need.mk (by kernel_rfl) ?_
    refine Branch.mk (fun hb => ?_) (fun hb => ?_)
    · refine Done.mk ?_
      refine congrArg B (eqv_ne fun e => ?_).symm
      subst e
      simp at hb
    · refine Arith.fit (wrap_fit (by omega) (by simp only [maxLen] at hl; omega)) ?_
      refine Gh.go ⟨i + 1, ⟨h1, hi.2.1, ?_⟩, (by show l.length - (i + 1) < l.length - i; omega), ⟨⟨rfl, rfl⟩, trivial⟩, ⟨⟨rfl, rfl⟩, ⟨rfl, rfl⟩, trivial⟩, trivial⟩
      have : l[i] = m[i] := by simpa using hb
      rw [List.take_add_one, List.take_add_one, hi.2.2, List.getElem?_eq_getElem h1, List.getElem?_eq_getElem h2, this]
  · have h := of_decide_eq_false h
    rw [List.length_map] at h
    have : i = l.length := by omega
    refine Done.mk ?_
    refine congrArg B (eqv_of ?_).symm
    have := hi.2.2
    rwa [List.take_of_length_le (by omega), List.take_of_length_le (by omega)] at this
theorem eqExprS_all (l m : List XExpr) (hx : ∀ x ∈ l, ∀ y, CallF Tryz.prog 144 [.a 3 (encExpr x), .a 3 (encExpr y)] (B (eqv x y))) : CallF Tryz.prog 154 [.c (.ro 3 (l.map encExpr)), .c (.ro 3 (m.map encExpr))] (B (eqv l m)) := by
  refine callF_of_vc htb hm Tryz.func154 rfl rfl rfl rfl (ann := fun n => match n with | 4 => some { α := Nat, keep := [0, 1], ov := fun i => [(5, I i)], φ := fun i => i ≤ l.length ∧ l.length = m.length ∧ l.take i = m.take i, μ := fun i => l.length - i } | _ => none) (gh := fun _ => false) ?_
  refine Fact.mk fun hl => Fact.mk fun hl' => ?_
  rw [List.length_map] at hl hl'
  refine Branch.mk (fun h => ?_) (fun h => ?_)
  · refine Done.mk ?_
    rw [List.length_map, List.length_map] at h
    refine congrArg B (eqv_ne fun e => ?_).symm
    subst e
    simp at h
  have hlm : l.length = m.length := by
    rw [List.length_map, List.length_map] at h
    simp only [bne_eq_false_iff_eq] at h
    omega
  refine LoopN.mk (0 : Nat) ⟨Nat.zero_le _, hlm, rfl⟩ ⟨⟨rfl, rfl⟩, trivial⟩ ⟨⟨rfl, rfl⟩, ⟨rfl, rfl⟩, trivial⟩ trivial ?_ (fun _ => rfl)
  intro (i : Nat) (hi : i ≤ l.length ∧ l.length = m.length ∧ l.take i = m.take i)
  refine Fact.mk fun _ => ?_
  refine Branch.mk (fun h => ?_) (fun h => ?_)
  · have h := of_decide_eq_true h
    rw [List.length_map] at h
    have h1 : i < l.length := by omega
    have h2 : i < m.length := by omega
    refine Need.mk (by kernel_rfl) ?_
    refine Need.mk (by omega) (Index.mk (encExpr l[i]) (by simp [h1]) ?_)
    refine Need.mk (by omega) (Index.mk (encExpr m[i]) (by simp [h2]) ?_)
    refine CallN.pure _ _ rfl (hx l[i] (List.getElem_mem h1) m[i]) rfl _ rfl ?_
    refine Need.mk (by kernel_rfl) ?_
    refine Branch.mk (fun hb => ?_) (fun hb => ?_)
    · refine Done.mk ?_
      refine congrArg B (eqv_ne fun e => ?_).symm
      subst e
      simp at hb
    · refine Arith.fit (wrap_fit (by omega) (by simp only [maxLen] at hl; omega)) ?_
      refine Gh.go ⟨i + 1, ⟨h1, hi.2.1, ?_⟩, (by show l.length - (i + 1) < l.length - i; omega), ⟨⟨rfl, rfl⟩, trivial⟩, ⟨⟨rfl, rfl⟩, ⟨rfl, rfl⟩, trivial⟩, trivial⟩
      have : l[i] = m[i] := by simpa using hb
      rw [List.take_add_one, List.take_add_one, hi.2.2, List.getElem?_eq_getElem h1, List.getElem?_eq_getElem h2, this]
  · have h := of_decide_eq_false h
    rw [List.length_map] at h
    have : i = l.length := by omega
    refine Done.mk ?_
    refine congrArg B (eqv_of ?_).symm
    have := hi.2.2
    rwa [List.take_of_length_le (by omega), List.take_of_length_le (by omega)] at this
theorem eqExpr_ok : ∀ (x y : XExpr), CallF Tryz.prog 144 [.a 3 (encExpr x), .a 3 (encExpr y)] (B (eqv x y))
  | .mk kind num kids, .mk kind' num' kids' => by
    refine callF_of_vc htb hm Tryz.func144 rfl rfl rfl rfl (ann := fun _ => none) (gh := fun _ => false) ?_
    refine Branch.mk (fun h => ?_) (fun h => ?_)
    · refine Done.mk ?_
      refine congrArg B (eqv_ne fun e => ?_).symm
      cases e
      simp at h
    have e0 : kind = kind' := by simpa using h
    refine Branch.mk (fun h => ?_) (fun h => ?_)
    · refine Done.mk ?_
      refine congrArg B (eqv_ne fun e => ?_).symm
      cases e
      simp at h
    have e1 : num = num' := by simpa using h
    have hk2 := eqExprS_all kids kids' fun x hx => eqExpr_ok x
    rw [← encExprS_map, ← encExprS_map] at hk2
    refine CallN.pure _ _ rfl hk2 rfl _ rfl ?_
    refine Branch.mk (fun h => ?_) (fun h => ?_)
    · refine Done.mk ?_
      refine congrArg B (eqv_ne fun e => ?_).symm
      cases e
      simp at h
    have e2 : kids = kids' := by simpa using h
    refine Done.mk ?_
    refine congrArg B (eqv_of ?_).symm
    rw [e0, e1, e2]
  termination_by x => SizeOf.sizeOf x
  decreasing_by
    have := List.sizeOf_lt_of_mem hx
    simp only [XExpr.mk.sizeOf_spec]
    omega
theorem eqExpr_ok' (x y : XExpr) : CallF Tryz.prog 144 [.a 3 [.val (.int .i64 x.kind), .val (.int .i64 x.num), .ro 3 (x.kids.map encExpr)], .a 3 [.val (.int .i64 y.kind), .val (.int .i64 y.num), .ro 3 (y.kids.map encExpr)]] (B (eqv x y)) := by
  have h := eqExpr_ok x y
  rw [encExpr_eq, encExpr_eq] at h
  exact h
theorem eqExprS_ok (l m : List XExpr) : CallF Tryz.prog 154 [.c (.ro 3 (l.map encExpr)), .c (.ro 3 (m.map encExpr))] (B (eqv l m)) := eqExprS_all l m fun x _ y => eqExpr_ok x y
theorem eqProofStep_ok (x y : XProofStep) : CallF Tryz.prog 155 [.a 5 (encProofStep x), .a 5 (encProofStep y)] (B (eqv x y)) := by
  refine callF_of_vc htb hm Tryz.func155 rfl rfl rfl rfl (ann := fun _ => none) (gh := fun _ => false) ?_
  refine Branch.mk (fun h => ?_) (fun h => ?_)
  · refine Done.mk ?_
    refine congrArg B (eqv_ne fun e => ?_).symm
    subst e
    simp at h
  have e0 : x.use = y.use := by simpa using h
  refine Branch.mk (fun h => ?_) (fun h => ?_)
  · refine Done.mk ?_
    refine congrArg B (eqv_ne fun e => ?_).symm
    subst e
    simp at h
  have e1 : x.back = y.back := by simpa using h
  have hk2 := eqInt64S_ok x.path y.path
  conv => whnf
  refine CallN.pure _ _ rfl hk2 rfl _ rfl ?_
  refine Branch.mk (fun h => ?_) (fun h => ?_)
  · refine Done.mk ?_
    refine congrArg B (eqv_ne fun e => ?_).symm
    subst e
    simp at h
  have e2 : x.path = y.path := by simpa using h
  have hk3 := eqExprS_ok x.tests y.tests
  conv => whnf
  refine CallN.pure _ _ rfl hk3 rfl _ rfl ?_
  refine Branch.mk (fun h => ?_) (fun h => ?_)
  · refine Done.mk ?_
    refine congrArg B (eqv_ne fun e => ?_).symm
    subst e
    simp at h
  have e3 : x.tests = y.tests := by simpa using h
  have hk4 := eqExprS_ok x.acts y.acts
  conv => whnf
  refine CallN.pure _ _ rfl hk4 rfl _ rfl ?_
  refine Branch.mk (fun h => ?_) (fun h => ?_)
  · refine Done.mk ?_
    refine congrArg B (eqv_ne fun e => ?_).symm
    subst e
    simp at h
  have e4 : x.acts = y.acts := by simpa using h
  refine Done.mk ?_
  refine congrArg B (eqv_of ?_).symm
  cases x; cases y; simp_all
theorem eqProofStepS_all (l m : List XProofStep) (hx : ∀ x ∈ l, ∀ y, CallF Tryz.prog 155 [.a 5 (encProofStep x), .a 5 (encProofStep y)] (B (eqv x y))) : CallF Tryz.prog 145 [.c (.ro 5 (l.map encProofStep)), .c (.ro 5 (m.map encProofStep))] (B (eqv l m)) := by
  refine callF_of_vc htb hm Tryz.func145 rfl rfl rfl rfl (ann := fun n => match n with | 4 => some { α := Nat, keep := [0, 1], ov := fun i => [(5, I i)], φ := fun i => i ≤ l.length ∧ l.length = m.length ∧ l.take i = m.take i, μ := fun i => l.length - i } | _ => none) (gh := fun _ => false) ?_
  refine Fact.mk fun hl => Fact.mk fun hl' => ?_
  rw [List.length_map] at hl hl'
  refine Branch.mk (fun h => ?_) (fun h => ?_)
  · refine Done.mk ?_
    rw [List.length_map, List.length_map] at h
    refine congrArg B (eqv_ne fun e => ?_).symm
    subst e
    simp at h
  have hlm : l.length = m.length := by
    rw [List.length_map, List.length_map] at h
    simp only [bne_eq_false_iff_eq] at h
    omega
  refine LoopN.mk (0 : Nat) ⟨Nat.zero_le _, hlm, rfl⟩ ⟨⟨rfl, rfl⟩, trivial⟩ ⟨⟨rfl, rfl⟩, ⟨rfl, rfl⟩, trivial⟩ trivial ?_ (fun _ => rfl)
  intro (i : Nat) (hi : i ≤ l.length ∧ l.length = m.length ∧ l.take i = m.take i)
  refine Fact.mk fun _ => ?_
  refine Branch.mk (fun h => ?_) (fun h => ?_)
  · have h := of_decide_eq_true h
    rw [List.length_map] at h
    have h1 : i < l.length := by omega
    have h2 : i < m.length := by omega
    refine Need.mk (by kernel_rfl) ?_
    refine Need.mk (by omega) (Index.mk (encProofStep l[i]) (by simp [h1]) ?_)
    refine Need.mk (by omega) (Index.mk (encProofStep m[i]) (by simp [h2]) ?_)
    refine CallN.pure _ _ rfl (hx l[i] (List.getElem_mem h1) m[i]) rfl _ rfl ?_
    refine Need.mk (by kernel_rfl) ?_
    refine Branch.mk (fun hb => ?_) (fun hb => ?_)
    · refine Done.mk ?_
      refine congrArg B (eqv_ne fun e => ?_).symm
      subst e
      simp at hb
    · refine Arith.fit (wrap_fit (by omega) (by simp only [maxLen] at hl; omega)) ?_
      refine Gh.go ⟨i + 1, ⟨h1, hi.2.1, ?_⟩, (by show l.length - (i + 1) < l.length - i; omega), ⟨⟨rfl, rfl⟩, trivial⟩, ⟨⟨rfl, rfl⟩, ⟨rfl, rfl⟩, trivial⟩, trivial⟩
      have : l[i] = m[i] := by simpa using hb
      rw [List.take_add_one, List.take_add_one, hi.2.2, List.getElem?_eq_getElem h1, List.getElem?_eq_getElem h2, this]
  · have h := of_decide_eq_false h
    rw [List.length_map] at h
    have : i = l.length := by omega
    refine Done.mk ?_
    refine congrArg B (eqv_of ?_).symm
    have := hi.2.2
    rwa [List.take_of_length_le (by omega), List.take_of_length_le (by omega)] at this
theorem eqProofStepS_ok (l m : List XProofStep) : CallF Tryz.prog 145 [.c (.ro 5 (l.map encProofStep)), .c (.ro 5 (m.map encProofStep))] (B (eqv l m)) := eqProofStepS_all l m fun x _ y => eqProofStep_ok x y
theorem eqClaim_ok (x y : XClaim) : CallF Tryz.prog 131 [.a 9 (encClaim x), .a 9 (encClaim y)] (B (eqv x y)) := by
  refine callF_of_vc htb hm Tryz.func131 rfl rfl rfl rfl (ann := fun _ => none) (gh := fun _ => false) ?_
  have hk0 := eqExpr_ok' x.left y.left
  conv => whnf
  refine CallN.pure _ _ rfl hk0 rfl _ rfl ?_
  refine Branch.mk (fun h => ?_) (fun h => ?_)
  · refine Done.mk ?_
    refine congrArg B (eqv_ne fun e => ?_).symm
    subst e
    simp at h
  have e0 : x.left = y.left := by simpa using h
  have hk1 := eqExpr_ok' x.right y.right
  conv => whnf
  refine CallN.pure _ _ rfl hk1 rfl _ rfl ?_
  refine Branch.mk (fun h => ?_) (fun h => ?_)
  · refine Done.mk ?_
    refine congrArg B (eqv_ne fun e => ?_).symm
    subst e
    simp at h
  have e1 : x.right = y.right := by simpa using h
  refine Branch.mk (fun h => ?_) (fun h => ?_)
  · refine Done.mk ?_
    refine congrArg B (eqv_ne fun e => ?_).symm
    subst e
    simp at h
  have e2 : x.rule = y.rule := by simpa using h
  refine Branch.mk (fun h => ?_) (fun h => ?_)
  · refine Done.mk ?_
    refine congrArg B (eqv_ne fun e => ?_).symm
    subst e
    simp at h
  have e3 : x.ref = y.ref := by simpa using h
  have hk4 := eqProofStepS_ok x.steps y.steps
  conv => whnf
  refine CallN.pure _ _ rfl hk4 rfl _ rfl ?_
  refine Branch.mk (fun h => ?_) (fun h => ?_)
  · refine Done.mk ?_
    refine congrArg B (eqv_ne fun e => ?_).symm
    subst e
    simp at h
  have e4 : x.steps = y.steps := by simpa using h
  refine Done.mk ?_
  refine congrArg B (eqv_of ?_).symm
  cases x; cases y; simp_all
theorem eqClaimS_all (l m : List XClaim) (hx : ∀ x ∈ l, ∀ y, CallF Tryz.prog 131 [.a 9 (encClaim x), .a 9 (encClaim y)] (B (eqv x y))) : CallF Tryz.prog 120 [.c (.ro 9 (l.map encClaim)), .c (.ro 9 (m.map encClaim))] (B (eqv l m)) := by
  refine callF_of_vc htb hm Tryz.func120 rfl rfl rfl rfl (ann := fun n => match n with | 4 => some { α := Nat, keep := [0, 1], ov := fun i => [(5, I i)], φ := fun i => i ≤ l.length ∧ l.length = m.length ∧ l.take i = m.take i, μ := fun i => l.length - i } | _ => none) (gh := fun _ => false) ?_
  refine Fact.mk fun hl => Fact.mk fun hl' => ?_
  rw [List.length_map] at hl hl'
  refine Branch.mk (fun h => ?_) (fun h => ?_)
  · refine Done.mk ?_
    rw [List.length_map, List.length_map] at h
    refine congrArg B (eqv_ne fun e => ?_).symm
    subst e
    simp at h
  have hlm : l.length = m.length := by
    rw [List.length_map, List.length_map] at h
    simp only [bne_eq_false_iff_eq] at h
    omega
  refine LoopN.mk (0 : Nat) ⟨Nat.zero_le _, hlm, rfl⟩ ⟨⟨rfl, rfl⟩, trivial⟩ ⟨⟨rfl, rfl⟩, ⟨rfl, rfl⟩, trivial⟩ trivial ?_ (fun _ => rfl)
  intro (i : Nat) (hi : i ≤ l.length ∧ l.length = m.length ∧ l.take i = m.take i)
  refine Fact.mk fun _ => ?_
  refine Branch.mk (fun h => ?_) (fun h => ?_)
  · have h := of_decide_eq_true h
    rw [List.length_map] at h
    have h1 : i < l.length := by omega
    have h2 : i < m.length := by omega
    refine Need.mk (by kernel_rfl) ?_
    refine Need.mk (by omega) (Index.mk (encClaim l[i]) (by simp [h1]) ?_)
    refine Need.mk (by omega) (Index.mk (encClaim m[i]) (by simp [h2]) ?_)
    refine CallN.pure _ _ rfl (hx l[i] (List.getElem_mem h1) m[i]) rfl _ rfl ?_
    refine Need.mk (by kernel_rfl) ?_
    refine Branch.mk (fun hb => ?_) (fun hb => ?_)
    · refine Done.mk ?_
      refine congrArg B (eqv_ne fun e => ?_).symm
      subst e
      simp at hb
    · refine Arith.fit (wrap_fit (by omega) (by simp only [maxLen] at hl; omega)) ?_
      refine Gh.go ⟨i + 1, ⟨h1, hi.2.1, ?_⟩, (by show l.length - (i + 1) < l.length - i; omega), ⟨⟨rfl, rfl⟩, trivial⟩, ⟨⟨rfl, rfl⟩, ⟨rfl, rfl⟩, trivial⟩, trivial⟩
      have : l[i] = m[i] := by simpa using hb
      rw [List.take_add_one, List.take_add_one, hi.2.2, List.getElem?_eq_getElem h1, List.getElem?_eq_getElem h2, this]
  · have h := of_decide_eq_false h
    rw [List.length_map] at h
    have : i = l.length := by omega
    refine Done.mk ?_
    refine congrArg B (eqv_of ?_).symm
    have := hi.2.2
    rwa [List.take_of_length_le (by omega), List.take_of_length_le (by omega)] at this
theorem eqClaimS_ok (l m : List XClaim) : CallF Tryz.prog 120 [.c (.ro 9 (l.map encClaim)), .c (.ro 9 (m.map encClaim))] (B (eqv l m)) := eqClaimS_all l m fun x _ y => eqClaim_ok x y
theorem eqProof_ok (x y : XProof) : CallF Tryz.prog 103 [.a 3 (encProof x), .a 3 (encProof y)] (B (eqv x y)) := by
  refine callF_of_vc htb hm Tryz.func103 rfl rfl rfl rfl (ann := fun _ => none) (gh := fun _ => false) ?_
  have hk0 := eqSig_ok x.sig y.sig
  conv => whnf
  refine CallN.pure _ _ rfl hk0 rfl _ rfl ?_
  refine Branch.mk (fun h => ?_) (fun h => ?_)
  · refine Done.mk ?_
    refine congrArg B (eqv_ne fun e => ?_).symm
    subst e
    simp at h
  have e0 : x.sig = y.sig := by simpa using h
  have hk1 := eqClaimS_ok x.claims y.claims
  conv => whnf
  refine CallN.pure _ _ rfl hk1 rfl _ rfl ?_
  refine Branch.mk (fun h => ?_) (fun h => ?_)
  · refine Done.mk ?_
    refine congrArg B (eqv_ne fun e => ?_).symm
    subst e
    simp at h
  have e1 : x.claims = y.claims := by simpa using h
  refine Done.mk ?_
  refine congrArg B (eqv_of ?_).symm
  cases x; cases y; simp_all
theorem eqEntry_ok (x y : XEntry) : CallF Tryz.prog 79 [.a 5 (encEntry x), .a 5 (encEntry y)] (B (eqv x y)) := by
  refine callF_of_vc htb hm Tryz.func79 rfl rfl rfl rfl (ann := fun _ => none) (gh := fun _ => false) ?_
  refine Branch.mk (fun h => ?_) (fun h => ?_)
  · refine Done.mk ?_
    refine congrArg B (eqv_ne fun e => ?_).symm
    subst e
    simp at h
  have e0 : x.id = y.id := by simpa using h
  have hk1 := eqInt64S_ok x.rests y.rests
  conv => whnf
  refine CallN.pure _ _ rfl hk1 rfl _ rfl ?_
  refine Branch.mk (fun h => ?_) (fun h => ?_)
  · refine Done.mk ?_
    refine congrArg B (eqv_ne fun e => ?_).symm
    subst e
    simp at h
  have e1 : x.rests = y.rests := by simpa using h
  have hk2 := eqProof_ok x.proof y.proof
  conv => whnf
  refine CallN.pure _ _ rfl hk2 rfl _ rfl ?_
  refine Branch.mk (fun h => ?_) (fun h => ?_)
  · refine Done.mk ?_
    refine congrArg B (eqv_ne fun e => ?_).symm
    subst e
    simp at h
  have e2 : x.proof = y.proof := by simpa using h
  refine Done.mk ?_
  refine congrArg B (eqv_of ?_).symm
  cases x; cases y; simp_all
theorem eqNote_ok (x y : XNote) : CallF Tryz.prog 61 [.a 7 (encNote x), .a 7 (encNote y)] (B (eqv x y)) := by
  refine callF_of_vc htb hm Tryz.func61 rfl rfl rfl rfl (ann := fun _ => none) (gh := fun _ => false) ?_
  refine Branch.mk (fun h => ?_) (fun h => ?_)
  · refine Done.mk ?_
    refine congrArg B (eqv_ne fun e => ?_).symm
    subst e
    simp at h
  have e0 : x.revoke = y.revoke := by simpa using h
  refine Branch.mk (fun h => ?_) (fun h => ?_)
  · refine Done.mk ?_
    refine congrArg B (eqv_ne fun e => ?_).symm
    subst e
    simp at h
  have e1 : x.id = y.id := by simpa using h
  have hk2 := eqEntry_ok x.entry y.entry
  conv => whnf
  refine CallN.pure _ _ rfl hk2 rfl _ rfl ?_
  refine Branch.mk (fun h => ?_) (fun h => ?_)
  · refine Done.mk ?_
    refine congrArg B (eqv_ne fun e => ?_).symm
    subst e
    simp at h
  have e2 : x.entry = y.entry := by simpa using h
  refine Done.mk ?_
  refine congrArg B (eqv_of ?_).symm
  cases x; cases y; simp_all
theorem eqNoteS_all (l m : List XNote) (hx : ∀ x ∈ l, ∀ y, CallF Tryz.prog 61 [.a 7 (encNote x), .a 7 (encNote y)] (B (eqv x y))) : CallF Tryz.prog 60 [.c (.ro 7 (l.map encNote)), .c (.ro 7 (m.map encNote))] (B (eqv l m)) := by
  refine callF_of_vc htb hm Tryz.func60 rfl rfl rfl rfl (ann := fun n => match n with | 4 => some { α := Nat, keep := [0, 1], ov := fun i => [(5, I i)], φ := fun i => i ≤ l.length ∧ l.length = m.length ∧ l.take i = m.take i, μ := fun i => l.length - i } | _ => none) (gh := fun _ => false) ?_
  refine Fact.mk fun hl => Fact.mk fun hl' => ?_
  rw [List.length_map] at hl hl'
  refine Branch.mk (fun h => ?_) (fun h => ?_)
  · refine Done.mk ?_
    rw [List.length_map, List.length_map] at h
    refine congrArg B (eqv_ne fun e => ?_).symm
    subst e
    simp at h
  have hlm : l.length = m.length := by
    rw [List.length_map, List.length_map] at h
    simp only [bne_eq_false_iff_eq] at h
    omega
  refine LoopN.mk (0 : Nat) ⟨Nat.zero_le _, hlm, rfl⟩ ⟨⟨rfl, rfl⟩, trivial⟩ ⟨⟨rfl, rfl⟩, ⟨rfl, rfl⟩, trivial⟩ trivial ?_ (fun _ => rfl)
  intro (i : Nat) (hi : i ≤ l.length ∧ l.length = m.length ∧ l.take i = m.take i)
  refine Fact.mk fun _ => ?_
  refine Branch.mk (fun h => ?_) (fun h => ?_)
  · have h := of_decide_eq_true h
    rw [List.length_map] at h
    have h1 : i < l.length := by omega
    have h2 : i < m.length := by omega
    refine Need.mk (by kernel_rfl) ?_
    refine Need.mk (by omega) (Index.mk (encNote l[i]) (by simp [h1]) ?_)
    refine Need.mk (by omega) (Index.mk (encNote m[i]) (by simp [h2]) ?_)
    refine CallN.pure _ _ rfl (hx l[i] (List.getElem_mem h1) m[i]) rfl _ rfl ?_
    refine Need.mk (by kernel_rfl) ?_
    refine Branch.mk (fun hb => ?_) (fun hb => ?_)
    · refine Done.mk ?_
      refine congrArg B (eqv_ne fun e => ?_).symm
      subst e
      simp at hb
    · refine Arith.fit (wrap_fit (by omega) (by simp only [maxLen] at hl; omega)) ?_
      refine Gh.go ⟨i + 1, ⟨h1, hi.2.1, ?_⟩, (by show l.length - (i + 1) < l.length - i; omega), ⟨⟨rfl, rfl⟩, trivial⟩, ⟨⟨rfl, rfl⟩, ⟨rfl, rfl⟩, trivial⟩, trivial⟩
      have : l[i] = m[i] := by simpa using hb
      rw [List.take_add_one, List.take_add_one, hi.2.2, List.getElem?_eq_getElem h1, List.getElem?_eq_getElem h2, this]
  · have h := of_decide_eq_false h
    rw [List.length_map] at h
    have : i = l.length := by omega
    refine Done.mk ?_
    refine congrArg B (eqv_of ?_).symm
    have := hi.2.2
    rwa [List.take_of_length_le (by omega), List.take_of_length_le (by omega)] at this
theorem eqNoteS_ok (l m : List XNote) : CallF Tryz.prog 60 [.c (.ro 7 (l.map encNote)), .c (.ro 7 (m.map encNote))] (B (eqv l m)) := eqNoteS_all l m fun x _ y => eqNote_ok x y
theorem eqServer_ok (x y : XServer) : CallF Tryz.prog 42 [.a 3 (encServer x), .a 3 (encServer y)] (B (eqv x y)) := by
  refine callF_of_vc htb hm Tryz.func42 rfl rfl rfl rfl (ann := fun _ => none) (gh := fun _ => false) ?_
  refine Branch.mk (fun h => ?_) (fun h => ?_)
  · refine Done.mk ?_
    refine congrArg B (eqv_ne fun e => ?_).symm
    subst e
    simp at h
  have e0 : x.up = y.up := by simpa using h
  have hk1 := eqNoteS_ok x.notes y.notes
  conv => whnf
  refine CallN.pure _ _ rfl hk1 rfl _ rfl ?_
  refine Branch.mk (fun h => ?_) (fun h => ?_)
  · refine Done.mk ?_
    refine congrArg B (eqv_ne fun e => ?_).symm
    subst e
    simp at h
  have e1 : x.notes = y.notes := by simpa using h
  refine Branch.mk (fun h => ?_) (fun h => ?_)
  · refine Done.mk ?_
    refine congrArg B (eqv_ne fun e => ?_).symm
    subst e
    simp at h
  have e2 : x.saved = y.saved := by simpa using h
  refine Done.mk ?_
  refine congrArg B (eqv_of ?_).symm
  cases x; cases y; simp_all
theorem eqServerS_all (l m : List XServer) (hx : ∀ x ∈ l, ∀ y, CallF Tryz.prog 42 [.a 3 (encServer x), .a 3 (encServer y)] (B (eqv x y))) : CallF Tryz.prog 25 [.c (.ro 3 (l.map encServer)), .c (.ro 3 (m.map encServer))] (B (eqv l m)) := by
  refine callF_of_vc htb hm Tryz.func25 rfl rfl rfl rfl (ann := fun n => match n with | 4 => some { α := Nat, keep := [0, 1], ov := fun i => [(5, I i)], φ := fun i => i ≤ l.length ∧ l.length = m.length ∧ l.take i = m.take i, μ := fun i => l.length - i } | _ => none) (gh := fun _ => false) ?_
  refine Fact.mk fun hl => Fact.mk fun hl' => ?_
  rw [List.length_map] at hl hl'
  refine Branch.mk (fun h => ?_) (fun h => ?_)
  · refine Done.mk ?_
    rw [List.length_map, List.length_map] at h
    refine congrArg B (eqv_ne fun e => ?_).symm
    subst e
    simp at h
  have hlm : l.length = m.length := by
    rw [List.length_map, List.length_map] at h
    simp only [bne_eq_false_iff_eq] at h
    omega
  refine LoopN.mk (0 : Nat) ⟨Nat.zero_le _, hlm, rfl⟩ ⟨⟨rfl, rfl⟩, trivial⟩ ⟨⟨rfl, rfl⟩, ⟨rfl, rfl⟩, trivial⟩ trivial ?_ (fun _ => rfl)
  intro (i : Nat) (hi : i ≤ l.length ∧ l.length = m.length ∧ l.take i = m.take i)
  refine Fact.mk fun _ => ?_
  refine Branch.mk (fun h => ?_) (fun h => ?_)
  · have h := of_decide_eq_true h
    rw [List.length_map] at h
    have h1 : i < l.length := by omega
    have h2 : i < m.length := by omega
    refine Need.mk (by kernel_rfl) ?_
    refine Need.mk (by omega) (Index.mk (encServer l[i]) (by simp [h1]) ?_)
    refine Need.mk (by omega) (Index.mk (encServer m[i]) (by simp [h2]) ?_)
    refine CallN.pure _ _ rfl (hx l[i] (List.getElem_mem h1) m[i]) rfl _ rfl ?_
    refine Need.mk (by kernel_rfl) ?_
    refine Branch.mk (fun hb => ?_) (fun hb => ?_)
    · refine Done.mk ?_
      refine congrArg B (eqv_ne fun e => ?_).symm
      subst e
      simp at hb
    · refine Arith.fit (wrap_fit (by omega) (by simp only [maxLen] at hl; omega)) ?_
      refine Gh.go ⟨i + 1, ⟨h1, hi.2.1, ?_⟩, (by show l.length - (i + 1) < l.length - i; omega), ⟨⟨rfl, rfl⟩, trivial⟩, ⟨⟨rfl, rfl⟩, ⟨rfl, rfl⟩, trivial⟩, trivial⟩
      have : l[i] = m[i] := by simpa using hb
      rw [List.take_add_one, List.take_add_one, hi.2.2, List.getElem?_eq_getElem h1, List.getElem?_eq_getElem h2, this]
  · have h := of_decide_eq_false h
    rw [List.length_map] at h
    have : i = l.length := by omega
    refine Done.mk ?_
    refine congrArg B (eqv_of ?_).symm
    have := hi.2.2
    rwa [List.take_of_length_le (by omega), List.take_of_length_le (by omega)] at this
theorem eqServerS_ok (l m : List XServer) : CallF Tryz.prog 25 [.c (.ro 3 (l.map encServer)), .c (.ro 3 (m.map encServer))] (B (eqv l m)) := eqServerS_all l m fun x _ y => eqServer_ok x y
theorem eqPacket_ok (x y : XPacket) : CallF Tryz.prog 43 [.a 8 (encPacket x), .a 8 (encPacket y)] (B (eqv x y)) := by
  refine callF_of_vc htb hm Tryz.func43 rfl rfl rfl rfl (ann := fun _ => none) (gh := fun _ => false) ?_
  refine Branch.mk (fun h => ?_) (fun h => ?_)
  · refine Done.mk ?_
    refine congrArg B (eqv_ne fun e => ?_).symm
    subst e
    simp at h
  have e0 : x.to0 = y.to0 := by simpa using h
  have hk1 := eqNote_ok x.note y.note
  conv => whnf
  refine CallN.pure _ _ rfl hk1 rfl _ rfl ?_
  refine Branch.mk (fun h => ?_) (fun h => ?_)
  · refine Done.mk ?_
    refine congrArg B (eqv_ne fun e => ?_).symm
    subst e
    simp at h
  have e1 : x.note = y.note := by simpa using h
  refine Done.mk ?_
  refine congrArg B (eqv_of ?_).symm
  cases x; cases y; simp_all
theorem eqPacketS_all (l m : List XPacket) (hx : ∀ x ∈ l, ∀ y, CallF Tryz.prog 43 [.a 8 (encPacket x), .a 8 (encPacket y)] (B (eqv x y))) : CallF Tryz.prog 26 [.c (.ro 8 (l.map encPacket)), .c (.ro 8 (m.map encPacket))] (B (eqv l m)) := by
  refine callF_of_vc htb hm Tryz.func26 rfl rfl rfl rfl (ann := fun n => match n with | 4 => some { α := Nat, keep := [0, 1], ov := fun i => [(5, I i)], φ := fun i => i ≤ l.length ∧ l.length = m.length ∧ l.take i = m.take i, μ := fun i => l.length - i } | _ => none) (gh := fun _ => false) ?_
  refine Fact.mk fun hl => Fact.mk fun hl' => ?_
  rw [List.length_map] at hl hl'
  refine Branch.mk (fun h => ?_) (fun h => ?_)
  · refine Done.mk ?_
    rw [List.length_map, List.length_map] at h
    refine congrArg B (eqv_ne fun e => ?_).symm
    subst e
    simp at h
  have hlm : l.length = m.length := by
    rw [List.length_map, List.length_map] at h
    simp only [bne_eq_false_iff_eq] at h
    omega
  refine LoopN.mk (0 : Nat) ⟨Nat.zero_le _, hlm, rfl⟩ ⟨⟨rfl, rfl⟩, trivial⟩ ⟨⟨rfl, rfl⟩, ⟨rfl, rfl⟩, trivial⟩ trivial ?_ (fun _ => rfl)
  intro (i : Nat) (hi : i ≤ l.length ∧ l.length = m.length ∧ l.take i = m.take i)
  refine Fact.mk fun _ => ?_
  refine Branch.mk (fun h => ?_) (fun h => ?_)
  · have h := of_decide_eq_true h
    rw [List.length_map] at h
    have h1 : i < l.length := by omega
    have h2 : i < m.length := by omega
    refine Need.mk (by kernel_rfl) ?_
    refine Need.mk (by omega) (Index.mk (encPacket l[i]) (by simp [h1]) ?_)
    refine Need.mk (by omega) (Index.mk (encPacket m[i]) (by simp [h2]) ?_)
    refine CallN.pure _ _ rfl (hx l[i] (List.getElem_mem h1) m[i]) rfl _ rfl ?_
    refine Need.mk (by kernel_rfl) ?_
    refine Branch.mk (fun hb => ?_) (fun hb => ?_)
    · refine Done.mk ?_
      refine congrArg B (eqv_ne fun e => ?_).symm
      subst e
      simp at hb
    · refine Arith.fit (wrap_fit (by omega) (by simp only [maxLen] at hl; omega)) ?_
      refine Gh.go ⟨i + 1, ⟨h1, hi.2.1, ?_⟩, (by show l.length - (i + 1) < l.length - i; omega), ⟨⟨rfl, rfl⟩, trivial⟩, ⟨⟨rfl, rfl⟩, ⟨rfl, rfl⟩, trivial⟩, trivial⟩
      have : l[i] = m[i] := by simpa using hb
      rw [List.take_add_one, List.take_add_one, hi.2.2, List.getElem?_eq_getElem h1, List.getElem?_eq_getElem h2, this]
  · have h := of_decide_eq_false h
    rw [List.length_map] at h
    have : i = l.length := by omega
    refine Done.mk ?_
    refine congrArg B (eqv_of ?_).symm
    have := hi.2.2
    rwa [List.take_of_length_le (by omega), List.take_of_length_le (by omega)] at this
theorem eqPacketS_ok (l m : List XPacket) : CallF Tryz.prog 26 [.c (.ro 8 (l.map encPacket)), .c (.ro 8 (m.map encPacket))] (B (eqv l m)) := eqPacketS_all l m fun x _ y => eqPacket_ok x y
theorem eqArchive_ok (x y : XArchive) : CallF Tryz.prog 8 [.a 4 (encArchive x), .a 4 (encArchive y)] (B (eqv x y)) := by
  refine callF_of_vc htb hm Tryz.func8 rfl rfl rfl rfl (ann := fun _ => none) (gh := fun _ => false) ?_
  have hk0 := eqSig_ok x.sig y.sig
  conv => whnf
  refine CallN.pure _ _ rfl hk0 rfl _ rfl ?_
  refine Branch.mk (fun h => ?_) (fun h => ?_)
  · refine Done.mk ?_
    refine congrArg B (eqv_ne fun e => ?_).symm
    subst e
    simp at h
  have e0 : x.sig = y.sig := by simpa using h
  have hk1 := eqServerS_ok x.servers y.servers
  conv => whnf
  refine CallN.pure _ _ rfl hk1 rfl _ rfl ?_
  refine Branch.mk (fun h => ?_) (fun h => ?_)
  · refine Done.mk ?_
    refine congrArg B (eqv_ne fun e => ?_).symm
    subst e
    simp at h
  have e1 : x.servers = y.servers := by simpa using h
  have hk2 := eqPacketS_ok x.flying y.flying
  conv => whnf
  refine CallN.pure _ _ rfl hk2 rfl _ rfl ?_
  refine Branch.mk (fun h => ?_) (fun h => ?_)
  · refine Done.mk ?_
    refine congrArg B (eqv_ne fun e => ?_).symm
    subst e
    simp at h
  have e2 : x.flying = y.flying := by simpa using h
  refine Done.mk ?_
  refine congrArg B (eqv_of ?_).symm
  cases x; cases y; simp_all
end Go.Proofs.YtkkenofdfpgplaaGreatDoor
