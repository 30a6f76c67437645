/- Contracts of the laws' own functions eq... No conditions. -/
import Derived.Test.YtmpcfplelpdbhaaGreatTy
namespace Go.Proofs.YtmpcfplelpdbhaaGreat
open Go Go.KA Go.Proofs
set_option maxRecDepth 100000
theorem eqExprS_all (l m : List XExpr) (hx : ∀ x ∈ l, ∀ y, CallF Tryz.prog 49 [.a 3 (encExpr x), .a 3 (encExpr y)] (B (eqv x y))) : CallF Tryz.prog 113 [.c (.ro 3 (l.map encExpr)), .c (.ro 3 (m.map encExpr))] (B (eqv l m)) := by
  refine callF_of_vc htb hm Tryz.func113 rfl rfl rfl rfl (ann := fun n => match n with | 4 => some { α := Nat, keep := [0, 1], ov := fun i => [(5, I i)], φ := fun i => i ≤ l.length ∧ l.length = m.length ∧ l.take i = m.take i, μ := fun i => l.length - i } | _ => none) (gh := fun _ => false) ?_
  refine Fact.mk fun hl => Fact.mk fun hl' => ?_
  rw [List.length_map] at hl hl'
  refine Branch.mk (fun h => ?_) (fun h => ?_)
  · refine Done.mk ?_
    rw [List.length_map, List.length_map] at h
    refine congrArg B (eqv_ne fun e => ?_).symm
    subst e
    simp at h
  have hlm : l.length = m.length := by
    rw [List.length_map, List.length_map] at h
    simp only [bne_eq_false_iff_eq] at h
    omega
  refine LoopN.mk (0 : Nat) ⟨Nat.zero_le _, hlm, rfl⟩ ⟨⟨rfl, rfl⟩, trivial⟩ ⟨⟨rfl, rfl⟩, ⟨rfl, rfl⟩, trivial⟩ trivial ?_ (fun _ => rfl)
  intro (i : Nat) (hi : i ≤ l.length ∧ l.length = m.length ∧ l.take i = m.take i)
  refine Fact.mk fun _ => ?_
  refine Branch.mk (fun h => ?_) (fun h => ?_)
  · have h := of_decide_eq_true h
    rw [List.length_map] at h
    have h1 : i < l.length := by omega
    have h2 : i < m.length := by omega
    refine Need.mk (by kernel_rfl) ?_
    refine Need.mk (by omega) (Index.mk (encExpr l[i]) (by simp [h1]) ?_)
    refine Need.mk (by omega) (Index.mk (encExpr m[i]) (by simp [h2]) ?_)
    refine CallN.pure _ _ rfl (hx l[i] (List.getElem_mem h1) m[i]) rfl _ rfl ?_
    refine Need.mk (by kernel_rfl) ?_
    refine Branch.mk (fun hb => ?_) (fun hb => ?_)
    · refine Done.mk ?_
      refine congrArg B (eqv_ne fun e => ?_).symm
      subst e
      simp at hb
    · refine Arith.fit (wrap_fit (by omega) (by simp only [maxLen] at hl; omega)) ?_
      refine Gh.go ⟨i + 1, ⟨h1, hi.2.1, ?_⟩, (by show l.length - (i + 1) < l.length - i; omega), ⟨⟨rfl, rfl⟩, trivial⟩, ⟨⟨rfl, rfl⟩, ⟨rfl, rfl⟩, trivial⟩, trivial⟩
      have : l[i] = m[i] := by simpa using hb
      rw [List.take_add_one, List.take_add_one, hi.2.2, List.getElem?_eq_getElem h1, List.getElem?_eq_getElem h2, this]
  · have h := of_decide_eq_false h
    rw [List.length_map] at h
    have : i = l.length := by omega
    refine Done.mk ?_
    refine congrArg B (eqv_of ?_).symm
    have := hi.2.2
    rwa [List.take_of_length_le (by omega), List.take_of_length_le (by omega)] at this
theorem eqExpr_ok : ∀ (x y : XExpr), CallF Tryz.prog 49 [.a 3 (encExpr x), .a 3 (encExpr y)] (B (eqv x y))
  | .mk kind num kids, .mk kind' num' kids' => by
    refine callF_of_vc htb hm Tryz.func49 rfl rfl rfl rfl (ann := fun _ => none) (gh := fun _ => false) ?_
    refine Branch.mk (fun h => ?_) (fun h => ?_)
    · refine Done.mk ?_
      refine congrArg B (eqv_ne fun e => ?_).symm
      cases e
      simp at h
    have e0 : kind = kind' := by simpa using h
    refine Branch.mk (fun h => ?_) (fun h => ?_)
    · refine Done.mk ?_
      refine congrArg B (eqv_ne fun e => ?_).symm
      cases e
      simp at h
    have e1 : num = num' := by simpa using h
    have hk2 := eqExprS_all kids kids' fun x hx => eqExpr_ok x
    rw [← encExprS_map, ← encExprS_map] at hk2
    refine CallN.pure _ _ rfl hk2 rfl _ rfl ?_
    refine Branch.mk (fun h => ?_) (fun h => ?_)
    · refine Done.mk ?_
      refine congrArg B (eqv_ne fun e => ?_).symm
      cases e
      simp at h
    have e2 : kids = kids' := by simpa using h
    refine Done.mk ?_
    refine congrArg B (eqv_of ?_).symm
    rw [e0, e1, e2]
  termination_by x => SizeOf.sizeOf x
  decreasing_by
    have := List.sizeOf_lt_of_mem hx
    simp only [XExpr.mk.sizeOf_spec]
    omega
theorem eqExpr_ok' (x y : XExpr) : CallF Tryz.prog 49 [.a 3 [.val (.int .i64 x.kind), .val (.int .i64 x.num), .ro 3 (x.kids.map encExpr)], .a 3 [.val (.int .i64 y.kind), .val (.int .i64 y.num), .ro 3 (y.kids.map encExpr)]] (B (eqv x y)) := by
  have h := eqExpr_ok x y
  rw [encExpr_eq, encExpr_eq] at h
  exact h
theorem eqDerivationS_all (l m : List XDerivation) (hx : ∀ x ∈ l, ∀ y, CallF Tryz.prog 12 [.a 14 (encDerivation x), .a 14 (encDerivation y)] (B (eqv x y))) : CallF Tryz.prog 47 [.c (.ro 14 (l.map encDerivation)), .c (.ro 14 (m.map encDerivation))] (B (eqv l m)) := by
  refine callF_of_vc htb hm Tryz.func47 rfl rfl rfl rfl (ann := fun n => match n with | 4 => some { α := Nat, keep := [0, 1], ov := fun i => [(5, I i)], φ := fun i => i ≤ l.length ∧ l.length = m.length ∧ l.take i = m.take i, μ := fun i => l.length - i } | _ => none) (gh := fun _ => false) ?_
  refine Fact.mk fun hl => Fact.mk fun hl' => ?_
  rw [List.length_map] at hl hl'
  refine Branch.mk (fun h => ?_) (fun h => ?_)
  · refine Done.mk ?_
    rw [List.length_map, List.length_map] at h
    refine congrArg B (eqv_ne fun e => ?_).symm
    subst e
    simp at h
  have hlm : l.length = m.length := by
    rw [List.length_map, List.length_map] at h
    simp only [bne_eq_false_iff_eq] at h
    omega
  refine LoopN.mk (0 : Nat) ⟨Nat.zero_le _, hlm, rfl⟩ ⟨⟨rfl, rfl⟩, trivial⟩ ⟨⟨rfl, rfl⟩, ⟨rfl, rfl⟩, trivial⟩ trivial ?_ (fun _ => rfl)
  intro (i : Nat) (hi : i ≤ l.length ∧ l.length = m.length ∧ l.take i = m.take i)
  refine Fact.mk fun _ => ?_
  refine Branch.mk (fun h => ?_) (fun h => ?_)
  · have h := of_decide_eq_true h
    rw [List.length_map] at h
    have h1 : i < l.length := by omega
    have h2 : i < m.length := by omega
    refine Need.mk (by kernel_rfl) ?_
    refine Need.mk (by omega) (Index.mk (encDerivation l[i]) (by simp [h1]) ?_)
    refine Need.mk (by omega) (Index.mk (encDerivation m[i]) (by simp [h2]) ?_)
    refine CallN.pure _ _ rfl (hx l[i] (List.getElem_mem h1) m[i]) rfl _ rfl ?_
    refine Need.mk (by kernel_rfl) ?_
    refine Branch.mk (fun hb => ?_) (fun hb => ?_)
    · refine Done.mk ?_
      refine congrArg B (eqv_ne fun e => ?_).symm
      subst e
      simp at hb
    · refine Arith.fit (wrap_fit (by omega) (by simp only [maxLen] at hl; omega)) ?_
      refine Gh.go ⟨i + 1, ⟨h1, hi.2.1, ?_⟩, (by show l.length - (i + 1) < l.length - i; omega), ⟨⟨rfl, rfl⟩, trivial⟩, ⟨⟨rfl, rfl⟩, ⟨rfl, rfl⟩, trivial⟩, trivial⟩
      have : l[i] = m[i] := by simpa using hb
      rw [List.take_add_one, List.take_add_one, hi.2.2, List.getElem?_eq_getElem h1, List.getElem?_eq_getElem h2, this]
  · have h := of_decide_eq_false h
    rw [List.length_map] at h
    have : i = l.length := by omega
    refine Done.mk ?_
    refine congrArg B (eqv_of ?_).symm
    have := hi.2.2
    rwa [List.take_of_length_le (by omega), List.take_of_length_le (by omega)] at this
theorem eqProgS_all (l m : List XProg) (hx : ∀ x ∈ l, ∀ y, CallF Tryz.prog 50 [.a 6 (encProg x), .a 6 (encProg y)] (B (eqv x y))) : CallF Tryz.prog 114 [.c (.ro 6 (l.map encProg)), .c (.ro 6 (m.map encProg))] (B (eqv l m)) := by
  refine callF_of_vc htb hm Tryz.func114 rfl rfl rfl rfl (ann := fun n => match n with | 4 => some { α := Nat, keep := [0, 1], ov := fun i => [(5, I i)], φ := fun i => i ≤ l.length ∧ l.length = m.length ∧ l.take i = m.take i, μ := fun i => l.length - i } | _ => none) (gh := fun _ => false) ?_
  refine Fact.mk fun hl => Fact.mk fun hl' => ?_
  rw [List.length_map] at hl hl'
  refine Branch.mk (fun h => ?_) (fun h => ?_)
  · refine Done.mk ?_
    rw [List.length_map, List.length_map] at h
    refine congrArg B (eqv_ne fun e => ?_).symm
    subst e
    simp at h
  have hlm : l.length = m.length := by
    rw [List.length_map, List.length_map] at h
    simp only [bne_eq_false_iff_eq] at h
    omega
  refine LoopN.mk (0 : Nat) ⟨Nat.zero_le _, hlm, rfl⟩ ⟨⟨rfl, rfl⟩, trivial⟩ ⟨⟨rfl, rfl⟩, ⟨rfl, rfl⟩, trivial⟩ trivial ?_ (fun _ => rfl)
  intro (i : Nat) (hi : i ≤ l.length ∧ l.length = m.length ∧ l.take i = m.take i)
  refine Fact.mk fun _ => ?_
  refine Branch.mk (fun h => ?_) (fun h => ?_)
  · have h := of_decide_eq_true h
    rw [List.length_map] at h
    have h1 : i < l.length := by omega
    have h2 : i < m.length := by omega
    refine Need.mk (by kernel_rfl) ?_
    refine Need.mk (by omega) (Index.mk (encProg l[i]) (by simp [h1]) ?_)
    refine Need.mk (by omega) (Index.mk (encProg m[i]) (by simp [h2]) ?_)
    refine CallN.pure _ _ rfl (hx l[i] (List.getElem_mem h1) m[i]) rfl _ rfl ?_
    refine Need.mk (by kernel_rfl) ?_
    refine Branch.mk (fun hb => ?_) (fun hb => ?_)
    · refine Done.mk ?_
      refine congrArg B (eqv_ne fun e => ?_).symm
      subst e
      simp at hb
    · refine Arith.fit (wrap_fit (by omega) (by simp only [maxLen] at hl; omega)) ?_
      refine Gh.go ⟨i + 1, ⟨h1, hi.2.1, ?_⟩, (by show l.length - (i + 1) < l.length - i; omega), ⟨⟨rfl, rfl⟩, trivial⟩, ⟨⟨rfl, rfl⟩, ⟨rfl, rfl⟩, trivial⟩, trivial⟩
      have : l[i] = m[i] := by simpa using hb
      rw [List.take_add_one, List.take_add_one, hi.2.2, List.getElem?_eq_getElem h1, List.getElem?_eq_getElem h2, this]
  · have h := of_decide_eq_false h
    rw [List.length_map] at h
    have : i = l.length := by omega
    refine Done.mk ?_
    refine congrArg B (eqv_of ?_).symm
    have := hi.2.2
    rwa [List.take_of_length_le (by omega), List.take_of_length_le (by omega)] at this
theorem eqProg_ok : ∀ (x y : XProg), CallF Tryz.prog 50 [.a 6 (encProg x), .a 6 (encProg y)] (B (eqv x y))
  | .mk kind num cond kids, .mk kind' num' cond' kids' => by
    refine callF_of_vc htb hm Tryz.func50 rfl rfl rfl rfl (ann := fun _ => none) (gh := fun _ => false) ?_
    refine Branch.mk (fun h => ?_) (fun h => ?_)
    · refine Done.mk ?_
      refine congrArg B (eqv_ne fun e => ?_).symm
      cases e
      simp at h
    have e0 : kind = kind' := by simpa using h
    refine Branch.mk (fun h => ?_) (fun h => ?_)
    · refine Done.mk ?_
      refine congrArg B (eqv_ne fun e => ?_).symm
      cases e
      simp at h
    have e1 : num = num' := by simpa using h
    have hk2 := eqExpr_ok' cond cond'
    refine CallN.pure _ _ rfl hk2 rfl _ rfl ?_
    refine Branch.mk (fun h => ?_) (fun h => ?_)
    · refine Done.mk ?_
      refine congrArg B (eqv_ne fun e => ?_).symm
      cases e
      simp at h
    have e2 : cond = cond' := by simpa using h
    have hk3 := eqProgS_all kids kids' fun x hx => eqProg_ok x
    rw [← encProgS_map, ← encProgS_map] at hk3
    refine CallN.pure _ _ rfl hk3 rfl _ rfl ?_
    refine Branch.mk (fun h => ?_) (fun h => ?_)
    · refine Done.mk ?_
      refine congrArg B (eqv_ne fun e => ?_).symm
      cases e
      simp at h
    have e3 : kids = kids' := by simpa using h
    refine Done.mk ?_
    refine congrArg B (eqv_of ?_).symm
    rw [e0, e1, e2, e3]
  termination_by x => SizeOf.sizeOf x
  decreasing_by
    have := List.sizeOf_lt_of_mem hx
    simp only [XProg.mk.sizeOf_spec]
    omega
theorem eqProg_ok' (x y : XProg) : CallF Tryz.prog 50 [.a 6 [.val (.int .i64 x.kind), .val (.int .i64 x.num), .val (.int .i64 x.cond.kind), .val (.int .i64 x.cond.num), .ro 3 (x.cond.kids.map encExpr), .ro 6 (x.kids.map encProg)], .a 6 [.val (.int .i64 y.kind), .val (.int .i64 y.num), .val (.int .i64 y.cond.kind), .val (.int .i64 y.cond.num), .ro 3 (y.cond.kids.map encExpr), .ro 6 (y.kids.map encProg)]] (B (eqv x y)) := by
  have h := eqProg_ok x y
  rw [encProg_eq, encProg_eq] at h
  exact h
theorem eqTriple_ok (x y : XTriple) : CallF Tryz.prog 14 [.a 12 (encTriple x), .a 12 (encTriple y)] (B (eqv x y)) := by
  refine callF_of_vc htb hm Tryz.func14 rfl rfl rfl rfl (ann := fun _ => none) (gh := fun _ => false) ?_
  have hk0 := eqExpr_ok' x.pre y.pre
  conv => whnf
  refine CallN.pure _ _ rfl hk0 rfl _ rfl ?_
  refine Branch.mk (fun h => ?_) (fun h => ?_)
  · refine Done.mk ?_
    refine congrArg B (eqv_ne fun e => ?_).symm
    subst e
    simp at h
  have e0 : x.pre = y.pre := by simpa using h
  have hk1 := eqProg_ok' x.prog y.prog
  conv => whnf
  refine CallN.pure _ _ rfl hk1 rfl _ rfl ?_
  refine Branch.mk (fun h => ?_) (fun h => ?_)
  · refine Done.mk ?_
    refine congrArg B (eqv_ne fun e => ?_).symm
    subst e
    simp at h
  have e1 : x.prog = y.prog := by simpa using h
  have hk2 := eqExpr_ok' x.post y.post
  conv => whnf
  refine CallN.pure _ _ rfl hk2 rfl _ rfl ?_
  refine Branch.mk (fun h => ?_) (fun h => ?_)
  · refine Done.mk ?_
    refine congrArg B (eqv_ne fun e => ?_).symm
    subst e
    simp at h
  have e2 : x.post = y.post := by simpa using h
  refine Done.mk ?_
  refine congrArg B (eqv_of ?_).symm
  cases x; cases y; simp_all
theorem eqDerivation_ok : ∀ (x y : XDerivation), CallF Tryz.prog 12 [.a 14 (encDerivation x), .a 14 (encDerivation y)] (B (eqv x y))
  | .mk rule says kids, .mk rule' says' kids' => by
    refine callF_of_vc htb hm Tryz.func12 rfl rfl rfl rfl (ann := fun _ => none) (gh := fun _ => false) ?_
    refine Branch.mk (fun h => ?_) (fun h => ?_)
    · refine Done.mk ?_
      refine congrArg B (eqv_ne fun e => ?_).symm
      cases e
      simp at h
    have e0 : rule = rule' := by simpa using h
    have hk1 := eqTriple_ok says says'
    refine CallN.pure _ _ rfl hk1 rfl _ rfl ?_
    refine Branch.mk (fun h => ?_) (fun h => ?_)
    · refine Done.mk ?_
      refine congrArg B (eqv_ne fun e => ?_).symm
      cases e
      simp at h
    have e1 : says = says' := by simpa using h
    have hk2 := eqDerivationS_all kids kids' fun x hx => eqDerivation_ok x
    rw [← encDerivationS_map, ← encDerivationS_map] at hk2
    refine CallN.pure _ _ rfl hk2 rfl _ rfl ?_
    refine Branch.mk (fun h => ?_) (fun h => ?_)
    · refine Done.mk ?_
      refine congrArg B (eqv_ne fun e => ?_).symm
      cases e
      simp at h
    have e2 : kids = kids' := by simpa using h
    refine Done.mk ?_
    refine congrArg B (eqv_of ?_).symm
    rw [e0, e1, e2]
  termination_by x => SizeOf.sizeOf x
  decreasing_by
    have := List.sizeOf_lt_of_mem hx
    simp only [XDerivation.mk.sizeOf_spec]
    omega
theorem eqPremise_ok (x y : XPremise) : CallF Tryz.prog 48 [.a 7 (encPremise x), .a 7 (encPremise y)] (B (eqv x y)) := by
  refine callF_of_vc htb hm Tryz.func48 rfl rfl rfl rfl (ann := fun _ => none) (gh := fun _ => false) ?_
  have hk0 := eqExpr_ok' x.pre y.pre
  conv => whnf
  refine CallN.pure _ _ rfl hk0 rfl _ rfl ?_
  refine Branch.mk (fun h => ?_) (fun h => ?_)
  · refine Done.mk ?_
    refine congrArg B (eqv_ne fun e => ?_).symm
    subst e
    simp at h
  have e0 : x.pre = y.pre := by simpa using h
  refine Branch.mk (fun h => ?_) (fun h => ?_)
  · refine Done.mk ?_
    refine congrArg B (eqv_ne fun e => ?_).symm
    subst e
    simp at h
  have e1 : x.act = y.act := by simpa using h
  have hk2 := eqExpr_ok' x.post y.post
  conv => whnf
  refine CallN.pure _ _ rfl hk2 rfl _ rfl ?_
  refine Branch.mk (fun h => ?_) (fun h => ?_)
  · refine Done.mk ?_
    refine congrArg B (eqv_ne fun e => ?_).symm
    subst e
    simp at h
  have e2 : x.post = y.post := by simpa using h
  refine Done.mk ?_
  refine congrArg B (eqv_of ?_).symm
  cases x; cases y; simp_all
theorem eqPremiseS_all (l m : List XPremise) (hx : ∀ x ∈ l, ∀ y, CallF Tryz.prog 48 [.a 7 (encPremise x), .a 7 (encPremise y)] (B (eqv x y))) : CallF Tryz.prog 13 [.c (.ro 7 (l.map encPremise)), .c (.ro 7 (m.map encPremise))] (B (eqv l m)) := by
  refine callF_of_vc htb hm Tryz.func13 rfl rfl rfl rfl (ann := fun n => match n with | 4 => some { α := Nat, keep := [0, 1], ov := fun i => [(5, I i)], φ := fun i => i ≤ l.length ∧ l.length = m.length ∧ l.take i = m.take i, μ := fun i => l.length - i } | _ => none) (gh := fun _ => false) ?_
  refine Fact.mk fun hl => Fact.mk fun hl' => ?_
  rw [List.length_map] at hl hl'
  refine Branch.mk (fun h => ?_) (fun h => ?_)
  · refine Done.mk ?_
    rw [List.length_map, List.length_map] at h
    refine congrArg B (eqv_ne fun e => ?_).symm
    subst e
    simp at h
  have hlm : l.length = m.length := by
    rw [List.length_map, List.length_map] at h
    simp only [bne_eq_false_iff_eq] at h
    omega
  refine LoopN.mk (0 : Nat) ⟨Nat.zero_le _, hlm, rfl⟩ ⟨⟨rfl, rfl⟩, trivial⟩ ⟨⟨rfl, rfl⟩, ⟨rfl, rfl⟩, trivial⟩ trivial ?_ (fun _ => rfl)
  intro (i : Nat) (hi : i ≤ l.length ∧ l.length = m.length ∧ l.take i = m.take i)
  refine Fact.mk fun _ => ?_
  refine Branch.mk (fun h => ?_) (fun h => ?_)
  · have h := of_decide_eq_true h
    rw [List.length_map] at h
    have h1 : i < l.length := by omega
    have h2 : i < m.length := by omega
    refine Need.mk (by kernel_rfl) ?_
    refine Need.mk (by omega) (Index.mk (encPremise l[i]) (by simp [h1]) ?_)
    refine Need.mk (by omega) (Index.mk (encPremise m[i]) (by simp [h2]) ?_)
    refine CallN.pure _ _ rfl (hx l[i] (List.getElem_mem h1) m[i]) rfl _ rfl ?_
    refine Need.mk (by kernel_rfl) ?_
    refine Branch.mk (fun hb => ?_) (fun hb => ?_)
    · refine Done.mk ?_
      refine congrArg B (eqv_ne fun e => ?_).symm
      subst e
      simp at hb
    · refine Arith.fit (wrap_fit (by omega) (by simp only [maxLen] at hl; omega)) ?_
      refine Gh.go ⟨i + 1, ⟨h1, hi.2.1, ?_⟩, (by show l.length - (i + 1) < l.length - i; omega), ⟨⟨rfl, rfl⟩, trivial⟩, ⟨⟨rfl, rfl⟩, ⟨rfl, rfl⟩, trivial⟩, trivial⟩
      have : l[i] = m[i] := by simpa using hb
      rw [List.take_add_one, List.take_add_one, hi.2.2, List.getElem?_eq_getElem h1, List.getElem?_eq_getElem h2, this]
  · have h := of_decide_eq_false h
    rw [List.length_map] at h
    have : i = l.length := by omega
    refine Done.mk ?_
    refine congrArg B (eqv_of ?_).symm
    have := hi.2.2
    rwa [List.take_of_length_le (by omega), List.take_of_length_le (by omega)] at this
theorem eqPremiseS_ok (l m : List XPremise) : CallF Tryz.prog 13 [.c (.ro 7 (l.map encPremise)), .c (.ro 7 (m.map encPremise))] (B (eqv l m)) := eqPremiseS_all l m fun x _ y => eqPremise_ok x y
end Go.Proofs.YtmpcfplelpdbhaaGreat
