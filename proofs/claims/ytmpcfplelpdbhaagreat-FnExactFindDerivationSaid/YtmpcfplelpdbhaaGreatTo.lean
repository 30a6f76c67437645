/- Contracts of the laws' own functions to... No conditions. -/
import Derived.Test.YtmpcfplelpdbhaaGreatTy
namespace Go.Proofs.YtmpcfplelpdbhaaGreat
open Go Go.KA Go.Proofs
set_option maxRecDepth 100000
set_option maxHeartbeats 16000000 in
theorem toSig_ok (x : XSig) (_hl : budSig x ≤ 1048576) : CallX Tryz.prog 8 [.a 2 (encSig x)] [] (.a 2 (encSig x)) := by
  refine callX_of_vc htb hm Tryz.func8 rfl rfl rfl rfl (ann := fun _ => none) (gh := fun _ => false) ?_
  conv => whnf
  exact RetX.mk rfl trivial
set_option maxHeartbeats 16000000 in
theorem toExprS_all (l : List XExpr) (hl : l.length ≤ 1048576) (hx : ∀ x ∈ l, CallX Tryz.prog 37 [.a 3 (encExpr x)] [] (.a 3 [.val (.int .i64 x.kind), .val (.int .i64 x.num), .own 37 3 (x.kids.map ownExpr)])) : CallX Tryz.prog 98 [.c (.ro 3 (l.map encExpr))] [] (.c (.own 37 3 (l.map ownExpr))) := by
  refine callX_of_vc htb hm Tryz.func98 rfl rfl rfl rfl (ann := fun n => match n with | 3 => some { α := Nat, keep := [0, 3], ov := fun i => [(4, I i)], hv := fun i => [(1, Blk.orow none 37 3 (half ownExpr [.val (.int .i64 0), .val (.int .i64 0), .ro 3 []] l i))], φ := fun i => i ≤ l.length, μ := fun i => l.length - i } | _ => none) (gh := fun _ => false) ?_
  refine Fact.mk fun _ => ?_
  refine Need.mk (by simp only [List.length_map]; omega) ?_
  refine LoopN.mk (0 : Nat) (Nat.zero_le _) ⟨⟨rfl, rfl⟩, trivial⟩ ⟨⟨rfl, rfl⟩, ⟨rfl, rfl⟩, trivial⟩ ⟨⟨⟨⟨rfl, rfl⟩, rfl, ?_⟩, rfl⟩, ⟨rfl, rfl⟩, trivial⟩ ?_ (fun _ => rfl)
  · exact half_zero (by rw [List.length_map]; rfl)
  intro (i : Nat) (hi : i ≤ l.length)
  refine Fact.mk fun _ => ?_
  refine Branch.mk (fun h => ?_) (fun h => ?_)
  · have h := of_decide_eq_true h
    rw [List.length_map] at h
    have hi' : i < l.length := by omega
    refine Need.mk (by omega) (Index.mk (encExpr l[i]) (by simp [hi']) ?_)
    refine CallN.pure _ _ rfl (hx l[i] (List.getElem_mem hi')) rfl _ rfl ?_
    refine Need.mk ⟨by omega, by rw [half_len hi]; simpa using hi'⟩ ?_
    refine Index.mk [.val (.int .i64 0), .val (.int .i64 0), .ro 3 []] (half_get hi') ?_
    refine Arith.fit (wrap_fit (by omega) (by omega)) ?_
    refine Gh.go ⟨i + 1, hi', (by show l.length - (i + 1) < l.length - i; omega), ⟨⟨rfl, rfl⟩, trivial⟩, ⟨⟨rfl, rfl⟩, ⟨rfl, rfl⟩, trivial⟩, ⟨⟨?_, rfl⟩, ⟨rfl, rfl⟩, trivial⟩⟩
    exact congrArg (Blk.orow none 37 3) ((congrArg (List.set _ i) (ownExpr_eq l[i]).symm).trans (half_set hi'))
  · have h := of_decide_eq_false h
    rw [List.length_map] at h
    have : i = l.length := by omega
    subst this
    refine RetX.mk ?_ trivial
    exact congrArg (fun r => SV.c (.own 37 3 r)) half_full
set_option maxHeartbeats 16000000 in
theorem toExpr_ok : ∀ (x : XExpr), budExpr x ≤ 1048576 → CallX Tryz.prog 37 [.a 3 (encExpr x)] [] (.a 3 [.val (.int .i64 x.kind), .val (.int .i64 x.num), .own 37 3 (x.kids.map ownExpr)])
  | .mk kind num kids, hl => by
    simp only [budExpr, budExprS_eq] at hl
    refine callX_of_vc htb hm Tryz.func37 rfl rfl rfl rfl (ann := fun _ => none) (gh := fun _ => false) ?_
    have hk0 := toExprS_all kids (by have := budS_len budExpr kids; omega) fun x hx => toExpr_ok x (by have := budS_mem budExpr hx; omega)
    rw [← encExprS_map] at hk0
    refine CallN.pure _ _ rfl hk0 rfl _ rfl ?_
    exact RetX.mk rfl trivial
  termination_by x => SizeOf.sizeOf x
  decreasing_by
    have := List.sizeOf_lt_of_mem hx
    simp only [XExpr.mk.sizeOf_spec]
    omega
theorem toExpr_ok' (x : XExpr) (hl : budExpr x ≤ 1048576) : CallX Tryz.prog 37 [.a 3 [.val (.int .i64 x.kind), .val (.int .i64 x.num), .ro 3 (x.kids.map encExpr)]] [] (.a 3 [.val (.int .i64 x.kind), .val (.int .i64 x.num), .own 37 3 (x.kids.map ownExpr)]) := by
  have h := toExpr_ok x hl
  rw [encExpr_eq] at h
  exact h
set_option maxHeartbeats 16000000 in
theorem toPremise_ok (x : XPremise) (hl : budPremise x ≤ 1048576) : CallX Tryz.prog 36 [.a 7 (encPremise x)] [] (.a 7 (ownPremise x)) := by
  simp only [budPremise] at hl
  refine callX_of_vc htb hm Tryz.func36 rfl rfl rfl rfl (ann := fun _ => none) (gh := fun _ => false) ?_
  have hk0 := toExpr_ok' x.pre (by omega)
  conv => whnf
  refine CallN.pure _ _ rfl hk0 rfl _ rfl ?_
  have hk1 := toExpr_ok' x.post (by omega)
  conv => whnf
  refine CallN.pure _ _ rfl hk1 rfl _ rfl ?_
  conv => whnf
  exact RetX.mk rfl trivial
set_option maxHeartbeats 16000000 in
theorem toPremiseS_all (l : List XPremise) (hl : l.length ≤ 1048576) (hx : ∀ x ∈ l, CallX Tryz.prog 36 [.a 7 (encPremise x)] [] (.a 7 (ownPremise x))) : CallX Tryz.prog 9 [.c (.ro 7 (l.map encPremise))] [] (.c (.own 95 7 (l.map ownPremise))) := by
  refine callX_of_vc htb hm Tryz.func9 rfl rfl rfl rfl (ann := fun n => match n with | 3 => some { α := Nat, keep := [0, 3], ov := fun i => [(4, I i)], hv := fun i => [(1, Blk.orow none 95 7 (half ownPremise [.val (.int .i64 0), .val (.int .i64 0), .ro 3 [], .val (.int .i64 0), .val (.int .i64 0), .val (.int .i64 0), .ro 3 []] l i))], φ := fun i => i ≤ l.length, μ := fun i => l.length - i } | _ => none) (gh := fun _ => false) ?_
  refine Fact.mk fun _ => ?_
  refine Need.mk (by simp only [List.length_map]; omega) ?_
  refine LoopN.mk (0 : Nat) (Nat.zero_le _) ⟨⟨rfl, rfl⟩, trivial⟩ ⟨⟨rfl, rfl⟩, ⟨rfl, rfl⟩, trivial⟩ ⟨⟨⟨⟨rfl, rfl⟩, rfl, ?_⟩, rfl⟩, ⟨rfl, rfl⟩, trivial⟩ ?_ (fun _ => rfl)
  · exact half_zero (by rw [List.length_map]; rfl)
  intro (i : Nat) (hi : i ≤ l.length)
  refine Fact.mk fun _ => ?_
  refine Branch.mk (fun h => ?_) (fun h => ?_)
  · have h := of_decide_eq_true h
    rw [List.length_map] at h
    have hi' : i < l.length := by omega
    refine Need.mk (by omega) (Index.mk (encPremise l[i]) (by simp [hi']) ?_)
    refine CallN.pure _ _ rfl (hx l[i] (List.getElem_mem hi')) rfl _ rfl ?_
    refine Need.mk ⟨by omega, by rw [half_len hi]; simpa using hi'⟩ ?_
    refine Index.mk [.val (.int .i64 0), .val (.int .i64 0), .ro 3 [], .val (.int .i64 0), .val (.int .i64 0), .val (.int .i64 0), .ro 3 []] (half_get hi') ?_
    refine Arith.fit (wrap_fit (by omega) (by omega)) ?_
    refine Gh.go ⟨i + 1, hi', (by show l.length - (i + 1) < l.length - i; omega), ⟨⟨rfl, rfl⟩, trivial⟩, ⟨⟨rfl, rfl⟩, ⟨rfl, rfl⟩, trivial⟩, ⟨⟨?_, rfl⟩, ⟨rfl, rfl⟩, trivial⟩⟩
    exact congrArg (Blk.orow none 95 7) (half_set hi')
  · have h := of_decide_eq_false h
    rw [List.length_map] at h
    have : i = l.length := by omega
    subst this
    refine RetX.mk ?_ trivial
    exact congrArg (fun r => SV.c (.own 95 7 r)) half_full
set_option maxHeartbeats 16000000 in
theorem toPremiseS_ok (l : List XPremise) (hl : budS budPremise l ≤ 1048576) : CallX Tryz.prog 9 [.c (.ro 7 (l.map encPremise))] [] (.c (.own 95 7 (l.map ownPremise))) := toPremiseS_all l (by have := budS_len budPremise l; omega) fun x hx => toPremise_ok x (by have := budS_mem budPremise hx; omega)
set_option maxHeartbeats 16000000 in
theorem toProgS_all (l : List XProg) (hl : l.length ≤ 1048576) (hx : ∀ x ∈ l, CallX Tryz.prog 38 [.a 6 (encProg x)] [] (.a 6 [.val (.int .i64 x.kind), .val (.int .i64 x.num), .val (.int .i64 x.cond.kind), .val (.int .i64 x.cond.num), .own 37 3 (x.cond.kids.map ownExpr), .own 40 6 (x.kids.map ownProg)])) : CallX Tryz.prog 99 [.c (.ro 6 (l.map encProg))] [] (.c (.own 40 6 (l.map ownProg))) := by
  refine callX_of_vc htb hm Tryz.func99 rfl rfl rfl rfl (ann := fun n => match n with | 3 => some { α := Nat, keep := [0, 3], ov := fun i => [(4, I i)], hv := fun i => [(1, Blk.orow none 40 6 (half ownProg [.val (.int .i64 0), .val (.int .i64 0), .val (.int .i64 0), .val (.int .i64 0), .ro 3 [], .ro 6 []] l i))], φ := fun i => i ≤ l.length, μ := fun i => l.length - i } | _ => none) (gh := fun _ => false) ?_
  refine Fact.mk fun _ => ?_
  refine Need.mk (by simp only [List.length_map]; omega) ?_
  refine LoopN.mk (0 : Nat) (Nat.zero_le _) ⟨⟨rfl, rfl⟩, trivial⟩ ⟨⟨rfl, rfl⟩, ⟨rfl, rfl⟩, trivial⟩ ⟨⟨⟨⟨rfl, rfl⟩, rfl, ?_⟩, rfl⟩, ⟨rfl, rfl⟩, trivial⟩ ?_ (fun _ => rfl)
  · exact half_zero (by rw [List.length_map]; rfl)
  intro (i : Nat) (hi : i ≤ l.length)
  refine Fact.mk fun _ => ?_
  refine Branch.mk (fun h => ?_) (fun h => ?_)
  · have h := of_decide_eq_true h
    rw [List.length_map] at h
    have hi' : i < l.length := by omega
    refine Need.mk (by omega) (Index.mk (encProg l[i]) (by simp [hi']) ?_)
    refine CallN.pure _ _ rfl (hx l[i] (List.getElem_mem hi')) rfl _ rfl ?_
    refine Need.mk ⟨by omega, by rw [half_len hi]; simpa using hi'⟩ ?_
    refine Index.mk [.val (.int .i64 0), .val (.int .i64 0), .val (.int .i64 0), .val (.int .i64 0), .ro 3 [], .ro 6 []] (half_get hi') ?_
    refine Arith.fit (wrap_fit (by omega) (by omega)) ?_
    refine Gh.go ⟨i + 1, hi', (by show l.length - (i + 1) < l.length - i; omega), ⟨⟨rfl, rfl⟩, trivial⟩, ⟨⟨rfl, rfl⟩, ⟨rfl, rfl⟩, trivial⟩, ⟨⟨?_, rfl⟩, ⟨rfl, rfl⟩, trivial⟩⟩
    exact congrArg (Blk.orow none 40 6) ((congrArg (List.set _ i) (ownProg_eq l[i]).symm).trans (half_set hi'))
  · have h := of_decide_eq_false h
    rw [List.length_map] at h
    have : i = l.length := by omega
    subst this
    refine RetX.mk ?_ trivial
    exact congrArg (fun r => SV.c (.own 40 6 r)) half_full
set_option maxHeartbeats 16000000 in
theorem toProg_ok : ∀ (x : XProg), budProg x ≤ 1048576 → CallX Tryz.prog 38 [.a 6 (encProg x)] [] (.a 6 [.val (.int .i64 x.kind), .val (.int .i64 x.num), .val (.int .i64 x.cond.kind), .val (.int .i64 x.cond.num), .own 37 3 (x.cond.kids.map ownExpr), .own 40 6 (x.kids.map ownProg)])
  | .mk kind num cond kids, hl => by
    simp only [budProg, budProgS_eq] at hl
    refine callX_of_vc htb hm Tryz.func38 rfl rfl rfl rfl (ann := fun _ => none) (gh := fun _ => false) ?_
    have hk0 := toExpr_ok' cond (by omega)
    refine CallN.pure _ _ rfl hk0 rfl _ rfl ?_
    have hk1 := toProgS_all kids (by have := budS_len budProg kids; omega) fun x hx => toProg_ok x (by have := budS_mem budProg hx; omega)
    rw [← encProgS_map] at hk1
    refine CallN.pure _ _ rfl hk1 rfl _ rfl ?_
    exact RetX.mk rfl trivial
  termination_by x => SizeOf.sizeOf x
  decreasing_by
    have := List.sizeOf_lt_of_mem hx
    simp only [XProg.mk.sizeOf_spec]
    omega
theorem toProg_ok' (x : XProg) (hl : budProg x ≤ 1048576) : CallX Tryz.prog 38 [.a 6 [.val (.int .i64 x.kind), .val (.int .i64 x.num), .val (.int .i64 x.cond.kind), .val (.int .i64 x.cond.num), .ro 3 (x.cond.kids.map encExpr), .ro 6 (x.kids.map encProg)]] [] (.a 6 [.val (.int .i64 x.kind), .val (.int .i64 x.num), .val (.int .i64 x.cond.kind), .val (.int .i64 x.cond.num), .own 37 3 (x.cond.kids.map ownExpr), .own 40 6 (x.kids.map ownProg)]) := by
  have h := toProg_ok x hl
  rw [encProg_eq] at h
  exact h
set_option maxHeartbeats 16000000 in
theorem toTriple_ok (x : XTriple) (hl : budTriple x ≤ 1048576) : CallX Tryz.prog 10 [.a 12 (encTriple x)] [] (.a 12 (ownTriple x)) := by
  simp only [budTriple] at hl
  refine callX_of_vc htb hm Tryz.func10 rfl rfl rfl rfl (ann := fun _ => none) (gh := fun _ => false) ?_
  have hk0 := toExpr_ok' x.pre (by omega)
  conv => whnf
  refine CallN.pure _ _ rfl hk0 rfl _ rfl ?_
  have hk1 := toProg_ok' x.prog (by omega)
  conv => whnf
  refine CallN.pure _ _ rfl hk1 rfl _ rfl ?_
  have hk2 := toExpr_ok' x.post (by omega)
  conv => whnf
  refine CallN.pure _ _ rfl hk2 rfl _ rfl ?_
  conv => whnf
  exact RetX.mk rfl trivial
end Go.Proofs.YtmpcfplelpdbhaaGreat
