/- Contracts of the laws' own functions to... No conditions. -/
import Derived.Test.YtbbaadkgmdkjdaaTy
namespace Go.Proofs.Ytbbaadkgmdkjdaa
open Go Go.KA Go.Proofs
set_option maxRecDepth 100000
set_option maxHeartbeats 16000000 in
theorem toExprS_all (l : List XExpr) (hl : l.length ≤ 1048576) (hx : ∀ x ∈ l, CallX Try.prog 71 [.a 3 (encExpr x)] [] (.a 3 [.val (.int .i64 x.kind), .val (.int .i64 x.num), .own 71 3 (x.kids.map ownExpr)])) : CallX Try.prog 103 [.c (.ro 3 (l.map encExpr))] [] (.c (.own 71 3 (l.map ownExpr))) := by
  refine callX_of_vc htb hm Try.func103 rfl rfl rfl rfl (ann := fun n => match n with | 3 => some { α := Nat, keep := [0, 3], ov := fun i => [(4, I i)], hv := fun i => [(1, Blk.orow none 71 3 (half ownExpr [.val (.int .i64 0), .val (.int .i64 0), .ro 3 []] l i))], φ := fun i => i ≤ l.length, μ := fun i => l.length - i } | _ => none) (gh := fun _ => false) ?_
  refine Fact.mk fun _ => ?_
  refine Need.mk (by simp only [List.length_map]; omega) ?_
  refine LoopN.mk (0 : Nat) (Nat.zero_le _) ⟨⟨rfl, rfl⟩, trivial⟩ ⟨⟨rfl, rfl⟩, ⟨rfl, rfl⟩, trivial⟩ ⟨⟨⟨⟨rfl, rfl⟩, rfl, ?_⟩, rfl⟩, ⟨rfl, rfl⟩, trivial⟩ ?_ (fun _ => rfl)
  · exact half_zero (by rw [List.length_map]; rfl)
  intro (i : Nat) (hi : i ≤ l.length)
  refine Fact.mk fun _ => ?_
  refine Branch.mk (fun h => ?_) (fun h => ?_)
  · have h := of_decide_eq_true h
    rw [List.length_map] at h
    have hi' : i < l.length := by omega
    refine Need.mk (by omega) (Index.mk (encExpr l[i]) (by simp [hi']) ?_)
    refine CallN.pure _ _ rfl (hx l[i] (List.getElem_mem hi')) rfl _ rfl ?_
    refine Need.mk ⟨by omega, by rw [half_len hi]; simpa using hi'⟩ ?_
    refine Index.mk [.val (.int .i64 0), .val (.int .i64 0), .ro 3 []] (half_get hi') ?_
    refine Arith.fit (wrap_fit (by omega) (by omega)) ?_
    refine Gh.go ⟨i + 1, hi', (by show l.length - (i + 1) < l.length - i; omega), ⟨⟨rfl, rfl⟩, trivial⟩, ⟨⟨rfl, rfl⟩, ⟨rfl, rfl⟩, trivial⟩, ⟨⟨?_, rfl⟩, ⟨rfl, rfl⟩, trivial⟩⟩
    exact congrArg (Blk.orow none 71 3) ((congrArg (List.set _ i) (ownExpr_eq l[i]).symm).trans (half_set hi'))
  · have h := of_decide_eq_false h
    rw [List.length_map] at h
    have : i = l.length := by omega
    subst this
    refine RetX.mk ?_ trivial
    exact congrArg (fun r => SV.c (.own 71 3 r)) half_full
set_option maxHeartbeats 16000000 in
theorem toExpr_ok : ∀ (x : XExpr), budExpr x ≤ 1048576 → CallX Try.prog 71 [.a 3 (encExpr x)] [] (.a 3 [.val (.int .i64 x.kind), .val (.int .i64 x.num), .own 71 3 (x.kids.map ownExpr)])
  | .mk kind num kids, hl => by
    simp only [budExpr, budExprS_eq] at hl
    refine callX_of_vc htb hm Try.func71 rfl rfl rfl rfl (ann := fun _ => none) (gh := fun _ => false) ?_
    have hk0 := toExprS_all kids (by have := budS_len budExpr kids; omega) fun x hx => toExpr_ok x (by have := budS_mem budExpr hx; omega)
    rw [← encExprS_map] at hk0
    refine CallN.pure _ _ rfl hk0 rfl _ rfl ?_
    exact RetX.mk rfl trivial
  termination_by x => SizeOf.sizeOf x
  decreasing_by
    have := List.sizeOf_lt_of_mem hx
    simp only [XExpr.mk.sizeOf_spec]
    omega
theorem toExpr_ok' (x : XExpr) (hl : budExpr x ≤ 1048576) : CallX Try.prog 71 [.a 3 [.val (.int .i64 x.kind), .val (.int .i64 x.num), .ro 3 (x.kids.map encExpr)]] [] (.a 3 [.val (.int .i64 x.kind), .val (.int .i64 x.num), .own 71 3 (x.kids.map ownExpr)]) := by
  have h := toExpr_ok x hl
  rw [encExpr_eq] at h
  exact h
set_option maxHeartbeats 16000000 in
theorem toExprS_ok (l : List XExpr) (hl : budS budExpr l ≤ 1048576) : CallX Try.prog 103 [.c (.ro 3 (l.map encExpr))] [] (.c (.own 71 3 (l.map ownExpr))) := toExprS_all l (by have := budS_len budExpr l; omega) fun x hx => toExpr_ok x (by have := budS_mem budExpr hx; omega)
set_option maxHeartbeats 16000000 in
theorem toSpot_ok (x : XSpot) (hl : budSpot x ≤ 1048576) : CallX Try.prog 91 [.a 7 (encSpot x)] [] (.a 7 (ownSpot x)) := by
  simp only [budSpot] at hl
  refine callX_of_vc htb hm Try.func91 rfl rfl rfl rfl (ann := fun _ => none) (gh := fun _ => false) ?_
  have hk0 := toExpr_ok' x.cond (by omega)
  refine CallN.pure _ _ rfl hk0 rfl _ rfl ?_
  exact RetX.mk rfl trivial
set_option maxHeartbeats 16000000 in
theorem toSpotS_all (l : List XSpot) (hl : l.length ≤ 1048576) (hx : ∀ x ∈ l, CallX Try.prog 91 [.a 7 (encSpot x)] [] (.a 7 (ownSpot x))) : CallX Try.prog 53 [.c (.ro 7 (l.map encSpot))] [] (.c (.own 148 7 (l.map ownSpot))) := by
  refine callX_of_vc htb hm Try.func53 rfl rfl rfl rfl (ann := fun n => match n with | 3 => some { α := Nat, keep := [0, 3], ov := fun i => [(4, I i)], hv := fun i => [(1, Blk.orow none 148 7 (half ownSpot [.val (.int .i64 0), .val (.int .i64 0), .val (.int .i64 0), .val (.int .i64 0), .ro 3 [], .val (.int .i64 0), .val (.int .i64 0)] l i))], φ := fun i => i ≤ l.length, μ := fun i => l.length - i } | _ => none) (gh := fun _ => false) ?_
  refine Fact.mk fun _ => ?_
  refine Need.mk (by simp only [List.length_map]; omega) ?_
  refine LoopN.mk (0 : Nat) (Nat.zero_le _) ⟨⟨rfl, rfl⟩, trivial⟩ ⟨⟨rfl, rfl⟩, ⟨rfl, rfl⟩, trivial⟩ ⟨⟨⟨⟨rfl, rfl⟩, rfl, ?_⟩, rfl⟩, ⟨rfl, rfl⟩, trivial⟩ ?_ (fun _ => rfl)
  · exact half_zero (by rw [List.length_map]; rfl)
  intro (i : Nat) (hi : i ≤ l.length)
  refine Fact.mk fun _ => ?_
  refine Branch.mk (fun h => ?_) (fun h => ?_)
  · have h := of_decide_eq_true h
    rw [List.length_map] at h
    have hi' : i < l.length := by omega
    refine Need.mk (by omega) (Index.mk (encSpot l[i]) (by simp [hi']) ?_)
    refine CallN.pure _ _ rfl (hx l[i] (List.getElem_mem hi')) rfl _ rfl ?_
    refine Need.mk ⟨by omega, by rw [half_len hi]; simpa using hi'⟩ ?_
    refine Index.mk [.val (.int .i64 0), .val (.int .i64 0), .val (.int .i64 0), .val (.int .i64 0), .ro 3 [], .val (.int .i64 0), .val (.int .i64 0)] (half_get hi') ?_
    refine Arith.fit (wrap_fit (by omega) (by omega)) ?_
    refine Gh.go ⟨i + 1, hi', (by show l.length - (i + 1) < l.length - i; omega), ⟨⟨rfl, rfl⟩, trivial⟩, ⟨⟨rfl, rfl⟩, ⟨rfl, rfl⟩, trivial⟩, ⟨⟨?_, rfl⟩, ⟨rfl, rfl⟩, trivial⟩⟩
    exact congrArg (Blk.orow none 148 7) (half_set hi')
  · have h := of_decide_eq_false h
    rw [List.length_map] at h
    have : i = l.length := by omega
    subst this
    refine RetX.mk ?_ trivial
    exact congrArg (fun r => SV.c (.own 148 7 r)) half_full
set_option maxHeartbeats 16000000 in
theorem toSpotS_ok (l : List XSpot) (hl : budS budSpot l ≤ 1048576) : CallX Try.prog 53 [.c (.ro 7 (l.map encSpot))] [] (.c (.own 148 7 (l.map ownSpot))) := toSpotS_all l (by have := budS_len budSpot l; omega) fun x hx => toSpot_ok x (by have := budS_mem budSpot hx; omega)
set_option maxHeartbeats 16000000 in
theorem toFlow_ok (x : XFlow) (hl : budFlow x ≤ 1048576) : CallX Try.prog 16 [.a 2 (encFlow x)] [] (.a 2 (ownFlow x)) := by
  simp only [budFlow] at hl
  refine callX_of_vc htb hm Try.func16 rfl rfl rfl rfl (ann := fun _ => none) (gh := fun _ => false) ?_
  have hk0 := toSpotS_ok x.spots (by omega)
  refine CallN.pure _ _ rfl hk0 rfl _ rfl ?_
  exact RetX.mk rfl trivial
set_option maxHeartbeats 16000000 in
theorem toInt64S_ok (l : List Int) (hl : l.length ≤ 1048576) : CallX Try.prog 51 [.c (.ro 1 (l.map eI))] [] (.c (.ows 2 1 (l.map eI))) := by
  refine callX_of_vc htb hm Try.func51 rfl rfl rfl rfl (ann := fun n => match n with | 3 => some { α := Nat, keep := [0, 3], ov := fun i => [(4, I i)], hv := fun i => [(1, Blk.row none 2 1 (half eI [.val (.int .i64 0)] l i))], φ := fun i => i ≤ l.length, μ := fun i => l.length - i } | _ => none) (gh := fun _ => false) ?_
  refine Fact.mk fun _ => ?_
  refine Need.mk (by simp only [List.length_map]; omega) ?_
  refine LoopN.mk (0 : Nat) (Nat.zero_le _) ⟨⟨rfl, rfl⟩, trivial⟩ ⟨⟨rfl, rfl⟩, ⟨rfl, rfl⟩, trivial⟩ ⟨⟨?_, rfl⟩, ⟨rfl, rfl⟩, trivial⟩ ?_ (fun _ => rfl)
  · exact congrArg (Blk.row none 2 1) (half_zero (by rw [List.length_map]; rfl))
  intro (i : Nat) (hi : i ≤ l.length)
  refine Fact.mk fun _ => ?_
  refine Branch.mk (fun h => ?_) (fun h => ?_)
  · have h := of_decide_eq_true h
    rw [List.length_map] at h
    have hi' : i < l.length := by omega
    refine Need.mk (by omega) (Index.mk (eI l[i]) (by simp [hi']) ?_)
    refine Need.mk ⟨by omega, by rw [half_len hi]; simpa using hi'⟩ ?_
    refine Index.mk [.val (.int .i64 0)] (half_get hi') ?_
    refine Arith.fit (wrap_fit (by omega) (by omega)) ?_
    refine Gh.go ⟨i + 1, hi', (by show l.length - (i + 1) < l.length - i; omega), ⟨⟨rfl, rfl⟩, trivial⟩, ⟨⟨rfl, rfl⟩, ⟨rfl, rfl⟩, trivial⟩, ⟨⟨?_, rfl⟩, ⟨rfl, rfl⟩, trivial⟩⟩
    exact congrArg (Blk.row none 2 1) (half_set hi')
  · have h := of_decide_eq_false h
    rw [List.length_map] at h
    have : i = l.length := by omega
    subst this
    refine RetX.mk ?_ trivial
    exact congrArg (fun r => SV.c (.ows 2 1 r)) half_full
set_option maxHeartbeats 16000000 in
theorem toInt64SS_all (l : List (List Int)) (hl : l.length ≤ 1048576) (hx : ∀ x ∈ l, CallX Try.prog 51 [.c (.ro 1 (x.map eI))] [] (.c (.ows 2 1 (x.map eI)))) : CallX Try.prog 52 [.c (.ro 1 (l.map (fun l => [.ro 1 (l.map eI)])))] [] (.c (.own 35 1 (l.map (fun (l : List Int) => [.ows 2 1 (l.map eI)])))) := by
  refine callX_of_vc htb hm Try.func52 rfl rfl rfl rfl (ann := fun n => match n with | 3 => some { α := Nat, keep := [0, 3], ov := fun i => [(4, I i)], hv := fun i => [(1, Blk.orow none 35 1 (half (fun (l : List Int) => [.ows 2 1 (l.map eI)]) [.ro 1 []] l i))], φ := fun i => i ≤ l.length, μ := fun i => l.length - i } | _ => none) (gh := fun _ => false) ?_
  refine Fact.mk fun _ => ?_
  refine Need.mk (by simp only [List.length_map]; omega) ?_
  refine LoopN.mk (0 : Nat) (Nat.zero_le _) ⟨⟨rfl, rfl⟩, trivial⟩ ⟨⟨rfl, rfl⟩, ⟨rfl, rfl⟩, trivial⟩ ⟨⟨⟨⟨rfl, rfl⟩, rfl, ?_⟩, rfl⟩, ⟨rfl, rfl⟩, trivial⟩ ?_ (fun _ => rfl)
  · exact half_zero (by rw [List.length_map]; rfl)
  intro (i : Nat) (hi : i ≤ l.length)
  refine Fact.mk fun _ => ?_
  refine Branch.mk (fun h => ?_) (fun h => ?_)
  · have h := of_decide_eq_true h
    rw [List.length_map] at h
    have hi' : i < l.length := by omega
    refine Need.mk (by omega) (Index.mk ((fun l => [.ro 1 (l.map eI)]) l[i]) (by simp [hi']) ?_)
    refine CallN.pure _ _ rfl (hx l[i] (List.getElem_mem hi')) rfl _ rfl ?_
    refine Need.mk ⟨by omega, by rw [half_len hi]; simpa using hi'⟩ ?_
    refine Index.mk [.ro 1 []] (half_get hi') ?_
    refine Arith.fit (wrap_fit (by omega) (by omega)) ?_
    refine Gh.go ⟨i + 1, hi', (by show l.length - (i + 1) < l.length - i; omega), ⟨⟨rfl, rfl⟩, trivial⟩, ⟨⟨rfl, rfl⟩, ⟨rfl, rfl⟩, trivial⟩, ⟨⟨?_, rfl⟩, ⟨rfl, rfl⟩, trivial⟩⟩
    exact congrArg (Blk.orow none 35 1) (half_set hi')
  · have h := of_decide_eq_false h
    rw [List.length_map] at h
    have : i = l.length := by omega
    subst this
    refine RetX.mk ?_ trivial
    exact congrArg (fun r => SV.c (.own 35 1 r)) half_full
set_option maxHeartbeats 16000000 in
theorem toInt64SS_ok (l : List (List Int)) (hl : budS List.length l ≤ 1048576) : CallX Try.prog 52 [.c (.ro 1 (l.map (fun l => [.ro 1 (l.map eI)])))] [] (.c (.own 35 1 (l.map (fun (l : List Int) => [.ows 2 1 (l.map eI)])))) := toInt64SS_all l (by have := budS_len List.length l; omega) fun x hx => toInt64S_ok x (by have := budS_mem List.length hx; omega)
set_option maxHeartbeats 16000000 in
theorem toProgS_all (l : List XProg) (hl : l.length ≤ 1048576) (hx : ∀ x ∈ l, CallX Try.prog 27 [.a 6 (encProg x)] [] (.a 6 [.val (.int .i64 x.kind), .val (.int .i64 x.num), .val (.int .i64 x.cond.kind), .val (.int .i64 x.cond.num), .own 71 3 (x.cond.kids.map ownExpr), .own 74 6 (x.kids.map ownProg)])) : CallX Try.prog 72 [.c (.ro 6 (l.map encProg))] [] (.c (.own 74 6 (l.map ownProg))) := by
  refine callX_of_vc htb hm Try.func72 rfl rfl rfl rfl (ann := fun n => match n with | 3 => some { α := Nat, keep := [0, 3], ov := fun i => [(4, I i)], hv := fun i => [(1, Blk.orow none 74 6 (half ownProg [.val (.int .i64 0), .val (.int .i64 0), .val (.int .i64 0), .val (.int .i64 0), .ro 3 [], .ro 6 []] l i))], φ := fun i => i ≤ l.length, μ := fun i => l.length - i } | _ => none) (gh := fun _ => false) ?_
  refine Fact.mk fun _ => ?_
  refine Need.mk (by simp only [List.length_map]; omega) ?_
  refine LoopN.mk (0 : Nat) (Nat.zero_le _) ⟨⟨rfl, rfl⟩, trivial⟩ ⟨⟨rfl, rfl⟩, ⟨rfl, rfl⟩, trivial⟩ ⟨⟨⟨⟨rfl, rfl⟩, rfl, ?_⟩, rfl⟩, ⟨rfl, rfl⟩, trivial⟩ ?_ (fun _ => rfl)
  · exact half_zero (by rw [List.length_map]; rfl)
  intro (i : Nat) (hi : i ≤ l.length)
  refine Fact.mk fun _ => ?_
  refine Branch.mk (fun h => ?_) (fun h => ?_)
  · have h := of_decide_eq_true h
    rw [List.length_map] at h
    have hi' : i < l.length := by omega
    refine Need.mk (by omega) (Index.mk (encProg l[i]) (by simp [hi']) ?_)
    refine CallN.pure _ _ rfl (hx l[i] (List.getElem_mem hi')) rfl _ rfl ?_
    refine Need.mk ⟨by omega, by rw [half_len hi]; simpa using hi'⟩ ?_
    refine Index.mk [.val (.int .i64 0), .val (.int .i64 0), .val (.int .i64 0), .val (.int .i64 0), .ro 3 [], .ro 6 []] (half_get hi') ?_
    refine Arith.fit (wrap_fit (by omega) (by omega)) ?_
    refine Gh.go ⟨i + 1, hi', (by show l.length - (i + 1) < l.length - i; omega), ⟨⟨rfl, rfl⟩, trivial⟩, ⟨⟨rfl, rfl⟩, ⟨rfl, rfl⟩, trivial⟩, ⟨⟨?_, rfl⟩, ⟨rfl, rfl⟩, trivial⟩⟩
    exact congrArg (Blk.orow none 74 6) ((congrArg (List.set _ i) (ownProg_eq l[i]).symm).trans (half_set hi'))
  · have h := of_decide_eq_false h
    rw [List.length_map] at h
    have : i = l.length := by omega
    subst this
    refine RetX.mk ?_ trivial
    exact congrArg (fun r => SV.c (.own 74 6 r)) half_full
set_option maxHeartbeats 16000000 in
theorem toProg_ok : ∀ (x : XProg), budProg x ≤ 1048576 → CallX Try.prog 27 [.a 6 (encProg x)] [] (.a 6 [.val (.int .i64 x.kind), .val (.int .i64 x.num), .val (.int .i64 x.cond.kind), .val (.int .i64 x.cond.num), .own 71 3 (x.cond.kids.map ownExpr), .own 74 6 (x.kids.map ownProg)])
  | .mk kind num cond kids, hl => by
    simp only [budProg, budProgS_eq] at hl
    refine callX_of_vc htb hm Try.func27 rfl rfl rfl rfl (ann := fun _ => none) (gh := fun _ => false) ?_
    have hk0 := toExpr_ok' cond (by omega)
    refine CallN.pure _ _ rfl hk0 rfl _ rfl ?_
    have hk1 := toProgS_all kids (by have := budS_len budProg kids; omega) fun x hx => toProg_ok x (by have := budS_mem budProg hx; omega)
    rw [← encProgS_map] at hk1
    refine CallN.pure _ _ rfl hk1 rfl _ rfl ?_
    exact RetX.mk rfl trivial
  termination_by x => SizeOf.sizeOf x
  decreasing_by
    have := List.sizeOf_lt_of_mem hx
    simp only [XProg.mk.sizeOf_spec]
    omega
theorem toProg_ok' (x : XProg) (hl : budProg x ≤ 1048576) : CallX Try.prog 27 [.a 6 [.val (.int .i64 x.kind), .val (.int .i64 x.num), .val (.int .i64 x.cond.kind), .val (.int .i64 x.cond.num), .ro 3 (x.cond.kids.map encExpr), .ro 6 (x.kids.map encProg)]] [] (.a 6 [.val (.int .i64 x.kind), .val (.int .i64 x.num), .val (.int .i64 x.cond.kind), .val (.int .i64 x.cond.num), .own 71 3 (x.cond.kids.map ownExpr), .own 74 6 (x.kids.map ownProg)]) := by
  have h := toProg_ok x hl
  rw [encProg_eq] at h
  exact h
set_option maxHeartbeats 16000000 in
theorem toProgS_ok (l : List XProg) (hl : budS budProg l ≤ 1048576) : CallX Try.prog 72 [.c (.ro 6 (l.map encProg))] [] (.c (.own 74 6 (l.map ownProg))) := toProgS_all l (by have := budS_len budProg l; omega) fun x hx => toProg_ok x (by have := budS_mem budProg hx; omega)
set_option maxHeartbeats 16000000 in
theorem toSig_ok (x : XSig) (_hl : budSig x ≤ 1048576) : CallX Try.prog 7 [.a 2 (encSig x)] [] (.a 2 (encSig x)) := by
  refine callX_of_vc htb hm Try.func7 rfl rfl rfl rfl (ann := fun _ => none) (gh := fun _ => false) ?_
  exact RetX.mk rfl trivial
set_option maxHeartbeats 16000000 in
theorem toWorld_ok (x : XWorld) (hl : budWorld x ≤ 1048576) : CallX Try.prog 15 [.a 2 (encWorld x)] [] (.a 2 (ownWorld x)) := by
  simp only [budWorld] at hl
  refine callX_of_vc htb hm Try.func15 rfl rfl rfl rfl (ann := fun _ => none) (gh := fun _ => false) ?_
  have hk0 := toInt64S_ok x.atoms (by omega)
  refine CallN.pure _ _ rfl hk0 rfl _ rfl ?_
  have hk1 := toInt64SS_ok x.acts (by omega)
  refine CallN.pure _ _ rfl hk1 rfl _ rfl ?_
  exact RetX.mk rfl trivial
end Go.Proofs.Ytbbaadkgmdkjdaa
