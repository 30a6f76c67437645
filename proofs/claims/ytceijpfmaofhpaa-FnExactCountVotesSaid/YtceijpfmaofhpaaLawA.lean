/- The program's CountVotes returns what the reference's returns, for every slice of votes. No conditions. -/
import Derived.Test.YtceijpfmaofhpaaTb
import Derived.Test.YtceijpfmaofhpaaEngS
import Derived.Test.YtceijpfmaofhpaaRows
namespace Go.Proofs.Ytceijpfmaofhpaa
open Go Go.KA Go.Proofs

theorem hm : Try.prog.follows .mixedOrders = true := by kernel_rfl
theorem within_ok (n lo hi : Int) : CallF Try.prog 56 [.c (.val (.int .i64 n)), .c (.val (.int .i64 lo)), .c (.val (.int .i64 hi))] (.c (.val (.bool (decide (lo ≤ n) && decide (n ≤ hi))))) := by
  refine callF_of_vc htb hm Try.func56 rfl rfl rfl (ann := fun _ => none) ?_
  refine Branch.mk (fun h => ?_) (fun h => ?_)
  · refine Done.mk ?_
    rw [h]; rfl
  · refine Done.mk ?_
    rw [h]; rfl
abbrev eB (b : Bool) : List CV := [.val (.bool b)]
def cnt (l : List Bool) (i : Nat) : Nat := ((l.take i).filter id).length
theorem cnt_succ {l : List Bool} {i : Nat} {b : Bool} (h : l[i]? = some b) : cnt l (i + 1) = cnt l i + (if b then 1 else 0) := by
  unfold cnt
  rw [List.take_add_one, h, List.filter_append, List.length_append]
  cases b <;> rfl
theorem cnt_le (l : List Bool) (i : Nat) : cnt l i ≤ i := by
  unfold cnt
  exact Nat.le_trans (List.length_filter_le _ _) (by simp; omega)
abbrev inv52 (l : List Bool) : Inv where
  α := Nat
  keep := [6, 7]
  ov := fun i => [(8, .c (.val (.int .i64 (i : Int)))), (3, .c (.val (.int .i64 (cnt l i : Int))))]
  φ := fun i => i ≤ l.length
  μ := fun i => l.length - i

theorem wrap_fit {z : Int} (h1 : -9223372036854775808 ≤ z) (h2 : z ≤ 9223372036854775807) : IntKind.i64.wrap z = z := by
  simp only [IntKind.wrap, IntKind.bits, IntKind.signed, Bool.true_and]
  have : z % 2 ^ 64 = z ∨ z % 2 ^ 64 = z + 2 ^ 64 := by omega
  split <;> rename_i h
  · have h := of_decide_eq_true h; omega
  · have h := of_decide_eq_false (eq_false_of_ne_true h); omega

theorem counted_ok (l : List Bool) : CallF Try.prog 52 [.c (.ro 1 (l.map eB))] (.c (.val (.bool (decide (((l.filter id).length : Int) > 2))))) := by
  refine callF_of_vc htb hm Try.func52 rfl rfl rfl (ann := fun n => match n with | 3 => some (inv52 l) | _ => none) ?_
  refine Fact.mk fun hl => ?_
  rw [List.length_map] at hl
  refine LoopN.mk (inv := inv52 l) (0 : Nat) (Nat.zero_le _) ⟨⟨rfl, rfl⟩, ⟨rfl, rfl⟩, trivial⟩ ⟨⟨rfl, rfl⟩, ⟨rfl, rfl⟩, trivial⟩ trivial ?_
  intro (i : Nat) (hi : i ≤ l.length)
  refine Branch.mk (fun h => ?_) (fun h => ?_)
  · have h := of_decide_eq_true h
    rw [List.length_map] at h
    have hi' : i < l.length := by omega
    refine Need.mk (by omega) (Index.mk (eB l[i]) (by simp [hi']) ?_)
    have hg : l[i]? = some l[i] := List.getElem?_eq_getElem hi'
    have hc := cnt_le l i
    have hs := cnt_succ hg
    simp only [maxLen] at hl
    refine Branch.mk (fun hb => ?_) (fun hb => ?_)
    · refine Arith.fit (wrap_fit (by omega) (by omega)) (Arith.fit (wrap_fit (by omega) (by omega)) ?_)
      refine ⟨i + 1, hi', (by show l.length - (i + 1) < l.length - i; omega), ?_⟩
      rw [hb] at hs
      refine ⟨⟨⟨rfl, rfl⟩, ⟨?_, rfl⟩, trivial⟩, ⟨⟨rfl, rfl⟩, ⟨rfl, rfl⟩, trivial⟩, trivial⟩
      show _ = SV.c (.val (.int .i64 (cnt l (i + 1) : Int)))
      rw [hs]; rfl
    · refine Arith.fit (wrap_fit (by omega) (by omega)) ?_
      refine ⟨i + 1, hi', (by show l.length - (i + 1) < l.length - i; omega), ?_⟩
      rw [hb] at hs
      refine ⟨⟨⟨rfl, rfl⟩, ⟨?_, rfl⟩, trivial⟩, ⟨⟨rfl, rfl⟩, ⟨rfl, rfl⟩, trivial⟩, trivial⟩
      show _ = SV.c (.val (.int .i64 (cnt l (i + 1) : Int)))
      rw [hs]; rfl
  · refine Done.mk ?_
    have h := of_decide_eq_false h
    rw [List.length_map] at h
    have : i = l.length := by omega
    subst this
    show SV.c (.val (.bool (decide ((cnt l l.length : Int) > 2)))) = _
    unfold cnt
    rw [List.take_length]

theorem votes_ok (l : List Bool) : CallF Try.prog 51 [.c (.ro 1 (l.map eB))] (.c (.val (.bool (decide (((l.filter id).length : Int) > 2))))) := by
  refine callF_of_vc htb hm Try.func51 rfl rfl rfl (ann := fun n => match n with | 3 => some { α := Nat, keep := [0], ov := fun i => [(4, .c (.val (.int .i64 (i : Int)))), (3, .c (.val (.int .i64 (cnt l i : Int))))], φ := fun i => i ≤ l.length, μ := fun i => l.length - i } | _ => none) ?_
  refine LoopN.mk (0 : Nat) (Nat.zero_le _) ⟨⟨rfl, rfl⟩, ⟨rfl, rfl⟩, trivial⟩ ⟨⟨rfl, rfl⟩, trivial⟩ trivial ?_
  intro (i : Nat) (hi : i ≤ l.length)
  refine Fact.mk fun hl => ?_
  rw [List.length_map] at hl
  refine Branch.mk (fun h => ?_) (fun h => ?_)
  · have h := of_decide_eq_true h
    rw [List.length_map] at h
    have hi' : i < l.length := by omega
    refine Need.mk (by omega) (Index.mk (eB l[i]) (by simp [hi']) ?_)
    have hg : l[i]? = some l[i] := List.getElem?_eq_getElem hi'
    have hc := cnt_le l i
    have hs := cnt_succ hg
    simp only [maxLen] at hl
    refine Branch.mk (fun hb => ?_) (fun hb => ?_)
    · refine Arith.fit (wrap_fit (by omega) (by omega)) (Arith.fit (wrap_fit (by omega) (by omega)) ?_)
      refine ⟨i + 1, hi', (by show l.length - (i + 1) < l.length - i; omega), ?_⟩
      rw [hb] at hs
      refine ⟨⟨⟨rfl, rfl⟩, ⟨?_, rfl⟩, trivial⟩, ⟨⟨rfl, rfl⟩, trivial⟩, trivial⟩
      show _ = SV.c (.val (.int .i64 (cnt l (i + 1) : Int)))
      rw [hs]; rfl
    · refine Arith.fit (wrap_fit (by omega) (by omega)) ?_
      refine ⟨i + 1, hi', (by show l.length - (i + 1) < l.length - i; omega), ?_⟩
      rw [hb] at hs
      refine ⟨⟨⟨rfl, rfl⟩, ⟨?_, rfl⟩, trivial⟩, ⟨⟨rfl, rfl⟩, trivial⟩, trivial⟩
      show _ = SV.c (.val (.int .i64 (cnt l (i + 1) : Int)))
      rw [hs]; rfl
  · refine Done.mk ?_
    have h := of_decide_eq_false h
    rw [List.length_map] at h
    have : i = l.length := by omega
    subst this
    show SV.c (.val (.bool (decide ((cnt l l.length : Int) > 2)))) = _
    unfold cnt
    rw [List.take_length]

def cvB (l : List Bool) : Bool := if l.length = 5 then decide (((l.filter id).length : Int) > 2) else false
def cvI (l : List Bool) : Int := if l.length = 5 then 0 else 1
theorem count_ok (l : List Bool) : CallF Try.prog 11 [.c (.ro 1 (l.map eB))] (.tup [.c (.val (.bool (cvB l))), .c (.val (.int .i64 (cvI l)))]) := by
  refine callF_of_vc htb hm Try.func11 rfl rfl rfl (ann := fun _ => none) ?_
  refine Fact.mk fun hl => ?_
  refine Branch.mk (fun h => ?_) (fun h => ?_)
  · have h5 : ¬ l.length = 5 := by
      rw [List.length_map] at h
      intro e
      rw [e] at h
      exact absurd h (by decide)
    refine Done.mk ?_
    unfold cvB cvI
    rw [if_neg h5, if_neg h5]
    rfl
  · have h5 : l.length = 5 := by
      rw [List.length_map] at h
      simp only [bne_eq_false_iff_eq] at h
      omega
    refine CallN.pure _ _ rfl (counted_ok l) rfl ?_
    refine Done.mk ?_
    unfold cvB cvI
    rw [if_pos h5, if_pos h5]
    rfl
theorem spec_ok (l : List Bool) : CallF Try.prog 9 [.c (.ro 1 (l.map eB))] (.tup [.c (.val (.bool (cvB l))), .c (.val (.int .i64 (cvI l)))]) := by
  refine callF_of_vc htb hm Try.func9 rfl rfl rfl (ann := fun _ => none) ?_
  refine Fact.mk fun hl => ?_
  refine Branch.mk (fun h => ?_) (fun h => ?_)
  · have h5 : ¬ l.length = 5 := by
      rw [List.length_map] at h
      intro e
      rw [e] at h
      exact absurd h (by decide)
    refine Done.mk ?_
    unfold cvB cvI
    rw [if_neg h5, if_neg h5]
    rfl
  · have h5 : l.length = 5 := by
      rw [List.length_map] at h
      simp only [bne_eq_false_iff_eq] at h
      omega
    refine CallN.pure _ _ rfl (votes_ok l) rfl ?_
    refine Done.mk ?_
    unfold cvB cvI
    rw [if_pos h5, if_pos h5]
    rfl

def half (l : List Bool) (i : Nat) : List Bool := l.take i ++ List.replicate (l.length - i) false
theorem half_get {l : List Bool} {i j : Nat} (h : i ≤ l.length) : (half l i)[j]? = if j < i then l[j]? else if j < l.length then some false else none := by
  unfold half
  rw [List.getElem?_append, List.length_take, Nat.min_eq_left h, List.getElem?_take, List.getElem?_replicate]
  by_cases h1 : j < i
  · simp [h1]
  · simp only [h1, if_false]
    by_cases h2 : j < l.length
    · rw [if_pos (by omega), if_pos h2]
    · rw [if_neg (by omega), if_neg h2]
theorem half_len {l : List Bool} {i : Nat} (h : i ≤ l.length) : (half l i).length = l.length := by
  unfold half
  rw [List.length_append, List.length_take, List.length_replicate]
  omega
theorem half_set {l : List Bool} {i : Nat} (h : i < l.length) : (half l i).set i l[i] = half l (i + 1) := by
  apply List.ext_getElem?
  intro j
  rw [List.getElem?_set, half_get (Nat.le_of_lt h), half_get h, half_len (Nat.le_of_lt h)]
  by_cases e : i = j
  · subst e
    simp [h]
  · rw [if_neg e]
    by_cases h1 : j < i
    · rw [if_pos h1, if_pos (by omega)]
    · have h2 : ¬ j < i + 1 := by omega
      simp only [h1, h2, if_false]

theorem toBool_ok (l : List Bool) (hl : l.length ≤ 1048576) : CallF Try.prog 10 [.c (.ro 1 (l.map eB))] (.c (.ro 1 (l.map eB))) := by
  refine callF_of_vc htb hm Try.func10 rfl rfl rfl (ann := fun n => match n with | 3 => some { α := Nat, keep := [0, 3], ov := fun i => [(4, .c (.val (.int .i64 (i : Int))))], hv := fun i => [(1, .row 4 1 ((half l i).map eB))], φ := fun i => i ≤ l.length, μ := fun i => l.length - i } | _ => none) ?_
  refine Fact.mk fun _ => ?_
  refine Need.mk (by simp only [List.length_map]; omega) ?_
  refine LoopN.mk (0 : Nat) (Nat.zero_le _) ⟨⟨rfl, rfl⟩, trivial⟩ ⟨⟨rfl, rfl⟩, ⟨rfl, rfl⟩, trivial⟩ ⟨⟨rfl, rfl⟩, ⟨?_, rfl⟩, trivial⟩ ?_
  · show Blk.row 4 1 _ = Blk.row 4 1 _
    congr 1
    unfold half
    simp
    exact .inr rfl
  intro (i : Nat) (hi : i ≤ l.length)
  refine Fact.mk fun _ => ?_
  refine Branch.mk (fun h => ?_) (fun h => ?_)
  · have h := of_decide_eq_true h
    rw [List.length_map] at h
    have hi' : i < l.length := by omega
    refine Need.mk (by omega) (Index.mk (eB l[i]) (by simp [hi']) ?_)
    refine Need.mk ⟨by omega, by rw [List.length_map, half_len hi]; simpa using hi'⟩ ?_
    have hb : (half l i)[i]? = some false := by rw [half_get hi, if_neg (by omega), if_pos hi']
    refine Index.mk (eB false) (by simp [hb]) ?_
    refine Arith.fit (wrap_fit (by omega) (by omega)) ?_
    refine ⟨i + 1, hi', (by show l.length - (i + 1) < l.length - i; omega), ⟨⟨rfl, rfl⟩, trivial⟩, ⟨⟨rfl, rfl⟩, ⟨rfl, rfl⟩, trivial⟩, ⟨⟨rfl, rfl⟩, ⟨?_, rfl⟩, trivial⟩⟩
    show Blk.row 4 1 _ = Blk.row 4 1 _
    rw [← half_set hi', List.map_set]
    rfl
  · have h := of_decide_eq_false h
    rw [List.length_map] at h
    have : i = l.length := by omega
    subst this
    refine Done.mk ?_
    show SV.c (.ro 1 ((half l l.length).map eB)) = _
    unfold half
    simp

theorem eqBool_ok (l m : List Bool) : CallF Try.prog 12 [.c (.ro 1 (l.map eB)), .c (.ro 1 (m.map eB))] (.c (.val (.bool (decide (l = m))))) := by
  refine callF_of_vc htb hm Try.func12 rfl rfl rfl (ann := fun n => match n with | 4 => some { α := Nat, keep := [0, 1], ov := fun i => [(5, .c (.val (.int .i64 (i : Int))))], φ := fun i => i ≤ l.length ∧ l.length = m.length ∧ l.take i = m.take i, μ := fun i => l.length - i } | _ => none) ?_
  refine Fact.mk fun hl => Fact.mk fun hl' => ?_
  rw [List.length_map] at hl hl'
  refine Branch.mk (fun h => ?_) (fun h => ?_)
  · refine Done.mk ?_
    rw [List.length_map, List.length_map] at h
    have : l ≠ m := by
      intro e
      subst e
      simp at h
    rw [decide_eq_false this]
    rfl
  have hlm : l.length = m.length := by
    rw [List.length_map, List.length_map] at h
    simp only [bne_eq_false_iff_eq] at h
    omega
  refine LoopN.mk (0 : Nat) ⟨Nat.zero_le _, hlm, rfl⟩ ⟨⟨rfl, rfl⟩, trivial⟩ ⟨⟨rfl, rfl⟩, ⟨rfl, rfl⟩, trivial⟩ trivial ?_
  intro (i : Nat) (hi : i ≤ l.length ∧ l.length = m.length ∧ l.take i = m.take i)
  refine Fact.mk fun _ => ?_
  refine Branch.mk (fun h => ?_) (fun h => ?_)
  · have h := of_decide_eq_true h
    rw [List.length_map] at h
    have h1 : i < l.length := by omega
    have h2 : i < m.length := by omega
    refine Need.mk (by kernel_rfl) ?_
    refine Need.mk (by omega) (Index.mk (eB l[i]) (by simp [h1]) ?_)
    refine Need.mk (by omega) (Index.mk (eB m[i]) (by simp [h2]) ?_)
    refine Branch.mk (fun hb => ?_) (fun hb => ?_)
    · refine Done.mk ?_
      have : l ≠ m := by
        intro e
        subst e
        simp at hb
      rw [decide_eq_false this]
      rfl
    · refine Arith.fit (wrap_fit (by omega) (by simp only [maxLen] at hl; omega)) ?_
      refine ⟨i + 1, ⟨h1, hi.2.1, ?_⟩, (by show l.length - (i + 1) < l.length - i; omega), ⟨⟨rfl, rfl⟩, trivial⟩, ⟨⟨rfl, rfl⟩, ⟨rfl, rfl⟩, trivial⟩, trivial⟩
      have : l[i] = m[i] := by simpa using hb
      rw [List.take_add_one, List.take_add_one, hi.2.2, List.getElem?_eq_getElem h1, List.getElem?_eq_getElem h2, this]
  · have h := of_decide_eq_false h
    rw [List.length_map] at h
    have : i = l.length := by omega
    refine Done.mk ?_
    have e : l = m := by
      have := hi.2.2
      rwa [List.take_of_length_le (by omega), List.take_of_length_le (by omega)] at this
    rw [decide_eq_true e]
    rfl

theorem law_ok (l : List Bool) : CallF Try.prog 3 [.c (.ro 1 (l.map eB))] (.c (.val (.bool true))) := by
  refine callF_of_vc htb hm Try.func3 rfl rfl rfl (ann := fun _ => none) ?_
  refine Fact.mk fun _ => ?_
  refine Branch.mk (fun _ => Done.mk rfl) (fun h => ?_)
  have h := of_decide_eq_false h
  rw [List.length_map] at h
  have hl : l.length ≤ 1048576 := by omega
  refine CallN.pure _ _ rfl (toBool_ok l hl) rfl ?_
  refine CallN.pure _ _ rfl (spec_ok l) rfl ?_
  refine CallN.pure _ _ rfl (toBool_ok l hl) rfl ?_
  refine CallN.pure _ _ rfl (count_ok l) rfl ?_
  refine Branch.mk (fun h => ?_) (fun _ => ?_)
  · simp at h
  refine Branch.mk (fun h => ?_) (fun _ => ?_)
  · simp at h
  refine CallN.pure _ _ rfl (toBool_ok l hl) rfl ?_
  refine CallN.pure _ _ rfl (eqBool_ok l l) rfl ?_
  refine Branch.mk (fun h => ?_) (fun _ => Done.mk rfl)
  simp at h

theorem reads_votes (n : Nat) : Reads Try.prog 22 1 (fun l : List Bool => [.ro 1 (l.map eB)]) (fun l => sumN (l.map fun _ => 1) + 1) n := by
  cases n with
  | zero => exact Reads.zero
  | succ n => exact Reads.slice Try.underlying22 (by kernel_rfl) (by decide) (fun _ => rfl) (Reads.bool Try.underlying4)

theorem own : ownKnob Try.prog.godebug = none := by kernel_rfl
theorem laidOut : laidOutB Try.prog = true := by kernel_rfl

set_option maxRecDepth 100000 in
theorem countVotes_lifted (os : Os) (started : os.Started) (H : Type) (enc : TypeId × Value → H) :
    ReturnsInHanded {} Try.checked os 3 .any (Rows.fnExactCountVotesSpec.pre6 enc Try.prog Try.f3 Rows.fnExactCountVotesRow.domain false) (Rows.fnExactCountVotesSpec.post enc Try.prog Try.f3 false true false false) := by
  refine returnsInHanded_of_change (C := Try.checked) own started (by kernel_rfl) Try.func3
    (ChangeSpec.witness6 (enc := enc) (C := Try.checked) false ⟨#[], #[.slice none 0 0], []⟩ 8 (by kernel_rfl) (by kernel_rfl) (by kernel_rfl) (by kernel_rfl)) ?_
  intro W base args ds gs before hval0 hW _ _
  have hval : ∀ (j : Nat) t v, Try.f3.params[j]? = some t → args[j]? = some v → Value.okWide Try.prog W .any base t v := hval0
  have hW' : DataW.Whole enc Try.prog Try.f3.params.toList Rows.fnExactCountVotesSpec.vars false W args.toList ds gs before := hW
  obtain ⟨p, q, hA, hV, hpq, _, _⟩ := id hW'
  rw [Try.params3] at hA hval
  obtain ⟨v0, vs0, d0, ds0, p0, q0, hargs, rfl, rfl, h0, r0⟩ := ChangeShapes.trodAll_cons hA
  obtain ⟨rfl, rfl, rfl⟩ := ChangeShapes.trodAll_nil r0
  obtain ⟨rfl, rfl⟩ := ChangeShapes.trodVars_none hV
  obtain ⟨l, _, hd, _⟩ := Reads.arg reads_votes h0
  obtain rfl : args = #[v0] := by cases args; simp_all
  have hv := noAgg_slice Try.underlying22 (hval 0 22 v0 rfl rfl)
  refine (law_calls (vs := [v0]) (law_ok l) rfl fun j s v hs hv' => ?_).mono ?_
  · cases j with
    | zero => simp at hs hv'; subst hs hv'; exact den1 hv hd
    | succ j => simp at hs
  · rintro e W' ⟨rfl, hb⟩
    refine ⟨_, rfl, law_done laidOut rfl rfl Try.underlying4 ?_ hW' rfl hb⟩
    intro t ht
    rw [Try.params3] at ht
    simp at ht
    subst ht
    exact ⟨by kernel_rfl, of_decide_eq_true (by kernel_rfl)⟩

theorem countVotes_holds : Rows.FnExactCountVotesSaid :=
  OpenClaim.holds_of_wide 3 Try.f3 rfl rfl rfl rfl rfl rfl rfl ⟨rfl, rfl, rfl, rfl, rfl⟩ rfl rfl rfl rfl rfl (by kernel_rfl) Try.func3 (by kernel_rfl)
    (of_decide_eq_true (by kernel_rfl)) (by unfold Func.isWrapper; first | (rw [if_pos (by decide +kernel)]; kernel_rfl) | (rw [if_neg (by decide +kernel)]; exact ⟨rfl, rfl⟩))
    (fun os started H enc _ => countVotes_lifted os started H enc)
end Go.Proofs.Ytceijpfmaofhpaa
