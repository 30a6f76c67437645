/- Part of a proof engine for functions of the given program: what an operation, a loop and a call compute, symbolically. No conditions. -/
import Derived.Test.YtceijpfmaofhpaaTy
namespace Go.Proofs.Ytceijpfmaofhpaa
open Go Go.KA Go.Proofs
theorem eqInts (l m : List Int) : CallF Try.prog 201 [.c (.ro 1 (l.map eI)), .c (.ro 1 (m.map eI))] (B (eqv l m)) := by
  refine callF_of_vc htb hm Try.func201 (by kernel_rfl) rfl rfl (ann := fun n => match n with | 4 => some { α := Nat, keep := [0, 1, 12], ov := fun i => [(13, I i)], φ := fun i => i ≤ l.length ∧ l.length = m.length ∧ l.take i = m.take i, μ := fun i => l.length - i } | _ => none) ?_
  refine Fact.mk fun hl => Fact.mk fun hl' => ?_
  rw [List.length_map] at hl hl'
  refine Branch.mk (fun h => ?_) (fun h => ?_)
  · refine Done.mk ?_
    rw [List.length_map, List.length_map] at h
    refine congrArg B (eqv_ne fun e => ?_).symm
    subst e
    simp at h
  have hlm : l.length = m.length := by
    rw [List.length_map, List.length_map] at h
    simp only [bne_eq_false_iff_eq] at h
    omega
  refine Fact.mk fun _ => ?_
  refine LoopN.mk (0 : Nat) ⟨Nat.zero_le _, hlm, rfl⟩ ⟨⟨rfl, rfl⟩, trivial⟩ ⟨⟨rfl, rfl⟩, ⟨rfl, rfl⟩, ⟨rfl, rfl⟩, trivial⟩ trivial ?_
  intro (i : Nat) (hi : i ≤ l.length ∧ l.length = m.length ∧ l.take i = m.take i)
  refine Branch.mk (fun h => ?_) (fun h => ?_)
  · have h := of_decide_eq_true h
    rw [List.length_map] at h
    have h1 : i < l.length := by omega
    have h2 : i < m.length := by omega
    refine Need.mk (by kernel_rfl) ?_
    refine Need.mk (by omega) (Index.mk (eI l[i]) (by simp [h1]) ?_)
    refine Need.mk (by omega) (Index.mk (eI m[i]) (by simp [h2]) ?_)
    refine Branch.mk (fun hb => ?_) (fun hb => ?_)
    · refine Done.mk ?_
      refine congrArg B (eqv_ne fun e => ?_).symm
      subst e
      simp at hb
    · refine Arith.fit (wrap_fit (by omega) (by simp only [maxLen] at hl; omega)) ?_
      refine ⟨i + 1, ⟨h1, hi.2.1, ?_⟩, (by show l.length - (i + 1) < l.length - i; omega), ⟨⟨rfl, rfl⟩, trivial⟩, ⟨⟨rfl, rfl⟩, ⟨rfl, rfl⟩, ⟨rfl, rfl⟩, trivial⟩, trivial⟩
      have : l[i] = m[i] := by simpa using hb
      rw [List.take_add_one, List.take_add_one, hi.2.2, List.getElem?_eq_getElem h1, List.getElem?_eq_getElem h2, this]
  · have h := of_decide_eq_false h
    rw [List.length_map] at h
    have : i = l.length := by omega
    refine Done.mk ?_
    refine congrArg B (eqv_of ?_).symm
    have := hi.2.2
    rwa [List.take_of_length_le (by omega), List.take_of_length_le (by omega)] at this
theorem l00Same (l m : List Int) : CallF Try.prog 136 [.c (.ro 1 (l.map eI)), .c (.ro 1 (m.map eI))] (B (eqv l m)) := by
  refine callF_of_vc htb hm Try.func136 (by kernel_rfl) rfl rfl (ann := fun n => match n with | 4 => some { α := Nat, keep := [0, 1], ov := fun i => [(5, I i)], φ := fun i => i ≤ l.length ∧ l.length = m.length ∧ l.take i = m.take i, μ := fun i => l.length - i } | _ => none) ?_
  refine Fact.mk fun hl => Fact.mk fun hl' => ?_
  rw [List.length_map] at hl hl'
  refine Branch.mk (fun h => ?_) (fun h => ?_)
  · refine Done.mk ?_
    rw [List.length_map, List.length_map] at h
    refine congrArg B (eqv_ne fun e => ?_).symm
    subst e
    simp at h
  have hlm : l.length = m.length := by
    rw [List.length_map, List.length_map] at h
    simp only [bne_eq_false_iff_eq] at h
    omega
  refine LoopN.mk (0 : Nat) ⟨Nat.zero_le _, hlm, rfl⟩ ⟨⟨rfl, rfl⟩, trivial⟩ ⟨⟨rfl, rfl⟩, ⟨rfl, rfl⟩, trivial⟩ trivial ?_
  intro (i : Nat) (hi : i ≤ l.length ∧ l.length = m.length ∧ l.take i = m.take i)
  refine Fact.mk fun _ => ?_
  refine Branch.mk (fun h => ?_) (fun h => ?_)
  · have h := of_decide_eq_true h
    rw [List.length_map] at h
    have h1 : i < l.length := by omega
    have h2 : i < m.length := by omega
    refine Need.mk (by kernel_rfl) ?_
    refine Need.mk (by omega) (Index.mk (eI l[i]) (by simp [h1]) ?_)
    refine Need.mk (by omega) (Index.mk (eI m[i]) (by simp [h2]) ?_)
    refine Branch.mk (fun hb => ?_) (fun hb => ?_)
    · refine Done.mk ?_
      refine congrArg B (eqv_ne fun e => ?_).symm
      subst e
      simp at hb
    · refine Arith.fit (wrap_fit (by omega) (by simp only [maxLen] at hl; omega)) ?_
      refine ⟨i + 1, ⟨h1, hi.2.1, ?_⟩, (by show l.length - (i + 1) < l.length - i; omega), ⟨⟨rfl, rfl⟩, trivial⟩, ⟨⟨rfl, rfl⟩, ⟨rfl, rfl⟩, trivial⟩, trivial⟩
      have : l[i] = m[i] := by simpa using hb
      rw [List.take_add_one, List.take_add_one, hi.2.2, List.getElem?_eq_getElem h1, List.getElem?_eq_getElem h2, this]
  · have h := of_decide_eq_false h
    rw [List.length_map] at h
    have : i = l.length := by omega
    refine Done.mk ?_
    refine congrArg B (eqv_of ?_).symm
    have := hi.2.2
    rwa [List.take_of_length_le (by omega), List.take_of_length_le (by omega)] at this
theorem eqFuncServer (l m : List XServer) {k : Nat} (hx : ∀ x ∈ l, ∀ y, CallF Try.prog k [.a 3 (encServer x), .a 3 (encServer y)] (B (eqv x y))) : CallF Try.prog 70 [.c (.ro 3 (l.map encServer)), .c (.ro 3 (m.map encServer)), .clo k []] (B (eqv l m)) := by
  refine callF_of_vc htb hm Try.func70 (by kernel_rfl) rfl rfl (ann := fun n => match n with | 4 => some { α := Nat, keep := [0, 1, 2, 15, 16], ov := fun i => [(17, I i)], φ := fun i => i ≤ l.length ∧ l.length = m.length ∧ l.take i = m.take i, μ := fun i => l.length - i } | _ => none) ?_
  refine Fact.mk fun hl => Fact.mk fun hl' => ?_
  rw [List.length_map] at hl hl'
  refine Branch.mk (fun h => ?_) (fun h => ?_)
  · refine Done.mk ?_
    rw [List.length_map, List.length_map] at h
    refine congrArg B (eqv_ne fun e => ?_).symm
    subst e
    simp at h
  have hlm : l.length = m.length := by
    rw [List.length_map, List.length_map] at h
    simp only [bne_eq_false_iff_eq] at h
    omega
  refine Fact.mk fun _ => ?_
  refine LoopN.mk (0 : Nat) ⟨Nat.zero_le _, hlm, rfl⟩ ⟨⟨rfl, rfl⟩, trivial⟩ ⟨⟨rfl, rfl⟩, ⟨rfl, rfl⟩, ⟨rfl, rfl⟩, ⟨rfl, rfl⟩, ⟨rfl, rfl⟩, trivial⟩ trivial ?_
  intro (i : Nat) (hi : i ≤ l.length ∧ l.length = m.length ∧ l.take i = m.take i)
  refine Branch.mk (fun h => ?_) (fun h => ?_)
  · have h := of_decide_eq_true h
    rw [List.length_map] at h
    have h1 : i < l.length := by omega
    have h2 : i < m.length := by omega
    refine Need.mk (by omega) (Index.mk (encServer l[i]) (by simp [h1]) ?_)
    refine Need.mk (by omega) (Index.mk (encServer m[i]) (by simp [h2]) ?_)
    refine CallN.pure _ _ rfl (hx l[i] (List.getElem_mem h1) m[i]) rfl ?_
    refine Branch.mk (fun hb => ?_) (fun hb => ?_)
    · refine Done.mk ?_
      refine congrArg B (eqv_ne fun e => ?_).symm
      subst e
      simp at hb
    · refine Arith.fit (wrap_fit (by omega) (by simp only [maxLen] at hl; omega)) ?_
      refine ⟨i + 1, ⟨h1, hi.2.1, ?_⟩, (by show l.length - (i + 1) < l.length - i; omega), ⟨⟨rfl, rfl⟩, trivial⟩, ⟨⟨rfl, rfl⟩, ⟨rfl, rfl⟩, ⟨rfl, rfl⟩, ⟨rfl, rfl⟩, ⟨rfl, rfl⟩, trivial⟩, trivial⟩
      have : l[i] = m[i] := by simpa using hb
      rw [List.take_add_one, List.take_add_one, hi.2.2, List.getElem?_eq_getElem h1, List.getElem?_eq_getElem h2, this]
  · have h := of_decide_eq_false h
    rw [List.length_map] at h
    have : i = l.length := by omega
    refine Done.mk ?_
    refine congrArg B (eqv_of ?_).symm
    have := hi.2.2
    rwa [List.take_of_length_le (by omega), List.take_of_length_le (by omega)] at this
theorem eqFuncNote (l m : List XNote) {k : Nat} (hx : ∀ x ∈ l, ∀ y, CallF Try.prog k [.a 7 (encNote x), .a 7 (encNote y)] (B (eqv x y))) : CallF Try.prog 72 [.c (.ro 7 (l.map encNote)), .c (.ro 7 (m.map encNote)), .clo k []] (B (eqv l m)) := by
  refine callF_of_vc htb hm Try.func72 (by kernel_rfl) rfl rfl (ann := fun n => match n with | 4 => some { α := Nat, keep := [0, 1, 2, 15, 16], ov := fun i => [(17, I i)], φ := fun i => i ≤ l.length ∧ l.length = m.length ∧ l.take i = m.take i, μ := fun i => l.length - i } | _ => none) ?_
  refine Fact.mk fun hl => Fact.mk fun hl' => ?_
  rw [List.length_map] at hl hl'
  refine Branch.mk (fun h => ?_) (fun h => ?_)
  · refine Done.mk ?_
    rw [List.length_map, List.length_map] at h
    refine congrArg B (eqv_ne fun e => ?_).symm
    subst e
    simp at h
  have hlm : l.length = m.length := by
    rw [List.length_map, List.length_map] at h
    simp only [bne_eq_false_iff_eq] at h
    omega
  refine Fact.mk fun _ => ?_
  refine LoopN.mk (0 : Nat) ⟨Nat.zero_le _, hlm, rfl⟩ ⟨⟨rfl, rfl⟩, trivial⟩ ⟨⟨rfl, rfl⟩, ⟨rfl, rfl⟩, ⟨rfl, rfl⟩, ⟨rfl, rfl⟩, ⟨rfl, rfl⟩, trivial⟩ trivial ?_
  intro (i : Nat) (hi : i ≤ l.length ∧ l.length = m.length ∧ l.take i = m.take i)
  refine Branch.mk (fun h => ?_) (fun h => ?_)
  · have h := of_decide_eq_true h
    rw [List.length_map] at h
    have h1 : i < l.length := by omega
    have h2 : i < m.length := by omega
    refine Need.mk (by omega) (Index.mk (encNote l[i]) (by simp [h1]) ?_)
    refine Need.mk (by omega) (Index.mk (encNote m[i]) (by simp [h2]) ?_)
    refine CallN.pure _ _ rfl (hx l[i] (List.getElem_mem h1) m[i]) rfl ?_
    refine Branch.mk (fun hb => ?_) (fun hb => ?_)
    · refine Done.mk ?_
      refine congrArg B (eqv_ne fun e => ?_).symm
      subst e
      simp at hb
    · refine Arith.fit (wrap_fit (by omega) (by simp only [maxLen] at hl; omega)) ?_
      refine ⟨i + 1, ⟨h1, hi.2.1, ?_⟩, (by show l.length - (i + 1) < l.length - i; omega), ⟨⟨rfl, rfl⟩, trivial⟩, ⟨⟨rfl, rfl⟩, ⟨rfl, rfl⟩, ⟨rfl, rfl⟩, ⟨rfl, rfl⟩, ⟨rfl, rfl⟩, trivial⟩, trivial⟩
      have : l[i] = m[i] := by simpa using hb
      rw [List.take_add_one, List.take_add_one, hi.2.2, List.getElem?_eq_getElem h1, List.getElem?_eq_getElem h2, this]
  · have h := of_decide_eq_false h
    rw [List.length_map] at h
    have : i = l.length := by omega
    refine Done.mk ?_
    refine congrArg B (eqv_of ?_).symm
    have := hi.2.2
    rwa [List.take_of_length_le (by omega), List.take_of_length_le (by omega)] at this
theorem eqFuncPacket (l m : List XPacket) {k : Nat} (hx : ∀ x ∈ l, ∀ y, CallF Try.prog k [.a 8 (encPacket x), .a 8 (encPacket y)] (B (eqv x y))) : CallF Try.prog 74 [.c (.ro 8 (l.map encPacket)), .c (.ro 8 (m.map encPacket)), .clo k []] (B (eqv l m)) := by
  refine callF_of_vc htb hm Try.func74 (by kernel_rfl) rfl rfl (ann := fun n => match n with | 4 => some { α := Nat, keep := [0, 1, 2, 15, 16], ov := fun i => [(17, I i)], φ := fun i => i ≤ l.length ∧ l.length = m.length ∧ l.take i = m.take i, μ := fun i => l.length - i } | _ => none) ?_
  refine Fact.mk fun hl => Fact.mk fun hl' => ?_
  rw [List.length_map] at hl hl'
  refine Branch.mk (fun h => ?_) (fun h => ?_)
  · refine Done.mk ?_
    rw [List.length_map, List.length_map] at h
    refine congrArg B (eqv_ne fun e => ?_).symm
    subst e
    simp at h
  have hlm : l.length = m.length := by
    rw [List.length_map, List.length_map] at h
    simp only [bne_eq_false_iff_eq] at h
    omega
  refine Fact.mk fun _ => ?_
  refine LoopN.mk (0 : Nat) ⟨Nat.zero_le _, hlm, rfl⟩ ⟨⟨rfl, rfl⟩, trivial⟩ ⟨⟨rfl, rfl⟩, ⟨rfl, rfl⟩, ⟨rfl, rfl⟩, ⟨rfl, rfl⟩, ⟨rfl, rfl⟩, trivial⟩ trivial ?_
  intro (i : Nat) (hi : i ≤ l.length ∧ l.length = m.length ∧ l.take i = m.take i)
  refine Branch.mk (fun h => ?_) (fun h => ?_)
  · have h := of_decide_eq_true h
    rw [List.length_map] at h
    have h1 : i < l.length := by omega
    have h2 : i < m.length := by omega
    refine Need.mk (by omega) (Index.mk (encPacket l[i]) (by simp [h1]) ?_)
    refine Need.mk (by omega) (Index.mk (encPacket m[i]) (by simp [h2]) ?_)
    refine CallN.pure _ _ rfl (hx l[i] (List.getElem_mem h1) m[i]) rfl ?_
    refine Branch.mk (fun hb => ?_) (fun hb => ?_)
    · refine Done.mk ?_
      refine congrArg B (eqv_ne fun e => ?_).symm
      subst e
      simp at hb
    · refine Arith.fit (wrap_fit (by omega) (by simp only [maxLen] at hl; omega)) ?_
      refine ⟨i + 1, ⟨h1, hi.2.1, ?_⟩, (by show l.length - (i + 1) < l.length - i; omega), ⟨⟨rfl, rfl⟩, trivial⟩, ⟨⟨rfl, rfl⟩, ⟨rfl, rfl⟩, ⟨rfl, rfl⟩, ⟨rfl, rfl⟩, ⟨rfl, rfl⟩, trivial⟩, trivial⟩
      have : l[i] = m[i] := by simpa using hb
      rw [List.take_add_one, List.take_add_one, hi.2.2, List.getElem?_eq_getElem h1, List.getElem?_eq_getElem h2, this]
  · have h := of_decide_eq_false h
    rw [List.length_map] at h
    have : i = l.length := by omega
    refine Done.mk ?_
    refine congrArg B (eqv_of ?_).symm
    have := hi.2.2
    rwa [List.take_of_length_le (by omega), List.take_of_length_le (by omega)] at this
theorem eqFuncClaim (l m : List XClaim) {k : Nat} (hx : ∀ x ∈ l, ∀ y, CallF Try.prog k [.a 9 (encClaim x), .a 9 (encClaim y)] (B (eqv x y))) : CallF Try.prog 229 [.c (.ro 9 (l.map encClaim)), .c (.ro 9 (m.map encClaim)), .clo k []] (B (eqv l m)) := by
  refine callF_of_vc htb hm Try.func229 (by kernel_rfl) rfl rfl (ann := fun n => match n with | 4 => some { α := Nat, keep := [0, 1, 2, 15, 16], ov := fun i => [(17, I i)], φ := fun i => i ≤ l.length ∧ l.length = m.length ∧ l.take i = m.take i, μ := fun i => l.length - i } | _ => none) ?_
  refine Fact.mk fun hl => Fact.mk fun hl' => ?_
  rw [List.length_map] at hl hl'
  refine Branch.mk (fun h => ?_) (fun h => ?_)
  · refine Done.mk ?_
    rw [List.length_map, List.length_map] at h
    refine congrArg B (eqv_ne fun e => ?_).symm
    subst e
    simp at h
  have hlm : l.length = m.length := by
    rw [List.length_map, List.length_map] at h
    simp only [bne_eq_false_iff_eq] at h
    omega
  refine Fact.mk fun _ => ?_
  refine LoopN.mk (0 : Nat) ⟨Nat.zero_le _, hlm, rfl⟩ ⟨⟨rfl, rfl⟩, trivial⟩ ⟨⟨rfl, rfl⟩, ⟨rfl, rfl⟩, ⟨rfl, rfl⟩, ⟨rfl, rfl⟩, ⟨rfl, rfl⟩, trivial⟩ trivial ?_
  intro (i : Nat) (hi : i ≤ l.length ∧ l.length = m.length ∧ l.take i = m.take i)
  refine Branch.mk (fun h => ?_) (fun h => ?_)
  · have h := of_decide_eq_true h
    rw [List.length_map] at h
    have h1 : i < l.length := by omega
    have h2 : i < m.length := by omega
    refine Need.mk (by omega) (Index.mk (encClaim l[i]) (by simp [h1]) ?_)
    refine Need.mk (by omega) (Index.mk (encClaim m[i]) (by simp [h2]) ?_)
    refine CallN.pure _ _ rfl (hx l[i] (List.getElem_mem h1) m[i]) rfl ?_
    refine Branch.mk (fun hb => ?_) (fun hb => ?_)
    · refine Done.mk ?_
      refine congrArg B (eqv_ne fun e => ?_).symm
      subst e
      simp at hb
    · refine Arith.fit (wrap_fit (by omega) (by simp only [maxLen] at hl; omega)) ?_
      refine ⟨i + 1, ⟨h1, hi.2.1, ?_⟩, (by show l.length - (i + 1) < l.length - i; omega), ⟨⟨rfl, rfl⟩, trivial⟩, ⟨⟨rfl, rfl⟩, ⟨rfl, rfl⟩, ⟨rfl, rfl⟩, ⟨rfl, rfl⟩, ⟨rfl, rfl⟩, trivial⟩, trivial⟩
      have : l[i] = m[i] := by simpa using hb
      rw [List.take_add_one, List.take_add_one, hi.2.2, List.getElem?_eq_getElem h1, List.getElem?_eq_getElem h2, this]
  · have h := of_decide_eq_false h
    rw [List.length_map] at h
    have : i = l.length := by omega
    refine Done.mk ?_
    refine congrArg B (eqv_of ?_).symm
    have := hi.2.2
    rwa [List.take_of_length_le (by omega), List.take_of_length_le (by omega)] at this
theorem eqFuncProofStep (l m : List XProofStep) {k : Nat} (hx : ∀ x ∈ l, ∀ y, CallF Try.prog k [.a 5 (encProofStep x), .a 5 (encProofStep y)] (B (eqv x y))) : CallF Try.prog 238 [.c (.ro 5 (l.map encProofStep)), .c (.ro 5 (m.map encProofStep)), .clo k []] (B (eqv l m)) := by
  refine callF_of_vc htb hm Try.func238 (by kernel_rfl) rfl rfl (ann := fun n => match n with | 4 => some { α := Nat, keep := [0, 1, 2, 15, 16], ov := fun i => [(17, I i)], φ := fun i => i ≤ l.length ∧ l.length = m.length ∧ l.take i = m.take i, μ := fun i => l.length - i } | _ => none) ?_
  refine Fact.mk fun hl => Fact.mk fun hl' => ?_
  rw [List.length_map] at hl hl'
  refine Branch.mk (fun h => ?_) (fun h => ?_)
  · refine Done.mk ?_
    rw [List.length_map, List.length_map] at h
    refine congrArg B (eqv_ne fun e => ?_).symm
    subst e
    simp at h
  have hlm : l.length = m.length := by
    rw [List.length_map, List.length_map] at h
    simp only [bne_eq_false_iff_eq] at h
    omega
  refine Fact.mk fun _ => ?_
  refine LoopN.mk (0 : Nat) ⟨Nat.zero_le _, hlm, rfl⟩ ⟨⟨rfl, rfl⟩, trivial⟩ ⟨⟨rfl, rfl⟩, ⟨rfl, rfl⟩, ⟨rfl, rfl⟩, ⟨rfl, rfl⟩, ⟨rfl, rfl⟩, trivial⟩ trivial ?_
  intro (i : Nat) (hi : i ≤ l.length ∧ l.length = m.length ∧ l.take i = m.take i)
  refine Branch.mk (fun h => ?_) (fun h => ?_)
  · have h := of_decide_eq_true h
    rw [List.length_map] at h
    have h1 : i < l.length := by omega
    have h2 : i < m.length := by omega
    refine Need.mk (by omega) (Index.mk (encProofStep l[i]) (by simp [h1]) ?_)
    refine Need.mk (by omega) (Index.mk (encProofStep m[i]) (by simp [h2]) ?_)
    refine CallN.pure _ _ rfl (hx l[i] (List.getElem_mem h1) m[i]) rfl ?_
    refine Branch.mk (fun hb => ?_) (fun hb => ?_)
    · refine Done.mk ?_
      refine congrArg B (eqv_ne fun e => ?_).symm
      subst e
      simp at hb
    · refine Arith.fit (wrap_fit (by omega) (by simp only [maxLen] at hl; omega)) ?_
      refine ⟨i + 1, ⟨h1, hi.2.1, ?_⟩, (by show l.length - (i + 1) < l.length - i; omega), ⟨⟨rfl, rfl⟩, trivial⟩, ⟨⟨rfl, rfl⟩, ⟨rfl, rfl⟩, ⟨rfl, rfl⟩, ⟨rfl, rfl⟩, ⟨rfl, rfl⟩, trivial⟩, trivial⟩
      have : l[i] = m[i] := by simpa using hb
      rw [List.take_add_one, List.take_add_one, hi.2.2, List.getElem?_eq_getElem h1, List.getElem?_eq_getElem h2, this]
  · have h := of_decide_eq_false h
    rw [List.length_map] at h
    have : i = l.length := by omega
    refine Done.mk ?_
    refine congrArg B (eqv_of ?_).symm
    have := hi.2.2
    rwa [List.take_of_length_le (by omega), List.take_of_length_le (by omega)] at this
theorem eqFuncExpr (l m : List XExpr) {k : Nat} (hx : ∀ x ∈ l, ∀ y, CallF Try.prog k [.a 3 (encExpr x), .a 3 (encExpr y)] (B (eqv x y))) : CallF Try.prog 244 [.c (.ro 3 (l.map encExpr)), .c (.ro 3 (m.map encExpr)), .clo k []] (B (eqv l m)) := by
  refine callF_of_vc htb hm Try.func244 (by kernel_rfl) rfl rfl (ann := fun n => match n with | 4 => some { α := Nat, keep := [0, 1, 2, 15, 16], ov := fun i => [(17, I i)], φ := fun i => i ≤ l.length ∧ l.length = m.length ∧ l.take i = m.take i, μ := fun i => l.length - i } | _ => none) ?_
  refine Fact.mk fun hl => Fact.mk fun hl' => ?_
  rw [List.length_map] at hl hl'
  refine Branch.mk (fun h => ?_) (fun h => ?_)
  · refine Done.mk ?_
    rw [List.length_map, List.length_map] at h
    refine congrArg B (eqv_ne fun e => ?_).symm
    subst e
    simp at h
  have hlm : l.length = m.length := by
    rw [List.length_map, List.length_map] at h
    simp only [bne_eq_false_iff_eq] at h
    omega
  refine Fact.mk fun _ => ?_
  refine LoopN.mk (0 : Nat) ⟨Nat.zero_le _, hlm, rfl⟩ ⟨⟨rfl, rfl⟩, trivial⟩ ⟨⟨rfl, rfl⟩, ⟨rfl, rfl⟩, ⟨rfl, rfl⟩, ⟨rfl, rfl⟩, ⟨rfl, rfl⟩, trivial⟩ trivial ?_
  intro (i : Nat) (hi : i ≤ l.length ∧ l.length = m.length ∧ l.take i = m.take i)
  refine Branch.mk (fun h => ?_) (fun h => ?_)
  · have h := of_decide_eq_true h
    rw [List.length_map] at h
    have h1 : i < l.length := by omega
    have h2 : i < m.length := by omega
    refine Need.mk (by omega) (Index.mk (encExpr l[i]) (by simp [h1]) ?_)
    refine Need.mk (by omega) (Index.mk (encExpr m[i]) (by simp [h2]) ?_)
    refine CallN.pure _ _ rfl (hx l[i] (List.getElem_mem h1) m[i]) rfl ?_
    refine Branch.mk (fun hb => ?_) (fun hb => ?_)
    · refine Done.mk ?_
      refine congrArg B (eqv_ne fun e => ?_).symm
      subst e
      simp at hb
    · refine Arith.fit (wrap_fit (by omega) (by simp only [maxLen] at hl; omega)) ?_
      refine ⟨i + 1, ⟨h1, hi.2.1, ?_⟩, (by show l.length - (i + 1) < l.length - i; omega), ⟨⟨rfl, rfl⟩, trivial⟩, ⟨⟨rfl, rfl⟩, ⟨rfl, rfl⟩, ⟨rfl, rfl⟩, ⟨rfl, rfl⟩, ⟨rfl, rfl⟩, trivial⟩, trivial⟩
      have : l[i] = m[i] := by simpa using hb
      rw [List.take_add_one, List.take_add_one, hi.2.2, List.getElem?_eq_getElem h1, List.getElem?_eq_getElem h2, this]
  · have h := of_decide_eq_false h
    rw [List.length_map] at h
    have : i = l.length := by omega
    refine Done.mk ?_
    refine congrArg B (eqv_of ?_).symm
    have := hi.2.2
    rwa [List.take_of_length_le (by omega), List.take_of_length_le (by omega)] at this
theorem eqv_sym {α β : Type} {x y : α} {a b : β} (h : x = y ↔ a = b) : eqv a b = eqv x y := by
  by_cases hx : x = y
  · rw [eqv_of hx, eqv_of (h.1 hx)]
  · rw [eqv_ne hx, eqv_ne fun e => hx (h.2 e)]
theorem sigE {p q : XSig} (h : (p.tests == q.tests && p.actions == q.actions) = true) : p = q := by
  cases p; cases q; simp_all
theorem SameExpr_ok : ∀ (x y : XExpr), CallF Try.prog 237 [.a 3 (encExpr x), .a 3 (encExpr y)] (B (eqv x y))
  | .mk kind num kids, .mk kind' num' kids' => by
    refine callF_of_vc htb hm Try.func237 (by kernel_rfl) rfl rfl (ann := fun _ => none) ?_
    have hk := eqFuncExpr kids kids' fun x hx => SameExpr_ok x
    rw [← encExprS_map, ← encExprS_map] at hk
    refine Branch.mk (fun h => ?_) (fun h => ?_)
    case refine_2 =>
      refine Done.mk ?_
      refine congrArg B (eqv_ne fun e => ?_).symm
      cases e
      simp at h
    have e0 : kind = kind' := by simpa using h
    refine Branch.mk (fun h => ?_) (fun h => ?_)
    case refine_2 =>
      refine Done.mk ?_
      refine congrArg B (eqv_ne fun e => ?_).symm
      cases e
      simp at h
    have e1 : num = num' := by simpa using h
    refine CallN.pure _ _ rfl hk rfl ?_
    refine Done.mk ?_
    refine congrArg B (eqv_sym ⟨fun e => by cases e; rfl, fun e => by rw [e0, e1, e]⟩)
  termination_by x => SizeOf.sizeOf x
  decreasing_by
    have := List.sizeOf_lt_of_mem hx
    simp only [XExpr.mk.sizeOf_spec]
    omega
theorem SameExpr_ok' (x y : XExpr) : CallF Try.prog 237 [.a 3 [.val (.int .i64 x.kind), .val (.int .i64 x.num), .ro 3 (x.kids.map encExpr)], .a 3 [.val (.int .i64 y.kind), .val (.int .i64 y.num), .ro 3 (y.kids.map encExpr)]] (B (eqv x y)) := by
  have h := SameExpr_ok x y
  rw [encExpr_eq, encExpr_eq] at h
  exact h
theorem sameExprs_ok (l m : List XExpr) : CallF Try.prog 245 [.c (.ro 3 (l.map encExpr)), .c (.ro 3 (m.map encExpr))] (B (eqv l m)) := by
  refine callF_of_vc htb hm Try.func245 (by kernel_rfl) rfl rfl (ann := fun _ => none) ?_
  refine CallN.pure _ _ rfl (eqFuncExpr l m fun x _ y => SameExpr_ok x y) rfl ?_
  exact Done.mk rfl
theorem sameStep_ok (x y : XProofStep) : CallF Try.prog 239 [.a 5 (encProofStep x), .a 5 (encProofStep y)] (B (eqv x y)) := by
  refine callF_of_vc htb hm Try.func239 (by kernel_rfl) rfl rfl (ann := fun _ => none) ?_
  refine Branch.mk (fun h => ?_) (fun h => ?_)
  case refine_2 =>
    refine Done.mk ?_
    refine congrArg B (eqv_ne fun e => ?_).symm
    subst e
    simp at h
  have e0 : x.use = y.use := by simpa using h
  refine Branch.mk (fun h => ?_) (fun h => ?_)
  case refine_2 =>
    refine Done.mk ?_
    refine congrArg B (eqv_ne fun e => ?_).symm
    subst e
    simp at h
  have e1 : x.back = y.back := by simpa using h
  refine CallN.pure _ _ rfl (eqInts x.path y.path) rfl ?_
  refine Branch.mk (fun h => ?_) (fun h => ?_)
  case refine_2 =>
    refine Done.mk ?_
    refine congrArg B (eqv_ne fun e => ?_).symm
    subst e
    simp at h
  have e2 : x.path = y.path := by simpa using h
  refine CallN.pure _ _ rfl (sameExprs_ok x.tests y.tests) rfl ?_
  refine Branch.mk (fun h => ?_) (fun h => ?_)
  case refine_2 =>
    refine Done.mk ?_
    refine congrArg B (eqv_ne fun e => ?_).symm
    subst e
    simp at h
  have e3 : x.tests = y.tests := by simpa using h
  refine CallN.pure _ _ rfl (sameExprs_ok x.acts y.acts) rfl ?_
  refine Done.mk ?_
  refine congrArg B (eqv_sym ⟨fun e => by rw [e], fun e => ?_⟩)
  cases x; cases y; simp_all
theorem sameClaim_ok (x y : XClaim) : CallF Try.prog 230 [.a 9 (encClaim x), .a 9 (encClaim y)] (B (eqv x y)) := by
  refine callF_of_vc htb hm Try.func230 (by kernel_rfl) rfl rfl (ann := fun _ => none) ?_
  refine CallN.pure _ _ rfl (SameExpr_ok' x.left y.left) rfl ?_
  refine Branch.mk (fun h => ?_) (fun h => ?_)
  case refine_2 =>
    refine Done.mk ?_
    refine congrArg B (eqv_ne fun e => ?_).symm
    subst e
    simp at h
  have e0 : x.left = y.left := by simpa using h
  refine CallN.pure _ _ rfl (SameExpr_ok' x.right y.right) rfl ?_
  refine Branch.mk (fun h => ?_) (fun h => ?_)
  case refine_2 =>
    refine Done.mk ?_
    refine congrArg B (eqv_ne fun e => ?_).symm
    subst e
    simp at h
  have e1 : x.right = y.right := by simpa using h
  refine Branch.mk (fun h => ?_) (fun h => ?_)
  case refine_2 =>
    refine Done.mk ?_
    refine congrArg B (eqv_ne fun e => ?_).symm
    subst e
    simp at h
  have e2 : x.rule = y.rule := by simpa using h
  refine Branch.mk (fun h => ?_) (fun h => ?_)
  case refine_2 =>
    refine Done.mk ?_
    refine congrArg B (eqv_ne fun e => ?_).symm
    subst e
    simp at h
  have e3 : x.ref = y.ref := by simpa using h
  refine CallN.pure _ _ rfl (eqFuncProofStep x.steps y.steps fun x _ y => sameStep_ok x y) rfl ?_
  refine Done.mk ?_
  refine congrArg B (eqv_sym ⟨fun e => by rw [e], fun e => ?_⟩)
  cases x; cases y; simp_all
theorem SameProof_ok (x y : XProof) : CallF Try.prog 202 [.a 3 (encProof x), .a 3 (encProof y)] (B (eqv x y)) := by
  refine callF_of_vc htb hm Try.func202 (by kernel_rfl) rfl rfl (ann := fun _ => none) ?_
  refine Branch.mk (fun h => ?_) (fun h => ?_)
  case refine_2 =>
    refine Done.mk ?_
    refine congrArg B (eqv_ne fun e => ?_).symm
    subst e
    simp at h
  have e0 : x.sig = y.sig := sigE h
  refine CallN.pure _ _ rfl (eqFuncClaim x.claims y.claims fun x _ y => sameClaim_ok x y) rfl ?_
  refine Done.mk ?_
  refine congrArg B (eqv_sym ⟨fun e => by rw [e], fun e => ?_⟩)
  cases x; cases y; simp_all
theorem sameEntry_ok (x y : XEntry) : CallF Try.prog 140 [.a 5 (encEntry x), .a 5 (encEntry y)] (B (eqv x y)) := by
  refine callF_of_vc htb hm Try.func140 (by kernel_rfl) rfl rfl (ann := fun _ => none) ?_
  refine Branch.mk (fun h => ?_) (fun h => ?_)
  case refine_2 =>
    refine Done.mk ?_
    refine congrArg B (eqv_ne fun e => ?_).symm
    subst e
    simp at h
  have e0 : x.id = y.id := by simpa using h
  refine CallN.pure _ _ rfl (eqInts x.rests y.rests) rfl ?_
  refine Branch.mk (fun h => ?_) (fun h => ?_)
  case refine_2 =>
    refine Done.mk ?_
    refine congrArg B (eqv_ne fun e => ?_).symm
    subst e
    simp at h
  have e1 : x.rests = y.rests := by simpa using h
  refine CallN.pure _ _ rfl (SameProof_ok x.proof y.proof) rfl ?_
  refine Done.mk ?_
  refine congrArg B (eqv_sym ⟨fun e => by rw [e], fun e => ?_⟩)
  cases x; cases y; simp_all
theorem sameNote_ok (x y : XNote) : CallF Try.prog 73 [.a 7 (encNote x), .a 7 (encNote y)] (B (eqv x y)) := by
  refine callF_of_vc htb hm Try.func73 (by kernel_rfl) rfl rfl (ann := fun _ => none) ?_
  refine Branch.mk (fun h => ?_) (fun h => ?_)
  case refine_2 =>
    refine Done.mk ?_
    refine congrArg B (eqv_ne fun e => ?_).symm
    subst e
    simp at h
  have e0 : x.revoke = y.revoke := by simpa using h
  refine Branch.mk (fun h => ?_) (fun h => ?_)
  case refine_2 =>
    refine Done.mk ?_
    refine congrArg B (eqv_ne fun e => ?_).symm
    subst e
    simp at h
  have e1 : x.id = y.id := by simpa using h
  refine CallN.pure _ _ rfl (sameEntry_ok x.entry y.entry) rfl ?_
  refine Done.mk ?_
  refine congrArg B (eqv_sym ⟨fun e => by rw [e], fun e => ?_⟩)
  cases x; cases y; simp_all
theorem sameServer_ok (x y : XServer) : CallF Try.prog 71 [.a 3 (encServer x), .a 3 (encServer y)] (B (eqv x y)) := by
  refine callF_of_vc htb hm Try.func71 (by kernel_rfl) rfl rfl (ann := fun _ => none) ?_
  refine Branch.mk (fun h => ?_) (fun h => ?_)
  case refine_2 =>
    refine Done.mk ?_
    refine congrArg B (eqv_ne fun e => ?_).symm
    subst e
    simp at h
  have e0 : x.up = y.up := by simpa using h
  refine Branch.mk (fun h => ?_) (fun h => ?_)
  case refine_2 =>
    refine Done.mk ?_
    refine congrArg B (eqv_ne fun e => ?_).symm
    subst e
    simp at h
  have e1 : x.saved = y.saved := by simpa using h
  refine CallN.pure _ _ rfl (eqFuncNote x.notes y.notes fun x _ y => sameNote_ok x y) rfl ?_
  refine Done.mk ?_
  refine congrArg B (eqv_sym ⟨fun e => by rw [e], fun e => ?_⟩)
  cases x; cases y; simp_all
theorem samePacket_ok (x y : XPacket) : CallF Try.prog 75 [.a 8 (encPacket x), .a 8 (encPacket y)] (B (eqv x y)) := by
  refine callF_of_vc htb hm Try.func75 (by kernel_rfl) rfl rfl (ann := fun _ => none) ?_
  refine Branch.mk (fun h => ?_) (fun h => ?_)
  case refine_2 =>
    refine Done.mk ?_
    refine congrArg B (eqv_ne fun e => ?_).symm
    subst e
    simp at h
  have e0 : x.to0 = y.to0 := by simpa using h
  refine CallN.pure _ _ rfl (sameNote_ok x.note y.note) rfl ?_
  refine Done.mk ?_
  refine congrArg B (eqv_sym ⟨fun e => by rw [e], fun e => ?_⟩)
  cases x; cases y; simp_all
theorem SameArchive_ok (x y : XArchive) : CallF Try.prog 22 [.a 4 (encArchive x), .a 4 (encArchive y)] (B (eqv x y)) := by
  refine callF_of_vc htb hm Try.func22 (by kernel_rfl) rfl rfl (ann := fun _ => none) ?_
  refine Branch.mk (fun h => ?_) (fun h => ?_)
  case refine_2 =>
    refine Done.mk ?_
    refine congrArg B (eqv_ne fun e => ?_).symm
    subst e
    simp at h
  have e0 : x.sig = y.sig := sigE h
  refine CallN.pure _ _ rfl (eqFuncServer x.servers y.servers fun x _ y => sameServer_ok x y) rfl ?_
  refine Branch.mk (fun h => ?_) (fun h => ?_)
  case refine_2 =>
    refine Done.mk ?_
    refine congrArg B (eqv_ne fun e => ?_).symm
    subst e
    simp at h
  have e1 : x.servers = y.servers := by simpa using h
  refine CallN.pure _ _ rfl (eqFuncPacket x.flying y.flying fun x _ y => samePacket_ok x y) rfl ?_
  refine Done.mk ?_
  refine congrArg B (eqv_sym ⟨fun e => by rw [e], fun e => ?_⟩)
  cases x; cases y; simp_all
theorem l01Same_ok : ∀ (x y : XExpr) (n m : Nat) (tx ty : List CV), CallF Try.prog 197 [.c (.rp n (.val (.int .i64 x.kind) :: .val (.int .i64 x.num) :: .ro 3 (x.kids.map encExpr) :: tx)), .c (.rp m (.val (.int .i64 y.kind) :: .val (.int .i64 y.num) :: .ro 3 (y.kids.map encExpr) :: ty))] (B (eqv x y))
  | .mk kind num kids, .mk kind' num' kids', n, m, tx, ty => by
    refine callF_of_vc htb hm Try.func197 (by kernel_rfl) rfl rfl (ann := fun n => match n with | 4 => some { α := Nat, keep := [0, 1], ov := fun i => [(5, I i)], φ := fun i => i ≤ kids.length ∧ kids.length = kids'.length ∧ kids.take i = kids'.take i, μ := fun i => kids.length - i } | _ => none) ?_
    refine Need.mk (by kernel_rfl) ?_
    refine Branch.mk (fun h => ?_) (fun h => ?_)
    · refine Done.mk ?_
      refine congrArg B (eqv_ne fun e => ?_).symm
      cases e
      simp [XExpr.kind] at h
    have e0 : kind = kind' := by simpa [XExpr.kind] using h
    refine Branch.mk (fun h => ?_) (fun h => ?_)
    · refine Done.mk ?_
      refine congrArg B (eqv_ne fun e => ?_).symm
      cases e
      simp [XExpr.num] at h
    have e1 : num = num' := by simpa [XExpr.num] using h
    refine Branch.mk (fun h => ?_) (fun h => ?_)
    · refine Done.mk ?_
      refine congrArg B (eqv_ne fun e => ?_).symm
      cases e
      simp [XExpr.kids] at h
    have hlm : kids.length = kids'.length := by
      have h : (((kids.map encExpr).length : Int) != ((kids'.map encExpr).length : Int)) = false := h
      rw [List.length_map, List.length_map] at h
      simp only [bne_eq_false_iff_eq] at h
      omega
    refine LoopN.mk (0 : Nat) ⟨Nat.zero_le _, hlm, rfl⟩ ⟨⟨rfl, rfl⟩, trivial⟩ ⟨⟨rfl, rfl⟩, ⟨rfl, rfl⟩, trivial⟩ trivial ?_
    intro (i : Nat) (hi : i ≤ kids.length ∧ kids.length = kids'.length ∧ kids.take i = kids'.take i)
    refine Fact.mk fun hl => ?_
    have hl : (kids.map encExpr).length ≤ maxLen := hl
    rw [List.length_map] at hl
    refine Branch.mk (fun h => ?_) (fun h => ?_)
    · have h : (i : Int) < ((kids.map encExpr).length : Int) := of_decide_eq_true h
      rw [List.length_map] at h
      have h1 : i < kids.length := by omega
      have h2 : i < kids'.length := by omega
      refine Need.mk (by kernel_rfl) ?_
      refine Need.mk (by omega) (Index.mk [.val (.int .i64 kids[i].kind), .val (.int .i64 kids[i].num), .ro 3 (kids[i].kids.map encExpr)] (by rw [← encExpr_eq]; simp [XExpr.kids, h1]) ?_)
      refine Need.mk (by omega) (Index.mk [.val (.int .i64 kids'[i].kind), .val (.int .i64 kids'[i].num), .ro 3 (kids'[i].kids.map encExpr)] (by rw [← encExpr_eq]; simp [XExpr.kids, h2]) ?_)
      refine CallD.mk _ _ rfl (l01Same_ok kids[i] kids'[i] 3 3 [] []) rfl ?_
      refine Branch.mk (fun hb => ?_) (fun hb => ?_)
      · refine Done.mk ?_
        refine congrArg B (eqv_ne fun e => ?_).symm
        cases e
        simp at hb
      · refine Arith.fit (wrap_fit (by omega) (by simp only [maxLen] at hl; omega)) ?_
        refine ⟨i + 1, ⟨h1, hi.2.1, ?_⟩, (by show kids.length - (i + 1) < kids.length - i; omega), ⟨⟨rfl, rfl⟩, trivial⟩, ⟨⟨rfl, rfl⟩, ⟨rfl, rfl⟩, trivial⟩, trivial⟩
        have : kids[i] = kids'[i] := by simpa using hb
        rw [List.take_add_one, List.take_add_one, hi.2.2, List.getElem?_eq_getElem h1, List.getElem?_eq_getElem h2, this]
    · have h : ¬ (i : Int) < ((kids.map encExpr).length : Int) := of_decide_eq_false h
      rw [List.length_map] at h
      have : i = kids.length := by omega
      refine Done.mk ?_
      refine congrArg B (eqv_of ?_).symm
      have := hi.2.2
      rw [List.take_of_length_le (by omega), List.take_of_length_le (by omega)] at this
      rw [e0, e1, this]
  termination_by x => SizeOf.sizeOf x
  decreasing_by
    have := List.sizeOf_lt_of_mem (List.getElem_mem h1)
    simp only [XExpr.mk.sizeOf_spec]
    omega
theorem l04SameList_all (l m : List XExpr) (hx : ∀ x ∈ l, ∀ y, CallF Try.prog 197 [.c (.rp 3 (encExpr x)), .c (.rp 3 (encExpr y))] (B (eqv x y))) : CallF Try.prog 235 [.c (.ro 3 (l.map encExpr)), .c (.ro 3 (m.map encExpr))] (B (eqv l m)) := by
  refine callF_of_vc htb hm Try.func235 (by kernel_rfl) rfl rfl (ann := fun n => match n with | 4 => some { α := Nat, keep := [0, 1], ov := fun i => [(5, I i)], φ := fun i => i ≤ l.length ∧ l.length = m.length ∧ l.take i = m.take i, μ := fun i => l.length - i } | _ => none) ?_
  refine Fact.mk fun hl => Fact.mk fun hl' => ?_
  rw [List.length_map] at hl hl'
  refine Branch.mk (fun h => ?_) (fun h => ?_)
  · refine Done.mk ?_
    rw [List.length_map, List.length_map] at h
    refine congrArg B (eqv_ne fun e => ?_).symm
    subst e
    simp at h
  have hlm : l.length = m.length := by
    rw [List.length_map, List.length_map] at h
    simp only [bne_eq_false_iff_eq] at h
    omega
  refine LoopN.mk (0 : Nat) ⟨Nat.zero_le _, hlm, rfl⟩ ⟨⟨rfl, rfl⟩, trivial⟩ ⟨⟨rfl, rfl⟩, ⟨rfl, rfl⟩, trivial⟩ trivial ?_
  intro (i : Nat) (hi : i ≤ l.length ∧ l.length = m.length ∧ l.take i = m.take i)
  refine Fact.mk fun _ => ?_
  refine Branch.mk (fun h => ?_) (fun h => ?_)
  · have h := of_decide_eq_true h
    rw [List.length_map] at h
    have h1 : i < l.length := by omega
    have h2 : i < m.length := by omega
    refine Need.mk (by kernel_rfl) ?_
    refine Need.mk (by omega) (Index.mk (encExpr l[i]) (by simp [h1]) ?_)
    refine Need.mk (by omega) (Index.mk (encExpr m[i]) (by simp [h2]) ?_)
    refine CallD.mk _ _ rfl (hx l[i] (List.getElem_mem h1) m[i]) rfl ?_
    refine Branch.mk (fun hb => ?_) (fun hb => ?_)
    · refine Done.mk ?_
      refine congrArg B (eqv_ne fun e => ?_).symm
      subst e
      simp at hb
    · refine Arith.fit (wrap_fit (by omega) (by simp only [maxLen] at hl; omega)) ?_
      refine ⟨i + 1, ⟨h1, hi.2.1, ?_⟩, (by show l.length - (i + 1) < l.length - i; omega), ⟨⟨rfl, rfl⟩, trivial⟩, ⟨⟨rfl, rfl⟩, ⟨rfl, rfl⟩, trivial⟩, trivial⟩
      have : l[i] = m[i] := by simpa using hb
      rw [List.take_add_one, List.take_add_one, hi.2.2, List.getElem?_eq_getElem h1, List.getElem?_eq_getElem h2, this]
  · have h := of_decide_eq_false h
    rw [List.length_map] at h
    have : i = l.length := by omega
    refine Done.mk ?_
    refine congrArg B (eqv_of ?_).symm
    have := hi.2.2
    rwa [List.take_of_length_le (by omega), List.take_of_length_le (by omega)] at this
theorem l01Same_p (x y : XExpr) : CallF Try.prog 197 [.c (.rp 3 (encExpr x)), .c (.rp 3 (encExpr y))] (B (eqv x y)) := by
  rw [encExpr_eq, encExpr_eq]
  exact l01Same_ok x y 3 3 [] []
theorem l04SameList_ok (l m : List XExpr) : CallF Try.prog 235 [.c (.ro 3 (l.map encExpr)), .c (.ro 3 (m.map encExpr))] (B (eqv l m)) := l04SameList_all l m fun x _ y => l01Same_p x y
theorem l04SameStep_ok (x y : XProofStep) : CallF Try.prog 227 [.c (.rp 5 (encProofStep x)), .c (.rp 5 (encProofStep y))] (B (eqv x y)) := by
  refine callF_of_vc htb hm Try.func227 (by kernel_rfl) rfl rfl (ann := fun _ => none) ?_
  refine Need.mk (by kernel_rfl) ?_
  refine Branch.mk (fun h => ?_) (fun h => ?_)
  case refine_2 =>
    refine Done.mk ?_
    refine congrArg B (eqv_ne fun e => ?_).symm
    subst e
    simp at h
  have e0 : x.use = y.use := by simpa using h
  refine Branch.mk (fun h => ?_) (fun h => ?_)
  case refine_2 =>
    refine Done.mk ?_
    refine congrArg B (eqv_ne fun e => ?_).symm
    subst e
    simp at h
  have e1 : x.back = y.back := by simpa using h
  refine CallD.mk _ _ rfl (l00Same x.path y.path) rfl ?_
  refine Branch.mk (fun h => ?_) (fun h => ?_)
  case refine_2 =>
    refine Done.mk ?_
    refine congrArg B (eqv_ne fun e => ?_).symm
    subst e
    simp at h
  have e2 : x.path = y.path := by simpa using h
  refine CallD.mk _ _ rfl (l04SameList_ok x.tests y.tests) rfl ?_
  refine Branch.mk (fun h => ?_) (fun h => ?_)
  case refine_2 =>
    refine Done.mk ?_
    refine congrArg B (eqv_ne fun e => ?_).symm
    subst e
    simp at h
  have e3 : x.tests = y.tests := by simpa using h
  refine CallD.mk _ _ rfl (l04SameList_ok x.acts y.acts) rfl ?_
  refine Done.mk ?_
  refine congrArg B (eqv_sym ⟨fun e => by rw [e], fun e => ?_⟩)
  cases x; cases y; simp_all
theorem l04SameSteps_all (l m : List XProofStep) (hx : ∀ x ∈ l, ∀ y, CallF Try.prog 227 [.c (.rp 5 (encProofStep x)), .c (.rp 5 (encProofStep y))] (B (eqv x y))) : CallF Try.prog 198 [.c (.ro 5 (l.map encProofStep)), .c (.ro 5 (m.map encProofStep))] (B (eqv l m)) := by
  refine callF_of_vc htb hm Try.func198 (by kernel_rfl) rfl rfl (ann := fun n => match n with | 4 => some { α := Nat, keep := [0, 1], ov := fun i => [(5, I i)], φ := fun i => i ≤ l.length ∧ l.length = m.length ∧ l.take i = m.take i, μ := fun i => l.length - i } | _ => none) ?_
  refine Fact.mk fun hl => Fact.mk fun hl' => ?_
  rw [List.length_map] at hl hl'
  refine Branch.mk (fun h => ?_) (fun h => ?_)
  · refine Done.mk ?_
    rw [List.length_map, List.length_map] at h
    refine congrArg B (eqv_ne fun e => ?_).symm
    subst e
    simp at h
  have hlm : l.length = m.length := by
    rw [List.length_map, List.length_map] at h
    simp only [bne_eq_false_iff_eq] at h
    omega
  refine LoopN.mk (0 : Nat) ⟨Nat.zero_le _, hlm, rfl⟩ ⟨⟨rfl, rfl⟩, trivial⟩ ⟨⟨rfl, rfl⟩, ⟨rfl, rfl⟩, trivial⟩ trivial ?_
  intro (i : Nat) (hi : i ≤ l.length ∧ l.length = m.length ∧ l.take i = m.take i)
  refine Fact.mk fun _ => ?_
  refine Branch.mk (fun h => ?_) (fun h => ?_)
  · have h := of_decide_eq_true h
    rw [List.length_map] at h
    have h1 : i < l.length := by omega
    have h2 : i < m.length := by omega
    refine Need.mk (by kernel_rfl) ?_
    refine Need.mk (by omega) (Index.mk (encProofStep l[i]) (by simp [h1]) ?_)
    refine Need.mk (by omega) (Index.mk (encProofStep m[i]) (by simp [h2]) ?_)
    refine CallD.mk _ _ rfl (hx l[i] (List.getElem_mem h1) m[i]) rfl ?_
    refine Branch.mk (fun hb => ?_) (fun hb => ?_)
    · refine Done.mk ?_
      refine congrArg B (eqv_ne fun e => ?_).symm
      subst e
      simp at hb
    · refine Arith.fit (wrap_fit (by omega) (by simp only [maxLen] at hl; omega)) ?_
      refine ⟨i + 1, ⟨h1, hi.2.1, ?_⟩, (by show l.length - (i + 1) < l.length - i; omega), ⟨⟨rfl, rfl⟩, trivial⟩, ⟨⟨rfl, rfl⟩, ⟨rfl, rfl⟩, trivial⟩, trivial⟩
      have : l[i] = m[i] := by simpa using hb
      rw [List.take_add_one, List.take_add_one, hi.2.2, List.getElem?_eq_getElem h1, List.getElem?_eq_getElem h2, this]
  · have h := of_decide_eq_false h
    rw [List.length_map] at h
    have : i = l.length := by omega
    refine Done.mk ?_
    refine congrArg B (eqv_of ?_).symm
    have := hi.2.2
    rwa [List.take_of_length_le (by omega), List.take_of_length_le (by omega)] at this
theorem l04SameSteps_ok (l m : List XProofStep) : CallF Try.prog 198 [.c (.ro 5 (l.map encProofStep)), .c (.ro 5 (m.map encProofStep))] (B (eqv l m)) := l04SameSteps_all l m fun x _ y => l04SameStep_ok x y
theorem specSameProof_ok (x y : XProof) : CallF Try.prog 137 [.a 3 (encProof x), .a 3 (encProof y)] (B (eqv x y)) := by
  refine callF_of_vc htb hm Try.func137 (by kernel_rfl) rfl rfl (ann := fun n => match n with | 4 => some { α := Nat, keep := [2, 3], ov := fun i => [(5, I i)], φ := fun i => i ≤ x.claims.length ∧ x.claims.length = y.claims.length ∧ x.claims.take i = y.claims.take i, μ := fun i => x.claims.length - i } | _ => none) ?_
  refine Branch.mk (fun h => ?_) (fun h => ?_)
  · refine Done.mk ?_
    refine congrArg B (eqv_ne fun e => ?_).symm
    subst e
    simp at h
  have e0 : x.sig = y.sig := sigE (by simpa using h)
  refine Fact.mk fun _ => Fact.mk fun _ => ?_
  refine Branch.mk (fun h => ?_) (fun h => ?_)
  · refine Done.mk ?_
    refine congrArg B (eqv_ne fun e => ?_).symm
    subst e
    simp at h
  have hlm : x.claims.length = y.claims.length := by
    rw [List.length_map, List.length_map] at h
    simp only [bne_eq_false_iff_eq] at h
    omega
  refine LoopN.mk (0 : Nat) ⟨Nat.zero_le _, hlm, rfl⟩ ⟨⟨rfl, rfl⟩, trivial⟩ ⟨⟨rfl, rfl⟩, ⟨rfl, rfl⟩, trivial⟩ ⟨⟨rfl, rfl⟩, ⟨rfl, rfl⟩, trivial⟩ ?_
  intro (i : Nat) (hi : i ≤ x.claims.length ∧ x.claims.length = y.claims.length ∧ x.claims.take i = y.claims.take i)
  refine Fact.mk fun hl => ?_
  rw [List.length_map] at hl
  refine Branch.mk (fun h => ?_) (fun h => ?_)
  case refine_1 =>
    have h := of_decide_eq_true h
    rw [List.length_map] at h
    have h1 : i < x.claims.length := by omega
    have h2 : i < y.claims.length := by omega
    have no : ∀ {p : Prop}, (x.claims[i] = y.claims[i] → p) → ¬ p → x ≠ y := fun hp hn e => by
      subst e
      exact hn (hp rfl)
    refine Need.mk (by omega) (Index.mk (encClaim x.claims[i]) (by simp [h1]) ?_)
    refine Need.mk (by omega) (Index.mk (encClaim y.claims[i]) (by simp [h2]) ?_)
    refine Need.mk (by kernel_rfl) ?_
    refine CallD.mk _ _ rfl (l01Same_ok x.claims[i].left y.claims[i].left 9 9 _ _) rfl ?_
    refine Branch.mk (fun hb => ?_) (fun hb => ?_)
    · refine Done.mk ?_
      exact congrArg B (eqv_ne (no (congrArg XClaim.left) fun e => by rw [e] at hb; simp at hb)).symm
    have c0 : x.claims[i].left = y.claims[i].left := by simpa using hb
    refine CallD.mk _ _ rfl (l01Same_ok x.claims[i].right y.claims[i].right (9 - 3) (9 - 3) _ _) rfl ?_
    refine Branch.mk (fun hb => ?_) (fun hb => ?_)
    · refine Done.mk ?_
      exact congrArg B (eqv_ne (no (congrArg XClaim.right) fun e => by rw [e] at hb; simp at hb)).symm
    have c1 : x.claims[i].right = y.claims[i].right := by simpa using hb
    refine Branch.mk (fun hb => ?_) (fun hb => ?_)
    · refine Done.mk ?_
      exact congrArg B (eqv_ne (no (congrArg XClaim.rule) fun e => by rw [e] at hb; simp at hb)).symm
    have c2 : x.claims[i].rule = y.claims[i].rule := by simpa using hb
    refine Branch.mk (fun hb => ?_) (fun hb => ?_)
    · refine Done.mk ?_
      exact congrArg B (eqv_ne (no (congrArg XClaim.ref) fun e => by rw [e] at hb; simp at hb)).symm
    have c3 : x.claims[i].ref = y.claims[i].ref := by simpa using hb
    refine CallD.mk _ _ rfl (l04SameSteps_ok x.claims[i].steps y.claims[i].steps) rfl ?_
    refine Branch.mk (fun hb => ?_) (fun hb => ?_)
    · refine Done.mk ?_
      exact congrArg B (eqv_ne (no (congrArg XClaim.steps) fun e => by rw [e] at hb; simp at hb)).symm
    have c4 : x.claims[i].steps = y.claims[i].steps := by simpa using hb
    have ce : x.claims[i] = y.claims[i] := by
      generalize x.claims[i] = p at *
      generalize y.claims[i] = q at *
      cases p; cases q; simp_all
    refine Arith.fit (wrap_fit (by omega) (by simp only [maxLen] at hl; omega)) ?_
    refine ⟨i + 1, ⟨h1, hi.2.1, ?_⟩, (by show x.claims.length - (i + 1) < x.claims.length - i; omega), ⟨⟨rfl, rfl⟩, trivial⟩, ⟨⟨rfl, rfl⟩, ⟨rfl, rfl⟩, trivial⟩, ⟨⟨rfl, rfl⟩, ⟨rfl, rfl⟩, trivial⟩⟩
    rw [List.take_add_one, List.take_add_one, hi.2.2, List.getElem?_eq_getElem h1, List.getElem?_eq_getElem h2, ce]
  · have h := of_decide_eq_false h
    rw [List.length_map] at h
    refine Done.mk ?_
    refine congrArg B (eqv_of ?_).symm
    have := hi.2.2
    rw [List.take_of_length_le (by omega), List.take_of_length_le (by omega)] at this
    cases x; cases y; simp_all
theorem l08Same_ok (x y : XNote) : CallF Try.prog 67 [.c (.rp 7 (encNote x)), .c (.rp 7 (encNote y))] (B (eqv x y)) := by
  refine callF_of_vc htb hm Try.func67 (by kernel_rfl) rfl rfl (ann := fun _ => none) ?_
  refine Need.mk (by kernel_rfl) ?_
  refine Branch.mk (fun h => ?_) (fun h => ?_)
  case refine_2 =>
    refine Done.mk ?_
    refine congrArg B (eqv_ne fun e => ?_).symm
    subst e
    simp at h
  have e0 : x.revoke = y.revoke := by simpa using h
  refine Branch.mk (fun h => ?_) (fun h => ?_)
  case refine_2 =>
    refine Done.mk ?_
    refine congrArg B (eqv_ne fun e => ?_).symm
    subst e
    simp at h
  have e1 : x.id = y.id := by simpa using h
  refine Branch.mk (fun h => ?_) (fun h => ?_)
  case refine_2 =>
    refine Done.mk ?_
    refine congrArg B (eqv_ne fun e => ?_).symm
    subst e
    simp at h
  have e2 : x.entry.id = y.entry.id := by simpa using h
  refine CallD.mk _ _ rfl (l00Same x.entry.rests y.entry.rests) rfl ?_
  refine Branch.mk (fun h => ?_) (fun h => ?_)
  case refine_2 =>
    refine Done.mk ?_
    refine congrArg B (eqv_ne fun e => ?_).symm
    subst e
    simp at h
  have e3 : x.entry.rests = y.entry.rests := by simpa using h
  refine CallD.mk _ _ rfl (specSameProof_ok x.entry.proof y.entry.proof) rfl ?_
  refine Done.mk ?_
  refine congrArg B (eqv_sym ⟨fun e => by rw [e], fun e => ?_⟩)
  cases x with | mk a b c => cases y with | mk a2 b2 c2 => cases c; cases c2; simp_all
theorem l08SameNotes_all (l m : List XNote) (hx : ∀ x ∈ l, ∀ y, CallF Try.prog 67 [.c (.rp 7 (encNote x)), .c (.rp 7 (encNote y))] (B (eqv x y))) : CallF Try.prog 66 [.c (.ro 7 (l.map encNote)), .c (.ro 7 (m.map encNote))] (B (eqv l m)) := by
  refine callF_of_vc htb hm Try.func66 (by kernel_rfl) rfl rfl (ann := fun n => match n with | 4 => some { α := Nat, keep := [0, 1], ov := fun i => [(5, I i)], φ := fun i => i ≤ l.length ∧ l.length = m.length ∧ l.take i = m.take i, μ := fun i => l.length - i } | _ => none) ?_
  refine Fact.mk fun hl => Fact.mk fun hl' => ?_
  rw [List.length_map] at hl hl'
  refine Branch.mk (fun h => ?_) (fun h => ?_)
  · refine Done.mk ?_
    rw [List.length_map, List.length_map] at h
    refine congrArg B (eqv_ne fun e => ?_).symm
    subst e
    simp at h
  have hlm : l.length = m.length := by
    rw [List.length_map, List.length_map] at h
    simp only [bne_eq_false_iff_eq] at h
    omega
  refine LoopN.mk (0 : Nat) ⟨Nat.zero_le _, hlm, rfl⟩ ⟨⟨rfl, rfl⟩, trivial⟩ ⟨⟨rfl, rfl⟩, ⟨rfl, rfl⟩, trivial⟩ trivial ?_
  intro (i : Nat) (hi : i ≤ l.length ∧ l.length = m.length ∧ l.take i = m.take i)
  refine Fact.mk fun _ => ?_
  refine Branch.mk (fun h => ?_) (fun h => ?_)
  · have h := of_decide_eq_true h
    rw [List.length_map] at h
    have h1 : i < l.length := by omega
    have h2 : i < m.length := by omega
    refine Need.mk (by kernel_rfl) ?_
    refine Need.mk (by omega) (Index.mk (encNote l[i]) (by simp [h1]) ?_)
    refine Need.mk (by omega) (Index.mk (encNote m[i]) (by simp [h2]) ?_)
    refine CallD.mk _ _ rfl (hx l[i] (List.getElem_mem h1) m[i]) rfl ?_
    refine Branch.mk (fun hb => ?_) (fun hb => ?_)
    · refine Done.mk ?_
      refine congrArg B (eqv_ne fun e => ?_).symm
      subst e
      simp at hb
    · refine Arith.fit (wrap_fit (by omega) (by simp only [maxLen] at hl; omega)) ?_
      refine ⟨i + 1, ⟨h1, hi.2.1, ?_⟩, (by show l.length - (i + 1) < l.length - i; omega), ⟨⟨rfl, rfl⟩, trivial⟩, ⟨⟨rfl, rfl⟩, ⟨rfl, rfl⟩, trivial⟩, trivial⟩
      have : l[i] = m[i] := by simpa using hb
      rw [List.take_add_one, List.take_add_one, hi.2.2, List.getElem?_eq_getElem h1, List.getElem?_eq_getElem h2, this]
  · have h := of_decide_eq_false h
    rw [List.length_map] at h
    have : i = l.length := by omega
    refine Done.mk ?_
    refine congrArg B (eqv_of ?_).symm
    have := hi.2.2
    rwa [List.take_of_length_le (by omega), List.take_of_length_le (by omega)] at this
theorem l08SameNotes_ok (l m : List XNote) : CallF Try.prog 66 [.c (.ro 7 (l.map encNote)), .c (.ro 7 (m.map encNote))] (B (eqv l m)) := l08SameNotes_all l m fun x _ y => l08Same_ok x y
theorem specSameArchive_ok (x y : XArchive) : CallF Try.prog 20 [.a 4 (encArchive x), .a 4 (encArchive y)] (B (eqv x y)) := by
  refine callF_of_vc htb hm Try.func20 (by kernel_rfl) rfl rfl (ann := fun n => match n with | 4 => some { α := Nat, keep := [2, 3], ov := fun i => [(5, I i)], φ := fun i => i ≤ x.servers.length ∧ x.servers.length = y.servers.length ∧ x.servers.take i = y.servers.take i, μ := fun i => x.servers.length - i } | 11 => some { α := Nat, keep := [2, 3], ov := fun i => [(8, I i)], φ := fun i => i ≤ x.flying.length ∧ x.flying.length = y.flying.length ∧ x.flying.take i = y.flying.take i, μ := fun i => x.flying.length - i } | _ => none) ?_
  refine Branch.mk (fun h => ?_) (fun h => ?_)
  · refine Done.mk ?_
    refine congrArg B (eqv_ne fun e => ?_).symm
    subst e
    simp at h
  have e0 : x.sig = y.sig := sigE (by simpa using h)
  refine Fact.mk fun _ => Fact.mk fun _ => ?_
  refine Branch.mk (fun h => ?_) (fun h => ?_)
  · refine Done.mk ?_
    refine congrArg B (eqv_ne fun e => ?_).symm
    subst e
    simp at h
  have hlm : x.servers.length = y.servers.length := by
    rw [List.length_map, List.length_map] at h
    simp only [bne_eq_false_iff_eq] at h
    omega
  refine Fact.mk fun _ => Fact.mk fun _ => ?_
  refine Branch.mk (fun h => ?_) (fun h => ?_)
  · refine Done.mk ?_
    refine congrArg B (eqv_ne fun e => ?_).symm
    subst e
    simp at h
  have hlm' : x.flying.length = y.flying.length := by
    rw [List.length_map, List.length_map] at h
    simp only [bne_eq_false_iff_eq] at h
    omega
  refine LoopN.mk (0 : Nat) ⟨Nat.zero_le _, hlm, rfl⟩ ⟨⟨rfl, rfl⟩, trivial⟩ ⟨⟨rfl, rfl⟩, ⟨rfl, rfl⟩, trivial⟩ ⟨⟨rfl, rfl⟩, ⟨rfl, rfl⟩, trivial⟩ ?_
  intro (i : Nat) (hi : i ≤ x.servers.length ∧ x.servers.length = y.servers.length ∧ x.servers.take i = y.servers.take i)
  refine Fact.mk fun hl => ?_
  rw [List.length_map] at hl
  refine Branch.mk (fun h => ?_) (fun h => ?_)
  case refine_1 =>
    have h := of_decide_eq_true h
    rw [List.length_map] at h
    have h1 : i < x.servers.length := by omega
    have h2 : i < y.servers.length := by omega
    have no : ∀ {p : Prop}, (x.servers[i] = y.servers[i] → p) → ¬ p → x ≠ y := fun hp hn e => by
      subst e
      exact hn (hp rfl)
    refine Need.mk (by omega) (Index.mk (encServer x.servers[i]) (by simp [h1]) ?_)
    refine Need.mk (by omega) (Index.mk (encServer y.servers[i]) (by simp [h2]) ?_)
    refine Need.mk (by kernel_rfl) ?_
    refine Branch.mk (fun hb => ?_) (fun hb => ?_)
    · refine Done.mk ?_
      exact congrArg B (eqv_ne (no (congrArg XServer.up) fun e => by rw [e] at hb; simp at hb)).symm
    have c0 : x.servers[i].up = y.servers[i].up := by simpa using hb
    refine Branch.mk (fun hb => ?_) (fun hb => ?_)
    · refine Done.mk ?_
      exact congrArg B (eqv_ne (no (congrArg XServer.saved) fun e => by rw [e] at hb; simp at hb)).symm
    have c1 : x.servers[i].saved = y.servers[i].saved := by simpa using hb
    refine CallD.mk _ _ rfl (l08SameNotes_ok x.servers[i].notes y.servers[i].notes) rfl ?_
    refine Branch.mk (fun hb => ?_) (fun hb => ?_)
    · refine Done.mk ?_
      exact congrArg B (eqv_ne (no (congrArg XServer.notes) fun e => by rw [e] at hb; simp at hb)).symm
    have c2 : x.servers[i].notes = y.servers[i].notes := by simpa using hb
    have ce : x.servers[i] = y.servers[i] := by
      generalize x.servers[i] = p at *
      generalize y.servers[i] = q at *
      cases p; cases q; simp_all
    refine Arith.fit (wrap_fit (by omega) (by simp only [maxLen] at hl; omega)) ?_
    refine ⟨i + 1, ⟨h1, hi.2.1, ?_⟩, (by show x.servers.length - (i + 1) < x.servers.length - i; omega), ⟨⟨rfl, rfl⟩, trivial⟩, ⟨⟨rfl, rfl⟩, ⟨rfl, rfl⟩, trivial⟩, ⟨⟨rfl, rfl⟩, ⟨rfl, rfl⟩, trivial⟩⟩
    rw [List.take_add_one, List.take_add_one, hi.2.2, List.getElem?_eq_getElem h1, List.getElem?_eq_getElem h2, ce]
  have h := of_decide_eq_false h
  rw [List.length_map] at h
  have es : x.servers = y.servers := by
    have := hi.2.2
    rwa [List.take_of_length_le (by omega), List.take_of_length_le (by omega)] at this
  clear h hi hl
  refine LoopN.mk (0 : Nat) ⟨Nat.zero_le _, hlm', rfl⟩ ⟨⟨rfl, rfl⟩, trivial⟩ ⟨⟨rfl, rfl⟩, ⟨rfl, rfl⟩, trivial⟩ ⟨⟨rfl, rfl⟩, ⟨rfl, rfl⟩, trivial⟩ ?_
  intro (i : Nat) (hi : i ≤ x.flying.length ∧ x.flying.length = y.flying.length ∧ x.flying.take i = y.flying.take i)
  refine Fact.mk fun hl => ?_
  rw [List.length_map] at hl
  refine Branch.mk (fun h => ?_) (fun h => ?_)
  case refine_1 =>
    have h := of_decide_eq_true h
    rw [List.length_map] at h
    have h1 : i < x.flying.length := by omega
    have h2 : i < y.flying.length := by omega
    have no : ∀ {p : Prop}, (x.flying[i] = y.flying[i] → p) → ¬ p → x ≠ y := fun hp hn e => by
      subst e
      exact hn (hp rfl)
    refine Need.mk (by kernel_rfl) ?_
    refine Need.mk (by omega) (Index.mk (encPacket x.flying[i]) (by simp [h1]) ?_)
    refine Need.mk (by omega) (Index.mk (encPacket y.flying[i]) (by simp [h2]) ?_)
    refine Branch.mk (fun hb => ?_) (fun hb => ?_)
    · refine Done.mk ?_
      exact congrArg B (eqv_ne (no (congrArg XPacket.to0) fun e => by rw [e] at hb; simp at hb)).symm
    have c0 : x.flying[i].to0 = y.flying[i].to0 := by simpa using hb
    refine Need.mk (by omega) (Index.mk (encPacket x.flying[i]) (by simp [h1]) ?_)
    refine Need.mk (by omega) (Index.mk (encPacket y.flying[i]) (by simp [h2]) ?_)
    refine CallD.mk _ _ rfl (l08Same_ok x.flying[i].note y.flying[i].note) rfl ?_
    refine Branch.mk (fun hb => ?_) (fun hb => ?_)
    · refine Done.mk ?_
      exact congrArg B (eqv_ne (no (congrArg XPacket.note) fun e => by rw [e] at hb; simp at hb)).symm
    have c1 : x.flying[i].note = y.flying[i].note := by simpa using hb
    have ce : x.flying[i] = y.flying[i] := by
      generalize x.flying[i] = p at *
      generalize y.flying[i] = q at *
      cases p; cases q; simp_all
    refine Arith.fit (wrap_fit (by omega) (by simp only [maxLen] at hl; omega)) ?_
    refine ⟨i + 1, ⟨h1, hi.2.1, ?_⟩, (by show x.flying.length - (i + 1) < x.flying.length - i; omega), ⟨⟨rfl, rfl⟩, trivial⟩, ⟨⟨rfl, rfl⟩, ⟨rfl, rfl⟩, trivial⟩, ⟨⟨rfl, rfl⟩, ⟨rfl, rfl⟩, trivial⟩⟩
    rw [List.take_add_one, List.take_add_one, hi.2.2, List.getElem?_eq_getElem h1, List.getElem?_eq_getElem h2, ce]
  · have h := of_decide_eq_false h
    rw [List.length_map] at h
    refine Done.mk ?_
    refine congrArg B (eqv_of ?_).symm
    have := hi.2.2
    rw [List.take_of_length_le (by omega), List.take_of_length_le (by omega)] at this
    cases x; cases y; simp_all
end Go.Proofs.Ytceijpfmaofhpaa
