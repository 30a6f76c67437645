/- Contracts of the program's TellLemma. No conditions. -/
import Derived.Test.YtbbaadkgmdkjdaaGreatZH
namespace Go.Proofs.YtbbaadkgmdkjdaaGreat
open Go Go.KA Go.Proofs
set_option maxHeartbeats 16000000
set_option maxRecDepth 100000
abbrev zC : List CV := [J 0, J 0, .ows 67 3 [], J 0, J 0, .ows 67 3 []]
abbrev resZ (c : Int) : SV := .tup [.a 6 zC, I c]
theorem CallX.zero {P : Program} {f : Nat} {args : List SV} {c : Int} (h : CallX P f args [] (resZ c)) : CallX P f args [] (resQ zQ c) :=
  CallX.ownUp h (.same (.same (.up (.same (.same (.up .nil))))))
abbrev upB (a : XArchive) (s : Int) : Bool := (a.servers.getD s.toNat s00).up
def qBlk (a : XArchive) (id : Int) : Option Int → Blk
  | none => .cells [.c (J 0), .c (J 0), .lw 6, .c (J 0), .c (J 0), .lw 7]
  | some s => .cc 6 (encEquation (lemE (noteOf (sv a s) id).entry))
noncomputable def idsV (a : XArchive) (id : Int) : Option Int → SV
  | none => .c (.ro 1 [])
  | some s => .c (.ro 1 ((closN (sv a s) id).map eI))
theorem tell_rows {a : XArchive} {l : List Int} {i : Nat} {R : List (List CV)} (hi : i < l.length) (h20 : (a.servers.getD (l.getD i 0).toNat s00).notes.length ≤ 20) (h : R = ((l.take i).flatMap (sv a)).map encNote) (h1 : R.length ≤ 20 * i) :
    R ++ cutN a (l.getD i 0) = ((l.take (i + 1)).flatMap (sv a)).map encNote ∧ (R ++ cutN a (l.getD i 0)).length ≤ 20 * (i + 1) := by
  constructor
  · rw [flat_next hi, List.map_append, ← h, cutN_eq, getD_eq hi]
  · rw [List.length_append]
    unfold cutN
    simp only [List.length_take, List.length_drop, List.length_map]
    omega
abbrev TellI (a : XArchive) (id : Int) (l : List Int) (i : Nat) (R : List (List CV)) (o : Option Int) : Prop := i ≤ l.length ∧ R = ((l.take i).flatMap (sv a)).map encNote ∧ R.length ≤ 20 * i ∧ o = lastS a id (l.take i)
theorem tell_no {a : XArchive} {id : Int} {l : List Int} {i : Nat} {R : List (List CV)} {o : Option Int} (hi : i < l.length) (h20 : (a.servers.getD (l.getD i 0).toNat s00).notes.length ≤ 20) (h : TellI a id l i R o) (hn : ¬ spotN (sv a (l.getD i 0)) false id ≥ 0) : TellI a id l (i + 1) (R ++ cutN a (l.getD i 0)) o := by
  have h1 := tell_rows hi h20 h.2.1 h.2.2.1
  refine ⟨hi, h1.1, h1.2, ?_⟩
  rw [lastS_next hi, if_neg (by omega)]
  exact h.2.2.2
theorem tell_yes {a : XArchive} {id : Int} {l : List Int} {i : Nat} {R : List (List CV)} {o : Option Int} (hi : i < l.length) (h20 : (a.servers.getD (l.getD i 0).toNat s00).notes.length ≤ 20) (h : TellI a id l i R o) (hn : spotN (sv a (l.getD i 0)) false id ≥ 0) : TellI a id l (i + 1) (R ++ cutN a (l.getD i 0)) (some (l.getD i 0)) := by
  have h1 := tell_rows hi h20 h.2.1 h.2.2.1
  refine ⟨hi, h1.1, h1.2, ?_⟩
  rw [lastS_next hi, if_pos (by omega)]
theorem tell_end {a : XArchive} {id : Int} {l : List Int} {i : Nat} {R : List (List CV)} {o : Option Int} (hi : ¬ i < l.length) (h : TellI a id l i R o) : o = lastS a id l := by
  have := h.2.2.2
  rwa [List.take_of_length_le (by omega)] at this
theorem tell_all {a : XArchive} {id : Int} {l : List Int} {i : Nat} {R : List (List CV)} {o : Option Int} (hi : ¬ i < l.length) (h : TellI a id l i R o) : R = (l.flatMap (sv a)).map encNote := by
  have := h.2.1
  rwa [List.take_of_length_le (by omega)] at this
theorem closure_cut (a : XArchive) (s id : Int) (hv : VN (sv a s)) (hk : known (sv a s) id) : CallX Tryz.prog 78 [.c (.ro 7 (cutN a s)), I id] [] (.c (.ows 2 1 ((closN (sv a s) id).map eI))) := by
  rw [cutN_eq]
  exact closure_ok _ id hv hk
theorem idx_cut {a : XArchive} {s id : Int} (hk : known (sv a s) id) : (cutN a s)[(spotN (sv a s) false id).toNat]? = some (encNote (noteOf (sv a s) id)) := by
  rw [cutN_eq]
  exact idx_getD (know_idx hk)
theorem len_cut {a : XArchive} {s id : Int} (hk : known (sv a s) id) : 0 ≤ spotN (sv a s) false id ∧ (spotN (sv a s) false id).toNat < (cutN a s).length := by
  refine ⟨hk, ?_⟩
  rw [cutN_eq, List.length_map]
  exact know_idx hk
theorem lem_bud {a : XArchive} (hl : budArchive a ≤ 1048576) {s id : Int} (hs : placeB a s = true) (hk : known (sv a s) id) : budExpr (lemE (noteOf (sv a s) id).entry).left ≤ 1048576 ∧ budExpr (lemE (noteOf (sv a s) id).entry).right ≤ 1048576 := by
  have hp := place_lt hs
  have h1 : budServer (a.servers.getD s.toNat s00) ≤ budS budServer a.servers := by
    rw [getD_eq hp.2]
    exact budS_mem budServer (List.getElem_mem hp.2)
  have h2 : noteOf (sv a s) id ∈ (a.servers.getD s.toNat s00).notes := by
    unfold noteOf
    rw [getD_eq (know_idx hk)]
    exact List.mem_of_mem_drop (List.mem_of_mem_take (List.getElem_mem (know_idx hk)))
  have h3 : budNote (noteOf (sv a s) id) ≤ budS budNote (a.servers.getD s.toNat s00).notes := budS_mem budNote h2
  generalize noteOf (sv a s) id = n at *
  have h5 : budExpr (lemE n.entry).left + budExpr (lemE n.entry).right ≤ budProof n.entry.proof := by
    unfold lemE lastC
    by_cases hc : n.entry.proof.claims.length - 1 < n.entry.proof.claims.length
    · rw [getD_eq hc]
      have h4 := budS_mem budClaim (List.getElem_mem hc)
      simp only [budProof]
      simp only [budClaim] at h4
      omega
    · rw [List.getD_eq_getElem?_getD, List.getElem?_eq_none (by omega)]
      exact Nat.zero_le _
  simp only [budArchive, budServer, budNote, budEntry] at hl h1 h3
  omega
theorem srv_num {a : XArchive} (h : goodArch a = true) : 1 ≤ a.servers.length ∧ a.servers.length ≤ 5 := by
  simp only [goodArch, Bool.and_eq_true] at h
  have := rng_le h.2.1
  omega
section
variable (a : XArchive) (id : Int) (l : List Int) (hl : budArchive a ≤ 1048576)
include hl
theorem Tell1 (h : goodArch a = false) : CallX Tryz.prog 40 [encA a, I id, .c (.ro 1 (l.map eI))] [] (resZ 1) := by
  have hv := ValidArchive_ok a hl
  rw [h] at hv
  refine callX_of_vc htb hm Tryz.func40 rfl rfl rfl rfl (ann := fun _ => none) (gh := fun _ => false) ?_
  repeat' ((conv => whnf); first
    | (guard_target = Done _; refine Done.mk ?_)
    | (guard_target = RetX _ _; refine RetX.mk ?_ ?_)
    | (guard_target = Fact _ _; refine Fact.mk fun hL => ?_; (try simp only [List.length_map, maxLen] at hL))
    | (guard_target = Branch _ _ _; (first | refine Branch.dec (fun h => ?_) (fun h => ?_) | refine Branch.beq (fun h => ?_) (fun h => ?_) | refine Branch.bne (fun h => ?_) (fun h => ?_) | refine Branch.ndec (fun h => ?_) (fun h => ?_) | refine Branch.nb (fun h => ?_) (fun h => ?_) | refine Branch.mk (fun h => ?_) (fun h => ?_)) <;> (try simp only [List.length_map] at h) <;> (try omega) <;> (try contradiction))
    | (guard_target = CallN _ 15 _ _ _ _; refine CallN.pure _ _ rfl (hv) rfl _ rfl ?_)
    | (guard_target = Arith _ _ _; refine Arith.fit (wrap_fit (by first | omega | (simp only [List.length_map]; omega)) (by first | omega | (simp only [List.length_map]; omega))) ?_)
    | (guard_target = Arith _ _ _; refine Arith.fit (by decide) ?_)
    | (guard_target = Index _ _ _; first  | refine Index.mk _ (idx_map (by omega)) ?_)
    | (guard_target = Need (chkDraw _ = true) _; refine Need.mk (by kernel_rfl) ?_)
    | (guard_target = Need (chkRecs _ _ = true) _; refine Need.mk (by first | kernel_rfl | rfl) ?_)
    | (guard_target = Need _ _; refine Need.mk (by first  | omega | (simp only [List.length_map]; omega)) ?_))
  all_goals first | rfl | trivial
section
variable (hg : goodArch a = true)
include hg
theorem Tell2a (h : adjB l = false) : CallX Tryz.prog 40 [encA a, I id, .c (.ro 1 (l.map eI))] [] (resZ 2) := by
  have hv := ValidArchive_ok a hl
  rw [hg] at hv
  have h1 := ascending_ok l
  rw [h] at h1
  refine callX_of_vc htb hm Tryz.func40 rfl rfl rfl rfl (ann := fun _ => none) (gh := fun _ => false) ?_
  repeat' ((conv => whnf); first
    | (guard_target = Done _; refine Done.mk ?_)
    | (guard_target = RetX _ _; refine RetX.mk ?_ ?_)
    | (guard_target = Fact _ _; refine Fact.mk fun hL => ?_; (try simp only [List.length_map, maxLen] at hL))
    | (guard_target = Branch _ _ _; (first | refine Branch.dec (fun h => ?_) (fun h => ?_) | refine Branch.beq (fun h => ?_) (fun h => ?_) | refine Branch.bne (fun h => ?_) (fun h => ?_) | refine Branch.ndec (fun h => ?_) (fun h => ?_) | refine Branch.nb (fun h => ?_) (fun h => ?_) | refine Branch.mk (fun h => ?_) (fun h => ?_)) <;> (try simp only [List.length_map] at h) <;> (try omega) <;> (try contradiction))
    | (guard_target = CallN _ 15 _ _ _ _; refine CallN.pure _ _ rfl (hv) rfl _ rfl ?_)
    | (guard_target = CallN _ 93 _ _ _ _; refine CallN.pure _ _ rfl (h1) rfl _ rfl ?_)
    | (guard_target = Arith _ _ _; refine Arith.fit (wrap_fit (by first | omega | (simp only [List.length_map]; omega)) (by first | omega | (simp only [List.length_map]; omega))) ?_)
    | (guard_target = Arith _ _ _; refine Arith.fit (by decide) ?_)
    | (guard_target = Index _ _ _; first  | refine Index.mk _ (idx_map (by omega)) ?_)
    | (guard_target = Need (chkDraw _ = true) _; refine Need.mk (by kernel_rfl) ?_)
    | (guard_target = Need (chkRecs _ _ = true) _; refine Need.mk (by first | kernel_rfl | rfl) ?_)
    | (guard_target = Need _ _; refine Need.mk (by first  | omega | (simp only [List.length_map]; omega)) ?_))
  all_goals first | rfl | trivial
theorem Tell2b (h : adjB l = true) (h2 : l.all (rng 0 ((a.servers.length : Int) - 1)) = false) : CallX Tryz.prog 40 [encA a, I id, .c (.ro 1 (l.map eI))] [] (resZ 2) := by
  have hv := ValidArchive_ok a hl
  rw [hg] at hv
  have h1 := ascending_ok l
  rw [h] at h1
  have h3 := inRange_ok l ((a.servers.map encServer).length : Nat) (by have := srv_num hg; rw [List.length_map]; omega)
  rw [show ((((a.servers.map encServer).length : Nat) : Int) - 1) = (a.servers.length : Int) - 1 by rw [List.length_map], h2] at h3
  refine callX_of_vc htb hm Tryz.func40 rfl rfl rfl rfl (ann := fun _ => none) (gh := fun _ => false) ?_
  repeat' ((conv => whnf); first
    | (guard_target = Done _; refine Done.mk ?_)
    | (guard_target = RetX _ _; refine RetX.mk ?_ ?_)
    | (guard_target = Fact _ _; refine Fact.mk fun hL => ?_; (try simp only [List.length_map, maxLen] at hL))
    | (guard_target = Branch _ _ _; (first | refine Branch.dec (fun h => ?_) (fun h => ?_) | refine Branch.beq (fun h => ?_) (fun h => ?_) | refine Branch.bne (fun h => ?_) (fun h => ?_) | refine Branch.ndec (fun h => ?_) (fun h => ?_) | refine Branch.nb (fun h => ?_) (fun h => ?_) | refine Branch.mk (fun h => ?_) (fun h => ?_)) <;> (try simp only [List.length_map] at h) <;> (try omega) <;> (try contradiction))
    | (guard_target = CallN _ 15 _ _ _ _; refine CallN.pure _ _ rfl (hv) rfl _ rfl ?_)
    | (guard_target = CallN _ 93 _ _ _ _; refine CallN.pure _ _ rfl (h1) rfl _ rfl ?_)
    | (guard_target = CallN _ 94 _ _ _ _; refine CallN.pure _ _ rfl (h3) rfl _ rfl ?_)
    | (guard_target = Arith _ _ _; refine Arith.fit (wrap_fit (by first | omega | (simp only [List.length_map]; omega)) (by first | omega | (simp only [List.length_map]; omega))) ?_)
    | (guard_target = Arith _ _ _; refine Arith.fit (by decide) ?_)
    | (guard_target = Index _ _ _; first  | refine Index.mk _ (idx_map (by omega)) ?_)
    | (guard_target = Need (chkDraw _ = true) _; refine Need.mk (by kernel_rfl) ?_)
    | (guard_target = Need (chkRecs _ _ = true) _; refine Need.mk (by first | kernel_rfl | rfl) ?_)
    | (guard_target = Need _ _; refine Need.mk (by first  | omega | (simp only [List.length_map]; omega)) ?_))
  all_goals first | rfl | trivial
section
variable (h : adjB l = true) (h2 : l.all (rng 0 ((a.servers.length : Int) - 1)) = true)
include h h2
theorem Tell2c (h4 : rng 0 99 id = false) : CallX Tryz.prog 40 [encA a, I id, .c (.ro 1 (l.map eI))] [] (resZ 2) := by
  have hv := ValidArchive_ok a hl
  rw [hg] at hv
  have h1 := ascending_ok l
  rw [h] at h1
  have h3 := inRange_ok l ((a.servers.map encServer).length : Nat) (by have := srv_num hg; rw [List.length_map]; omega)
  rw [show ((((a.servers.map encServer).length : Nat) : Int) - 1) = (a.servers.length : Int) - 1 by rw [List.length_map], h2] at h3
  have h5 := within_ok id 0 99
  rw [h4] at h5
  refine callX_of_vc htb hm Tryz.func40 rfl rfl rfl rfl (ann := fun _ => none) (gh := fun _ => false) ?_
  repeat' ((conv => whnf); first
    | (guard_target = Done _; refine Done.mk ?_)
    | (guard_target = RetX _ _; refine RetX.mk ?_ ?_)
    | (guard_target = Fact _ _; refine Fact.mk fun hL => ?_; (try simp only [List.length_map, maxLen] at hL))
    | (guard_target = Branch _ _ _; (first | refine Branch.dec (fun h => ?_) (fun h => ?_) | refine Branch.beq (fun h => ?_) (fun h => ?_) | refine Branch.bne (fun h => ?_) (fun h => ?_) | refine Branch.ndec (fun h => ?_) (fun h => ?_) | refine Branch.nb (fun h => ?_) (fun h => ?_) | refine Branch.mk (fun h => ?_) (fun h => ?_)) <;> (try simp only [List.length_map] at h) <;> (try omega) <;> (try contradiction))
    | (guard_target = CallN _ 15 _ _ _ _; refine CallN.pure _ _ rfl (hv) rfl _ rfl ?_)
    | (guard_target = CallN _ 93 _ _ _ _; refine CallN.pure _ _ rfl (h1) rfl _ rfl ?_)
    | (guard_target = CallN _ 94 _ _ _ _; refine CallN.pure _ _ rfl (h3) rfl _ rfl ?_)
    | (guard_target = CallN _ 51 _ _ _ _; refine CallN.pure _ _ rfl (h5) rfl _ rfl ?_)
    | (guard_target = Arith _ _ _; refine Arith.fit (wrap_fit (by first | omega | (simp only [List.length_map]; omega)) (by first | omega | (simp only [List.length_map]; omega))) ?_)
    | (guard_target = Arith _ _ _; refine Arith.fit (by decide) ?_)
    | (guard_target = Index _ _ _; first  | refine Index.mk _ (idx_map (by omega)) ?_)
    | (guard_target = Need (chkDraw _ = true) _; refine Need.mk (by kernel_rfl) ?_)
    | (guard_target = Need (chkRecs _ _ = true) _; refine Need.mk (by first | kernel_rfl | rfl) ?_)
    | (guard_target = Need _ _; refine Need.mk (by first  | omega | (simp only [List.length_map]; omega)) ?_))
  all_goals first | rfl | trivial
section
variable (h4 : rng 0 99 id = true) (hn : l.length ≤ 1048576)
include h4 hn
theorem Tell3 (hu : l.all (upB a) = false) : CallX Tryz.prog 40 [encA a, I id, .c (.ro 1 (l.map eI))] [] (resZ 4) := by
  have hv := ValidArchive_ok a hl
  rw [hg] at hv
  have h1 := ascending_ok l
  rw [h] at h1
  have h3 := inRange_ok l ((a.servers.map encServer).length : Nat) (by have := srv_num hg; rw [List.length_map]; omega)
  rw [show ((((a.servers.map encServer).length : Nat) : Int) - 1) = (a.servers.length : Int) - 1 by rw [List.length_map], h2] at h3
  have h5 := within_ok id 0 99
  rw [h4] at h5
  have hpl : ∀ i, i < l.length → 0 ≤ l.getD i 0 ∧ (l.getD i 0).toNat < a.servers.length := fun i hi => by
    rw [getD_eq hi]
    have := rng_le (List.all_eq_true.1 h2 _ (List.getElem_mem hi))
    omega
  refine callX_of_vc htb hm Tryz.func40 rfl rfl rfl rfl (ann := fun _ => none) (gh := fun _ => false) ?_
  repeat' ((conv => whnf); first
    | (guard_target = Done _; refine Done.mk ?_)
    | (guard_target = RetX _ _; refine RetX.mk ?_ ?_)
    | (guard_target =~ LoopE 6 _ _ _ _ _ _; refine LoopE.mk { α := Nat, keep := [1, 2, 3, 6, 40, 41], ov := fun i => [(42, I (i : Nat))], φ := fun i => i ≤ l.length ∧ (l.take i).all (upB a) = true, μ := fun i => l.length - i } (LoopN.mk (0 : Nat) (by exact ⟨Nat.zero_le _, rfl⟩) (by (repeat' first | exact trivial | exact rfl | refine ⟨?_, ?_⟩); done) (by (repeat' first | exact trivial | exact rfl | refine ⟨?_, ?_⟩); done) (by (repeat' first | exact trivial | exact rfl | refine ⟨?_, ?_⟩ | (simp only [List.map_append, List.map_cons, List.map_nil, List.map_set]; first | done | rfl)); done) (fun (i : Nat) ha => ?_) (by intro A; first | rfl | (obtain ⟨_, _⟩ := A; rfl) | (obtain ⟨_, _, _⟩ := A; rfl))); have ha : i ≤ l.length ∧ (l.take i).all (upB a) = true := ha; have hpi := hpl i)
    | (guard_target = Gh _ _ _ _ _; refine Gh.go ⟨(i + 1 : Nat), (by exact all_go (by omega) ha (by rw [← getD_eq (d := 0) (by omega)]; simp_all [upB])), (by first | (show _ < _; simp only []; omega) | omega | (simp; omega)), (by (repeat' first | exact trivial | exact rfl | refine ⟨?_, ?_⟩); done), (by (repeat' first | exact trivial | exact rfl | refine ⟨?_, ?_⟩); done), (by (repeat' first | exact trivial | exact rfl | refine ⟨?_, ?_⟩ | (simp only [List.map_append, List.map_cons, List.map_nil, List.map_set]; first | done | rfl)); done)⟩)
    | (guard_target = Fact _ _; refine Fact.mk fun hL => ?_; (try simp only [List.length_map, maxLen] at hL))
    | (guard_target = Branch _ _ _; (first | refine Branch.dec (fun h => ?_) (fun h => ?_) | refine Branch.beq (fun h => ?_) (fun h => ?_) | refine Branch.bne (fun h => ?_) (fun h => ?_) | refine Branch.ndec (fun h => ?_) (fun h => ?_) | refine Branch.nb (fun h => ?_) (fun h => ?_) | refine Branch.mk (fun h => ?_) (fun h => ?_)) <;> (try simp only [List.length_map] at h) <;> (try omega) <;> (try contradiction))
    | (guard_target = CallN _ 15 _ _ _ _; refine CallN.pure _ _ rfl (hv) rfl _ rfl ?_)
    | (guard_target = CallN _ 93 _ _ _ _; refine CallN.pure _ _ rfl (h1) rfl _ rfl ?_)
    | (guard_target = CallN _ 94 _ _ _ _; refine CallN.pure _ _ rfl (h3) rfl _ rfl ?_)
    | (guard_target = CallN _ 51 _ _ _ _; refine CallN.pure _ _ rfl (h5) rfl _ rfl ?_)
    | (have h8 : ¬ ((i : Nat) : Int) < ((l.length : Nat) : Int) := h; exact absurd ((all_end h8 ha).symm.trans hu) (by decide))
    | (guard_target = Arith _ _ _; refine Arith.fit (wrap_fit (by first | omega | (simp only [List.length_map]; omega)) (by first | omega | (simp only [List.length_map]; omega))) ?_)
    | (guard_target = Arith _ _ _; refine Arith.fit (by decide) ?_)
    | (guard_target = Index _ _ _; first | refine Index.mk _ (idx_getD (d := 0) (i := i) (l := l) (by omega)) ?_ | refine Index.mk _ (idx_getD (d := s00) (i := (l.getD i 0).toNat) (by omega)) ?_ | refine Index.mk _ (idx_map (by omega)) ?_)
    | (guard_target = Need (chkDraw _ = true) _; refine Need.mk (by kernel_rfl) ?_)
    | (guard_target = Need (chkRecs _ _ = true) _; refine Need.mk (by first | kernel_rfl | rfl) ?_)
    | (guard_target = Need _ _; refine Need.mk (by first  | omega | (simp only [List.length_map]; omega)) ?_))
  all_goals first | rfl | trivial
theorem Tell4 (hu : l.all (upB a) = true) (h6 : 2 * (l.length : Int) ≤ a.servers.length) : CallX Tryz.prog 40 [encA a, I id, .c (.ro 1 (l.map eI))] [] (resZ 4) := by
  have hv := ValidArchive_ok a hl
  rw [hg] at hv
  have h1 := ascending_ok l
  rw [h] at h1
  have h3 := inRange_ok l ((a.servers.map encServer).length : Nat) (by have := srv_num hg; rw [List.length_map]; omega)
  rw [show ((((a.servers.map encServer).length : Nat) : Int) - 1) = (a.servers.length : Int) - 1 by rw [List.length_map], h2] at h3
  have h5 := within_ok id 0 99
  rw [h4] at h5
  have hpl : ∀ i, i < l.length → 0 ≤ l.getD i 0 ∧ (l.getD i 0).toNat < a.servers.length := fun i hi => by
    rw [getD_eq hi]
    have := rng_le (List.all_eq_true.1 h2 _ (List.getElem_mem hi))
    omega
  refine callX_of_vc htb hm Tryz.func40 rfl rfl rfl rfl (ann := fun _ => none) (gh := fun _ => false) ?_
  repeat' ((conv => whnf); first
    | (guard_target = Done _; refine Done.mk ?_)
    | (guard_target = RetX _ _; refine RetX.mk ?_ ?_)
    | (guard_target =~ LoopE 6 _ _ _ _ _ _; refine LoopE.mk { α := Nat, keep := [1, 2, 3, 6, 40, 41], ov := fun i => [(42, I (i : Nat))], φ := fun i => i ≤ l.length ∧ (l.take i).all (upB a) = true, μ := fun i => l.length - i } (LoopN.mk (0 : Nat) (by exact ⟨Nat.zero_le _, rfl⟩) (by (repeat' first | exact trivial | exact rfl | refine ⟨?_, ?_⟩); done) (by (repeat' first | exact trivial | exact rfl | refine ⟨?_, ?_⟩); done) (by (repeat' first | exact trivial | exact rfl | refine ⟨?_, ?_⟩ | (simp only [List.map_append, List.map_cons, List.map_nil, List.map_set]; first | done | rfl)); done) (fun (i : Nat) ha => ?_) (by intro A; first | rfl | (obtain ⟨_, _⟩ := A; rfl) | (obtain ⟨_, _, _⟩ := A; rfl))); have ha : i ≤ l.length ∧ (l.take i).all (upB a) = true := ha; have hpi := hpl i)
    | (guard_target = Gh _ _ _ _ _; refine Gh.go ⟨(i + 1 : Nat), (by exact all_go (by omega) ha (by rw [← getD_eq (d := 0) (by omega)]; simp_all [upB])), (by first | (show _ < _; simp only []; omega) | omega | (simp; omega)), (by (repeat' first | exact trivial | exact rfl | refine ⟨?_, ?_⟩); done), (by (repeat' first | exact trivial | exact rfl | refine ⟨?_, ?_⟩); done), (by (repeat' first | exact trivial | exact rfl | refine ⟨?_, ?_⟩ | (simp only [List.map_append, List.map_cons, List.map_nil, List.map_set]; first | done | rfl)); done)⟩)
    | (guard_target = Fact _ _; refine Fact.mk fun hL => ?_; (try simp only [List.length_map, maxLen] at hL))
    | (guard_target = Branch _ _ _; (first | refine Branch.dec (fun h => ?_) (fun h => ?_) | refine Branch.beq (fun h => ?_) (fun h => ?_) | refine Branch.bne (fun h => ?_) (fun h => ?_) | refine Branch.ndec (fun h => ?_) (fun h => ?_) | refine Branch.nb (fun h => ?_) (fun h => ?_) | refine Branch.mk (fun h => ?_) (fun h => ?_)) <;> (try simp only [List.length_map] at h) <;> (try omega) <;> (try contradiction))
    | (guard_target = CallN _ 15 _ _ _ _; refine CallN.pure _ _ rfl (hv) rfl _ rfl ?_)
    | (guard_target = CallN _ 93 _ _ _ _; refine CallN.pure _ _ rfl (h1) rfl _ rfl ?_)
    | (guard_target = CallN _ 94 _ _ _ _; refine CallN.pure _ _ rfl (h3) rfl _ rfl ?_)
    | (guard_target = CallN _ 51 _ _ _ _; refine CallN.pure _ _ rfl (h5) rfl _ rfl ?_)
    | (have h8 : (a.servers.getD (l.getD i 0).toNat s00).up = false := h; exact absurd (List.all_eq_true.1 hu _ (List.getElem_mem (n := i) (by omega))) (by rw [← getD_eq (d := 0) (by omega)]; show ¬ (a.servers.getD (l.getD i 0).toNat s00).up = true; rw [h8]; decide))
    | (guard_target = Arith _ _ _; refine Arith.fit (wrap_fit (by first | omega | (simp only [List.length_map]; omega)) (by first | omega | (simp only [List.length_map]; omega))) ?_)
    | (guard_target = Arith _ _ _; refine Arith.fit (by decide) ?_)
    | (guard_target = Index _ _ _; first | refine Index.mk _ (idx_getD (d := 0) (i := i) (l := l) (by omega)) ?_ | refine Index.mk _ (idx_getD (d := s00) (i := (l.getD i 0).toNat) (by omega)) ?_ | refine Index.mk _ (idx_map (by omega)) ?_)
    | (guard_target = Need (chkDraw _ = true) _; refine Need.mk (by kernel_rfl) ?_)
    | (guard_target = Need (chkRecs _ _ = true) _; refine Need.mk (by first | kernel_rfl | rfl) ?_)
    | (guard_target = Need _ _; refine Need.mk (by first  | omega | (simp only [List.length_map]; omega)) ?_))
  all_goals first | rfl | trivial
theorem Tell5 (hu : l.all (upB a) = true) (h6 : ¬ 2 * (l.length : Int) ≤ a.servers.length) (hLs : lastS a id l = none) : CallX Tryz.prog 40 [encA a, I id, .c (.ro 1 (l.map eI))] [] (resZ 6) := by
  have hv := ValidArchive_ok a hl
  rw [hg] at hv
  have h1 := ascending_ok l
  rw [h] at h1
  have h3 := inRange_ok l ((a.servers.map encServer).length : Nat) (by have := srv_num hg; rw [List.length_map]; omega)
  rw [show ((((a.servers.map encServer).length : Nat) : Int) - 1) = (a.servers.length : Int) - 1 by rw [List.length_map], h2] at h3
  have h5 := within_ok id 0 99
  rw [h4] at h5
  have hpl : ∀ i, i < l.length → 0 ≤ l.getD i 0 ∧ (l.getD i 0).toNat < a.servers.length := fun i hi => by
    rw [getD_eq hi]
    have := rng_le (List.all_eq_true.1 h2 _ (List.getElem_mem hi))
    omega
  have hGA := (arch_iff a).1 hg
  have hsg : ∀ i, i < l.length → goodNotes a.sig.tests a.sig.actions (sv a (l.getD i 0)) = true := fun i hi => sv_good hGA (by
    rw [getD_eq hi]
    exact List.all_eq_true.1 h2 _ (List.getElem_mem hi))
  have hsb : ∀ i, i < l.length → 0 ≤ (a.servers.getD (l.getD i 0).toNat s00).saved ∧ (a.servers.getD (l.getD i 0).toNat s00).saved ≤ ((a.servers.getD (l.getD i 0).toNat s00).notes.length : Int) := fun i hi => savedB hGA (hpl i hi).2
  have hs20 : ∀ i, i < l.length → (a.servers.getD (l.getD i 0).toNat s00).notes.length ≤ 20 := fun i hi => (srv_notes hGA (hpl i hi).2).2
  refine callX_of_vc htb hm Tryz.func40 rfl rfl rfl rfl (ann := fun _ => none) (gh := fun reg_ => match reg_ with | 15 => true | 24 => true | _ => false) ?_
  repeat' ((conv => whnf); first
    | (guard_target = Done _; refine Done.mk ?_)
    | (guard_target = RetX _ _; refine RetX.mk ?_ ?_)
    | (guard_target =~ LoopE 6 _ _ _ _ _ _; refine LoopE.mk { α := Nat, keep := [1, 2, 3, 6, 40, 41], ov := fun i => [(42, I (i : Nat))], φ := fun i => i ≤ l.length ∧ (l.take i).all (upB a) = true, μ := fun i => l.length - i } (LoopN.mk (0 : Nat) (by exact ⟨Nat.zero_le _, rfl⟩) (by (repeat' first | exact trivial | exact rfl | refine ⟨?_, ?_⟩); done) (by (repeat' first | exact trivial | exact rfl | refine ⟨?_, ?_⟩); done) (by (repeat' first | exact trivial | exact rfl | refine ⟨?_, ?_⟩ | (simp only [List.map_append, List.map_cons, List.map_nil, List.map_set]; first | done | rfl)); done) (fun (i : Nat) ha => ?_) (by intro A; first | rfl | (obtain ⟨_, _⟩ := A; rfl) | (obtain ⟨_, _, _⟩ := A; rfl))); have ha : i ≤ l.length ∧ (l.take i).all (upB a) = true := ha; have hpi := hpl i)
    | (guard_target =~ LoopE 17 _ _ _ _ _ _; refine LoopE.mk { α := Nat × List (List CV) × Option Int, keep := [1, 3, 6, 12, 66, 67], ov := fun ⟨i, R, o⟩ => [(10, .lw 4), (11, idsV a id o), (68, I (i : Nat))], hv := fun ⟨i, R, o⟩ => [(4, .row none 92 7 R), (10, qBlk a id o)], φ := fun ⟨i, R, o⟩ => i ≤ l.length ∧ R = ((l.take i).flatMap (sv a)).map encNote ∧ R.length ≤ 20 * i ∧ o = lastS a id (l.take i), μ := fun ⟨i, R, o⟩ => l.length - i } (LoopN.mk ((0, [], none) : Nat × List (List CV) × Option Int) (by exact ⟨Nat.zero_le _, rfl, Nat.zero_le _, rfl⟩) (by (repeat' first | exact trivial | exact rfl | refine ⟨?_, ?_⟩); done) (by (repeat' first | exact trivial | exact rfl | refine ⟨?_, ?_⟩); done) (by (repeat' first | exact trivial | exact rfl | refine ⟨?_, ?_⟩ | (simp only [List.map_append, List.map_cons, List.map_nil, List.map_set]; first | done | rfl)); done) (fun A ha => ?_) (by intro A; first | rfl | (obtain ⟨_, _⟩ := A; rfl) | (obtain ⟨_, _, _⟩ := A; rfl))); obtain ⟨i, R, o⟩ := A; have ha : i ≤ l.length ∧ R = ((l.take i).flatMap (sv a)).map encNote ∧ R.length ≤ 20 * i ∧ o = lastS a id (l.take i) := ha; have hpi := hpl i; have hsi := hsb i; have h20 := hs20 i; have hA2 := ha; (rcases o with _ | v))
    | (guard_target = Gh _ _ _ _ _; refine Gh.go ⟨(i + 1 : Nat), (by exact all_go (by omega) ha (by rw [← getD_eq (d := 0) (by omega)]; simp_all [upB])), (by first | (show _ < _; simp only []; omega) | omega | (simp; omega)), (by (repeat' first | exact trivial | exact rfl | refine ⟨?_, ?_⟩); done), (by (repeat' first | exact trivial | exact rfl | refine ⟨?_, ?_⟩); done), (by (repeat' first | exact trivial | exact rfl | refine ⟨?_, ?_⟩ | (simp only [List.map_append, List.map_cons, List.map_nil, List.map_set]; first | done | rfl)); done)⟩)
    | (guard_target = Gh _ _ _ _ _; refine Gh.go ⟨((i + 1, R ++ cutN a (l.getD i 0), none) : Nat × List (List CV) × Option Int), (by exact tell_no (by omega) (by omega) hA2 (by have h8 : ¬ spotN (sv a (l.getD i 0)) false id ≥ 0 := h; exact h8)), (by first | (show _ < _; simp only []; omega) | omega | (simp; omega)), (by (repeat' first | exact trivial | exact rfl | refine ⟨?_, ?_⟩); done), (by (repeat' first | exact trivial | exact rfl | refine ⟨?_, ?_⟩); done), (by (repeat' first | exact trivial | exact rfl | refine ⟨?_, ?_⟩ | (simp only [List.map_append, List.map_cons, List.map_nil, List.map_set]; first | done | rfl)); done)⟩)
    | (guard_target = Gh _ _ _ _ _; refine Gh.go ⟨((i + 1, R ++ cutN a (l.getD i 0), some v) : Nat × List (List CV) × Option Int), (by exact tell_no (by omega) (by omega) hA2 (by have h8 : ¬ spotN (sv a (l.getD i 0)) false id ≥ 0 := h; exact h8)), (by first | (show _ < _; simp only []; omega) | omega | (simp; omega)), (by (repeat' first | exact trivial | exact rfl | refine ⟨?_, ?_⟩); done), (by (repeat' first | exact trivial | exact rfl | refine ⟨?_, ?_⟩); done), (by (repeat' first | exact trivial | exact rfl | refine ⟨?_, ?_⟩ | (simp only [List.map_append, List.map_cons, List.map_nil, List.map_set]; first | done | rfl)); done)⟩)
    | (guard_target = Gh _ _ _ _ _; refine Gh.go ⟨((i + 1, R ++ cutN a (l.getD i 0), some (l.getD i 0)) : Nat × List (List CV) × Option Int), (by exact tell_yes (by omega) (by omega) hA2 h), (by first | (show _ < _; simp only []; omega) | omega | (simp; omega)), (by (repeat' first | exact trivial | exact rfl | refine ⟨?_, ?_⟩); done), (by (repeat' first | exact trivial | exact rfl | refine ⟨?_, ?_⟩); done), (by (repeat' first | exact trivial | exact rfl | refine ⟨?_, ?_⟩ | (simp only [List.map_append, List.map_cons, List.map_nil, List.map_set]; first | done | rfl)); done)⟩)
    | (guard_target = Fact _ _; refine Fact.mk fun hL => ?_; (try simp only [List.length_map, maxLen] at hL))
    | (guard_target = Branch _ _ _; (first | refine Branch.dec (fun h => ?_) (fun h => ?_) | refine Branch.beq (fun h => ?_) (fun h => ?_) | refine Branch.bne (fun h => ?_) (fun h => ?_) | refine Branch.ndec (fun h => ?_) (fun h => ?_) | refine Branch.nb (fun h => ?_) (fun h => ?_) | refine Branch.mk (fun h => ?_) (fun h => ?_)) <;> (try simp only [List.length_map] at h) <;> (try omega) <;> (try contradiction))
    | (guard_target = CallN _ 15 _ _ _ _; refine CallN.pure _ _ rfl (hv) rfl _ rfl ?_)
    | (guard_target = CallN _ 93 _ _ _ _; refine CallN.pure _ _ rfl (h1) rfl _ rfl ?_)
    | (guard_target = CallN _ 94 _ _ _ _; refine CallN.pure _ _ rfl (h3) rfl _ rfl ?_)
    | (guard_target = CallN _ 51 _ _ _ _; refine CallN.pure _ _ rfl (h5) rfl _ rfl ?_)
    | (guard_target = CallN _ 71 _ _ _ _; refine CallN.pure _ _ rfl (find_cut _ _ _ _ _) rfl _ rfl ?_)
    | (guard_target = CallN _ 78 _ _ _ _; refine CallN.gen [] _ _ _ rfl (closure_cut a (l.getD i 0) id (VN.of (hsg i (by omega))) h) rfl rfl _ rfl ?_)
    | (guard_target = CallN _ 84 _ _ _ _; refine CallN.pure _ _ rfl (told_ok (noteOf (sv a (l.getD i 0)) id).entry ((VE.of (hsg i (by omega))).cl _ h).1) rfl _ rfl ?_)
    | (have h8 : (a.servers.getD (l.getD i 0).toNat s00).up = false := h; exact absurd (List.all_eq_true.1 hu _ (List.getElem_mem (n := i) (by omega))) (by rw [← getD_eq (d := 0) (by omega)]; show ¬ (a.servers.getD (l.getD i 0).toNat s00).up = true; rw [h8]; decide))
    | (guard_target = Gh _ _ _ _ _; refine Gh.frz 5 (.ro 1 []) rfl (Gh.go ?_))
    | (have h9 : some v = lastS a id l := tell_end (by omega) hA2; rw [hLs] at h9; cases h9)
    | (guard_target = Gh _ _ _ _ _; refine Gh.frz 12 (.ro 1 ((closN (sv a (l.getD i 0)) id).map eI)) rfl (Gh.go ?_))
    | (guard_target = Gh _ _ _ _ _; refine Gh.go ?_)
    | (guard_target = Arith _ _ _; refine Arith.fit (wrap_fit (by first | omega | (simp only [List.length_map]; omega)) (by first | omega | (simp only [List.length_map]; omega))) ?_)
    | (guard_target = Arith _ _ _; refine Arith.fit (by decide) ?_)
    | (guard_target = Index _ _ _; first | refine Index.mk _ (idx_getD (d := 0) (i := i) (l := l) (by omega)) ?_ | refine Index.mk _ (idx_getD (d := s00) (i := (l.getD i 0).toNat) (by omega)) ?_ | refine Index.mk _ (idx_cut (h : known (sv a (l.getD i 0)) id)) ?_ | refine Index.mk _ (idx_map (by omega)) ?_)
    | (guard_target = Need (chkDraw _ = true) _; refine Need.mk (by kernel_rfl) ?_)
    | (guard_target = Need (chkRecs _ _ = true) _; refine Need.mk (by first | kernel_rfl | rfl) ?_)
    | (guard_target = Need _ _; refine Need.mk (by first | ((simp only [List.length_map, List.length_take, List.length_drop, maxLen]; constructor <;> omega)) | (exact len_cut (h : known (sv a (l.getD i 0)) id)) | omega | (simp only [List.length_map]; omega)) ?_))
  all_goals first | rfl | trivial
theorem Tell6 (hu : l.all (upB a) = true) (h6 : ¬ 2 * (l.length : Int) ≤ a.servers.length) (s : Int) (hLs : lastS a id l = some s) (ht : takenB a l (sv a s) id = true) : CallX Tryz.prog 40 [encA a, I id, .c (.ro 1 (l.map eI))] [] (resZ 8) := by
  have hv := ValidArchive_ok a hl
  rw [hg] at hv
  have h1 := ascending_ok l
  rw [h] at h1
  have h3 := inRange_ok l ((a.servers.map encServer).length : Nat) (by have := srv_num hg; rw [List.length_map]; omega)
  rw [show ((((a.servers.map encServer).length : Nat) : Int) - 1) = (a.servers.length : Int) - 1 by rw [List.length_map], h2] at h3
  have h5 := within_ok id 0 99
  rw [h4] at h5
  have hpl : ∀ i, i < l.length → 0 ≤ l.getD i 0 ∧ (l.getD i 0).toNat < a.servers.length := fun i hi => by
    rw [getD_eq hi]
    have := rng_le (List.all_eq_true.1 h2 _ (List.getElem_mem hi))
    omega
  have hGA := (arch_iff a).1 hg
  have hsg : ∀ i, i < l.length → goodNotes a.sig.tests a.sig.actions (sv a (l.getD i 0)) = true := fun i hi => sv_good hGA (by
    rw [getD_eq hi]
    exact List.all_eq_true.1 h2 _ (List.getElem_mem hi))
  have hsb : ∀ i, i < l.length → 0 ≤ (a.servers.getD (l.getD i 0).toNat s00).saved ∧ (a.servers.getD (l.getD i 0).toNat s00).saved ≤ ((a.servers.getD (l.getD i 0).toNat s00).notes.length : Int) := fun i hi => savedB hGA (hpl i hi).2
  have hs20 : ∀ i, i < l.length → (a.servers.getD (l.getD i 0).toNat s00).notes.length ≤ 20 := fun i hi => (srv_notes hGA (hpl i hi).2).2
  have hsm := lastS_some hLs
  have hps : placeB a s = true := List.all_eq_true.1 h2 _ hsm.1
  have hsgd := sv_good hGA hps
  have htk := taken_closure hGA (l := l) (fun s hs => List.all_eq_true.1 h2 _ hs) (VN.of hsgd) hsm.2
  have hne := clos_ne (VN.of hsgd) hsm.2
  have hbud := lem_bud hl hps hsm.2
  refine callX_of_vc htb hm Tryz.func40 rfl rfl rfl rfl (ann := fun _ => none) (gh := fun reg_ => match reg_ with | 15 => true | 24 => true | 25 => true | _ => false) ?_
  repeat' ((conv => whnf); first
    | (guard_target = Done _; refine Done.mk ?_)
    | (guard_target = RetX _ _; refine RetX.mk ?_ ?_)
    | (guard_target =~ LoopE 6 _ _ _ _ _ _; refine LoopE.mk { α := Nat, keep := [1, 2, 3, 6, 40, 41], ov := fun i => [(42, I (i : Nat))], φ := fun i => i ≤ l.length ∧ (l.take i).all (upB a) = true, μ := fun i => l.length - i } (LoopN.mk (0 : Nat) (by exact ⟨Nat.zero_le _, rfl⟩) (by (repeat' first | exact trivial | exact rfl | refine ⟨?_, ?_⟩); done) (by (repeat' first | exact trivial | exact rfl | refine ⟨?_, ?_⟩); done) (by (repeat' first | exact trivial | exact rfl | refine ⟨?_, ?_⟩ | (simp only [List.map_append, List.map_cons, List.map_nil, List.map_set]; first | done | rfl)); done) (fun (i : Nat) ha => ?_) (by intro A; first | rfl | (obtain ⟨_, _⟩ := A; rfl) | (obtain ⟨_, _, _⟩ := A; rfl))); have ha : i ≤ l.length ∧ (l.take i).all (upB a) = true := ha; have hpi := hpl i)
    | (guard_target =~ LoopE 17 _ _ _ _ _ _; refine LoopE.mk { α := Nat × List (List CV) × Option Int, keep := [1, 3, 6, 12, 66, 67], ov := fun ⟨i, R, o⟩ => [(10, .lw 4), (11, idsV a id o), (68, I (i : Nat))], hv := fun ⟨i, R, o⟩ => [(4, .row none 92 7 R), (10, qBlk a id o)], φ := fun ⟨i, R, o⟩ => i ≤ l.length ∧ R = ((l.take i).flatMap (sv a)).map encNote ∧ R.length ≤ 20 * i ∧ o = lastS a id (l.take i), μ := fun ⟨i, R, o⟩ => l.length - i } (LoopN.mk ((0, [], none) : Nat × List (List CV) × Option Int) (by exact ⟨Nat.zero_le _, rfl, Nat.zero_le _, rfl⟩) (by (repeat' first | exact trivial | exact rfl | refine ⟨?_, ?_⟩); done) (by (repeat' first | exact trivial | exact rfl | refine ⟨?_, ?_⟩); done) (by (repeat' first | exact trivial | exact rfl | refine ⟨?_, ?_⟩ | (simp only [List.map_append, List.map_cons, List.map_nil, List.map_set]; first | done | rfl)); done) (fun A ha => ?_) (by intro A; first | rfl | (obtain ⟨_, _⟩ := A; rfl) | (obtain ⟨_, _, _⟩ := A; rfl))); obtain ⟨i, R, o⟩ := A; have ha : i ≤ l.length ∧ R = ((l.take i).flatMap (sv a)).map encNote ∧ R.length ≤ 20 * i ∧ o = lastS a id (l.take i) := ha; have hpi := hpl i; have hsi := hsb i; have h20 := hs20 i; have hA2 := ha; (rcases o with _ | v))
    | (guard_target =~ LoopE 28 _ _ _ _ _ _; refine LoopE.mk { α := Nat, keep := [6, 10, 12, 107, 108], ov := fun j => [(109, I (j : Nat))], φ := fun j => j ≤ (closN (sv a s) id).length ∧ ((closN (sv a s) id).take j).all (fun x => !(revP (l.flatMap (sv a)) x)) = true, μ := fun j => (closN (sv a s) id).length - j } (LoopN.mk (0 : Nat) (by exact ⟨Nat.zero_le _, rfl⟩) (by (repeat' first | exact trivial | exact rfl | refine ⟨?_, ?_⟩); done) (by (repeat' first | exact trivial | exact rfl | refine ⟨?_, ?_⟩); done) (by (repeat' first | exact trivial | exact rfl | refine ⟨?_, ?_⟩ | (simp only [List.map_append, List.map_cons, List.map_nil, List.map_set]; first | done | rfl)); done) (fun (j : Nat) ha => ?_) (by intro A; first | rfl | (obtain ⟨_, _⟩ := A; rfl) | (obtain ⟨_, _, _⟩ := A; rfl))); have ha : j ≤ (closN (sv a s) id).length ∧ ((closN (sv a s) id).take j).all (fun x => !(revP (l.flatMap (sv a)) x)) = true := ha; have hj := ha)
    | (guard_target = Gh _ _ _ _ _; refine Gh.go ⟨(i + 1 : Nat), (by exact all_go (by omega) ha (by rw [← getD_eq (d := 0) (by omega)]; simp_all [upB])), (by first | (show _ < _; simp only []; omega) | omega | (simp; omega)), (by (repeat' first | exact trivial | exact rfl | refine ⟨?_, ?_⟩); done), (by (repeat' first | exact trivial | exact rfl | refine ⟨?_, ?_⟩); done), (by (repeat' first | exact trivial | exact rfl | refine ⟨?_, ?_⟩ | (simp only [List.map_append, List.map_cons, List.map_nil, List.map_set]; first | done | rfl)); done)⟩)
    | (guard_target = Gh _ _ _ _ _; refine Gh.go ⟨((i + 1, R ++ cutN a (l.getD i 0), none) : Nat × List (List CV) × Option Int), (by exact tell_no (by omega) (by omega) hA2 (by have h8 : ¬ spotN (sv a (l.getD i 0)) false id ≥ 0 := h; exact h8)), (by first | (show _ < _; simp only []; omega) | omega | (simp; omega)), (by (repeat' first | exact trivial | exact rfl | refine ⟨?_, ?_⟩); done), (by (repeat' first | exact trivial | exact rfl | refine ⟨?_, ?_⟩); done), (by (repeat' first | exact trivial | exact rfl | refine ⟨?_, ?_⟩ | (simp only [List.map_append, List.map_cons, List.map_nil, List.map_set]; first | done | rfl)); done)⟩)
    | (guard_target = Gh _ _ _ _ _; refine Gh.go ⟨((i + 1, R ++ cutN a (l.getD i 0), some v) : Nat × List (List CV) × Option Int), (by exact tell_no (by omega) (by omega) hA2 (by have h8 : ¬ spotN (sv a (l.getD i 0)) false id ≥ 0 := h; exact h8)), (by first | (show _ < _; simp only []; omega) | omega | (simp; omega)), (by (repeat' first | exact trivial | exact rfl | refine ⟨?_, ?_⟩); done), (by (repeat' first | exact trivial | exact rfl | refine ⟨?_, ?_⟩); done), (by (repeat' first | exact trivial | exact rfl | refine ⟨?_, ?_⟩ | (simp only [List.map_append, List.map_cons, List.map_nil, List.map_set]; first | done | rfl)); done)⟩)
    | (guard_target = Gh _ _ _ _ _; refine Gh.go ⟨((i + 1, R ++ cutN a (l.getD i 0), some (l.getD i 0)) : Nat × List (List CV) × Option Int), (by exact tell_yes (by omega) (by omega) hA2 h), (by first | (show _ < _; simp only []; omega) | omega | (simp; omega)), (by (repeat' first | exact trivial | exact rfl | refine ⟨?_, ?_⟩); done), (by (repeat' first | exact trivial | exact rfl | refine ⟨?_, ?_⟩); done), (by (repeat' first | exact trivial | exact rfl | refine ⟨?_, ?_⟩ | (simp only [List.map_append, List.map_cons, List.map_nil, List.map_set]; first | done | rfl)); done)⟩)
    | (guard_target = Gh _ _ _ _ _; refine Gh.go ⟨(j + 1 : Nat), (by exact all_go (by omega) ha (by rw [← getD_eq (d := 0) (by omega)]; exact not_of (decide_eq_false h))), (by first | (show _ < _; simp only []; omega) | omega | (simp; omega)), (by (repeat' first | exact trivial | exact rfl | refine ⟨?_, ?_⟩); done), (by (repeat' first | exact trivial | exact rfl | refine ⟨?_, ?_⟩); done), (by (repeat' first | exact trivial | exact rfl | refine ⟨?_, ?_⟩ | (simp only [List.map_append, List.map_cons, List.map_nil, List.map_set]; first | done | rfl)); done)⟩)
    | (guard_target = Fact _ _; refine Fact.mk fun hL => ?_; (try simp only [List.length_map, maxLen] at hL))
    | (guard_target = Branch _ _ _; (first | refine Branch.dec (fun h => ?_) (fun h => ?_) | refine Branch.beq (fun h => ?_) (fun h => ?_) | refine Branch.bne (fun h => ?_) (fun h => ?_) | refine Branch.ndec (fun h => ?_) (fun h => ?_) | refine Branch.nb (fun h => ?_) (fun h => ?_) | refine Branch.mk (fun h => ?_) (fun h => ?_)) <;> (try simp only [List.length_map] at h) <;> (try omega) <;> (try contradiction))
    | (guard_target = CallN _ 15 _ _ _ _; refine CallN.pure _ _ rfl (hv) rfl _ rfl ?_)
    | (guard_target = CallN _ 93 _ _ _ _; refine CallN.pure _ _ rfl (h1) rfl _ rfl ?_)
    | (guard_target = CallN _ 94 _ _ _ _; refine CallN.pure _ _ rfl (h3) rfl _ rfl ?_)
    | (guard_target = CallN _ 51 _ _ _ _; refine CallN.pure _ _ rfl (h5) rfl _ rfl ?_)
    | (guard_target = CallN _ 71 _ _ _ _; refine CallN.pure _ _ rfl (find_cut _ _ _ _ _) rfl _ rfl ?_)
    | (guard_target = CallN _ 78 _ _ _ _; refine CallN.gen [] _ _ _ rfl (closure_cut a (l.getD i 0) id (VN.of (hsg i (by omega))) h) rfl rfl _ rfl ?_)
    | (guard_target = CallN _ 84 _ _ _ _; refine CallN.pure _ _ rfl (told_ok (noteOf (sv a (l.getD i 0)) id).entry ((VE.of (hsg i (by omega))).cl _ h).1) rfl _ rfl ?_)
    | (guard_target = CallN _ 71 _ _ _ _; refine CallN.pure _ _ rfl (find_ok (l.flatMap (sv a)) true _) rfl _ rfl ?_)
    | (have h8 : (a.servers.getD (l.getD i 0).toNat s00).up = false := h; exact absurd (List.all_eq_true.1 hu _ (List.getElem_mem (n := i) (by omega))) (by rw [← getD_eq (d := 0) (by omega)]; show ¬ (a.servers.getD (l.getD i 0).toNat s00).up = true; rw [h8]; decide))
    | (guard_target = Gh _ _ _ _ _; refine Gh.frz 5 (.ro 1 []) rfl (Gh.go ?_))
    | (have h9 : none = lastS a id l := tell_end (by omega) hA2; rw [hLs] at h9; cases h9)
    | (have h9 : (closN (sv a s) id).any (revP (l.flatMap (sv a))) = false := any_end (i := j) (by omega) ha.2; rw [htk, ht] at h9; cases h9)
    | (guard_target = Gh _ _ _ _ _; refine Gh.frz 12 (.ro 1 ((closN (sv a (l.getD i 0)) id).map eI)) rfl (Gh.go ?_))
    | (guard_target = Gh _ _ _ _ _; have h9 : some v = lastS a id l := tell_end (by omega) hA2; rw [hLs] at h9; obtain rfl : s = v := (Option.some.inj h9.symm); have hR9 := tell_all (by omega) hA2; subst hR9; refine Gh.go ?_)
    | (guard_target = Gh _ _ _ _ _; refine Gh.go ?_)
    | (guard_target = Arith _ _ _; refine Arith.fit (wrap_fit (by first | omega | (simp only [List.length_map]; omega)) (by first | omega | (simp only [List.length_map]; omega))) ?_)
    | (guard_target = Arith _ _ _; refine Arith.fit (by decide) ?_)
    | (guard_target = Index _ _ _; first | refine Index.mk _ (idx_getD (d := 0) (i := i) (l := l) (by omega)) ?_ | refine Index.mk _ (idx_getD (d := s00) (i := (l.getD i 0).toNat) (by omega)) ?_ | refine Index.mk _ (idx_cut (h : known (sv a (l.getD i 0)) id)) ?_ | refine Index.mk _ (idx_getD (d := 0) (i := j) (l := closN (sv a s) id) (by omega)) ?_ | refine Index.mk _ (idx_map (by omega)) ?_)
    | (guard_target = Need (chkDraw _ = true) _; refine Need.mk (by kernel_rfl) ?_)
    | (guard_target = Need (chkRecs _ _ = true) _; refine Need.mk (by first | kernel_rfl | rfl) ?_)
    | (guard_target = Need _ _; refine Need.mk (by first | ((simp only [List.length_map, List.length_take, List.length_drop, maxLen]; constructor <;> omega)) | (exact len_cut (h : known (sv a (l.getD i 0)) id)) | omega | (simp only [List.length_map]; omega)) ?_))
  all_goals first | rfl | trivial
theorem Tell7 (hu : l.all (upB a) = true) (h6 : ¬ 2 * (l.length : Int) ≤ a.servers.length) (s : Int) (hLs : lastS a id l = some s) (ht : takenB a l (sv a s) id = false) : CallX Tryz.prog 40 [encA a, I id, .c (.ro 1 (l.map eI))] [] (resQ (lemE (noteOf (sv a s) id).entry) 0) := by
  have hv := ValidArchive_ok a hl
  rw [hg] at hv
  have h1 := ascending_ok l
  rw [h] at h1
  have h3 := inRange_ok l ((a.servers.map encServer).length : Nat) (by have := srv_num hg; rw [List.length_map]; omega)
  rw [show ((((a.servers.map encServer).length : Nat) : Int) - 1) = (a.servers.length : Int) - 1 by rw [List.length_map], h2] at h3
  have h5 := within_ok id 0 99
  rw [h4] at h5
  have hpl : ∀ i, i < l.length → 0 ≤ l.getD i 0 ∧ (l.getD i 0).toNat < a.servers.length := fun i hi => by
    rw [getD_eq hi]
    have := rng_le (List.all_eq_true.1 h2 _ (List.getElem_mem hi))
    omega
  have hGA := (arch_iff a).1 hg
  have hsg : ∀ i, i < l.length → goodNotes a.sig.tests a.sig.actions (sv a (l.getD i 0)) = true := fun i hi => sv_good hGA (by
    rw [getD_eq hi]
    exact List.all_eq_true.1 h2 _ (List.getElem_mem hi))
  have hsb : ∀ i, i < l.length → 0 ≤ (a.servers.getD (l.getD i 0).toNat s00).saved ∧ (a.servers.getD (l.getD i 0).toNat s00).saved ≤ ((a.servers.getD (l.getD i 0).toNat s00).notes.length : Int) := fun i hi => savedB hGA (hpl i hi).2
  have hs20 : ∀ i, i < l.length → (a.servers.getD (l.getD i 0).toNat s00).notes.length ≤ 20 := fun i hi => (srv_notes hGA (hpl i hi).2).2
  have hsm := lastS_some hLs
  have hps : placeB a s = true := List.all_eq_true.1 h2 _ hsm.1
  have hsgd := sv_good hGA hps
  have htk := taken_closure hGA (l := l) (fun s hs => List.all_eq_true.1 h2 _ hs) (VN.of hsgd) hsm.2
  have hne := clos_ne (VN.of hsgd) hsm.2
  have hbud := lem_bud hl hps hsm.2
  refine callX_of_vc htb hm Tryz.func40 rfl rfl rfl rfl (ann := fun _ => none) (gh := fun reg_ => match reg_ with | 15 => true | 24 => true | 25 => true | _ => false) ?_
  repeat' ((conv => whnf); first
    | (guard_target = Done _; refine Done.mk ?_)
    | (guard_target = RetX _ _; refine RetX.mk ?_ ?_)
    | (guard_target =~ LoopE 6 _ _ _ _ _ _; refine LoopE.mk { α := Nat, keep := [1, 2, 3, 6, 40, 41], ov := fun i => [(42, I (i : Nat))], φ := fun i => i ≤ l.length ∧ (l.take i).all (upB a) = true, μ := fun i => l.length - i } (LoopN.mk (0 : Nat) (by exact ⟨Nat.zero_le _, rfl⟩) (by (repeat' first | exact trivial | exact rfl | refine ⟨?_, ?_⟩); done) (by (repeat' first | exact trivial | exact rfl | refine ⟨?_, ?_⟩); done) (by (repeat' first | exact trivial | exact rfl | refine ⟨?_, ?_⟩ | (simp only [List.map_append, List.map_cons, List.map_nil, List.map_set]; first | done | rfl)); done) (fun (i : Nat) ha => ?_) (by intro A; first | rfl | (obtain ⟨_, _⟩ := A; rfl) | (obtain ⟨_, _, _⟩ := A; rfl))); have ha : i ≤ l.length ∧ (l.take i).all (upB a) = true := ha; have hpi := hpl i)
    | (guard_target =~ LoopE 17 _ _ _ _ _ _; refine LoopE.mk { α := Nat × List (List CV) × Option Int, keep := [1, 3, 6, 12, 66, 67], ov := fun ⟨i, R, o⟩ => [(10, .lw 4), (11, idsV a id o), (68, I (i : Nat))], hv := fun ⟨i, R, o⟩ => [(4, .row none 92 7 R), (10, qBlk a id o)], φ := fun ⟨i, R, o⟩ => i ≤ l.length ∧ R = ((l.take i).flatMap (sv a)).map encNote ∧ R.length ≤ 20 * i ∧ o = lastS a id (l.take i), μ := fun ⟨i, R, o⟩ => l.length - i } (LoopN.mk ((0, [], none) : Nat × List (List CV) × Option Int) (by exact ⟨Nat.zero_le _, rfl, Nat.zero_le _, rfl⟩) (by (repeat' first | exact trivial | exact rfl | refine ⟨?_, ?_⟩); done) (by (repeat' first | exact trivial | exact rfl | refine ⟨?_, ?_⟩); done) (by (repeat' first | exact trivial | exact rfl | refine ⟨?_, ?_⟩ | (simp only [List.map_append, List.map_cons, List.map_nil, List.map_set]; first | done | rfl)); done) (fun A ha => ?_) (by intro A; first | rfl | (obtain ⟨_, _⟩ := A; rfl) | (obtain ⟨_, _, _⟩ := A; rfl))); obtain ⟨i, R, o⟩ := A; have ha : i ≤ l.length ∧ R = ((l.take i).flatMap (sv a)).map encNote ∧ R.length ≤ 20 * i ∧ o = lastS a id (l.take i) := ha; have hpi := hpl i; have hsi := hsb i; have h20 := hs20 i; have hA2 := ha; (rcases o with _ | v))
    | (guard_target =~ LoopE 28 _ _ _ _ _ _; refine LoopE.mk { α := Nat, keep := [6, 10, 12, 107, 108], ov := fun j => [(109, I (j : Nat))], φ := fun j => j ≤ (closN (sv a s) id).length ∧ ((closN (sv a s) id).take j).all (fun x => !(revP (l.flatMap (sv a)) x)) = true, μ := fun j => (closN (sv a s) id).length - j } (LoopN.mk (0 : Nat) (by exact ⟨Nat.zero_le _, rfl⟩) (by (repeat' first | exact trivial | exact rfl | refine ⟨?_, ?_⟩); done) (by (repeat' first | exact trivial | exact rfl | refine ⟨?_, ?_⟩); done) (by (repeat' first | exact trivial | exact rfl | refine ⟨?_, ?_⟩ | (simp only [List.map_append, List.map_cons, List.map_nil, List.map_set]; first | done | rfl)); done) (fun (j : Nat) ha => ?_) (by intro A; first | rfl | (obtain ⟨_, _⟩ := A; rfl) | (obtain ⟨_, _, _⟩ := A; rfl))); have ha : j ≤ (closN (sv a s) id).length ∧ ((closN (sv a s) id).take j).all (fun x => !(revP (l.flatMap (sv a)) x)) = true := ha; have hj := ha)
    | (guard_target = Gh _ _ _ _ _; refine Gh.go ⟨(i + 1 : Nat), (by exact all_go (by omega) ha (by rw [← getD_eq (d := 0) (by omega)]; simp_all [upB])), (by first | (show _ < _; simp only []; omega) | omega | (simp; omega)), (by (repeat' first | exact trivial | exact rfl | refine ⟨?_, ?_⟩); done), (by (repeat' first | exact trivial | exact rfl | refine ⟨?_, ?_⟩); done), (by (repeat' first | exact trivial | exact rfl | refine ⟨?_, ?_⟩ | (simp only [List.map_append, List.map_cons, List.map_nil, List.map_set]; first | done | rfl)); done)⟩)
    | (guard_target = Gh _ _ _ _ _; refine Gh.go ⟨((i + 1, R ++ cutN a (l.getD i 0), none) : Nat × List (List CV) × Option Int), (by exact tell_no (by omega) (by omega) hA2 (by have h8 : ¬ spotN (sv a (l.getD i 0)) false id ≥ 0 := h; exact h8)), (by first | (show _ < _; simp only []; omega) | omega | (simp; omega)), (by (repeat' first | exact trivial | exact rfl | refine ⟨?_, ?_⟩); done), (by (repeat' first | exact trivial | exact rfl | refine ⟨?_, ?_⟩); done), (by (repeat' first | exact trivial | exact rfl | refine ⟨?_, ?_⟩ | (simp only [List.map_append, List.map_cons, List.map_nil, List.map_set]; first | done | rfl)); done)⟩)
    | (guard_target = Gh _ _ _ _ _; refine Gh.go ⟨((i + 1, R ++ cutN a (l.getD i 0), some v) : Nat × List (List CV) × Option Int), (by exact tell_no (by omega) (by omega) hA2 (by have h8 : ¬ spotN (sv a (l.getD i 0)) false id ≥ 0 := h; exact h8)), (by first | (show _ < _; simp only []; omega) | omega | (simp; omega)), (by (repeat' first | exact trivial | exact rfl | refine ⟨?_, ?_⟩); done), (by (repeat' first | exact trivial | exact rfl | refine ⟨?_, ?_⟩); done), (by (repeat' first | exact trivial | exact rfl | refine ⟨?_, ?_⟩ | (simp only [List.map_append, List.map_cons, List.map_nil, List.map_set]; first | done | rfl)); done)⟩)
    | (guard_target = Gh _ _ _ _ _; refine Gh.go ⟨((i + 1, R ++ cutN a (l.getD i 0), some (l.getD i 0)) : Nat × List (List CV) × Option Int), (by exact tell_yes (by omega) (by omega) hA2 h), (by first | (show _ < _; simp only []; omega) | omega | (simp; omega)), (by (repeat' first | exact trivial | exact rfl | refine ⟨?_, ?_⟩); done), (by (repeat' first | exact trivial | exact rfl | refine ⟨?_, ?_⟩); done), (by (repeat' first | exact trivial | exact rfl | refine ⟨?_, ?_⟩ | (simp only [List.map_append, List.map_cons, List.map_nil, List.map_set]; first | done | rfl)); done)⟩)
    | (guard_target = Gh _ _ _ _ _; refine Gh.go ⟨(j + 1 : Nat), (by exact all_go (by omega) ha (by rw [← getD_eq (d := 0) (by omega)]; exact not_of (decide_eq_false h))), (by first | (show _ < _; simp only []; omega) | omega | (simp; omega)), (by (repeat' first | exact trivial | exact rfl | refine ⟨?_, ?_⟩); done), (by (repeat' first | exact trivial | exact rfl | refine ⟨?_, ?_⟩); done), (by (repeat' first | exact trivial | exact rfl | refine ⟨?_, ?_⟩ | (simp only [List.map_append, List.map_cons, List.map_nil, List.map_set]; first | done | rfl)); done)⟩)
    | (guard_target = Fact _ _; refine Fact.mk fun hL => ?_; (try simp only [List.length_map, maxLen] at hL))
    | (guard_target = Branch _ _ _; (first | refine Branch.dec (fun h => ?_) (fun h => ?_) | refine Branch.beq (fun h => ?_) (fun h => ?_) | refine Branch.bne (fun h => ?_) (fun h => ?_) | refine Branch.ndec (fun h => ?_) (fun h => ?_) | refine Branch.nb (fun h => ?_) (fun h => ?_) | refine Branch.mk (fun h => ?_) (fun h => ?_)) <;> (try simp only [List.length_map] at h) <;> (try omega) <;> (try contradiction))
    | (guard_target = CallN _ 15 _ _ _ _; refine CallN.pure _ _ rfl (hv) rfl _ rfl ?_)
    | (guard_target = CallN _ 93 _ _ _ _; refine CallN.pure _ _ rfl (h1) rfl _ rfl ?_)
    | (guard_target = CallN _ 94 _ _ _ _; refine CallN.pure _ _ rfl (h3) rfl _ rfl ?_)
    | (guard_target = CallN _ 51 _ _ _ _; refine CallN.pure _ _ rfl (h5) rfl _ rfl ?_)
    | (guard_target = CallN _ 71 _ _ _ _; refine CallN.pure _ _ rfl (find_cut _ _ _ _ _) rfl _ rfl ?_)
    | (guard_target = CallN _ 78 _ _ _ _; refine CallN.gen [] _ _ _ rfl (closure_cut a (l.getD i 0) id (VN.of (hsg i (by omega))) h) rfl rfl _ rfl ?_)
    | (guard_target = CallN _ 84 _ _ _ _; refine CallN.pure _ _ rfl (told_ok (noteOf (sv a (l.getD i 0)) id).entry ((VE.of (hsg i (by omega))).cl _ h).1) rfl _ rfl ?_)
    | (guard_target = CallN _ 71 _ _ _ _; refine CallN.pure _ _ rfl (find_ok (l.flatMap (sv a)) true _) rfl _ rfl ?_)
    | (guard_target = CallN _ 95 _ _ _ _; refine CallN.gen [] _ _ _ rfl (copyExpr_told (lemE (noteOf (sv a s) id).entry).left hbud.1) rfl rfl _ rfl ?_)
    | (guard_target = CallN _ 95 _ _ _ _; refine CallN.gen [] _ _ _ rfl (copyExpr_told (lemE (noteOf (sv a s) id).entry).right hbud.2) rfl rfl _ rfl ?_)
    | (have h8 : (a.servers.getD (l.getD i 0).toNat s00).up = false := h; exact absurd (List.all_eq_true.1 hu _ (List.getElem_mem (n := i) (by omega))) (by rw [← getD_eq (d := 0) (by omega)]; show ¬ (a.servers.getD (l.getD i 0).toNat s00).up = true; rw [h8]; decide))
    | (guard_target = Gh _ _ _ _ _; refine Gh.frz 5 (.ro 1 []) rfl (Gh.go ?_))
    | (have h9 : none = lastS a id l := tell_end (by omega) hA2; rw [hLs] at h9; cases h9)
    | (have h9 : spotN (l.flatMap (sv a)) true ((closN (sv a s) id).getD j 0) ≥ 0 := h; exact absurd (any_stop (p := revP (l.flatMap (sv a))) (l := closN (sv a s) id) (i := j) (by omega) (by rw [← getD_eq (d := 0) (by omega)]; exact decide_eq_true h9)) (by rw [htk, ht]; decide))
    | (guard_target = Gh _ _ _ _ _; refine Gh.frz 12 (.ro 1 ((closN (sv a (l.getD i 0)) id).map eI)) rfl (Gh.go ?_))
    | (guard_target = Gh _ _ _ _ _; have h9 : some v = lastS a id l := tell_end (by omega) hA2; rw [hLs] at h9; obtain rfl : s = v := (Option.some.inj h9.symm); have hR9 := tell_all (by omega) hA2; subst hR9; refine Gh.go ?_)
    | (guard_target = Gh _ _ _ _ _; refine Gh.go ?_)
    | (guard_target = Arith _ _ _; refine Arith.fit (wrap_fit (by first | omega | (simp only [List.length_map]; omega)) (by first | omega | (simp only [List.length_map]; omega))) ?_)
    | (guard_target = Arith _ _ _; refine Arith.fit (by decide) ?_)
    | (guard_target = Index _ _ _; first | refine Index.mk _ (idx_getD (d := 0) (i := i) (l := l) (by omega)) ?_ | refine Index.mk _ (idx_getD (d := s00) (i := (l.getD i 0).toNat) (by omega)) ?_ | refine Index.mk _ (idx_cut (h : known (sv a (l.getD i 0)) id)) ?_ | refine Index.mk _ (idx_getD (d := 0) (i := j) (l := closN (sv a s) id) (by omega)) ?_ | refine Index.mk _ (idx_map (by omega)) ?_)
    | (guard_target = Need (chkDraw _ = true) _; refine Need.mk (by kernel_rfl) ?_)
    | (guard_target = Need (chkRecs _ _ = true) _; refine Need.mk (by first | kernel_rfl | rfl) ?_)
    | (guard_target = Need _ _; refine Need.mk (by first | ((simp only [List.length_map, List.length_take, List.length_drop, maxLen]; constructor <;> omega)) | (exact len_cut (h : known (sv a (l.getD i 0)) id)) | omega | (simp only [List.length_map]; omega)) ?_))
  all_goals first | rfl | trivial
end
end
end
end
end Go.Proofs.YtbbaadkgmdkjdaaGreat
