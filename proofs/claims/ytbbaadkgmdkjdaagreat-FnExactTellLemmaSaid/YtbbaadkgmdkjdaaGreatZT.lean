/- Contracts of the reference's TellLemma. No conditions. -/
import Derived.Test.YtbbaadkgmdkjdaaGreatZn
namespace Go.Proofs.YtbbaadkgmdkjdaaGreat
open Go Go.KA Go.Proofs
set_option maxHeartbeats 16000000
set_option maxRecDepth 100000
abbrev foundV (a : XArchive) : Option Int → SV
  | none => .lw 4
  | some s => .c (.ro 7 (cutN a s))
theorem adj_of {l : List Int} (h : adjB l = true) {i : Nat} (hi : i < l.length) (h1 : 0 < i) : l.getD ((i : Int) - 1).toNat 0 < l.getD i 0 := by
  have h2 := List.all_eq_true.1 h i (List.mem_range.2 hi)
  rw [show ((i : Int) - 1).toNat = i - 1 by omega]
  simp only [Bool.or_eq_true, decide_eq_true_eq] at h2
  omega
theorem adj_step {l : List Int} {i : Nat} (ha : (List.range i).all (adjP l) = true) (h : i = 0 ∨ l.getD (i - 1) 0 < l.getD i 0) : (List.range (i + 1)).all (adjP l) = true := by
  refine allR_go (n := 0) ha ?_
  unfold adjP
  simp only [Bool.or_eq_true, decide_eq_true_eq]
  omega
abbrev SpecI (a : XArchive) (l : List Int) (i : Nat) : Prop := i ≤ l.length ∧ (l.take i).all (placeB a) = true ∧ (List.range i).all (adjP l) = true
theorem spec_next {a : XArchive} {l : List Int} {i : Nat} (hi : i < l.length) (h : SpecI a l i) (hp : placeB a (l.getD i 0) = true) (hd : i = 0 ∨ l.getD ((i : Int) - 1).toNat 0 < l.getD i 0) : SpecI a l (i + 1) := by
  rw [show ((i : Int) - 1).toNat = i - 1 by omega] at hd
  refine ⟨hi, (all_go hi ⟨h.1, h.2.1⟩ ?_).2, adj_step h.2.2 hd⟩
  rwa [getD_eq hi] at hp
theorem spec_end {a : XArchive} {l : List Int} {i : Nat} (hi : ¬ i < l.length) (h : SpecI a l i) : ¬ (adjB l && l.all (placeB a)) = false := by
  have e : i = l.length := by have := h.1; omega
  subst e
  have h1 := h.2.1
  rw [List.take_length] at h1
  have h2 : adjB l = true := h.2.2
  rw [h1, h2]
  decide
theorem sv_len {a : XArchive} (hg : GA a) {s : Int} (hs : placeB a s = true) : (sv a s).length = (a.servers.getD s.toNat s00).saved.toNat ∧ (sv a s).length ≤ (a.servers.getD s.toNat s00).notes.length ∧ 0 ≤ (a.servers.getD s.toNat s00).saved := by
  have h1 := savedB hg (place_lt hs).2
  unfold sv sav
  simp only [List.length_take, List.length_drop]
  omega
theorem sv_get {a : XArchive} {s : Int} {k : Nat} (hk : k < (sv a s).length) : (sv a s).getD k n0 = (a.servers.getD s.toNat s00).notes.getD k n0 := by
  rw [getD_eq hk]
  unfold sv sav at hk ⊢
  simp only [Int.toNat_zero, List.drop_zero, List.length_take] at hk
  simp only [Int.toNat_zero, List.drop_zero, List.getElem_take]
  exact (getD_eq (by omega)).symm
theorem sv_rev {a : XArchive} (hg : GA a) {s : Int} (hs : placeB a s = true) {k : Nat} (hk : k < (sv a s).length) (hr : ((a.servers.getD s.toNat s00).notes.getD k n0).revoke = true) : 0 ≤ ((a.servers.getD s.toNat s00).notes.getD k n0).id ∧ ((a.servers.getD s.toNat s00).notes.getD k n0).id ≤ 99 := by
  rw [← sv_get hk, getD_eq hk] at hr ⊢
  exact rev_rng (VN.of (sv_good hg hs)) (List.getElem_mem hk) hr
theorem sv_bad {a : XArchive} {s : Int} {L : List XNote} {id : Int} {k : Nat} (hk : k < (sv a s).length) (h : badN L id ((a.servers.getD s.toNat s00).notes.getD k n0) = true) : (sv a s).any (badN L id) = true := by
  rw [← sv_get hk, getD_eq hk] at h
  exact any_stop hk h
theorem sv_ok {a : XArchive} {s : Int} {L : List XNote} {id : Int} {k : Nat} (hk : k < (sv a s).length) (h : badN L id ((a.servers.getD s.toNat s00).notes.getD k n0) = false) : (!(badN L id (sv a s)[k])) = true := by
  rw [← sv_get hk, getD_eq hk] at h
  rw [h]
  rfl
theorem spec3_no {a : XArchive} {id : Int} {l : List Int} {w : Nat} {o : Option Int} (hi : w < l.length) (h : w ≤ l.length ∧ o = lastS a id (l.take w)) (hn : ¬ spotN (sv a (l.getD w 0)) false id ≥ 0) : w + 1 ≤ l.length ∧ o = lastS a id (l.take (w + 1)) := by
  refine ⟨hi, ?_⟩
  rw [lastS_next hi, if_neg (by omega)]
  exact h.2
theorem spec3_yes {a : XArchive} {id : Int} {l : List Int} {w : Nat} {o : Option Int} (hi : w < l.length) (h : w ≤ l.length ∧ o = lastS a id (l.take w)) (hn : spotN (sv a (l.getD w 0)) false id ≥ 0) : w + 1 ≤ l.length ∧ some (l.getD w 0) = lastS a id (l.take (w + 1)) := by
  refine ⟨hi, ?_⟩
  rw [lastS_next hi, if_pos (by omega)]
theorem spec3_end {a : XArchive} {id : Int} {l : List Int} {w : Nat} {o : Option Int} (hi : ¬ w < l.length) (h : w ≤ l.length ∧ o = lastS a id (l.take w)) : o = lastS a id l := by
  have := h.2
  rwa [List.take_of_length_le (by omega)] at this
theorem spot_cutS (a : XArchive) (s id : Int) : CallF Tryz.prog 69 [.c (.ro 7 (cutN a s)), B false, I id] (I (spotN (sv a s) false id)) := l08Spot_cut _ _ _ _ _
theorem closure_cutS (a : XArchive) (s id : Int) (hv : VN (sv a s)) (hk : known (sv a s) id) : CallX Tryz.prog 77 [.c (.ro 7 (cutN a s)), I id] [] (.c (.ows 4 1 ((markN (sv a s) id).map eB))) := by
  rw [cutN_eq]
  exact l08Closure_ok _ id hv hk
section
variable (a : XArchive) (id : Int) (l : List Int) (hl : budArchive a ≤ 1048576)
include hl
theorem Spec1 (h : goodArch a = false) : CallX Tryz.prog 38 [encA a, I id, .c (.ro 1 (l.map eI))] [] (resZ 1) := by
  have hv := l08Ok_ok a hl
  rw [h] at hv
  refine callX_of_vc htb hm Tryz.func38 rfl rfl rfl rfl (ann := fun _ => none) (gh := fun _ => false) ?_
  repeat' ((conv => whnf); first
    | (guard_target = Done _; refine Done.mk ?_)
    | (guard_target = RetX _ _; refine RetX.mk ?_ ?_)
    | (guard_target = Fact _ _; refine Fact.mk fun hL => ?_; (try simp only [List.length_map, maxLen] at hL))
    | (guard_target = Branch _ _ _; (first | refine Branch.dec (fun h => ?_) (fun h => ?_) | refine Branch.beq (fun h => ?_) (fun h => ?_) | refine Branch.bne (fun h => ?_) (fun h => ?_) | refine Branch.ndec (fun h => ?_) (fun h => ?_) | refine Branch.nb (fun h => ?_) (fun h => ?_) | refine Branch.mk (fun h => ?_) (fun h => ?_)) <;> (try simp only [List.length_map] at h) <;> (try omega) <;> (try contradiction))
    | (guard_target = CallN _ 46 _ _ _ _; refine CallN.pure _ _ rfl (hv) rfl _ rfl ?_)
    | (guard_target = Arith _ _ _; refine Arith.fit (wrap_fit (by first | omega | (simp only [List.length_map]; omega)) (by first | omega | (simp only [List.length_map]; omega))) ?_)
    | (guard_target = Arith _ _ _; refine Arith.fit (by decide) ?_)
    | (guard_target = Index _ _ _; first  | refine Index.mk _ (idx_map (by omega)) ?_)
    | (guard_target = Need (chkDraw _ = true) _; refine Need.mk (by kernel_rfl) ?_)
    | (guard_target = Need (chkRecs _ _ = true) _; refine Need.mk (by first | kernel_rfl | rfl) ?_)
    | (guard_target = Need _ _; refine Need.mk (by first  | omega | (simp only [List.length_map]; omega)) ?_))
  all_goals first | rfl | trivial
section
variable (hg : goodArch a = true)
include hg
theorem Spec2a (hn : l.length ≤ 1048576) (hbad : (adjB l && l.all (placeB a)) = false) : CallX Tryz.prog 38 [encA a, I id, .c (.ro 1 (l.map eI))] [] (resZ 2) := by
  have hv := l08Ok_ok a hl
  rw [hg] at hv
  refine callX_of_vc htb hm Tryz.func38 rfl rfl rfl rfl (ann := fun _ => none) (gh := fun _ => false) ?_
  repeat' ((conv => whnf); first
    | (guard_target = Done _; refine Done.mk ?_)
    | (guard_target = RetX _ _; refine RetX.mk ?_ ?_)
    | (guard_target =~ LoopE 4 _ _ _ _ _ _; refine LoopE.mk { α := Nat, keep := [1, 2, 3, 6], ov := fun i => [(8, I (i : Nat))], φ := fun i => i ≤ l.length ∧ (l.take i).all (placeB a) = true ∧ (List.range i).all (adjP l) = true, μ := fun i => l.length - i } (LoopN.mk (0 : Nat) (by exact ⟨Nat.zero_le _, rfl, rfl⟩) (by (repeat' first | exact trivial | exact rfl | refine ⟨?_, ?_⟩); done) (by (repeat' first | exact trivial | exact rfl | refine ⟨?_, ?_⟩); done) (by (repeat' first | exact trivial | exact rfl | refine ⟨?_, ?_⟩ | (simp only [List.map_append, List.map_cons, List.map_nil, List.map_set]; first | done | rfl)); done) (fun (i : Nat) ha => ?_) (by intro A; first | rfl | (obtain ⟨_, _⟩ := A; rfl) | (obtain ⟨_, _, _⟩ := A; rfl))); have ha : i ≤ l.length ∧ (l.take i).all (placeB a) = true ∧ (List.range i).all (adjP l) = true := ha; have hA1 := ha)
    | (guard_target = Gh _ _ _ _ _; refine Gh.go ⟨(i + 1 : Nat), (by exact spec_next (by omega) hA1 (by assumption) (by omega)), (by first | (show _ < _; simp only []; omega) | omega | (simp; omega)), (by (repeat' first | exact trivial | exact rfl | refine ⟨?_, ?_⟩); done), (by (repeat' first | exact trivial | exact rfl | refine ⟨?_, ?_⟩); done), (by (repeat' first | exact trivial | exact rfl | refine ⟨?_, ?_⟩ | (simp only [List.map_append, List.map_cons, List.map_nil, List.map_set]; first | done | rfl)); done)⟩)
    | (guard_target = Fact _ _; refine Fact.mk fun hL => ?_; (try simp only [List.length_map, maxLen] at hL))
    | (guard_target = Branch _ _ _; (first | refine Branch.dec (fun h => ?_) (fun h => ?_) | refine Branch.beq (fun h => ?_) (fun h => ?_) | refine Branch.bne (fun h => ?_) (fun h => ?_) | refine Branch.ndec (fun h => ?_) (fun h => ?_) | refine Branch.nb (fun h => ?_) (fun h => ?_) | refine Branch.mk (fun h => ?_) (fun h => ?_)) <;> (try simp only [List.length_map] at h) <;> (try omega) <;> (try contradiction))
    | (guard_target = CallN _ 46 _ _ _ _; refine CallN.pure _ _ rfl (hv) rfl _ rfl ?_)
    | (guard_target = CallN _ 89 _ _ _ _; refine CallN.pure _ _ rfl (l08At_ok a (l.getD i 0)) rfl _ rfl ?_)
    | (have h8 : ¬ ((i : Nat) : Int) < ((l.length : Nat) : Int) := h; exact absurd hbad (spec_end (by omega) hA1))
    | (guard_target = Arith _ _ _; refine Arith.fit (wrap_fit (by first | omega | (simp only [List.length_map]; omega)) (by first | omega | (simp only [List.length_map]; omega))) ?_)
    | (guard_target = Arith _ _ _; refine Arith.fit (by decide) ?_)
    | (guard_target = Index _ _ _; first | refine Index.mk _ (idx_getD (d := 0) (i := i) (l := l) (by omega)) ?_ | refine Index.mk _ (idx_getD (d := 0) (i := ((i : Int) - 1).toNat) (l := l) (by omega)) ?_ | refine Index.mk _ (idx_map (by omega)) ?_)
    | (guard_target = Need (chkDraw _ = true) _; refine Need.mk (by kernel_rfl) ?_)
    | (guard_target = Need (chkRecs _ _ = true) _; refine Need.mk (by first | kernel_rfl | rfl) ?_)
    | (guard_target = Need _ _; refine Need.mk (by first  | omega | (simp only [List.length_map]; omega)) ?_))
  all_goals first | rfl | trivial
section
variable (hn : l.length ≤ 1048576) (hadj : adjB l = true) (hpa : l.all (placeB a) = true)
include hn hadj hpa
theorem Spec2c (h4 : rng 0 99 id = false) : CallX Tryz.prog 38 [encA a, I id, .c (.ro 1 (l.map eI))] [] (resZ 2) := by
  have hv := l08Ok_ok a hl
  rw [hg] at hv
  have hpl : ∀ i, i < l.length → placeB a (l.getD i 0) = true := fun i hi => by
    rw [getD_eq hi]
    exact List.all_eq_true.1 hpa _ (List.getElem_mem hi)
  have hpq : ∀ i, i < l.length → 0 ≤ l.getD i 0 ∧ (l.getD i 0).toNat < a.servers.length := fun i hi => place_lt (hpl i hi)
  have h5 := l00In_ok id 0 99
  rw [h4] at h5
  refine callX_of_vc htb hm Tryz.func38 rfl rfl rfl rfl (ann := fun _ => none) (gh := fun _ => false) ?_
  repeat' ((conv => whnf); first
    | (guard_target = Done _; refine Done.mk ?_)
    | (guard_target = RetX _ _; refine RetX.mk ?_ ?_)
    | (guard_target =~ LoopE 4 _ _ _ _ _ _; refine LoopE.mk { α := Nat, keep := [1, 2, 3, 6], ov := fun i => [(8, I (i : Nat))], φ := fun i => i ≤ l.length ∧ (l.take i).all (placeB a) = true ∧ (List.range i).all (adjP l) = true, μ := fun i => l.length - i } (LoopN.mk (0 : Nat) (by exact ⟨Nat.zero_le _, rfl, rfl⟩) (by (repeat' first | exact trivial | exact rfl | refine ⟨?_, ?_⟩); done) (by (repeat' first | exact trivial | exact rfl | refine ⟨?_, ?_⟩); done) (by (repeat' first | exact trivial | exact rfl | refine ⟨?_, ?_⟩ | (simp only [List.map_append, List.map_cons, List.map_nil, List.map_set]; first | done | rfl)); done) (fun (i : Nat) ha => ?_) (by intro A; first | rfl | (obtain ⟨_, _⟩ := A; rfl) | (obtain ⟨_, _, _⟩ := A; rfl))); have ha : i ≤ l.length ∧ (l.take i).all (placeB a) = true ∧ (List.range i).all (adjP l) = true := ha; have hA1 := ha)
    | (guard_target = Gh _ _ _ _ _; refine Gh.go ⟨(i + 1 : Nat), (by exact spec_next (by omega) hA1 (by assumption) (by omega)), (by first | (show _ < _; simp only []; omega) | omega | (simp; omega)), (by (repeat' first | exact trivial | exact rfl | refine ⟨?_, ?_⟩); done), (by (repeat' first | exact trivial | exact rfl | refine ⟨?_, ?_⟩); done), (by (repeat' first | exact trivial | exact rfl | refine ⟨?_, ?_⟩ | (simp only [List.map_append, List.map_cons, List.map_nil, List.map_set]; first | done | rfl)); done)⟩)
    | (guard_target = Fact _ _; refine Fact.mk fun hL => ?_; (try simp only [List.length_map, maxLen] at hL))
    | (guard_target = Branch _ _ _; (first | refine Branch.dec (fun h => ?_) (fun h => ?_) | refine Branch.beq (fun h => ?_) (fun h => ?_) | refine Branch.bne (fun h => ?_) (fun h => ?_) | refine Branch.ndec (fun h => ?_) (fun h => ?_) | refine Branch.nb (fun h => ?_) (fun h => ?_) | refine Branch.mk (fun h => ?_) (fun h => ?_)) <;> (try simp only [List.length_map] at h) <;> (try omega) <;> (try contradiction))
    | (guard_target = CallN _ 46 _ _ _ _; refine CallN.pure _ _ rfl (hv) rfl _ rfl ?_)
    | (guard_target = CallN _ 89 _ _ _ _; refine CallN.pure _ _ rfl (l08At_ok a (l.getD i 0)) rfl _ rfl ?_)
    | (guard_target = CallN _ 90 _ _ _ _; refine CallN.pure _ _ rfl (h5) rfl _ rfl ?_)
    | (have h8 : placeB a (l.getD i 0) = false := h; exact absurd ((hpl i (by omega)).symm.trans h8) (by decide))
    | (have h8 : l.getD ((i : Int) - 1).toNat 0 ≥ l.getD i 0 := h; have h9 := adj_of hadj (i := i) (by omega) (by omega); omega)
    | (guard_target = Arith _ _ _; refine Arith.fit (wrap_fit (by first | omega | (simp only [List.length_map]; omega)) (by first | omega | (simp only [List.length_map]; omega))) ?_)
    | (guard_target = Arith _ _ _; refine Arith.fit (by decide) ?_)
    | (guard_target = Index _ _ _; first | refine Index.mk _ (idx_getD (d := 0) (i := i) (l := l) (by omega)) ?_ | refine Index.mk _ (idx_getD (d := 0) (i := ((i : Int) - 1).toNat) (l := l) (by omega)) ?_ | refine Index.mk _ (idx_map (by omega)) ?_)
    | (guard_target = Need (chkDraw _ = true) _; refine Need.mk (by kernel_rfl) ?_)
    | (guard_target = Need (chkRecs _ _ = true) _; refine Need.mk (by first | kernel_rfl | rfl) ?_)
    | (guard_target = Need _ _; refine Need.mk (by first  | omega | (simp only [List.length_map]; omega)) ?_))
  all_goals first | rfl | trivial
section
variable (h4 : rng 0 99 id = true)
include h4
theorem Spec3 (hu : l.all (upB a) = false) : CallX Tryz.prog 38 [encA a, I id, .c (.ro 1 (l.map eI))] [] (resZ 4) := by
  have hv := l08Ok_ok a hl
  rw [hg] at hv
  have hpl : ∀ i, i < l.length → placeB a (l.getD i 0) = true := fun i hi => by
    rw [getD_eq hi]
    exact List.all_eq_true.1 hpa _ (List.getElem_mem hi)
  have hpq : ∀ i, i < l.length → 0 ≤ l.getD i 0 ∧ (l.getD i 0).toNat < a.servers.length := fun i hi => place_lt (hpl i hi)
  have h5 := l00In_ok id 0 99
  rw [h4] at h5
  refine callX_of_vc htb hm Tryz.func38 rfl rfl rfl rfl (ann := fun _ => none) (gh := fun _ => false) ?_
  repeat' ((conv => whnf); first
    | (guard_target = Done _; refine Done.mk ?_)
    | (guard_target = RetX _ _; refine RetX.mk ?_ ?_)
    | (guard_target =~ LoopE 4 _ _ _ _ _ _; refine LoopE.mk { α := Nat, keep := [1, 2, 3, 6], ov := fun i => [(8, I (i : Nat))], φ := fun i => i ≤ l.length ∧ (l.take i).all (placeB a) = true ∧ (List.range i).all (adjP l) = true, μ := fun i => l.length - i } (LoopN.mk (0 : Nat) (by exact ⟨Nat.zero_le _, rfl, rfl⟩) (by (repeat' first | exact trivial | exact rfl | refine ⟨?_, ?_⟩); done) (by (repeat' first | exact trivial | exact rfl | refine ⟨?_, ?_⟩); done) (by (repeat' first | exact trivial | exact rfl | refine ⟨?_, ?_⟩ | (simp only [List.map_append, List.map_cons, List.map_nil, List.map_set]; first | done | rfl)); done) (fun (i : Nat) ha => ?_) (by intro A; first | rfl | (obtain ⟨_, _⟩ := A; rfl) | (obtain ⟨_, _, _⟩ := A; rfl))); have ha : i ≤ l.length ∧ (l.take i).all (placeB a) = true ∧ (List.range i).all (adjP l) = true := ha; have hA1 := ha)
    | (guard_target =~ LoopE 11 _ _ _ _ _ _; refine LoopE.mk { α := Nat, keep := [1, 2, 3, 6], ov := fun u => [(9, I (u : Nat))], φ := fun u => u ≤ l.length ∧ (l.take u).all (upB a) = true, μ := fun u => l.length - u } (LoopN.mk (0 : Nat) (by exact ⟨Nat.zero_le _, rfl⟩) (by (repeat' first | exact trivial | exact rfl | refine ⟨?_, ?_⟩); done) (by (repeat' first | exact trivial | exact rfl | refine ⟨?_, ?_⟩); done) (by (repeat' first | exact trivial | exact rfl | refine ⟨?_, ?_⟩ | (simp only [List.map_append, List.map_cons, List.map_nil, List.map_set]; first | done | rfl)); done) (fun (u : Nat) ha => ?_) (by intro A; first | rfl | (obtain ⟨_, _⟩ := A; rfl) | (obtain ⟨_, _, _⟩ := A; rfl))); have ha : u ≤ l.length ∧ (l.take u).all (upB a) = true := ha; have hpi := hpq u)
    | (guard_target = Gh _ _ _ _ _; refine Gh.go ⟨(i + 1 : Nat), (by exact spec_next (by omega) hA1 (by assumption) (by omega)), (by first | (show _ < _; simp only []; omega) | omega | (simp; omega)), (by (repeat' first | exact trivial | exact rfl | refine ⟨?_, ?_⟩); done), (by (repeat' first | exact trivial | exact rfl | refine ⟨?_, ?_⟩); done), (by (repeat' first | exact trivial | exact rfl | refine ⟨?_, ?_⟩ | (simp only [List.map_append, List.map_cons, List.map_nil, List.map_set]; first | done | rfl)); done)⟩)
    | (guard_target = Gh _ _ _ _ _; refine Gh.go ⟨(u + 1 : Nat), (by exact all_go (by omega) ha (by rw [← getD_eq (d := 0) (by omega)]; simp_all [upB])), (by first | (show _ < _; simp only []; omega) | omega | (simp; omega)), (by (repeat' first | exact trivial | exact rfl | refine ⟨?_, ?_⟩); done), (by (repeat' first | exact trivial | exact rfl | refine ⟨?_, ?_⟩); done), (by (repeat' first | exact trivial | exact rfl | refine ⟨?_, ?_⟩ | (simp only [List.map_append, List.map_cons, List.map_nil, List.map_set]; first | done | rfl)); done)⟩)
    | (guard_target = Fact _ _; refine Fact.mk fun hL => ?_; (try simp only [List.length_map, maxLen] at hL))
    | (guard_target = Branch _ _ _; (first | refine Branch.dec (fun h => ?_) (fun h => ?_) | refine Branch.beq (fun h => ?_) (fun h => ?_) | refine Branch.bne (fun h => ?_) (fun h => ?_) | refine Branch.ndec (fun h => ?_) (fun h => ?_) | refine Branch.nb (fun h => ?_) (fun h => ?_) | refine Branch.mk (fun h => ?_) (fun h => ?_)) <;> (try simp only [List.length_map] at h) <;> (try omega) <;> (try contradiction))
    | (guard_target = CallN _ 46 _ _ _ _; refine CallN.pure _ _ rfl (hv) rfl _ rfl ?_)
    | (guard_target = CallN _ 89 _ _ _ _; refine CallN.pure _ _ rfl (l08At_ok a (l.getD i 0)) rfl _ rfl ?_)
    | (guard_target = CallN _ 90 _ _ _ _; refine CallN.pure _ _ rfl (h5) rfl _ rfl ?_)
    | (have h8 : placeB a (l.getD i 0) = false := h; exact absurd ((hpl i (by omega)).symm.trans h8) (by decide))
    | (have h8 : l.getD ((i : Int) - 1).toNat 0 ≥ l.getD i 0 := h; have h9 := adj_of hadj (i := i) (by omega) (by omega); omega)
    | (have h8 : ¬ ((u : Nat) : Int) < ((l.length : Nat) : Int) := h; exact absurd ((all_end h8 ha).symm.trans hu) (by decide))
    | (guard_target = Arith _ _ _; refine Arith.fit (wrap_fit (by first | omega | (simp only [List.length_map]; omega)) (by first | omega | (simp only [List.length_map]; omega))) ?_)
    | (guard_target = Arith _ _ _; refine Arith.fit (by decide) ?_)
    | (guard_target = Index _ _ _; first | refine Index.mk _ (idx_getD (d := 0) (i := i) (l := l) (by omega)) ?_ | refine Index.mk _ (idx_getD (d := 0) (i := ((i : Int) - 1).toNat) (l := l) (by omega)) ?_ | refine Index.mk _ (idx_getD (d := 0) (i := u) (l := l) (by omega)) ?_ | refine Index.mk _ (idx_getD (d := s00) (i := (l.getD u 0).toNat) (by omega)) ?_ | refine Index.mk _ (idx_map (by omega)) ?_)
    | (guard_target = Need (chkDraw _ = true) _; refine Need.mk (by kernel_rfl) ?_)
    | (guard_target = Need (chkRecs _ _ = true) _; refine Need.mk (by first | kernel_rfl | rfl) ?_)
    | (guard_target = Need _ _; refine Need.mk (by first  | omega | (simp only [List.length_map]; omega)) ?_))
  all_goals first | rfl | trivial
theorem Spec4 (hu : l.all (upB a) = true) (h6 : 2 * (l.length : Int) ≤ a.servers.length) : CallX Tryz.prog 38 [encA a, I id, .c (.ro 1 (l.map eI))] [] (resZ 4) := by
  have hv := l08Ok_ok a hl
  rw [hg] at hv
  have hpl : ∀ i, i < l.length → placeB a (l.getD i 0) = true := fun i hi => by
    rw [getD_eq hi]
    exact List.all_eq_true.1 hpa _ (List.getElem_mem hi)
  have hpq : ∀ i, i < l.length → 0 ≤ l.getD i 0 ∧ (l.getD i 0).toNat < a.servers.length := fun i hi => place_lt (hpl i hi)
  have h5 := l00In_ok id 0 99
  rw [h4] at h5
  refine callX_of_vc htb hm Tryz.func38 rfl rfl rfl rfl (ann := fun _ => none) (gh := fun _ => false) ?_
  repeat' ((conv => whnf); first
    | (guard_target = Done _; refine Done.mk ?_)
    | (guard_target = RetX _ _; refine RetX.mk ?_ ?_)
    | (guard_target =~ LoopE 4 _ _ _ _ _ _; refine LoopE.mk { α := Nat, keep := [1, 2, 3, 6], ov := fun i => [(8, I (i : Nat))], φ := fun i => i ≤ l.length ∧ (l.take i).all (placeB a) = true ∧ (List.range i).all (adjP l) = true, μ := fun i => l.length - i } (LoopN.mk (0 : Nat) (by exact ⟨Nat.zero_le _, rfl, rfl⟩) (by (repeat' first | exact trivial | exact rfl | refine ⟨?_, ?_⟩); done) (by (repeat' first | exact trivial | exact rfl | refine ⟨?_, ?_⟩); done) (by (repeat' first | exact trivial | exact rfl | refine ⟨?_, ?_⟩ | (simp only [List.map_append, List.map_cons, List.map_nil, List.map_set]; first | done | rfl)); done) (fun (i : Nat) ha => ?_) (by intro A; first | rfl | (obtain ⟨_, _⟩ := A; rfl) | (obtain ⟨_, _, _⟩ := A; rfl))); have ha : i ≤ l.length ∧ (l.take i).all (placeB a) = true ∧ (List.range i).all (adjP l) = true := ha; have hA1 := ha)
    | (guard_target =~ LoopE 11 _ _ _ _ _ _; refine LoopE.mk { α := Nat, keep := [1, 2, 3, 6], ov := fun u => [(9, I (u : Nat))], φ := fun u => u ≤ l.length ∧ (l.take u).all (upB a) = true, μ := fun u => l.length - u } (LoopN.mk (0 : Nat) (by exact ⟨Nat.zero_le _, rfl⟩) (by (repeat' first | exact trivial | exact rfl | refine ⟨?_, ?_⟩); done) (by (repeat' first | exact trivial | exact rfl | refine ⟨?_, ?_⟩); done) (by (repeat' first | exact trivial | exact rfl | refine ⟨?_, ?_⟩ | (simp only [List.map_append, List.map_cons, List.map_nil, List.map_set]; first | done | rfl)); done) (fun (u : Nat) ha => ?_) (by intro A; first | rfl | (obtain ⟨_, _⟩ := A; rfl) | (obtain ⟨_, _, _⟩ := A; rfl))); have ha : u ≤ l.length ∧ (l.take u).all (upB a) = true := ha; have hpi := hpq u)
    | (guard_target = Gh _ _ _ _ _; refine Gh.go ⟨(i + 1 : Nat), (by exact spec_next (by omega) hA1 (by assumption) (by omega)), (by first | (show _ < _; simp only []; omega) | omega | (simp; omega)), (by (repeat' first | exact trivial | exact rfl | refine ⟨?_, ?_⟩); done), (by (repeat' first | exact trivial | exact rfl | refine ⟨?_, ?_⟩); done), (by (repeat' first | exact trivial | exact rfl | refine ⟨?_, ?_⟩ | (simp only [List.map_append, List.map_cons, List.map_nil, List.map_set]; first | done | rfl)); done)⟩)
    | (guard_target = Gh _ _ _ _ _; refine Gh.go ⟨(u + 1 : Nat), (by exact all_go (by omega) ha (by rw [← getD_eq (d := 0) (by omega)]; simp_all [upB])), (by first | (show _ < _; simp only []; omega) | omega | (simp; omega)), (by (repeat' first | exact trivial | exact rfl | refine ⟨?_, ?_⟩); done), (by (repeat' first | exact trivial | exact rfl | refine ⟨?_, ?_⟩); done), (by (repeat' first | exact trivial | exact rfl | refine ⟨?_, ?_⟩ | (simp only [List.map_append, List.map_cons, List.map_nil, List.map_set]; first | done | rfl)); done)⟩)
    | (guard_target = Fact _ _; refine Fact.mk fun hL => ?_; (try simp only [List.length_map, maxLen] at hL))
    | (guard_target = Branch _ _ _; (first | refine Branch.dec (fun h => ?_) (fun h => ?_) | refine Branch.beq (fun h => ?_) (fun h => ?_) | refine Branch.bne (fun h => ?_) (fun h => ?_) | refine Branch.ndec (fun h => ?_) (fun h => ?_) | refine Branch.nb (fun h => ?_) (fun h => ?_) | refine Branch.mk (fun h => ?_) (fun h => ?_)) <;> (try simp only [List.length_map] at h) <;> (try omega) <;> (try contradiction))
    | (guard_target = CallN _ 46 _ _ _ _; refine CallN.pure _ _ rfl (hv) rfl _ rfl ?_)
    | (guard_target = CallN _ 89 _ _ _ _; refine CallN.pure _ _ rfl (l08At_ok a (l.getD i 0)) rfl _ rfl ?_)
    | (guard_target = CallN _ 90 _ _ _ _; refine CallN.pure _ _ rfl (h5) rfl _ rfl ?_)
    | (have h8 : placeB a (l.getD i 0) = false := h; exact absurd ((hpl i (by omega)).symm.trans h8) (by decide))
    | (have h8 : l.getD ((i : Int) - 1).toNat 0 ≥ l.getD i 0 := h; have h9 := adj_of hadj (i := i) (by omega) (by omega); omega)
    | (have h8 : (a.servers.getD (l.getD u 0).toNat s00).up = false := h; exact absurd (List.all_eq_true.1 hu _ (List.getElem_mem (n := u) (by omega))) (by rw [← getD_eq (d := 0) (by omega)]; show ¬ (a.servers.getD (l.getD u 0).toNat s00).up = true; rw [h8]; decide))
    | (guard_target = Arith _ _ _; refine Arith.fit (wrap_fit (by first | omega | (simp only [List.length_map]; omega)) (by first | omega | (simp only [List.length_map]; omega))) ?_)
    | (guard_target = Arith _ _ _; refine Arith.fit (by decide) ?_)
    | (guard_target = Index _ _ _; first | refine Index.mk _ (idx_getD (d := 0) (i := i) (l := l) (by omega)) ?_ | refine Index.mk _ (idx_getD (d := 0) (i := ((i : Int) - 1).toNat) (l := l) (by omega)) ?_ | refine Index.mk _ (idx_getD (d := 0) (i := u) (l := l) (by omega)) ?_ | refine Index.mk _ (idx_getD (d := s00) (i := (l.getD u 0).toNat) (by omega)) ?_ | refine Index.mk _ (idx_map (by omega)) ?_)
    | (guard_target = Need (chkDraw _ = true) _; refine Need.mk (by kernel_rfl) ?_)
    | (guard_target = Need (chkRecs _ _ = true) _; refine Need.mk (by first | kernel_rfl | rfl) ?_)
    | (guard_target = Need _ _; refine Need.mk (by first  | omega | (simp only [List.length_map]; omega)) ?_))
  all_goals first | rfl | trivial
theorem Spec5 (hu : l.all (upB a) = true) (h6 : ¬ 2 * (l.length : Int) ≤ a.servers.length) (hLs : lastS a id l = none) : CallX Tryz.prog 38 [encA a, I id, .c (.ro 1 (l.map eI))] [] (resZ 6) := by
  have hv := l08Ok_ok a hl
  rw [hg] at hv
  have hpl : ∀ i, i < l.length → placeB a (l.getD i 0) = true := fun i hi => by
    rw [getD_eq hi]
    exact List.all_eq_true.1 hpa _ (List.getElem_mem hi)
  have hpq : ∀ i, i < l.length → 0 ≤ l.getD i 0 ∧ (l.getD i 0).toNat < a.servers.length := fun i hi => place_lt (hpl i hi)
  have hGA := (arch_iff a).1 hg
  have hsb : ∀ i, i < l.length → 0 ≤ (a.servers.getD (l.getD i 0).toNat s00).saved ∧ (a.servers.getD (l.getD i 0).toNat s00).saved ≤ ((a.servers.getD (l.getD i 0).toNat s00).notes.length : Int) := fun i hi => savedB hGA (hpq i hi).2
  have h20s : ∀ i, i < l.length → (a.servers.getD (l.getD i 0).toNat s00).notes.length ≤ 20 := fun i hi => (srv_notes hGA (hpq i hi).2).2
  have hpx : ∀ x ∈ l, placeB a x = true := fun x hx => List.all_eq_true.1 hpa _ hx
  have h5 := l00In_ok id 0 99
  rw [h4] at h5
  refine callX_of_vc htb hm Tryz.func38 rfl rfl rfl rfl (ann := fun _ => none) (gh := fun _ => false) ?_
  repeat' ((conv => whnf); first
    | (guard_target = Done _; refine Done.mk ?_)
    | (guard_target = RetX _ _; refine RetX.mk ?_ ?_)
    | (guard_target =~ LoopE 4 _ _ _ _ _ _; refine LoopE.mk { α := Nat, keep := [1, 2, 3, 6], ov := fun i => [(8, I (i : Nat))], φ := fun i => i ≤ l.length ∧ (l.take i).all (placeB a) = true ∧ (List.range i).all (adjP l) = true, μ := fun i => l.length - i } (LoopN.mk (0 : Nat) (by exact ⟨Nat.zero_le _, rfl, rfl⟩) (by (repeat' first | exact trivial | exact rfl | refine ⟨?_, ?_⟩); done) (by (repeat' first | exact trivial | exact rfl | refine ⟨?_, ?_⟩); done) (by (repeat' first | exact trivial | exact rfl | refine ⟨?_, ?_⟩ | (simp only [List.map_append, List.map_cons, List.map_nil, List.map_set]; first | done | rfl)); done) (fun (i : Nat) ha => ?_) (by intro A; first | rfl | (obtain ⟨_, _⟩ := A; rfl) | (obtain ⟨_, _, _⟩ := A; rfl))); have ha : i ≤ l.length ∧ (l.take i).all (placeB a) = true ∧ (List.range i).all (adjP l) = true := ha; have hA1 := ha)
    | (guard_target =~ LoopE 11 _ _ _ _ _ _; refine LoopE.mk { α := Nat, keep := [1, 2, 3, 6], ov := fun u => [(9, I (u : Nat))], φ := fun u => u ≤ l.length ∧ (l.take u).all (upB a) = true, μ := fun u => l.length - u } (LoopN.mk (0 : Nat) (by exact ⟨Nat.zero_le _, rfl⟩) (by (repeat' first | exact trivial | exact rfl | refine ⟨?_, ?_⟩); done) (by (repeat' first | exact trivial | exact rfl | refine ⟨?_, ?_⟩); done) (by (repeat' first | exact trivial | exact rfl | refine ⟨?_, ?_⟩ | (simp only [List.map_append, List.map_cons, List.map_nil, List.map_set]; first | done | rfl)); done) (fun (u : Nat) ha => ?_) (by intro A; first | rfl | (obtain ⟨_, _⟩ := A; rfl) | (obtain ⟨_, _, _⟩ := A; rfl))); have ha : u ≤ l.length ∧ (l.take u).all (upB a) = true := ha; have hpi := hpq u)
    | (guard_target =~ LoopE 19 _ _ _ _ _ _; refine LoopE.mk { α := Nat × Option Int, keep := [1, 2, 3, 6], ov := fun ⟨w, o⟩ => [(10, foundV a o), (11, I (w : Nat))], φ := fun ⟨w, o⟩ => w ≤ l.length ∧ o = lastS a id (l.take w), μ := fun ⟨w, o⟩ => l.length - w } (LoopN.mk ((0, none) : Nat × Option Int) (by exact ⟨Nat.zero_le _, rfl⟩) (by (repeat' first | exact trivial | exact rfl | refine ⟨?_, ?_⟩); done) (by (repeat' first | exact trivial | exact rfl | refine ⟨?_, ?_⟩); done) (by (repeat' first | exact trivial | exact rfl | refine ⟨?_, ?_⟩ | (simp only [List.map_append, List.map_cons, List.map_nil, List.map_set]; first | done | rfl)); done) (fun A ha => ?_) (by intro A; first | rfl | (obtain ⟨_, _⟩ := A; rfl) | (obtain ⟨_, _, _⟩ := A; rfl))); obtain ⟨w, o⟩ := A; have ha : w ≤ l.length ∧ o = lastS a id (l.take w) := ha; have hpi := hpq w; have hsi := hsb w; have hA3 := ha; (rcases o with _ | v))
    | (guard_target = Gh _ _ _ _ _; refine Gh.go ⟨(i + 1 : Nat), (by exact spec_next (by omega) hA1 (by assumption) (by omega)), (by first | (show _ < _; simp only []; omega) | omega | (simp; omega)), (by (repeat' first | exact trivial | exact rfl | refine ⟨?_, ?_⟩); done), (by (repeat' first | exact trivial | exact rfl | refine ⟨?_, ?_⟩); done), (by (repeat' first | exact trivial | exact rfl | refine ⟨?_, ?_⟩ | (simp only [List.map_append, List.map_cons, List.map_nil, List.map_set]; first | done | rfl)); done)⟩)
    | (guard_target = Gh _ _ _ _ _; refine Gh.go ⟨(u + 1 : Nat), (by exact all_go (by omega) ha (by rw [← getD_eq (d := 0) (by omega)]; simp_all [upB])), (by first | (show _ < _; simp only []; omega) | omega | (simp; omega)), (by (repeat' first | exact trivial | exact rfl | refine ⟨?_, ?_⟩); done), (by (repeat' first | exact trivial | exact rfl | refine ⟨?_, ?_⟩); done), (by (repeat' first | exact trivial | exact rfl | refine ⟨?_, ?_⟩ | (simp only [List.map_append, List.map_cons, List.map_nil, List.map_set]; first | done | rfl)); done)⟩)
    | (guard_target = Gh _ _ _ _ _; refine Gh.go ⟨((w + 1, none) : Nat × Option Int), (by exact spec3_no (by omega) hA3 h), (by first | (show _ < _; simp only []; omega) | omega | (simp; omega)), (by (repeat' first | exact trivial | exact rfl | refine ⟨?_, ?_⟩); done), (by (repeat' first | exact trivial | exact rfl | refine ⟨?_, ?_⟩); done), (by (repeat' first | exact trivial | exact rfl | refine ⟨?_, ?_⟩ | (simp only [List.map_append, List.map_cons, List.map_nil, List.map_set]; first | done | rfl)); done)⟩)
    | (guard_target = Gh _ _ _ _ _; refine Gh.go ⟨((w + 1, some v) : Nat × Option Int), (by exact spec3_no (by omega) hA3 h), (by first | (show _ < _; simp only []; omega) | omega | (simp; omega)), (by (repeat' first | exact trivial | exact rfl | refine ⟨?_, ?_⟩); done), (by (repeat' first | exact trivial | exact rfl | refine ⟨?_, ?_⟩); done), (by (repeat' first | exact trivial | exact rfl | refine ⟨?_, ?_⟩ | (simp only [List.map_append, List.map_cons, List.map_nil, List.map_set]; first | done | rfl)); done)⟩)
    | (guard_target = Gh _ _ _ _ _; refine Gh.go ⟨((w + 1, some (l.getD w 0)) : Nat × Option Int), (by exact spec3_yes (by omega) hA3 h), (by first | (show _ < _; simp only []; omega) | omega | (simp; omega)), (by (repeat' first | exact trivial | exact rfl | refine ⟨?_, ?_⟩); done), (by (repeat' first | exact trivial | exact rfl | refine ⟨?_, ?_⟩); done), (by (repeat' first | exact trivial | exact rfl | refine ⟨?_, ?_⟩ | (simp only [List.map_append, List.map_cons, List.map_nil, List.map_set]; first | done | rfl)); done)⟩)
    | (guard_target = Fact _ _; refine Fact.mk fun hL => ?_; (try simp only [List.length_map, maxLen] at hL))
    | (guard_target = Branch _ _ _; (first | refine Branch.dec (fun h => ?_) (fun h => ?_) | refine Branch.beq (fun h => ?_) (fun h => ?_) | refine Branch.bne (fun h => ?_) (fun h => ?_) | refine Branch.ndec (fun h => ?_) (fun h => ?_) | refine Branch.nb (fun h => ?_) (fun h => ?_) | refine Branch.mk (fun h => ?_) (fun h => ?_)) <;> (try simp only [List.length_map] at h) <;> (try omega) <;> (try contradiction))
    | (guard_target = CallN _ 46 _ _ _ _; refine CallN.pure _ _ rfl (hv) rfl _ rfl ?_)
    | (guard_target = CallN _ 89 _ _ _ _; refine CallN.pure _ _ rfl (l08At_ok a (l.getD i 0)) rfl _ rfl ?_)
    | (guard_target = CallN _ 90 _ _ _ _; refine CallN.pure _ _ rfl (h5) rfl _ rfl ?_)
    | (guard_target = CallN _ 69 _ _ _ _; refine CallN.pure _ _ rfl (spot_cutS a (l.getD w 0) id) rfl _ rfl ?_)
    | (have h8 : placeB a (l.getD i 0) = false := h; exact absurd ((hpl i (by omega)).symm.trans h8) (by decide))
    | (have h8 : l.getD ((i : Int) - 1).toNat 0 ≥ l.getD i 0 := h; have h9 := adj_of hadj (i := i) (by omega) (by omega); omega)
    | (have h8 : (a.servers.getD (l.getD u 0).toNat s00).up = false := h; exact absurd (List.all_eq_true.1 hu _ (List.getElem_mem (n := u) (by omega))) (by rw [← getD_eq (d := 0) (by omega)]; show ¬ (a.servers.getD (l.getD u 0).toNat s00).up = true; rw [h8]; decide))
    | (have h9 : some v = lastS a id l := spec3_end (by omega) hA3; rw [hLs] at h9; cases h9)
    | (guard_target = Arith _ _ _; refine Arith.fit (wrap_fit (by first | omega | (simp only [List.length_map]; omega)) (by first | omega | (simp only [List.length_map]; omega))) ?_)
    | (guard_target = Arith _ _ _; refine Arith.fit (by decide) ?_)
    | (guard_target = Index _ _ _; first | refine Index.mk _ (idx_getD (d := 0) (i := i) (l := l) (by omega)) ?_ | refine Index.mk _ (idx_getD (d := 0) (i := ((i : Int) - 1).toNat) (l := l) (by omega)) ?_ | refine Index.mk _ (idx_getD (d := 0) (i := u) (l := l) (by omega)) ?_ | refine Index.mk _ (idx_getD (d := s00) (i := (l.getD u 0).toNat) (by omega)) ?_ | refine Index.mk _ (idx_getD (d := 0) (i := w) (l := l) (by omega)) ?_ | refine Index.mk _ (idx_getD (d := s00) (i := (l.getD w 0).toNat) (by omega)) ?_ | refine Index.mk _ (idx_map (by omega)) ?_)
    | (guard_target = Need (chkDraw _ = true) _; refine Need.mk (by kernel_rfl) ?_)
    | (guard_target = Need (chkRecs _ _ = true) _; refine Need.mk (by first | kernel_rfl | rfl) ?_)
    | (guard_target = Need _ _; refine Need.mk (by first  | omega | (simp only [List.length_map]; omega)) ?_))
  all_goals first | rfl | trivial
theorem Spec6 (hu : l.all (upB a) = true) (h6 : ¬ 2 * (l.length : Int) ≤ a.servers.length) (s : Int) (hLs : lastS a id l = some s) (ht : takenB a l (sv a s) id = true) : CallX Tryz.prog 38 [encA a, I id, .c (.ro 1 (l.map eI))] [] (resZ 8) := by
  have hv := l08Ok_ok a hl
  rw [hg] at hv
  have hpl : ∀ i, i < l.length → placeB a (l.getD i 0) = true := fun i hi => by
    rw [getD_eq hi]
    exact List.all_eq_true.1 hpa _ (List.getElem_mem hi)
  have hpq : ∀ i, i < l.length → 0 ≤ l.getD i 0 ∧ (l.getD i 0).toNat < a.servers.length := fun i hi => place_lt (hpl i hi)
  have hGA := (arch_iff a).1 hg
  have hsb : ∀ i, i < l.length → 0 ≤ (a.servers.getD (l.getD i 0).toNat s00).saved ∧ (a.servers.getD (l.getD i 0).toNat s00).saved ≤ ((a.servers.getD (l.getD i 0).toNat s00).notes.length : Int) := fun i hi => savedB hGA (hpq i hi).2
  have h20s : ∀ i, i < l.length → (a.servers.getD (l.getD i 0).toNat s00).notes.length ≤ 20 := fun i hi => (srv_notes hGA (hpq i hi).2).2
  have hpx : ∀ x ∈ l, placeB a x = true := fun x hx => List.all_eq_true.1 hpa _ hx
  have hsm := lastS_some hLs
  have hps := hpx s hsm.1
  have hsgd := sv_good hGA hps
  have hcm := closure_cutS a s id (VN.of hsgd) hsm.2
  have hve := VE.of hsgd
  have hbud := lem_bud hl hps hsm.2
  have hml := mark_len (sv a s) id
  have hcl : 0 < (cutN a s).length := by rw [cutN_eq, List.length_map]; exact known_pos hsm.2
  have h5 := l00In_ok id 0 99
  rw [h4] at h5
  refine callX_of_vc htb hm Tryz.func38 rfl rfl rfl rfl (ann := fun _ => none) (gh := fun reg_ => match reg_ with | 24 => true | _ => false) ?_
  repeat' ((conv => whnf); first
    | (guard_target = Done _; refine Done.mk ?_)
    | (guard_target = RetX _ _; refine RetX.mk ?_ ?_)
    | (guard_target =~ LoopE 4 _ _ _ _ _ _; refine LoopE.mk { α := Nat, keep := [1, 2, 3, 6], ov := fun i => [(8, I (i : Nat))], φ := fun i => i ≤ l.length ∧ (l.take i).all (placeB a) = true ∧ (List.range i).all (adjP l) = true, μ := fun i => l.length - i } (LoopN.mk (0 : Nat) (by exact ⟨Nat.zero_le _, rfl, rfl⟩) (by (repeat' first | exact trivial | exact rfl | refine ⟨?_, ?_⟩); done) (by (repeat' first | exact trivial | exact rfl | refine ⟨?_, ?_⟩); done) (by (repeat' first | exact trivial | exact rfl | refine ⟨?_, ?_⟩ | (simp only [List.map_append, List.map_cons, List.map_nil, List.map_set]; first | done | rfl)); done) (fun (i : Nat) ha => ?_) (by intro A; first | rfl | (obtain ⟨_, _⟩ := A; rfl) | (obtain ⟨_, _, _⟩ := A; rfl))); have ha : i ≤ l.length ∧ (l.take i).all (placeB a) = true ∧ (List.range i).all (adjP l) = true := ha; have hA1 := ha)
    | (guard_target =~ LoopE 11 _ _ _ _ _ _; refine LoopE.mk { α := Nat, keep := [1, 2, 3, 6], ov := fun u => [(9, I (u : Nat))], φ := fun u => u ≤ l.length ∧ (l.take u).all (upB a) = true, μ := fun u => l.length - u } (LoopN.mk (0 : Nat) (by exact ⟨Nat.zero_le _, rfl⟩) (by (repeat' first | exact trivial | exact rfl | refine ⟨?_, ?_⟩); done) (by (repeat' first | exact trivial | exact rfl | refine ⟨?_, ?_⟩); done) (by (repeat' first | exact trivial | exact rfl | refine ⟨?_, ?_⟩ | (simp only [List.map_append, List.map_cons, List.map_nil, List.map_set]; first | done | rfl)); done) (fun (u : Nat) ha => ?_) (by intro A; first | rfl | (obtain ⟨_, _⟩ := A; rfl) | (obtain ⟨_, _, _⟩ := A; rfl))); have ha : u ≤ l.length ∧ (l.take u).all (upB a) = true := ha; have hpi := hpq u)
    | (guard_target =~ LoopE 19 _ _ _ _ _ _; refine LoopE.mk { α := Nat × Option Int, keep := [1, 2, 3, 6], ov := fun ⟨w, o⟩ => [(10, foundV a o), (11, I (w : Nat))], φ := fun ⟨w, o⟩ => w ≤ l.length ∧ o = lastS a id (l.take w), μ := fun ⟨w, o⟩ => l.length - w } (LoopN.mk ((0, none) : Nat × Option Int) (by exact ⟨Nat.zero_le _, rfl⟩) (by (repeat' first | exact trivial | exact rfl | refine ⟨?_, ?_⟩); done) (by (repeat' first | exact trivial | exact rfl | refine ⟨?_, ?_⟩); done) (by (repeat' first | exact trivial | exact rfl | refine ⟨?_, ?_⟩ | (simp only [List.map_append, List.map_cons, List.map_nil, List.map_set]; first | done | rfl)); done) (fun A ha => ?_) (by intro A; first | rfl | (obtain ⟨_, _⟩ := A; rfl) | (obtain ⟨_, _, _⟩ := A; rfl))); obtain ⟨w, o⟩ := A; have ha : w ≤ l.length ∧ o = lastS a id (l.take w) := ha; have hpi := hpq w; have hsi := hsb w; have hA3 := ha; (rcases o with _ | v))
    | (guard_target =~ LoopE 28 _ _ _ _ _ _; refine LoopE.mk { α := Nat, keep := [1, 2, 3, 6, 10, 13], ov := fun j => [(14, I (j : Nat))], φ := fun j => j ≤ l.length ∧ (l.take j).all (fun s' => !((sv a s').any (badN (sv a s) id))) = true, μ := fun j => l.length - j } (LoopN.mk (0 : Nat) (by exact ⟨Nat.zero_le _, rfl⟩) (by (repeat' first | exact trivial | exact rfl | refine ⟨?_, ?_⟩); done) (by (repeat' first | exact trivial | exact rfl | refine ⟨?_, ?_⟩); done) (by (repeat' first | exact trivial | exact rfl | refine ⟨?_, ?_⟩ | (simp only [List.map_append, List.map_cons, List.map_nil, List.map_set]; first | done | rfl)); done) (fun (j : Nat) ha => ?_) (by intro A; first | rfl | (obtain ⟨_, _⟩ := A; rfl) | (obtain ⟨_, _, _⟩ := A; rfl))); have ha : j ≤ l.length ∧ (l.take j).all (fun s' => !((sv a s').any (badN (sv a s) id))) = true := ha; have hA4 := ha; have hpj := hpq j; have hsj := hsb j; have h20 := h20s j; have hlj := (fun hj => sv_len hGA (hpl j hj)))
    | (guard_target =~ LoopE 32 _ _ _ _ _ _; refine LoopE.mk { α := Nat, keep := [1, 2, 3, 6, 10, 13, 14, 15], ov := fun k => [(16, I (k : Nat))], φ := fun k => k ≤ (sv a (l.getD j 0)).length ∧ ((sv a (l.getD j 0)).take k).all (fun y => !(badN (sv a s) id y)) = true, μ := fun k => (sv a (l.getD j 0)).length - k } (LoopN.mk (0 : Nat) (by exact ⟨Nat.zero_le _, rfl⟩) (by (repeat' first | exact trivial | exact rfl | refine ⟨?_, ?_⟩); done) (by (repeat' first | exact trivial | exact rfl | refine ⟨?_, ?_⟩); done) (by (repeat' first | exact trivial | exact rfl | refine ⟨?_, ?_⟩ | (simp only [List.map_append, List.map_cons, List.map_nil, List.map_set]; first | done | rfl)); done) (fun (k : Nat) ha => ?_) (by intro A; first | rfl | (obtain ⟨_, _⟩ := A; rfl) | (obtain ⟨_, _, _⟩ := A; rfl))); have ha : k ≤ (sv a (l.getD j 0)).length ∧ ((sv a (l.getD j 0)).take k).all (fun y => !(badN (sv a s) id y)) = true := ha; have hA5 := ha; have hlk := hlj (by omega))
    | (guard_target = Gh _ _ _ _ _; refine Gh.go ⟨(i + 1 : Nat), (by exact spec_next (by omega) hA1 (by assumption) (by omega)), (by first | (show _ < _; simp only []; omega) | omega | (simp; omega)), (by (repeat' first | exact trivial | exact rfl | refine ⟨?_, ?_⟩); done), (by (repeat' first | exact trivial | exact rfl | refine ⟨?_, ?_⟩); done), (by (repeat' first | exact trivial | exact rfl | refine ⟨?_, ?_⟩ | (simp only [List.map_append, List.map_cons, List.map_nil, List.map_set]; first | done | rfl)); done)⟩)
    | (guard_target = Gh _ _ _ _ _; refine Gh.go ⟨(u + 1 : Nat), (by exact all_go (by omega) ha (by rw [← getD_eq (d := 0) (by omega)]; simp_all [upB])), (by first | (show _ < _; simp only []; omega) | omega | (simp; omega)), (by (repeat' first | exact trivial | exact rfl | refine ⟨?_, ?_⟩); done), (by (repeat' first | exact trivial | exact rfl | refine ⟨?_, ?_⟩); done), (by (repeat' first | exact trivial | exact rfl | refine ⟨?_, ?_⟩ | (simp only [List.map_append, List.map_cons, List.map_nil, List.map_set]; first | done | rfl)); done)⟩)
    | (guard_target = Gh _ _ _ _ _; refine Gh.go ⟨((w + 1, none) : Nat × Option Int), (by exact spec3_no (by omega) hA3 h), (by first | (show _ < _; simp only []; omega) | omega | (simp; omega)), (by (repeat' first | exact trivial | exact rfl | refine ⟨?_, ?_⟩); done), (by (repeat' first | exact trivial | exact rfl | refine ⟨?_, ?_⟩); done), (by (repeat' first | exact trivial | exact rfl | refine ⟨?_, ?_⟩ | (simp only [List.map_append, List.map_cons, List.map_nil, List.map_set]; first | done | rfl)); done)⟩)
    | (guard_target = Gh _ _ _ _ _; refine Gh.go ⟨((w + 1, some v) : Nat × Option Int), (by exact spec3_no (by omega) hA3 h), (by first | (show _ < _; simp only []; omega) | omega | (simp; omega)), (by (repeat' first | exact trivial | exact rfl | refine ⟨?_, ?_⟩); done), (by (repeat' first | exact trivial | exact rfl | refine ⟨?_, ?_⟩); done), (by (repeat' first | exact trivial | exact rfl | refine ⟨?_, ?_⟩ | (simp only [List.map_append, List.map_cons, List.map_nil, List.map_set]; first | done | rfl)); done)⟩)
    | (guard_target = Gh _ _ _ _ _; refine Gh.go ⟨((w + 1, some (l.getD w 0)) : Nat × Option Int), (by exact spec3_yes (by omega) hA3 h), (by first | (show _ < _; simp only []; omega) | omega | (simp; omega)), (by (repeat' first | exact trivial | exact rfl | refine ⟨?_, ?_⟩); done), (by (repeat' first | exact trivial | exact rfl | refine ⟨?_, ?_⟩); done), (by (repeat' first | exact trivial | exact rfl | refine ⟨?_, ?_⟩ | (simp only [List.map_append, List.map_cons, List.map_nil, List.map_set]; first | done | rfl)); done)⟩)
    | (guard_target = Gh _ _ _ _ _; refine Gh.go ⟨(k + 1 : Nat), (by (have hk9 : k < (sv a (l.getD j 0)).length := (by omega); refine all_go hk9 hA5 (sv_ok hk9 ?_); unfold badN; first | (rw [h]; rfl) | (rw [h, Bool.and_false]; done))), (by first | (show _ < _; simp only []; omega) | omega | (simp; omega)), (by (repeat' first | exact trivial | exact rfl | refine ⟨?_, ?_⟩); done), (by (repeat' first | exact trivial | exact rfl | refine ⟨?_, ?_⟩); done), (by (repeat' first | exact trivial | exact rfl | refine ⟨?_, ?_⟩ | (simp only [List.map_append, List.map_cons, List.map_nil, List.map_set]; first | done | rfl)); done)⟩)
    | (guard_target = Gh _ _ _ _ _; refine Gh.go ⟨(j + 1 : Nat), (by exact all_go (by omega) hA4 (by rw [← getD_eq (d := 0) (by omega), any_end (by omega) hA5.2]; rfl)), (by first | (show _ < _; simp only []; omega) | omega | (simp; omega)), (by (repeat' first | exact trivial | exact rfl | refine ⟨?_, ?_⟩); done), (by (repeat' first | exact trivial | exact rfl | refine ⟨?_, ?_⟩); done), (by (repeat' first | exact trivial | exact rfl | refine ⟨?_, ?_⟩ | (simp only [List.map_append, List.map_cons, List.map_nil, List.map_set]; first | done | rfl)); done)⟩)
    | (guard_target = Fact _ _; refine Fact.mk fun hL => ?_; (try simp only [List.length_map, maxLen] at hL))
    | (guard_target = Branch _ _ _; (first | refine Branch.dec (fun h => ?_) (fun h => ?_) | refine Branch.beq (fun h => ?_) (fun h => ?_) | refine Branch.bne (fun h => ?_) (fun h => ?_) | refine Branch.ndec (fun h => ?_) (fun h => ?_) | refine Branch.nb (fun h => ?_) (fun h => ?_) | refine Branch.mk (fun h => ?_) (fun h => ?_)) <;> (try simp only [List.length_map] at h) <;> (try omega) <;> (try contradiction))
    | (guard_target = CallN _ 46 _ _ _ _; refine CallN.pure _ _ rfl (hv) rfl _ rfl ?_)
    | (guard_target = CallN _ 89 _ _ _ _; refine CallN.pure _ _ rfl (l08At_ok a (l.getD i 0)) rfl _ rfl ?_)
    | (guard_target = CallN _ 90 _ _ _ _; refine CallN.pure _ _ rfl (h5) rfl _ rfl ?_)
    | (guard_target = CallN _ 69 _ _ _ _; refine CallN.pure _ _ rfl (spot_cutS a (l.getD w 0) id) rfl _ rfl ?_)
    | (guard_target = CallN _ 77 _ _ _ _; refine CallN.gen [] _ _ _ rfl (hcm) rfl rfl _ rfl ?_)
    | (guard_target = CallN _ 69 _ _ _ _; refine CallN.pure _ _ rfl (spot_cutS a s id) rfl _ rfl ?_)
    | (have h8 : placeB a (l.getD i 0) = false := h; exact absurd ((hpl i (by omega)).symm.trans h8) (by decide))
    | (have h8 : l.getD ((i : Int) - 1).toNat 0 ≥ l.getD i 0 := h; have h9 := adj_of hadj (i := i) (by omega) (by omega); omega)
    | (have h8 : (a.servers.getD (l.getD u 0).toNat s00).up = false := h; exact absurd (List.all_eq_true.1 hu _ (List.getElem_mem (n := u) (by omega))) (by rw [← getD_eq (d := 0) (by omega)]; show ¬ (a.servers.getD (l.getD u 0).toNat s00).up = true; rw [h8]; decide))
    | (guard_target = Gh _ _ _ _ _; have h9 : some v = lastS a id l := spec3_end (by omega) hA3; rw [hLs] at h9; obtain rfl : s = v := (Option.some.inj h9.symm); refine Gh.go ?_)
    | (have h9 : none = lastS a id l := spec3_end (by omega) hA3; rw [hLs] at h9; cases h9)
    | (have h9 : takenB a l (sv a s) id = false := any_end (i := j) (by omega) hA4.2; rw [ht] at h9; cases h9)
    | (guard_target = Arith _ _ _; refine Arith.fit (wrap_fit (by first | omega | (simp only [List.length_map]; omega)) (by first | omega | (simp only [List.length_map]; omega))) ?_)
    | (guard_target = Arith _ _ _; refine Arith.fit (by decide) ?_)
    | (guard_target = Index _ _ _; first | refine Index.mk _ (idx_getD (d := 0) (i := i) (l := l) (by omega)) ?_ | refine Index.mk _ (idx_getD (d := 0) (i := ((i : Int) - 1).toNat) (l := l) (by omega)) ?_ | refine Index.mk _ (idx_getD (d := 0) (i := u) (l := l) (by omega)) ?_ | refine Index.mk _ (idx_getD (d := s00) (i := (l.getD u 0).toNat) (by omega)) ?_ | refine Index.mk _ (idx_getD (d := 0) (i := w) (l := l) (by omega)) ?_ | refine Index.mk _ (idx_getD (d := s00) (i := (l.getD w 0).toNat) (by omega)) ?_ | refine Index.mk _ (idx_getD (d := 0) (i := j) (l := l) (by omega)) ?_ | refine Index.mk _ (idx_getD (d := s00) (i := (l.getD j 0).toNat) (by omega)) ?_ | refine Index.mk _ (idx_getD (d := n0) (i := k) (l := (a.servers.getD (l.getD j 0).toNat s00).notes) (by omega)) ?_ | refine Index.mk _ (idx_getD (d := false) (i := ((a.servers.getD (l.getD j 0).toNat s00).notes.getD k n0).id.toNat) (l := markN (sv a s) id) (by have h8 := sv_rev hGA (hpl j (by omega)) (k := k) (by omega) h; rw [hml]; omega)) ?_ | refine Index.mk _ (idx_map (by omega)) ?_)
    | (guard_target = Need (chkDraw _ = true) _; refine Need.mk (by kernel_rfl) ?_)
    | (guard_target = Need (chkRecs _ _ = true) _; refine Need.mk (by first | kernel_rfl | rfl) ?_)
    | (guard_target = Need _ _; refine Need.mk (by first | ((have h8 := sv_rev hGA (hpl j (by omega)) (k := k) (by omega) h; simp only [List.length_map, hml]; omega)) | omega | (simp only [List.length_map]; omega)) ?_))
  all_goals first | rfl | trivial
theorem Spec7 (hu : l.all (upB a) = true) (h6 : ¬ 2 * (l.length : Int) ≤ a.servers.length) (s : Int) (hLs : lastS a id l = some s) (ht : takenB a l (sv a s) id = false) : CallX Tryz.prog 38 [encA a, I id, .c (.ro 1 (l.map eI))] [] (resQ (lemE (noteOf (sv a s) id).entry) 0) := by
  have hv := l08Ok_ok a hl
  rw [hg] at hv
  have hpl : ∀ i, i < l.length → placeB a (l.getD i 0) = true := fun i hi => by
    rw [getD_eq hi]
    exact List.all_eq_true.1 hpa _ (List.getElem_mem hi)
  have hpq : ∀ i, i < l.length → 0 ≤ l.getD i 0 ∧ (l.getD i 0).toNat < a.servers.length := fun i hi => place_lt (hpl i hi)
  have hGA := (arch_iff a).1 hg
  have hsb : ∀ i, i < l.length → 0 ≤ (a.servers.getD (l.getD i 0).toNat s00).saved ∧ (a.servers.getD (l.getD i 0).toNat s00).saved ≤ ((a.servers.getD (l.getD i 0).toNat s00).notes.length : Int) := fun i hi => savedB hGA (hpq i hi).2
  have h20s : ∀ i, i < l.length → (a.servers.getD (l.getD i 0).toNat s00).notes.length ≤ 20 := fun i hi => (srv_notes hGA (hpq i hi).2).2
  have hpx : ∀ x ∈ l, placeB a x = true := fun x hx => List.all_eq_true.1 hpa _ hx
  have hsm := lastS_some hLs
  have hps := hpx s hsm.1
  have hsgd := sv_good hGA hps
  have hcm := closure_cutS a s id (VN.of hsgd) hsm.2
  have hve := VE.of hsgd
  have hbud := lem_bud hl hps hsm.2
  have hml := mark_len (sv a s) id
  have hcl : 0 < (cutN a s).length := by rw [cutN_eq, List.length_map]; exact known_pos hsm.2
  have h5 := l00In_ok id 0 99
  rw [h4] at h5
  have hlm := l08Lemma_ok (noteOf (sv a s) id).entry (hve.cl _ hsm.2).1 (hve.cl _ hsm.2).2
  have hcp := l01Own_told (lemE (noteOf (sv a s) id).entry).left hbud.1 ((encEquation (lemE (noteOf (sv a s) id).entry)).drop 3) 6 (by decide)
  have hcq := l01Own_told (lemE (noteOf (sv a s) id).entry).right hbud.2 [] 3 (by decide)
  refine callX_of_vc htb hm Tryz.func38 rfl rfl rfl rfl (ann := fun _ => none) (gh := fun reg_ => match reg_ with | 24 => true | 37 => true | 38 => true | _ => false) ?_
  repeat' ((conv => whnf); first
    | (guard_target = Done _; refine Done.mk ?_)
    | (guard_target = RetX _ _; refine RetX.mk ?_ ?_)
    | (guard_target =~ LoopE 4 _ _ _ _ _ _; refine LoopE.mk { α := Nat, keep := [1, 2, 3, 6], ov := fun i => [(8, I (i : Nat))], φ := fun i => i ≤ l.length ∧ (l.take i).all (placeB a) = true ∧ (List.range i).all (adjP l) = true, μ := fun i => l.length - i } (LoopN.mk (0 : Nat) (by exact ⟨Nat.zero_le _, rfl, rfl⟩) (by (repeat' first | exact trivial | exact rfl | refine ⟨?_, ?_⟩); done) (by (repeat' first | exact trivial | exact rfl | refine ⟨?_, ?_⟩); done) (by (repeat' first | exact trivial | exact rfl | refine ⟨?_, ?_⟩ | (simp only [List.map_append, List.map_cons, List.map_nil, List.map_set]; first | done | rfl)); done) (fun (i : Nat) ha => ?_) (by intro A; first | rfl | (obtain ⟨_, _⟩ := A; rfl) | (obtain ⟨_, _, _⟩ := A; rfl))); have ha : i ≤ l.length ∧ (l.take i).all (placeB a) = true ∧ (List.range i).all (adjP l) = true := ha; have hA1 := ha)
    | (guard_target =~ LoopE 11 _ _ _ _ _ _; refine LoopE.mk { α := Nat, keep := [1, 2, 3, 6], ov := fun u => [(9, I (u : Nat))], φ := fun u => u ≤ l.length ∧ (l.take u).all (upB a) = true, μ := fun u => l.length - u } (LoopN.mk (0 : Nat) (by exact ⟨Nat.zero_le _, rfl⟩) (by (repeat' first | exact trivial | exact rfl | refine ⟨?_, ?_⟩); done) (by (repeat' first | exact trivial | exact rfl | refine ⟨?_, ?_⟩); done) (by (repeat' first | exact trivial | exact rfl | refine ⟨?_, ?_⟩ | (simp only [List.map_append, List.map_cons, List.map_nil, List.map_set]; first | done | rfl)); done) (fun (u : Nat) ha => ?_) (by intro A; first | rfl | (obtain ⟨_, _⟩ := A; rfl) | (obtain ⟨_, _, _⟩ := A; rfl))); have ha : u ≤ l.length ∧ (l.take u).all (upB a) = true := ha; have hpi := hpq u)
    | (guard_target =~ LoopE 19 _ _ _ _ _ _; refine LoopE.mk { α := Nat × Option Int, keep := [1, 2, 3, 6], ov := fun ⟨w, o⟩ => [(10, foundV a o), (11, I (w : Nat))], φ := fun ⟨w, o⟩ => w ≤ l.length ∧ o = lastS a id (l.take w), μ := fun ⟨w, o⟩ => l.length - w } (LoopN.mk ((0, none) : Nat × Option Int) (by exact ⟨Nat.zero_le _, rfl⟩) (by (repeat' first | exact trivial | exact rfl | refine ⟨?_, ?_⟩); done) (by (repeat' first | exact trivial | exact rfl | refine ⟨?_, ?_⟩); done) (by (repeat' first | exact trivial | exact rfl | refine ⟨?_, ?_⟩ | (simp only [List.map_append, List.map_cons, List.map_nil, List.map_set]; first | done | rfl)); done) (fun A ha => ?_) (by intro A; first | rfl | (obtain ⟨_, _⟩ := A; rfl) | (obtain ⟨_, _, _⟩ := A; rfl))); obtain ⟨w, o⟩ := A; have ha : w ≤ l.length ∧ o = lastS a id (l.take w) := ha; have hpi := hpq w; have hsi := hsb w; have hA3 := ha; (rcases o with _ | v))
    | (guard_target =~ LoopE 28 _ _ _ _ _ _; refine LoopE.mk { α := Nat, keep := [1, 2, 3, 6, 10, 13], ov := fun j => [(14, I (j : Nat))], φ := fun j => j ≤ l.length ∧ (l.take j).all (fun s' => !((sv a s').any (badN (sv a s) id))) = true, μ := fun j => l.length - j } (LoopN.mk (0 : Nat) (by exact ⟨Nat.zero_le _, rfl⟩) (by (repeat' first | exact trivial | exact rfl | refine ⟨?_, ?_⟩); done) (by (repeat' first | exact trivial | exact rfl | refine ⟨?_, ?_⟩); done) (by (repeat' first | exact trivial | exact rfl | refine ⟨?_, ?_⟩ | (simp only [List.map_append, List.map_cons, List.map_nil, List.map_set]; first | done | rfl)); done) (fun (j : Nat) ha => ?_) (by intro A; first | rfl | (obtain ⟨_, _⟩ := A; rfl) | (obtain ⟨_, _, _⟩ := A; rfl))); have ha : j ≤ l.length ∧ (l.take j).all (fun s' => !((sv a s').any (badN (sv a s) id))) = true := ha; have hA4 := ha; have hpj := hpq j; have hsj := hsb j; have h20 := h20s j; have hlj := (fun hj => sv_len hGA (hpl j hj)))
    | (guard_target =~ LoopE 32 _ _ _ _ _ _; refine LoopE.mk { α := Nat, keep := [1, 2, 3, 6, 10, 13, 14, 15], ov := fun k => [(16, I (k : Nat))], φ := fun k => k ≤ (sv a (l.getD j 0)).length ∧ ((sv a (l.getD j 0)).take k).all (fun y => !(badN (sv a s) id y)) = true, μ := fun k => (sv a (l.getD j 0)).length - k } (LoopN.mk (0 : Nat) (by exact ⟨Nat.zero_le _, rfl⟩) (by (repeat' first | exact trivial | exact rfl | refine ⟨?_, ?_⟩); done) (by (repeat' first | exact trivial | exact rfl | refine ⟨?_, ?_⟩); done) (by (repeat' first | exact trivial | exact rfl | refine ⟨?_, ?_⟩ | (simp only [List.map_append, List.map_cons, List.map_nil, List.map_set]; first | done | rfl)); done) (fun (k : Nat) ha => ?_) (by intro A; first | rfl | (obtain ⟨_, _⟩ := A; rfl) | (obtain ⟨_, _, _⟩ := A; rfl))); have ha : k ≤ (sv a (l.getD j 0)).length ∧ ((sv a (l.getD j 0)).take k).all (fun y => !(badN (sv a s) id y)) = true := ha; have hA5 := ha; have hlk := hlj (by omega))
    | (guard_target = Gh _ _ _ _ _; refine Gh.go ⟨(i + 1 : Nat), (by exact spec_next (by omega) hA1 (by assumption) (by omega)), (by first | (show _ < _; simp only []; omega) | omega | (simp; omega)), (by (repeat' first | exact trivial | exact rfl | refine ⟨?_, ?_⟩); done), (by (repeat' first | exact trivial | exact rfl | refine ⟨?_, ?_⟩); done), (by (repeat' first | exact trivial | exact rfl | refine ⟨?_, ?_⟩ | (simp only [List.map_append, List.map_cons, List.map_nil, List.map_set]; first | done | rfl)); done)⟩)
    | (guard_target = Gh _ _ _ _ _; refine Gh.go ⟨(u + 1 : Nat), (by exact all_go (by omega) ha (by rw [← getD_eq (d := 0) (by omega)]; simp_all [upB])), (by first | (show _ < _; simp only []; omega) | omega | (simp; omega)), (by (repeat' first | exact trivial | exact rfl | refine ⟨?_, ?_⟩); done), (by (repeat' first | exact trivial | exact rfl | refine ⟨?_, ?_⟩); done), (by (repeat' first | exact trivial | exact rfl | refine ⟨?_, ?_⟩ | (simp only [List.map_append, List.map_cons, List.map_nil, List.map_set]; first | done | rfl)); done)⟩)
    | (guard_target = Gh _ _ _ _ _; refine Gh.go ⟨((w + 1, none) : Nat × Option Int), (by exact spec3_no (by omega) hA3 h), (by first | (show _ < _; simp only []; omega) | omega | (simp; omega)), (by (repeat' first | exact trivial | exact rfl | refine ⟨?_, ?_⟩); done), (by (repeat' first | exact trivial | exact rfl | refine ⟨?_, ?_⟩); done), (by (repeat' first | exact trivial | exact rfl | refine ⟨?_, ?_⟩ | (simp only [List.map_append, List.map_cons, List.map_nil, List.map_set]; first | done | rfl)); done)⟩)
    | (guard_target = Gh _ _ _ _ _; refine Gh.go ⟨((w + 1, some v) : Nat × Option Int), (by exact spec3_no (by omega) hA3 h), (by first | (show _ < _; simp only []; omega) | omega | (simp; omega)), (by (repeat' first | exact trivial | exact rfl | refine ⟨?_, ?_⟩); done), (by (repeat' first | exact trivial | exact rfl | refine ⟨?_, ?_⟩); done), (by (repeat' first | exact trivial | exact rfl | refine ⟨?_, ?_⟩ | (simp only [List.map_append, List.map_cons, List.map_nil, List.map_set]; first | done | rfl)); done)⟩)
    | (guard_target = Gh _ _ _ _ _; refine Gh.go ⟨((w + 1, some (l.getD w 0)) : Nat × Option Int), (by exact spec3_yes (by omega) hA3 h), (by first | (show _ < _; simp only []; omega) | omega | (simp; omega)), (by (repeat' first | exact trivial | exact rfl | refine ⟨?_, ?_⟩); done), (by (repeat' first | exact trivial | exact rfl | refine ⟨?_, ?_⟩); done), (by (repeat' first | exact trivial | exact rfl | refine ⟨?_, ?_⟩ | (simp only [List.map_append, List.map_cons, List.map_nil, List.map_set]; first | done | rfl)); done)⟩)
    | (guard_target = Gh _ _ _ _ _; refine Gh.go ⟨(k + 1 : Nat), (by (have hk9 : k < (sv a (l.getD j 0)).length := (by omega); refine all_go hk9 hA5 (sv_ok hk9 ?_); unfold badN; first | (rw [h]; rfl) | (rw [h, Bool.and_false]; done))), (by first | (show _ < _; simp only []; omega) | omega | (simp; omega)), (by (repeat' first | exact trivial | exact rfl | refine ⟨?_, ?_⟩); done), (by (repeat' first | exact trivial | exact rfl | refine ⟨?_, ?_⟩); done), (by (repeat' first | exact trivial | exact rfl | refine ⟨?_, ?_⟩ | (simp only [List.map_append, List.map_cons, List.map_nil, List.map_set]; first | done | rfl)); done)⟩)
    | (guard_target = Gh _ _ _ _ _; refine Gh.go ⟨(j + 1 : Nat), (by exact all_go (by omega) hA4 (by rw [← getD_eq (d := 0) (by omega), any_end (by omega) hA5.2]; rfl)), (by first | (show _ < _; simp only []; omega) | omega | (simp; omega)), (by (repeat' first | exact trivial | exact rfl | refine ⟨?_, ?_⟩); done), (by (repeat' first | exact trivial | exact rfl | refine ⟨?_, ?_⟩); done), (by (repeat' first | exact trivial | exact rfl | refine ⟨?_, ?_⟩ | (simp only [List.map_append, List.map_cons, List.map_nil, List.map_set]; first | done | rfl)); done)⟩)
    | (guard_target = Fact _ _; refine Fact.mk fun hL => ?_; (try simp only [List.length_map, maxLen] at hL))
    | (guard_target = Branch _ _ _; (first | refine Branch.dec (fun h => ?_) (fun h => ?_) | refine Branch.beq (fun h => ?_) (fun h => ?_) | refine Branch.bne (fun h => ?_) (fun h => ?_) | refine Branch.ndec (fun h => ?_) (fun h => ?_) | refine Branch.nb (fun h => ?_) (fun h => ?_) | refine Branch.mk (fun h => ?_) (fun h => ?_)) <;> (try simp only [List.length_map] at h) <;> (try omega) <;> (try contradiction))
    | (guard_target = CallN _ 46 _ _ _ _; refine CallN.pure _ _ rfl (hv) rfl _ rfl ?_)
    | (guard_target = CallN _ 89 _ _ _ _; refine CallN.pure _ _ rfl (l08At_ok a (l.getD i 0)) rfl _ rfl ?_)
    | (guard_target = CallN _ 90 _ _ _ _; refine CallN.pure _ _ rfl (h5) rfl _ rfl ?_)
    | (guard_target = CallN _ 69 _ _ _ _; refine CallN.pure _ _ rfl (spot_cutS a (l.getD w 0) id) rfl _ rfl ?_)
    | (guard_target = CallN _ 77 _ _ _ _; refine CallN.gen [] _ _ _ rfl (hcm) rfl rfl _ rfl ?_)
    | (guard_target = CallN _ 69 _ _ _ _; refine CallN.pure _ _ rfl (spot_cutS a s id) rfl _ rfl ?_)
    | (guard_target = CallN _ 91 _ _ _ _; refine CallN.pure _ _ rfl (hlm) rfl _ rfl ?_)
    | (guard_target = CallN _ 92 _ _ _ _; refine CallN.gen [] _ _ _ rfl (hcp) rfl rfl _ rfl ?_)
    | (guard_target = CallN _ 92 _ _ _ _; refine CallN.gen [] _ _ _ rfl (hcq) rfl rfl _ rfl ?_)
    | (have h8 : placeB a (l.getD i 0) = false := h; exact absurd ((hpl i (by omega)).symm.trans h8) (by decide))
    | (have h8 : l.getD ((i : Int) - 1).toNat 0 ≥ l.getD i 0 := h; have h9 := adj_of hadj (i := i) (by omega) (by omega); omega)
    | (have h8 : (a.servers.getD (l.getD u 0).toNat s00).up = false := h; exact absurd (List.all_eq_true.1 hu _ (List.getElem_mem (n := u) (by omega))) (by rw [← getD_eq (d := 0) (by omega)]; show ¬ (a.servers.getD (l.getD u 0).toNat s00).up = true; rw [h8]; decide))
    | (guard_target = Gh _ _ _ _ _; have h9 : some v = lastS a id l := spec3_end (by omega) hA3; rw [hLs] at h9; obtain rfl : s = v := (Option.some.inj h9.symm); refine Gh.go ?_)
    | (have h9 : none = lastS a id l := spec3_end (by omega) hA3; rw [hLs] at h9; cases h9)
    | (have h8 : (markN (sv a s) id).getD ((a.servers.getD (l.getD j 0).toNat s00).notes.getD k n0).id.toNat false = true := h; exact absurd (any_stop (p := fun s' => (sv a s').any (badN (sv a s) id)) (l := l) (i := j) (by omega) (by rw [← getD_eq (d := 0) (by omega)]; exact sv_bad (k := k) (by omega) (by unfold badN; rw [h8, Bool.and_true]; assumption))) (by show ¬ takenB a l (sv a s) id = true; rw [ht]; decide))
    | (guard_target = Gh _ _ _ _ _; refine Gh.frzp 8 (encEntry (noteOf (sv a s) id).entry) rfl (Gh.go ?_))
    | (guard_target = Gh _ _ _ _ _; refine Gh.frzp 11 (encEquation (lemE (noteOf (sv a s) id).entry)) rfl (Gh.go ?_))
    | (guard_target = Arith _ _ _; refine Arith.fit (wrap_fit (by first | omega | (simp only [List.length_map]; omega)) (by first | omega | (simp only [List.length_map]; omega))) ?_)
    | (guard_target = Arith _ _ _; refine Arith.fit (by decide) ?_)
    | (guard_target = Index _ _ _; first | refine Index.mk _ (idx_getD (d := 0) (i := i) (l := l) (by omega)) ?_ | refine Index.mk _ (idx_getD (d := 0) (i := ((i : Int) - 1).toNat) (l := l) (by omega)) ?_ | refine Index.mk _ (idx_getD (d := 0) (i := u) (l := l) (by omega)) ?_ | refine Index.mk _ (idx_getD (d := s00) (i := (l.getD u 0).toNat) (by omega)) ?_ | refine Index.mk _ (idx_getD (d := 0) (i := w) (l := l) (by omega)) ?_ | refine Index.mk _ (idx_getD (d := s00) (i := (l.getD w 0).toNat) (by omega)) ?_ | refine Index.mk _ (idx_getD (d := 0) (i := j) (l := l) (by omega)) ?_ | refine Index.mk _ (idx_getD (d := s00) (i := (l.getD j 0).toNat) (by omega)) ?_ | refine Index.mk _ (idx_getD (d := n0) (i := k) (l := (a.servers.getD (l.getD j 0).toNat s00).notes) (by omega)) ?_ | refine Index.mk _ (idx_getD (d := false) (i := ((a.servers.getD (l.getD j 0).toNat s00).notes.getD k n0).id.toNat) (l := markN (sv a s) id) (by have h8 := sv_rev hGA (hpl j (by omega)) (k := k) (by omega) h; rw [hml]; omega)) ?_ | refine Index.mk _ (idx_cut hsm.2) ?_ | refine Index.mk _ (idx_map (by omega)) ?_)
    | (guard_target = Need (chkDraw _ = true) _; refine Need.mk (by kernel_rfl) ?_)
    | (guard_target = Need (chkRecs _ _ = true) _; refine Need.mk (by first | kernel_rfl | rfl) ?_)
    | (guard_target = Need _ _; refine Need.mk (by first | ((have h8 := sv_rev hGA (hpl j (by omega)) (k := k) (by omega) h; simp only [List.length_map, hml]; omega)) | (exact len_cut hsm.2) | omega | (simp only [List.length_map]; omega)) ?_))
  all_goals first | rfl | trivial
end
end
end
end
end Go.Proofs.YtbbaadkgmdkjdaaGreat

namespace Go.Proofs.YtbbaadkgmdkjdaaGreat
open Go Go.KA Go.Proofs
set_option maxHeartbeats 16000000
set_option maxRecDepth 100000
mutual
def mkdE : XExpr → Int → XExpr
  | .mk _ _ kids, k => .mk k (k + 1) (mkdS kids (k + 1 + 1))
def mkdS : List XExpr → Int → List XExpr
  | [], _ => []
  | x :: xs, k => mkdE x k :: mkdS xs (k + (mkeExpr x : Nat))
end
theorem mkdE_eq (x : XExpr) (k : Int) : mkdE x k = .mk k (k + 1) (mkdS x.kids (k + 1 + 1)) := by
  cases x
  rfl
theorem mkdS_len : ∀ (l : List XExpr) (k : Int), (mkdS l k).length = l.length
  | [], _ => rfl
  | x :: xs, k => by
    simp only [mkdS, List.length_cons]
    rw [mkdS_len xs]
theorem mkdS_get : ∀ {l : List XExpr} {k : Int} {i : Nat} (hi : i < l.length), (mkdS l k)[i]'(by rw [mkdS_len]; exact hi) = mkdE l[i] (k + (bsum mkeExpr (l.take i) : Nat))
  | x :: xs, k, 0, _ => by
    simp [mkdS, bsum]
  | x :: xs, k, i + 1, h => by
    simp only [mkdS, List.getElem_cons_succ, List.take_succ_cons]
    rw [mkdS_get (by simpa using h)]
    congr 1
    show _ = k + ((mkeExpr x + bsum mkeExpr (xs.take i) : Nat) : Int)
    omega
def hfE (l : List XExpr) (k : Int) (i : Nat) : List XExpr := (mkdS l k).take i ++ l.drop i
theorem hfE_len (l : List XExpr) (k : Int) (i : Nat) : (hfE l k i).length = l.length := by
  unfold hfE
  rw [List.length_append, List.length_take, List.length_drop, mkdS_len]
  omega
theorem hfE_get {l : List XExpr} {k : Int} {i : Nat} (hi : i < l.length) : ((hfE l k i).map ownExpr)[i]? = some (ownT l[i]) := by
  rw [List.getElem?_map]
  have h : (hfE l k i)[i]? = some l[i] := by
    unfold hfE
    rw [List.getElem?_append_right (by rw [List.length_take, mkdS_len]; omega), List.length_take, mkdS_len, List.getElem?_drop]
    rw [show i + (i - min i l.length) = i by omega, List.getElem?_eq_getElem hi]
  rw [h]
  exact congrArg some (ownExpr_eq _)
theorem hfE_set {l : List XExpr} {k : Int} {i : Nat} (hi : i < l.length) : (hfE l k i).set i (mkdE l[i] (k + (bsum mkeExpr (l.take i) : Nat))) = hfE l k (i + 1) := by
  have hm : i < (mkdS l k).length := by rw [mkdS_len]; exact hi
  unfold hfE
  rw [List.set_append_right i _ (by rw [List.length_take]; omega), List.length_take, show i - min i (mkdS l k).length = 0 by omega, List.drop_eq_getElem_cons hi, List.set_cons_zero, List.take_succ_eq_append_getElem hm, List.append_assoc, mkdS_get hi]
  rfl
theorem hfE_end {l : List XExpr} {k : Int} : hfE l k l.length = mkdS l k := by
  unfold hfE
  rw [List.drop_length, List.append_nil, List.take_of_length_le (by rw [mkdS_len]; exact Nat.le_refl _)]
theorem markExprS_out_all (l : List XExpr) (k : Int) (h0 : 0 ≤ k) (hk : k + (bsum mkeExpr l : Nat) ≤ 4611686018427387904)
    (hx : ∀ x ∈ l, ∀ k : Int, 0 ≤ k → k + (bsum mkeExpr x.kids : Nat) ≤ 4611686018427387904 → CallX Tryz.prog 135 [.c (.own 67 3 (x.kids.map ownExpr)), I k] [some [.own 67 3 ((mkdS x.kids k).map ownExpr)], none] (I (k + (bsum mkeExpr x.kids : Nat)))) :
    CallX Tryz.prog 135 [.c (.own 67 3 (l.map ownExpr)), I k] [some [.own 67 3 ((mkdS l k).map ownExpr)], none] (I (k + (bsum mkeExpr l : Nat))) := by
  refine callX_of_vc htb hm Tryz.func135 rfl rfl rfl rfl (ann := fun n => match n with | 2 => some { α := Nat, keep := [0], ov := fun a => [(5, I a), (1, I (k + (bsum mkeExpr (l.take a) : Nat)))], hv := fun a => [(0, .orow none 67 3 ((hfE l k a).map ownExpr))], φ := fun a => a ≤ l.length, μ := fun a => l.length - a } | _ => none) (gh := fun _ => false) ?_
  refine LoopN.mk (0 : Nat) (Nat.zero_le _) ⟨⟨rfl, rfl⟩, ⟨?_, rfl⟩, trivial⟩ ⟨⟨rfl, rfl⟩, trivial⟩ ⟨⟨rfl, rfl⟩, trivial⟩ ?_ (fun _ => rfl)
  · refine congrArg I ?_
    simp [bsum]
  intro (i : Nat) (hi : i ≤ l.length)
  have hlen : ((hfE l k i).map ownExpr).length = l.length := by rw [List.length_map, hfE_len]
  refine Fact.mk fun (hL : ((hfE l k i).map ownExpr).length ≤ maxLen) => ?_
  refine Branch.mk (fun h => ?_) (fun h => ?_)
  · have h : (i : Int) < (((hfE l k i).map ownExpr).length : Nat) := of_decide_eq_true h
    have hi' : i < l.length := by omega
    have hs := bsum_take (f := mkeExpr) (List.getElem?_eq_getElem hi')
    have hle := bsum_le (f := mkeExpr) l (i + 1)
    have hf := mkeExpr_eq l[i]
    refine Need.mk ⟨by omega, by rw [hlen]; exact hi'⟩ (Index.mk _ (hfE_get hi') ?_)
    refine Arith.fit (wrap_fit (z := k + (bsum mkeExpr (l.take i) : Nat) + 1) (by omega) (by omega)) ?_
    refine Need.mk ⟨by omega, by simp only [List.length_set]; rw [hlen]; exact hi'⟩ (Index.mk _ (set_get (by rw [hlen]; exact hi')) ?_)
    refine Arith.fit (wrap_fit (z := k + (bsum mkeExpr (l.take i) : Nat) + 1 + 1) (by omega) (by omega)) ?_
    refine Need.mk ⟨by omega, by simp only [List.length_set]; rw [hlen]; exact hi'⟩ (Index.mk _ (set_get (by simp only [List.length_set]; rw [hlen]; exact hi')) fun v => ?_)
    refine CallN.gen [true, false] _ _ _ rfl (hx l[i] (List.getElem_mem hi') (k + (bsum mkeExpr (l.take i) : Nat) + 1 + 1) (by omega) (by omega)) rfl rfl _ rfl ?_
    refine Arith.fit (wrap_fit (z := (i : Int) + 1) (by omega) (by simp only [maxLen] at hL; omega)) ?_
    refine Gh.close 0 i 2 1 rfl (set_get (by rw [List.length_set, List.length_set]; rw [hlen]; exact hi')) rfl rfl rfl ?_
    refine Gh.go ⟨i + 1, hi', (by show l.length - (i + 1) < l.length - i; omega), ⟨⟨rfl, rfl⟩, ⟨?_, rfl⟩, trivial⟩, ⟨⟨rfl, rfl⟩, trivial⟩, ⟨⟨?_, rfl⟩, trivial⟩⟩
    · refine congrArg I ?_
      show k + (bsum mkeExpr (l.take i) : Nat) + 1 + 1 + (bsum mkeExpr l[i].kids : Nat) = k + (bsum mkeExpr (l.take (i + 1)) : Nat)
      omega
    · refine congrArg (Blk.orow none 67 3) ?_
      rw [Int.toNat_natCast, List.set_set, List.set_set, List.set_set, ← hfE_set hi', List.map_set]
      refine congrArg (List.set _ i) ?_
      rw [ownExpr_eq, mkdE_eq]
      rfl
  · have h : ¬ (i : Int) < (((hfE l k i).map ownExpr).length : Nat) := of_decide_eq_false h
    have : i = l.length := by omega
    subst this
    refine RetX.mk ?_ ⟨?_, trivial⟩
    · refine congrArg I ?_
      rw [List.take_length]
    · rw [← hfE_end]
      rfl
theorem markExprS_out : ∀ (l : List XExpr) (k : Int), 0 ≤ k → k + (bsum mkeExpr l : Nat) ≤ 4611686018427387904 →
    CallX Tryz.prog 135 [.c (.own 67 3 (l.map ownExpr)), I k] [some [.own 67 3 ((mkdS l k).map ownExpr)], none] (I (k + (bsum mkeExpr l : Nat)))
  | l, k, h0, hk => markExprS_out_all l k h0 hk fun x _hm k h0 hk => markExprS_out x.kids k h0 hk
  termination_by l => SizeOf.sizeOf l
  decreasing_by
    have h1 := List.sizeOf_lt_of_mem _hm
    have h2 : SizeOf.sizeOf x.kids < SizeOf.sizeOf x := by
      cases x
      simp only [XExpr.mk.sizeOf_spec, XExpr.kids]
      omega
    omega
theorem mkd_idx {l : List XExpr} {k : Int} {i : Nat} (hi : i < l.length) : ((mkdS l k).map encExpr)[i]? = some [J (k + (bsum mkeExpr (l.take i) : Nat)), J (k + (bsum mkeExpr (l.take i) : Nat) + 1), .ro 3 ((mkdS l[i].kids (k + (bsum mkeExpr (l.take i) : Nat) + 1 + 1)).map encExpr)] := by
  rw [List.getElem?_map, List.getElem?_eq_getElem (by rw [mkdS_len]; exact hi), mkdS_get hi, mkdE_eq]
  exact congrArg some (encExpr_eq _)
theorem mkd_idxc {l : List XExpr} {k c : Int} {i : Nat} (hi : i < l.length) (hc : c = k + (bsum mkeExpr (l.take i) : Nat)) : ((mkdS l k).map encExpr)[i]? = some [J c, J (c + 1), .ro 3 ((mkdS l[i].kids (c + 1 + 1)).map encExpr)] := by
  rw [hc]
  exact mkd_idx hi
theorem heldExprS_mk_all (l : List XExpr) (k : Int) (h0 : 0 ≤ k) (hk : k + (bsum mkeExpr l : Nat) ≤ 4611686018427387904)
    (hx : ∀ x ∈ l, ∀ k : Int, 0 ≤ k → k + (bsum mkeExpr x.kids : Nat) ≤ 4611686018427387904 → CallF Tryz.prog 136 [.c (.ro 3 ((mkdS x.kids k).map encExpr)), I k] (I (k + (bsum mkeExpr x.kids : Nat)))) :
    CallF Tryz.prog 136 [.c (.ro 3 ((mkdS l k).map encExpr)), I k] (I (k + (bsum mkeExpr l : Nat))) := by
  have hl := mkdS_len l k
  have hs : ∀ i, (hi : i < l.length) → bsum mkeExpr (l.take (i + 1)) = bsum mkeExpr (l.take i) + 2 + bsum mkeExpr l[i].kids ∧ bsum mkeExpr (l.take (i + 1)) ≤ bsum mkeExpr l := fun i hi => by
    have h1 := bsum_take (f := mkeExpr) (List.getElem?_eq_getElem hi)
    have h2 := bsum_le (f := mkeExpr) l (i + 1)
    have h3 := mkeExpr_eq l[i]
    omega
  refine callF_of_vc htb hm Tryz.func136 rfl rfl rfl rfl (ann := fun _ => none) (gh := fun _ => false) ?_
  repeat' ((conv => whnf); first
    | (guard_target = Done _; refine Done.mk ?_; first | ((have e : i = l.length := (by omega); have h9 := ha.2; rw [e, List.take_length] at h9; rw [h9]; rfl); done) | skip)
    | (guard_target = RetX _ _; refine RetX.mk ?_ ?_)
    | (guard_target =~ LoopE 2 _ _ _ _ _ _; refine LoopE.mk { α := Nat × Int, keep := [0], ov := fun ⟨i, c⟩ => [(1, I c), (5, I (i : Nat))], φ := fun ⟨i, c⟩ => i ≤ l.length ∧ c = k + (bsum mkeExpr (l.take i) : Nat), μ := fun ⟨i, c⟩ => l.length - i } (LoopN.mk ((0, k) : Nat × Int) (by exact ⟨Nat.zero_le _, by simp [bsum]⟩) (by (repeat' first | exact trivial | exact rfl | refine ⟨?_, ?_⟩); done) (by (repeat' first | exact trivial | exact rfl | refine ⟨?_, ?_⟩); done) (by (repeat' first | exact trivial | exact rfl | refine ⟨?_, ?_⟩ | (simp only [List.map_append, List.map_cons, List.map_nil, List.map_set]; first | done | rfl)); done) (fun A ha => ?_) (by intro A; first | rfl | (obtain ⟨_, _⟩ := A; rfl) | (obtain ⟨_, _, _⟩ := A; rfl))); obtain ⟨i, c⟩ := A; have ha : i ≤ l.length ∧ c = k + (bsum mkeExpr (l.take i) : Nat) := ha; have hsi := hs i; have hc2 := ha.2; have hb9 := bsum_le (f := mkeExpr) l i)
    | (guard_target = Gh _ _ _ _ _; refine Gh.go ⟨((i + 1, c + 1 + 1 + (bsum mkeExpr l[i].kids : Nat)) : Nat × Int), (by (have hi9 : i < l.length := (by omega); have h9 := hsi hi9; refine ⟨hi9, ?_⟩; show c + 1 + 1 + ((bsum mkeExpr l[i].kids : Nat) : Int) = k + (bsum mkeExpr (l.take (i + 1)) : Nat); omega)), (by first | (show _ < _; simp only []; omega) | omega | (simp; omega)), (by (repeat' first | exact trivial | exact rfl | refine ⟨?_, ?_⟩); done), (by (repeat' first | exact trivial | exact rfl | refine ⟨?_, ?_⟩); done), (by (repeat' first | exact trivial | exact rfl | refine ⟨?_, ?_⟩ | (simp only [List.map_append, List.map_cons, List.map_nil, List.map_set]; first | done | rfl)); done)⟩)
    | (guard_target = Fact _ _; refine Fact.mk fun hL => ?_; (try simp only [List.length_map, maxLen] at hL))
    | (guard_target = Branch _ _ _; (first | refine Branch.dec (fun h => ?_) (fun h => ?_) | refine Branch.beq (fun h => ?_) (fun h => ?_) | refine Branch.bne (fun h => ?_) (fun h => ?_) | refine Branch.ndec (fun h => ?_) (fun h => ?_) | refine Branch.nb (fun h => ?_) (fun h => ?_) | refine Branch.mk (fun h => ?_) (fun h => ?_)) <;> (try simp only [List.length_map] at h) <;> (try omega) <;> (try contradiction))
    | (guard_target = CallN _ 136 _ _ _ _; refine CallN.pure _ _ rfl (hx l[i] (List.getElem_mem (by omega)) (c + 1 + 1) (by omega) (by have h9 := hsi (by omega); omega)) rfl _ rfl ?_)
    | (guard_target = Arith _ _ _; refine Arith.fit (wrap_fit (by first | omega | (simp only [List.length_map]; omega)) (by first | omega | (simp only [List.length_map]; omega))) ?_)
    | (guard_target = Arith _ _ _; refine Arith.fit (by decide) ?_)
    | (guard_target = Index _ _ _; first | refine Index.mk _ (mkd_idxc (i := i) (by omega) ha.2) ?_ | refine Index.mk _ (idx_map (by omega)) ?_)
    | (guard_target = Need (chkDraw _ = true) _; refine Need.mk (by kernel_rfl) ?_)
    | (guard_target = Need (chkRecs _ _ = true) _; refine Need.mk (by first | kernel_rfl | rfl) ?_)
    | (guard_target = Need _ _; refine Need.mk (by first  | omega | (simp only [List.length_map]; omega)) ?_))
theorem heldExprS_mk : ∀ (l : List XExpr) (k : Int), 0 ≤ k → k + (bsum mkeExpr l : Nat) ≤ 4611686018427387904 → CallF Tryz.prog 136 [.c (.ro 3 ((mkdS l k).map encExpr)), I k] (I (k + (bsum mkeExpr l : Nat)))
  | l, k, h0, hk => heldExprS_mk_all l k h0 hk fun x _hm k h0 hk => heldExprS_mk x.kids k h0 hk
  termination_by l => SizeOf.sizeOf l
  decreasing_by
    have h1 := List.sizeOf_lt_of_mem _hm
    have h2 : SizeOf.sizeOf x.kids < SizeOf.sizeOf x := by
      cases x
      simp only [XExpr.mk.sizeOf_spec, XExpr.kids]
      omega
    omega
theorem markExpr_out (a b : Int) (l : List XExpr) (k : Int) (h0 : 0 ≤ k) (hk : k + (bsum mkeExpr l : Nat) ≤ 4611686018427387904) : CallX Tryz.prog 97 [.m [.c (J a), .c (J b), .c (.own 67 3 (l.map ownExpr))], I k] [some [J a, J b, .own 67 3 ((mkdS l k).map ownExpr)], none] (I (k + (bsum mkeExpr l : Nat))) := by
  refine callX_of_vc htb hm Tryz.func97 rfl rfl rfl rfl (ann := fun _ => none) (gh := fun _ => false) ?_
  repeat' ((conv => whnf); first
    | (guard_target = Done _; refine Done.mk ?_)
    | (guard_target = RetX _ _; refine RetX.mk ?_ ?_)
    | (guard_target = Fact _ _; refine Fact.mk fun hL => ?_; (try simp only [List.length_map, maxLen] at hL))
    | (guard_target = Branch _ _ _; (first | refine Branch.dec (fun h => ?_) (fun h => ?_) | refine Branch.beq (fun h => ?_) (fun h => ?_) | refine Branch.bne (fun h => ?_) (fun h => ?_) | refine Branch.ndec (fun h => ?_) (fun h => ?_) | refine Branch.nb (fun h => ?_) (fun h => ?_) | refine Branch.mk (fun h => ?_) (fun h => ?_)) <;> (try simp only [List.length_map] at h) <;> (try omega) <;> (try contradiction))
    | (guard_target = CallN _ 135 _ _ _ _; refine CallN.gen [true, false] _ _ _ rfl (markExprS_out l k h0 hk) rfl rfl _ rfl ?_)
    | (guard_target = Arith _ _ _; refine Arith.fit (wrap_fit (by first | omega | (simp only [List.length_map]; omega)) (by first | omega | (simp only [List.length_map]; omega))) ?_)
    | (guard_target = Arith _ _ _; refine Arith.fit (by decide) ?_)
    | (guard_target = Index _ _ _; first  | refine Index.mk _ (idx_map (by omega)) ?_)
    | (guard_target = Need (chkDraw _ = true) _; refine Need.mk (by kernel_rfl) ?_)
    | (guard_target = Need (chkRecs _ _ = true) _; refine Need.mk (by first | kernel_rfl | rfl) ?_)
    | (guard_target = Need _ _; refine Need.mk (by first  | omega | (simp only [List.length_map]; omega)) ?_))
  all_goals first | rfl | exact ⟨rfl, trivial⟩ | trivial
def mkQ (q : XEquation) (k : Int) : XEquation := ⟨.mk q.left.kind q.left.num (mkdS q.left.kids k), .mk q.right.kind q.right.num (mkdS q.right.kids (k + (bsum mkeExpr q.left.kids : Nat)))⟩
theorem markEquation_out (q : XEquation) (k : Int) (h0 : 0 ≤ k) (hk : k + (bsum mkeExpr q.left.kids + bsum mkeExpr q.right.kids : Nat) ≤ 4611686018427387904) : CallX Tryz.prog 42 [.m [.c (J q.left.kind), .c (J q.left.num), .c (.own 67 3 (q.left.kids.map ownExpr)), .c (J q.right.kind), .c (J q.right.num), .c (.own 67 3 (q.right.kids.map ownExpr))], I k] [some (ownEquation (mkQ q k)), none] (I (k + (bsum mkeExpr q.left.kids : Nat) + (bsum mkeExpr q.right.kids : Nat))) := by
  refine callX_of_vc htb hm Tryz.func42 rfl rfl rfl rfl (ann := fun _ => none) (gh := fun _ => false) ?_
  repeat' ((conv => whnf); first
    | (guard_target = Done _; refine Done.mk ?_)
    | (guard_target = RetX _ _; refine RetX.mk ?_ ?_)
    | (guard_target = Fact _ _; refine Fact.mk fun hL => ?_; (try simp only [List.length_map, maxLen] at hL))
    | (guard_target = Branch _ _ _; (first | refine Branch.dec (fun h => ?_) (fun h => ?_) | refine Branch.beq (fun h => ?_) (fun h => ?_) | refine Branch.bne (fun h => ?_) (fun h => ?_) | refine Branch.ndec (fun h => ?_) (fun h => ?_) | refine Branch.nb (fun h => ?_) (fun h => ?_) | refine Branch.mk (fun h => ?_) (fun h => ?_)) <;> (try simp only [List.length_map] at h) <;> (try omega) <;> (try contradiction))
    | (guard_target = CallN _ 97 _ _ _ _; refine CallN.gen [true, false] _ _ _ rfl (markExpr_out q.left.kind q.left.num q.left.kids k (by omega) (by omega)) rfl rfl _ rfl ?_)
    | (guard_target = CallN _ 97 _ _ _ _; refine CallN.gen [true, false] _ _ _ rfl (markExpr_out q.right.kind q.right.num q.right.kids (k + (bsum mkeExpr q.left.kids : Nat)) (by omega) (by omega)) rfl rfl _ rfl ?_)
    | (guard_target = Arith _ _ _; refine Arith.fit (wrap_fit (by first | omega | (simp only [List.length_map]; omega)) (by first | omega | (simp only [List.length_map]; omega))) ?_)
    | (guard_target = Arith _ _ _; refine Arith.fit (by decide) ?_)
    | (guard_target = Index _ _ _; first  | refine Index.mk _ (idx_map (by omega)) ?_)
    | (guard_target = Need (chkDraw _ = true) _; refine Need.mk (by kernel_rfl) ?_)
    | (guard_target = Need (chkRecs _ _ = true) _; refine Need.mk (by first | kernel_rfl | rfl) ?_)
    | (guard_target = Need _ _; refine Need.mk (by first  | omega | (simp only [List.length_map]; omega)) ?_))
  all_goals first | rfl | exact ⟨rfl, trivial⟩ | trivial
theorem heldExpr_mk (a b : Int) (l : List XExpr) (k : Int) (h0 : 0 ≤ k) (hk : k + (bsum mkeExpr l : Nat) ≤ 4611686018427387904) : CallF Tryz.prog 98 [.a 3 [J a, J b, .ro 3 ((mkdS l k).map encExpr)], I k] (I (k + (bsum mkeExpr l : Nat))) := by
  refine callF_of_vc htb hm Tryz.func98 rfl rfl rfl rfl (ann := fun _ => none) (gh := fun _ => false) ?_
  repeat' ((conv => whnf); first
    | (guard_target = Done _; refine Done.mk ?_; first | (rfl; done) | skip)
    | (guard_target = RetX _ _; refine RetX.mk ?_ ?_)
    | (guard_target = Fact _ _; refine Fact.mk fun hL => ?_; (try simp only [List.length_map, maxLen] at hL))
    | (guard_target = Branch _ _ _; (first | refine Branch.dec (fun h => ?_) (fun h => ?_) | refine Branch.beq (fun h => ?_) (fun h => ?_) | refine Branch.bne (fun h => ?_) (fun h => ?_) | refine Branch.ndec (fun h => ?_) (fun h => ?_) | refine Branch.nb (fun h => ?_) (fun h => ?_) | refine Branch.mk (fun h => ?_) (fun h => ?_)) <;> (try simp only [List.length_map] at h) <;> (try omega) <;> (try contradiction))
    | (guard_target = CallN _ 136 _ _ _ _; refine CallN.pure _ _ rfl (heldExprS_mk l k h0 hk) rfl _ rfl ?_)
    | (guard_target = Arith _ _ _; refine Arith.fit (wrap_fit (by first | omega | (simp only [List.length_map]; omega)) (by first | omega | (simp only [List.length_map]; omega))) ?_)
    | (guard_target = Arith _ _ _; refine Arith.fit (by decide) ?_)
    | (guard_target = Index _ _ _; first  | refine Index.mk _ (idx_map (by omega)) ?_)
    | (guard_target = Need (chkDraw _ = true) _; refine Need.mk (by kernel_rfl) ?_)
    | (guard_target = Need (chkRecs _ _ = true) _; refine Need.mk (by first | kernel_rfl | rfl) ?_)
    | (guard_target = Need _ _; refine Need.mk (by first  | omega | (simp only [List.length_map]; omega)) ?_))
theorem heldEquation_mk (q : XEquation) (k : Int) (h0 : 0 ≤ k) (hk : k + (bsum mkeExpr q.left.kids + bsum mkeExpr q.right.kids : Nat) ≤ 4611686018427387904) : CallF Tryz.prog 43 [.a 6 (encEquation (mkQ q k)), I k] (I (k + (bsum mkeExpr q.left.kids : Nat) + (bsum mkeExpr q.right.kids : Nat))) := by
  refine callF_of_vc htb hm Tryz.func43 rfl rfl rfl rfl (ann := fun _ => none) (gh := fun _ => false) ?_
  repeat' ((conv => whnf); first
    | (guard_target = Done _; refine Done.mk ?_; first | (rfl; done) | skip)
    | (guard_target = RetX _ _; refine RetX.mk ?_ ?_)
    | (guard_target = Fact _ _; refine Fact.mk fun hL => ?_; (try simp only [List.length_map, maxLen] at hL))
    | (guard_target = Branch _ _ _; (first | refine Branch.dec (fun h => ?_) (fun h => ?_) | refine Branch.beq (fun h => ?_) (fun h => ?_) | refine Branch.bne (fun h => ?_) (fun h => ?_) | refine Branch.ndec (fun h => ?_) (fun h => ?_) | refine Branch.nb (fun h => ?_) (fun h => ?_) | refine Branch.mk (fun h => ?_) (fun h => ?_)) <;> (try simp only [List.length_map] at h) <;> (try omega) <;> (try contradiction))
    | (guard_target = CallN _ 98 _ _ _ _; refine CallN.pure _ _ rfl (heldExpr_mk q.left.kind q.left.num q.left.kids k (by omega) (by omega)) rfl _ rfl ?_)
    | (guard_target = CallN _ 98 _ _ _ _; refine CallN.pure _ _ rfl (heldExpr_mk q.right.kind q.right.num q.right.kids (k + (bsum mkeExpr q.left.kids : Nat)) (by omega) (by omega)) rfl _ rfl ?_)
    | (guard_target = Arith _ _ _; refine Arith.fit (wrap_fit (by first | omega | (simp only [List.length_map]; omega)) (by first | omega | (simp only [List.length_map]; omega))) ?_)
    | (guard_target = Arith _ _ _; refine Arith.fit (by decide) ?_)
    | (guard_target = Index _ _ _; first  | refine Index.mk _ (idx_map (by omega)) ?_)
    | (guard_target = Need (chkDraw _ = true) _; refine Need.mk (by kernel_rfl) ?_)
    | (guard_target = Need (chkRecs _ _ = true) _; refine Need.mk (by first | kernel_rfl | rfl) ?_)
    | (guard_target = Need _ _; refine Need.mk (by first  | omega | (simp only [List.length_map]; omega)) ?_))
/-! ### the law -/
theorem eqQ_own (q : XEquation) : CallF Tryz.prog 41 [.a 6 (roL (ownEquation q)), .a 6 (roL (ownEquation q))] (B true) := by
  rw [roEquation]
  have := eqEquation_ok q q
  rwa [eqv_self] at this
theorem heldQ_own (q : XEquation) (hk : 1 + (bsum mkeExpr q.left.kids + bsum mkeExpr q.right.kids : Nat) ≤ (4611686018427387904 : Int)) : CallF Tryz.prog 43 [.a 6 (roL (ownEquation (mkQ q 1))), I 1] (I (1 + (bsum mkeExpr q.left.kids : Nat) + (bsum mkeExpr q.right.kids : Nat))) := by
  rw [roEquation]
  exact heldEquation_mk q 1 (by omega) hk
mutual
theorem pureL_expr : ∀ e : XExpr, pureL (ownExpr e)
  | .mk kind num kids => by
    simp only [ownExpr, pureL, pureC]
    exact ⟨trivial, trivial, pureLL_exprS kids, trivial⟩
theorem pureLL_exprS : ∀ l : List XExpr, pureLL (ownExprS l)
  | [] => trivial
  | x :: xs => ⟨pureL_expr x, pureLL_exprS xs⟩
end
theorem pureLL_own (l : List XExpr) : pureLL (l.map ownExpr) := by
  rw [← ownExprS_map]
  exact pureLL_exprS l
theorem TellLemma_big (a : XArchive) (id : Int) (l : List Int) (hl : ¬ budArchive a ≤ 1048576) : CallF Tryz.prog 11 [encA a, I id, .c (.ro 1 (l.map eI))] (B true) := by
  have hz := szArchive_ok a 1048576 (by omega)
  rw [szr_neg (by omega)] at hz
  refine callF_of_vc htb hm Tryz.func11 rfl rfl rfl rfl (ann := fun _ => none) (gh := fun _ => false) ?_
  repeat' ((conv => whnf); first
    | (guard_target = Done _; refine Done.mk ?_; first | (rfl; done) | skip)
    | (guard_target = RetX _ _; refine RetX.mk ?_ ?_)
    | (guard_target = Fact _ _; refine Fact.mk fun hL => ?_; (try simp only [List.length_map, maxLen] at hL))
    | (guard_target = Branch _ _ _; (first | refine Branch.dec (fun h => ?_) (fun h => ?_) | refine Branch.beq (fun h => ?_) (fun h => ?_) | refine Branch.bne (fun h => ?_) (fun h => ?_) | refine Branch.ndec (fun h => ?_) (fun h => ?_) | refine Branch.nb (fun h => ?_) (fun h => ?_) | refine Branch.mk (fun h => ?_) (fun h => ?_)) <;> (try simp only [List.length_map] at h) <;> (try omega) <;> (try contradiction))
    | (guard_target = CallN _ 12 _ _ _ _; refine CallN.pure _ _ rfl (hz) rfl _ rfl ?_)
    | (guard_target = Arith _ _ _; refine Arith.fit (wrap_fit (by first | omega | (simp only [List.length_map]; omega)) (by first | omega | (simp only [List.length_map]; omega))) ?_)
    | (guard_target = Arith _ _ _; refine Arith.fit (by decide) ?_)
    | (guard_target = Index _ _ _; first  | refine Index.mk _ (idx_map (by omega)) ?_)
    | (guard_target = Need (chkDraw _ = true) _; refine Need.mk (by kernel_rfl) ?_)
    | (guard_target = Need (chkRecs _ _ = true) _; refine Need.mk (by first | kernel_rfl | rfl) ?_)
    | (guard_target = Need _ _; refine Need.mk (by first  | omega | (simp only [List.length_map]; omega)) ?_))
theorem TellLemma_long (a : XArchive) (id : Int) (l : List Int) (hn : ¬ l.length ≤ 1048576) : CallF Tryz.prog 11 [encA a, I id, .c (.ro 1 (l.map eI))] (B true) := by
  refine callF_of_vc htb hm Tryz.func11 rfl rfl rfl rfl (ann := fun _ => none) (gh := fun _ => false) ?_
  repeat' ((conv => whnf); first
    | (guard_target = Done _; refine Done.mk ?_; first | (rfl; done) | skip)
    | (guard_target = RetX _ _; refine RetX.mk ?_ ?_)
    | (guard_target = Fact _ _; refine Fact.mk fun hL => ?_; (try simp only [List.length_map, maxLen] at hL))
    | (guard_target = Branch _ _ _; (first | refine Branch.dec (fun h => ?_) (fun h => ?_) | refine Branch.beq (fun h => ?_) (fun h => ?_) | refine Branch.bne (fun h => ?_) (fun h => ?_) | refine Branch.ndec (fun h => ?_) (fun h => ?_) | refine Branch.nb (fun h => ?_) (fun h => ?_) | refine Branch.mk (fun h => ?_) (fun h => ?_)) <;> (try simp only [List.length_map] at h) <;> (try omega) <;> (try contradiction))
    | (guard_target = Arith _ _ _; refine Arith.fit (wrap_fit (by first | omega | (simp only [List.length_map]; omega)) (by first | omega | (simp only [List.length_map]; omega))) ?_)
    | (guard_target = Arith _ _ _; refine Arith.fit (by decide) ?_)
    | (guard_target = Index _ _ _; first  | refine Index.mk _ (idx_map (by omega)) ?_)
    | (guard_target = Need (chkDraw _ = true) _; refine Need.mk (by kernel_rfl) ?_)
    | (guard_target = Need (chkRecs _ _ = true) _; refine Need.mk (by first | kernel_rfl | rfl) ?_)
    | (guard_target = Need _ _; refine Need.mk (by first  | omega | (simp only [List.length_map]; omega)) ?_))
theorem TellLemma_same (a : XArchive) (id : Int) (l : List Int) (hl : budArchive a ≤ 1048576) (hn : l.length ≤ 1048576) (q : XEquation) (c : Int) (hq : bsum mkeExpr q.left.kids + bsum mkeExpr q.right.kids ≤ 10000000)
    (hs0 : CallX Tryz.prog 38 [encA a, I id, .c (.ro 1 (l.map eI))] [] (resQ q c)) (hi0 : CallX Tryz.prog 40 [encA a, I id, .c (.ro 1 (l.map eI))] [] (resQ q c)) : CallF Tryz.prog 11 [encA a, I id, .c (.ro 1 (l.map eI))] (B true) := by
  have hz := szArchive_ok a 1048576 (by omega)
  rw [szr_eq hl] at hz
  have hs : CallX Tryz.prog 38 [.a 4 (roL (ownArchive a)), I id, .c (.ro 1 (l.map eI))] [] (resQ q c) := by rw [roArchive]; exact hs0
  have hi : CallX Tryz.prog 40 [.a 4 (roL (ownArchive a)), I id, .c (.ro 1 (l.map eI))] [] (resQ q c) := by rw [roArchive]; exact hi0
  have hk := mkArch_le a hl
  have hp : pureT (resQ q c) := by simp [pureT, pureV, pureC, ownEquation, pureLL_own]
  have hmq := markEquation_out q 1 (by omega) (by omega)
  refine callF_of_vc htb hm Tryz.func11 rfl rfl rfl rfl (ann := fun _ => none) (gh := fun _ => false) ?_
  repeat' ((conv => whnf); first
    | (guard_target = Done _; refine Done.mk ?_; first | (rfl; done) | skip)
    | (guard_target = RetX _ _; refine RetX.mk ?_ ?_)
    | (guard_target = Fact _ _; refine Fact.mk fun hL => ?_; (try simp only [List.length_map, maxLen] at hL))
    | (guard_target = Branch _ _ _; (first | refine Branch.dec (fun h => ?_) (fun h => ?_) | refine Branch.beq (fun h => ?_) (fun h => ?_) | refine Branch.bne (fun h => ?_) (fun h => ?_) | refine Branch.ndec (fun h => ?_) (fun h => ?_) | refine Branch.nb (fun h => ?_) (fun h => ?_) | refine Branch.mk (fun h => ?_) (fun h => ?_)) <;> (try simp only [List.length_map] at h) <;> (try omega) <;> (try contradiction))
    | (guard_target = CallN _ 12 _ _ _ _; refine CallN.pure _ _ rfl (hz) rfl _ rfl ?_)
    | (guard_target = CallN _ 14 _ _ _ _; refine CallN.gen [] _ _ _ rfl (toArchive_ok a hl) rfl rfl _ rfl ?_)
    | (guard_target = CallN _ 39 _ _ _ _; refine CallN.gen [] _ _ _ rfl (toInt64S_ok l hn) rfl rfl _ rfl ?_)
    | (guard_target = CallN _ 24 _ _ _ _; refine CallN.pure _ _ rfl (eqI_told l) rfl _ rfl ?_)
    | (guard_target = CallN _ 16 _ _ _ _; refine CallN.pure _ _ rfl (eqArch_own a) rfl _ rfl ?_)
    | (guard_target = CallN _ 41 _ _ _ _; refine CallN.pure _ _ rfl (eqQ_own q) rfl _ rfl ?_)
    | (guard_target = CallN _ 25 _ _ _ _; refine CallN.gen [true, false] _ _ _ rfl (markArchive_ok a 1 (by omega) (by omega)) rfl rfl _ rfl ?_)
    | (guard_target = CallN _ 42 _ _ _ _; refine CallN.gen [true, false] _ _ _ rfl (hmq) rfl rfl _ rfl ?_)
    | (guard_target = CallN _ 43 _ _ _ _; refine CallN.pure _ _ rfl (heldQ_own q (by omega)) rfl _ rfl ?_)
    | (guard_target = CallN _ 38 _ _ _ _; refine CallN.own _ _ rfl hs hp _ rfl ?_)
    | (guard_target = CallN _ 40 _ _ _ _; refine CallN.own _ _ rfl hi hp _ rfl ?_)
    | (guard_target = CallN _ 26 _ _ _ _; refine CallN.gen [true, false] _ _ _ rfl (markInt64S_told l (1 + (bsum mkeServer a.servers + bsum mkePacket a.flying : Nat)) (by omega) (by omega)) rfl rfl _ rfl ?_)
    | (guard_target = Arith _ _ _; refine Arith.fit (wrap_fit (by first | omega | (simp only [List.length_map]; omega)) (by first | omega | (simp only [List.length_map]; omega))) ?_)
    | (guard_target = Arith _ _ _; refine Arith.fit (by decide) ?_)
    | (guard_target = Index _ _ _; first  | refine Index.mk _ (idx_map (by omega)) ?_)
    | (guard_target = Need (chkDraw _ = true) _; refine Need.mk (by kernel_rfl) ?_)
    | (guard_target = Need (chkRecs _ _ = true) _; refine Need.mk (by first | kernel_rfl | rfl) ?_)
    | (guard_target = Need _ _; refine Need.mk (by first  | omega | (simp only [List.length_map]; omega)) ?_))
theorem zq_cnt : bsum mkeExpr zQ.left.kids + bsum mkeExpr zQ.right.kids ≤ 10000000 := by decide
theorem TellLemma_law (a : XArchive) (id : Int) (l : List Int) : CallF Tryz.prog 11 [encA a, I id, .c (.ro 1 (l.map eI))] (B true) := by
  by_cases hn : l.length ≤ 1048576
  case neg => exact TellLemma_long a id l hn
  by_cases hl : budArchive a ≤ 1048576
  case neg => exact TellLemma_big a id l hl
  have zero : ∀ c, CallX Tryz.prog 38 [encA a, I id, .c (.ro 1 (l.map eI))] [] (resZ c) → CallX Tryz.prog 40 [encA a, I id, .c (.ro 1 (l.map eI))] [] (resZ c) → CallF Tryz.prog 11 [encA a, I id, .c (.ro 1 (l.map eI))] (B true) :=
    fun c hs hi => TellLemma_same a id l hl hn zQ c zq_cnt (CallX.zero hs) (CallX.zero hi)
  by_cases hg : goodArch a = true
  case neg =>
    have hg : goodArch a = false := by simpa using hg
    exact zero 1 (Spec1 a id l hl hg) (Tell1 a id l hl hg)
  by_cases hadj : adjB l = true
  case neg =>
    have h : adjB l = false := by simpa using hadj
    exact zero 2 (Spec2a a id l hl hg hn (by rw [h]; rfl)) (Tell2a a id l hl hg h)
  by_cases hpa : l.all (placeB a) = true
  case neg =>
    have h : l.all (placeB a) = false := by simpa using hpa
    exact zero 2 (Spec2a a id l hl hg hn (by rw [h, Bool.and_false])) (Tell2b a id l hl hg hadj h)
  by_cases h4 : rng 0 99 id = true
  case neg =>
    have h : rng 0 99 id = false := by simpa using h4
    exact zero 2 (Spec2c a id l hl hg hn hadj hpa h) (Tell2c a id l hl hg hadj hpa h)
  by_cases hu : l.all (upB a) = true
  case neg =>
    have h : l.all (upB a) = false := by simpa using hu
    exact zero 4 (Spec3 a id l hl hg hn hadj hpa h4 h) (Tell3 a id l hl hg hadj hpa h4 hn h)
  by_cases h6 : 2 * (l.length : Int) ≤ a.servers.length
  · exact zero 4 (Spec4 a id l hl hg hn hadj hpa h4 hu h6) (Tell4 a id l hl hg hadj hpa h4 hn hu h6)
  cases hLs : lastS a id l with
  | none => exact zero 6 (Spec5 a id l hl hg hn hadj hpa h4 hu h6 hLs) (Tell5 a id l hl hg hadj hpa h4 hn hu h6 hLs)
  | some s =>
    by_cases ht : takenB a l (sv a s) id = true
    · exact zero 8 (Spec6 a id l hl hg hn hadj hpa h4 hu h6 s hLs ht) (Tell6 a id l hl hg hadj hpa h4 hn hu h6 s hLs ht)
    · have ht : takenB a l (sv a s) id = false := by simpa using ht
      have hsm := lastS_some hLs
      have hb := lem_bud hl (List.all_eq_true.1 hpa _ hsm.1) hsm.2
      have h1 := mkeKids_le (lemE (noteOf (sv a s) id).entry).left
      have h2 := mkeKids_le (lemE (noteOf (sv a s) id).entry).right
      exact TellLemma_same a id l hl hn _ 0 (by omega) (Spec7 a id l hl hg hn hadj hpa h4 hu h6 s hLs ht) (Tell7 a id l hl hg hadj hpa h4 hn hu h6 s hLs ht)
end Go.Proofs.YtbbaadkgmdkjdaaGreat
