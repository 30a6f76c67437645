/- Contracts of idsOf and l08Ids, of KnownIds and RevokedIds; both laws answer true. No conditions. -/
import Derived.Test.YtbbaadkgmdkjdaaGreatZC
import Derived.Test.YtbbaadkgmdkjdaaGreatZs
namespace Go.Proofs.YtbbaadkgmdkjdaaGreat
open Go Go.KA Go.Proofs
set_option maxHeartbeats 16000000
set_option maxRecDepth 100000
theorem ids_len (l : List XNote) (r : Bool) : (idsN l r).length ≤ l.length := by
  have := List.length_filter_le (·.revoke == r) l
  simpa [idsN] using this
theorem idsOf_ok (l : List XNote) (r : Bool) (hl : l.length ≤ 20) : CallX Tryz.prog 75 [.c (.ro 7 (l.map encNote)), B r] [] (.c (.ows 2 1 ((sortI (idsN l r)).map eI))) := by
  have hn := fun i => ids_len (l.take i) r
  refine callX_of_vc htb hm Tryz.func75 rfl rfl rfl rfl (ann := fun _ => none) (gh := fun _ => false) ?_
  repeat' ((conv => whnf); first
    | (guard_target = Done _; refine Done.mk ?_)
    | (guard_target = RetX _ _; refine RetX.mk ?_ ?_)
    | (guard_target =~ LoopE 3 _ _ _ _ _ _; refine LoopE.mk { α := Nat × List Int, keep := [1, 9, 10], ov := fun ⟨i, R⟩ => [(5, .lw 1), (11, I i)], hv := fun ⟨i, R⟩ => [(1, .row none 2 1 (R.map eI))], φ := fun ⟨i, R⟩ => i ≤ l.length ∧ R = idsN (l.take i) r, μ := fun ⟨i, R⟩ => l.length - i } (LoopN.mk ((0, []) : Nat × List Int) (by exact ⟨Nat.zero_le _, rfl⟩) (by (repeat' first | exact trivial | exact rfl | refine ⟨?_, ?_⟩); done) (by (repeat' first | exact trivial | exact rfl | refine ⟨?_, ?_⟩); done) (by (repeat' first | exact trivial | exact rfl | refine ⟨?_, ?_⟩ | (simp only [List.map_append, List.map_cons, List.map_nil]; first | done | rfl)); done) (fun A ha => ?_) (by intro A; first | rfl | (obtain ⟨_, _⟩ := A; rfl) | (obtain ⟨_, _, _⟩ := A; rfl))); obtain ⟨i, R⟩ := A; have ha : i ≤ l.length ∧ R = idsN (l.take i) r := ha; have hb := hn i; rw [List.length_take, ← ha.2] at hb)
    | (guard_target = Gh _ _ _ _ _; refine Gh.go ⟨((i + 1, R ++ [l[i].id]) : Nat × List Int), (by (have hi : i < l.length := (by omega); refine ⟨hi, ?_⟩; show R ++ _ = _; have h1 : l[i].revoke = r := (by simpa using h); rw [ids_next hi, if_pos h1, ha.2])), (by first | (show _ < _; simp only []; omega) | omega | (simp; omega)), (by (repeat' first | exact trivial | exact rfl | refine ⟨?_, ?_⟩); done), (by (repeat' first | exact trivial | exact rfl | refine ⟨?_, ?_⟩); done), (by (repeat' first | exact trivial | exact rfl | refine ⟨?_, ?_⟩ | (simp only [List.map_append, List.map_cons, List.map_nil]; first | done | rfl)); done)⟩)
    | (guard_target = Gh _ _ _ _ _; refine Gh.go ⟨((i + 1, R) : Nat × List Int), (by (have hi : i < l.length := (by omega); refine ⟨hi, ?_⟩; show R = _; have h1 : ¬ l[i].revoke = r := (by simpa using h); rw [ids_next hi, if_neg h1, List.append_nil, ha.2])), (by first | (show _ < _; simp only []; omega) | omega | (simp; omega)), (by (repeat' first | exact trivial | exact rfl | refine ⟨?_, ?_⟩); done), (by (repeat' first | exact trivial | exact rfl | refine ⟨?_, ?_⟩); done), (by (repeat' first | exact trivial | exact rfl | refine ⟨?_, ?_⟩ | (simp only [List.map_append, List.map_cons, List.map_nil]; first | done | rfl)); done)⟩)
    | (guard_target = Fact _ _; refine Fact.mk fun hL => ?_; (try simp only [List.length_map, maxLen] at hL))
    | (guard_target = Branch _ _ _; (first | refine Branch.dec (fun h => ?_) (fun h => ?_) | refine Branch.beq (fun h => ?_) (fun h => ?_) | refine Branch.bne (fun h => ?_) (fun h => ?_) | refine Branch.ndec (fun h => ?_) (fun h => ?_) | refine Branch.nb (fun h => ?_) (fun h => ?_) | refine Branch.mk (fun h => ?_) (fun h => ?_)) <;> (try simp only [List.length_map] at h) <;> (try omega) <;> (try contradiction))
    | (guard_target = CallN _ 126 _ _ _ _; refine CallN.gen [true] _ _ _ rfl (Sort_ok R (by omega)) rfl rfl _ rfl ?_)
    | (guard_target = Arith _ _ _; refine Arith.fit (wrap_fit (by first | omega | (simp only [List.length_map]; omega)) (by first | omega | (simp only [List.length_map]; omega))) ?_)
    | (guard_target = Arith _ _ _; refine Arith.fit (by decide) ?_)
    | (guard_target = Index _ _ _; first | refine Index.mk _ (idx_map (i := i) (by omega)) ?_ | refine Index.mk _ (idx_map (by omega)) ?_)
    | (guard_target = Need (chkDraw _ = true) _; refine Need.mk (by kernel_rfl) ?_)
    | (guard_target = Need (chkRecs _ _ = true) _; refine Need.mk (by first | kernel_rfl | rfl) ?_)
    | (guard_target = Need _ _; refine Need.mk (by first | ((simp only [List.length_map, List.length_cons, List.length_nil, maxLen]; constructor <;> omega)) | omega | (simp only [List.length_map]; omega)) ?_))
  all_goals first | rfl | trivial | (have h9 := ha.2; rw [List.take_of_length_le (by omega)] at h9; rw [h9]; done)
theorem ids100 (l : List XNote) (r : Bool) : ∀ i, (selR i fun i => decide (0 ≤ spotN l r i)).length ≤ i := fun i => selR_len i _
theorem l08Ids_ok (l : List XNote) (r : Bool) : CallX Tryz.prog 74 [.c (.ro 7 (l.map encNote)), B r] [] (.c (.ows 2 1 ((selR 100 fun i => decide (0 ≤ spotN l r i)).map eI))) := by
  refine callX_of_vc htb hm Tryz.func74 rfl rfl rfl rfl (ann := fun _ => none) (gh := fun _ => false) ?_
  repeat' ((conv => whnf); first
    | (guard_target = Done _; refine Done.mk ?_)
    | (guard_target = RetX _ _; refine RetX.mk ?_ ?_)
    | (guard_target =~ LoopE 3 _ _ _ _ _ _; refine LoopE.mk { α := Nat × List Int, keep := [0, 1], ov := fun ⟨i, R⟩ => [(5, .lw 1), (6, I (i : Nat))], hv := fun ⟨i, R⟩ => [(1, .row none 2 1 (R.map eI))], φ := fun ⟨i, R⟩ => i ≤ 100 ∧ R = selR i (fun i => decide (0 ≤ spotN l r i)), μ := fun ⟨i, R⟩ => 100 - i } (LoopN.mk ((0, []) : Nat × List Int) (by exact ⟨Nat.zero_le _, rfl⟩) (by (repeat' first | exact trivial | exact rfl | refine ⟨?_, ?_⟩); done) (by (repeat' first | exact trivial | exact rfl | refine ⟨?_, ?_⟩); done) (by (repeat' first | exact trivial | exact rfl | refine ⟨?_, ?_⟩ | (simp only [List.map_append, List.map_cons, List.map_nil]; first | done | rfl)); done) (fun A ha => ?_) (by intro A; first | rfl | (obtain ⟨_, _⟩ := A; rfl) | (obtain ⟨_, _, _⟩ := A; rfl))); obtain ⟨i, R⟩ := A; have ha : i ≤ 100 ∧ R = selR i (fun i => decide (0 ≤ spotN l r i)) := ha; have hb := ids100 l r i; rw [← ha.2] at hb)
    | (guard_target = Gh _ _ _ _ _; refine Gh.go ⟨((i + 1, R ++ [(i : Int)]) : Nat × List Int), (by (refine ⟨by show i + 1 ≤ _; omega, ?_⟩; show R ++ _ = _; rw [selR_yes (decide_eq_true h), ha.2])), (by first | (show _ < _; simp only []; omega) | omega | (simp; omega)), (by (repeat' first | exact trivial | exact rfl | refine ⟨?_, ?_⟩); done), (by (repeat' first | exact trivial | exact rfl | refine ⟨?_, ?_⟩); done), (by (repeat' first | exact trivial | exact rfl | refine ⟨?_, ?_⟩ | (simp only [List.map_append, List.map_cons, List.map_nil]; first | done | rfl)); done)⟩)
    | (guard_target = Gh _ _ _ _ _; refine Gh.go ⟨((i + 1, R) : Nat × List Int), (by (refine ⟨by show i + 1 ≤ _; omega, ?_⟩; show R = _; rw [selR_no (decide_eq_false h), ha.2])), (by first | (show _ < _; simp only []; omega) | omega | (simp; omega)), (by (repeat' first | exact trivial | exact rfl | refine ⟨?_, ?_⟩); done), (by (repeat' first | exact trivial | exact rfl | refine ⟨?_, ?_⟩); done), (by (repeat' first | exact trivial | exact rfl | refine ⟨?_, ?_⟩ | (simp only [List.map_append, List.map_cons, List.map_nil]; first | done | rfl)); done)⟩)
    | (guard_target = Fact _ _; refine Fact.mk fun hL => ?_; (try simp only [List.length_map, maxLen] at hL))
    | (guard_target = Branch _ _ _; (first | refine Branch.dec (fun h => ?_) (fun h => ?_) | refine Branch.beq (fun h => ?_) (fun h => ?_) | refine Branch.bne (fun h => ?_) (fun h => ?_) | refine Branch.ndec (fun h => ?_) (fun h => ?_) | refine Branch.nb (fun h => ?_) (fun h => ?_) | refine Branch.mk (fun h => ?_) (fun h => ?_)) <;> (try simp only [List.length_map] at h) <;> (try omega) <;> (try contradiction))
    | (guard_target = CallN _ 69 _ _ _ _; refine CallN.pure _ _ rfl (l08Spot_ok l r _) rfl _ rfl ?_)
    | (guard_target = Arith _ _ _; refine Arith.fit (wrap_fit (by first | omega | (simp only [List.length_map]; omega)) (by first | omega | (simp only [List.length_map]; omega))) ?_)
    | (guard_target = Arith _ _ _; refine Arith.fit (by decide) ?_)
    | (guard_target = Index _ _ _; first  | refine Index.mk _ (idx_map (by omega)) ?_)
    | (guard_target = Need (chkDraw _ = true) _; refine Need.mk (by kernel_rfl) ?_)
    | (guard_target = Need (chkRecs _ _ = true) _; refine Need.mk (by first | kernel_rfl | rfl) ?_)
    | (guard_target = Need _ _; refine Need.mk (by first | ((simp only [List.length_map, List.length_cons, List.length_nil, maxLen]; constructor <;> omega)) | omega | (simp only [List.length_map]; omega)) ?_))
  all_goals first | rfl | trivial | (have e : i = 100 := (by omega); have h9 := ha.2; rw [e] at h9; rw [h9]; done)
theorem place_lt {a : XArchive} {s : Int} (h : placeB a s = true) : 0 ≤ s ∧ s.toNat < a.servers.length := by
  have := rng_le h
  omega
section
variable (a : XArchive) (s : Int) (hl : budArchive a ≤ 1048576)
include hl
theorem KnownIds_bad (h : ¬ askN a s 0 = 0) : CallX Tryz.prog 29 [encA a, I s] [] (resI [] (askN a s 0)) := by
  refine callX_of_vc htb hm Tryz.func29 rfl rfl rfl rfl (ann := fun _ => none) (gh := fun _ => false) ?_
  repeat' ((conv => whnf); first
    | (guard_target = Done _; refine Done.mk ?_)
    | (guard_target = RetX _ _; refine RetX.mk ?_ ?_)
    | (guard_target = Fact _ _; refine Fact.mk fun hL => ?_; (try simp only [List.length_map, maxLen] at hL))
    | (guard_target = Branch _ _ _; (first | refine Branch.dec (fun h => ?_) (fun h => ?_) | refine Branch.beq (fun h => ?_) (fun h => ?_) | refine Branch.bne (fun h => ?_) (fun h => ?_) | refine Branch.ndec (fun h => ?_) (fun h => ?_) | refine Branch.nb (fun h => ?_) (fun h => ?_) | refine Branch.mk (fun h => ?_) (fun h => ?_)) <;> (try simp only [List.length_map] at h) <;> (try omega) <;> (try contradiction))
    | (guard_target = CallN _ 70 _ _ _ _; refine CallN.pure _ _ rfl (askServer_ok a s 0 hl) rfl _ rfl ?_)
    | (guard_target = Arith _ _ _; refine Arith.fit (wrap_fit (by first | omega | (simp only [List.length_map]; omega)) (by first | omega | (simp only [List.length_map]; omega))) ?_)
    | (guard_target = Arith _ _ _; refine Arith.fit (by decide) ?_)
    | (guard_target = Index _ _ _; first  | refine Index.mk _ (idx_map (by omega)) ?_)
    | (guard_target = Need (chkDraw _ = true) _; refine Need.mk (by kernel_rfl) ?_)
    | (guard_target = Need (chkRecs _ _ = true) _; refine Need.mk (by first | kernel_rfl | rfl) ?_)
    | (guard_target = Need _ _; refine Need.mk (by first  | omega | (simp only [List.length_map]; omega)) ?_))
  all_goals first | rfl | trivial
theorem KnownIds_ok (h : askN a s 0 = 0) : CallX Tryz.prog 29 [encA a, I s] [] (resI (sortI (idsN (a.servers.getD s.toNat s00).notes false)) 0) := by
  have hg := ask_ok h
  have hs := place_lt hg.2.1
  have hn := (srv_notes hg.1 hs.2).2
  have hk := askServer_ok a s 0 hl
  rw [h] at hk
  refine callX_of_vc htb hm Tryz.func29 rfl rfl rfl rfl (ann := fun _ => none) (gh := fun _ => false) ?_
  repeat' ((conv => whnf); first
    | (guard_target = Done _; refine Done.mk ?_)
    | (guard_target = RetX _ _; refine RetX.mk ?_ ?_)
    | (guard_target = Fact _ _; refine Fact.mk fun hL => ?_; (try simp only [List.length_map, maxLen] at hL))
    | (guard_target = Branch _ _ _; (first | refine Branch.dec (fun h => ?_) (fun h => ?_) | refine Branch.beq (fun h => ?_) (fun h => ?_) | refine Branch.bne (fun h => ?_) (fun h => ?_) | refine Branch.ndec (fun h => ?_) (fun h => ?_) | refine Branch.nb (fun h => ?_) (fun h => ?_) | refine Branch.mk (fun h => ?_) (fun h => ?_)) <;> (try simp only [List.length_map] at h) <;> (try omega) <;> (try contradiction))
    | (guard_target = CallN _ 70 _ _ _ _; refine CallN.pure _ _ rfl (hk) rfl _ rfl ?_)
    | (guard_target = CallN _ 75 _ _ _ _; refine CallN.gen [] _ _ _ rfl (idsOf_ok (a.servers.getD s.toNat s00).notes false hn) rfl rfl _ rfl ?_)
    | (guard_target = Arith _ _ _; refine Arith.fit (wrap_fit (by first | omega | (simp only [List.length_map]; omega)) (by first | omega | (simp only [List.length_map]; omega))) ?_)
    | (guard_target = Arith _ _ _; refine Arith.fit (by decide) ?_)
    | (guard_target = Index _ _ _; first | refine Index.mk _ (idx_getD (d := s00) (i := s.toNat) (by omega)) ?_ | refine Index.mk _ (idx_map (by omega)) ?_)
    | (guard_target = Need (chkDraw _ = true) _; refine Need.mk (by kernel_rfl) ?_)
    | (guard_target = Need (chkRecs _ _ = true) _; refine Need.mk (by first | kernel_rfl | rfl) ?_)
    | (guard_target = Need _ _; refine Need.mk (by first  | omega | (simp only [List.length_map]; omega)) ?_))
  all_goals first | rfl | trivial
theorem specKnownIds_bad (h : ¬ askN a s 0 = 0) : CallX Tryz.prog 28 [encA a, I s] [] (resI [] (askN a s 0)) := by
  refine callX_of_vc htb hm Tryz.func28 rfl rfl rfl rfl (ann := fun _ => none) (gh := fun _ => false) ?_
  repeat' ((conv => whnf); first
    | (guard_target = Done _; refine Done.mk ?_)
    | (guard_target = RetX _ _; refine RetX.mk ?_ ?_)
    | (guard_target = Fact _ _; refine Fact.mk fun hL => ?_; (try simp only [List.length_map, maxLen] at hL))
    | (guard_target = Branch _ _ _; (first | refine Branch.dec (fun h => ?_) (fun h => ?_) | refine Branch.beq (fun h => ?_) (fun h => ?_) | refine Branch.bne (fun h => ?_) (fun h => ?_) | refine Branch.ndec (fun h => ?_) (fun h => ?_) | refine Branch.nb (fun h => ?_) (fun h => ?_) | refine Branch.mk (fun h => ?_) (fun h => ?_)) <;> (try simp only [List.length_map] at h) <;> (try omega) <;> (try contradiction))
    | (guard_target = CallN _ 68 _ _ _ _; refine CallN.pure _ _ rfl (l08Asked_ok a s 0 hl) rfl _ rfl ?_)
    | (guard_target = Arith _ _ _; refine Arith.fit (wrap_fit (by first | omega | (simp only [List.length_map]; omega)) (by first | omega | (simp only [List.length_map]; omega))) ?_)
    | (guard_target = Arith _ _ _; refine Arith.fit (by decide) ?_)
    | (guard_target = Index _ _ _; first  | refine Index.mk _ (idx_map (by omega)) ?_)
    | (guard_target = Need (chkDraw _ = true) _; refine Need.mk (by kernel_rfl) ?_)
    | (guard_target = Need (chkRecs _ _ = true) _; refine Need.mk (by first | kernel_rfl | rfl) ?_)
    | (guard_target = Need _ _; refine Need.mk (by first  | omega | (simp only [List.length_map]; omega)) ?_))
  all_goals first | rfl | trivial
theorem specKnownIds_ok (h : askN a s 0 = 0) : CallX Tryz.prog 28 [encA a, I s] [] (resI (sortI (idsN (a.servers.getD s.toNat s00).notes false)) 0) := by
  have hg := ask_ok h
  have hs := place_lt hg.2.1
  have hn := (srv_notes hg.1 hs.2).1
  have hi := l08Ids_ok (a.servers.getD s.toNat s00).notes false
  rw [← ids_sel hn] at hi
  have hk := l08Asked_ok a s 0 hl
  rw [h] at hk
  refine callX_of_vc htb hm Tryz.func28 rfl rfl rfl rfl (ann := fun _ => none) (gh := fun _ => false) ?_
  repeat' ((conv => whnf); first
    | (guard_target = Done _; refine Done.mk ?_)
    | (guard_target = RetX _ _; refine RetX.mk ?_ ?_)
    | (guard_target = Fact _ _; refine Fact.mk fun hL => ?_; (try simp only [List.length_map, maxLen] at hL))
    | (guard_target = Branch _ _ _; (first | refine Branch.dec (fun h => ?_) (fun h => ?_) | refine Branch.beq (fun h => ?_) (fun h => ?_) | refine Branch.bne (fun h => ?_) (fun h => ?_) | refine Branch.ndec (fun h => ?_) (fun h => ?_) | refine Branch.nb (fun h => ?_) (fun h => ?_) | refine Branch.mk (fun h => ?_) (fun h => ?_)) <;> (try simp only [List.length_map] at h) <;> (try omega) <;> (try contradiction))
    | (guard_target = CallN _ 68 _ _ _ _; refine CallN.pure _ _ rfl (hk) rfl _ rfl ?_)
    | (guard_target = CallN _ 74 _ _ _ _; refine CallN.gen [] _ _ _ rfl (hi) rfl rfl _ rfl ?_)
    | (guard_target = Arith _ _ _; refine Arith.fit (wrap_fit (by first | omega | (simp only [List.length_map]; omega)) (by first | omega | (simp only [List.length_map]; omega))) ?_)
    | (guard_target = Arith _ _ _; refine Arith.fit (by decide) ?_)
    | (guard_target = Index _ _ _; first | refine Index.mk _ (idx_getD (d := s00) (i := s.toNat) (by omega)) ?_ | refine Index.mk _ (idx_map (by omega)) ?_)
    | (guard_target = Need (chkDraw _ = true) _; refine Need.mk (by kernel_rfl) ?_)
    | (guard_target = Need (chkRecs _ _ = true) _; refine Need.mk (by first | kernel_rfl | rfl) ?_)
    | (guard_target = Need _ _; refine Need.mk (by first  | omega | (simp only [List.length_map]; omega)) ?_))
  all_goals first | rfl | trivial
end
theorem KnownIds_big (a : XArchive) (s : Int) (hl : ¬ budArchive a ≤ 1048576) : CallF Tryz.prog 6 [encA a, I s] (B true) := by
  have hz := szArchive_ok a 1048576 (by omega)
  rw [szr_neg (by omega)] at hz
  refine callF_of_vc htb hm Tryz.func6 rfl rfl rfl rfl (ann := fun _ => none) (gh := fun _ => false) ?_
  repeat' ((conv => whnf); first
    | (guard_target = Done _; refine Done.mk ?_; first | (rfl; done) | skip)
    | (guard_target = RetX _ _; refine RetX.mk ?_ ?_)
    | (guard_target = Fact _ _; refine Fact.mk fun hL => ?_; (try simp only [List.length_map, maxLen] at hL))
    | (guard_target = Branch _ _ _; (first | refine Branch.dec (fun h => ?_) (fun h => ?_) | refine Branch.beq (fun h => ?_) (fun h => ?_) | refine Branch.bne (fun h => ?_) (fun h => ?_) | refine Branch.ndec (fun h => ?_) (fun h => ?_) | refine Branch.nb (fun h => ?_) (fun h => ?_) | refine Branch.mk (fun h => ?_) (fun h => ?_)) <;> (try simp only [List.length_map] at h) <;> (try omega) <;> (try contradiction))
    | (guard_target = CallN _ 12 _ _ _ _; refine CallN.pure _ _ rfl (hz) rfl _ rfl ?_)
    | (guard_target = Arith _ _ _; refine Arith.fit (wrap_fit (by first | omega | (simp only [List.length_map]; omega)) (by first | omega | (simp only [List.length_map]; omega))) ?_)
    | (guard_target = Arith _ _ _; refine Arith.fit (by decide) ?_)
    | (guard_target = Index _ _ _; first  | refine Index.mk _ (idx_map (by omega)) ?_)
    | (guard_target = Need (chkDraw _ = true) _; refine Need.mk (by kernel_rfl) ?_)
    | (guard_target = Need (chkRecs _ _ = true) _; refine Need.mk (by first | kernel_rfl | rfl) ?_)
    | (guard_target = Need _ _; refine Need.mk (by first  | omega | (simp only [List.length_map]; omega)) ?_))
theorem KnownIds_same (a : XArchive) (s : Int) (hl : budArchive a ≤ 1048576) (l : List Int) (c : Int) (hll : l.length ≤ 1000000) (hs0 : CallX Tryz.prog 28 [encA a, I s] [] (resI l c)) (hi0 : CallX Tryz.prog 29 [encA a, I s] [] (resI l c)) : CallF Tryz.prog 6 [encA a, I s] (B true) := by
  have hz := szArchive_ok a 1048576 (by omega)
  rw [szr_eq hl] at hz
  have hs : CallX Tryz.prog 28 [.a 4 (roL (ownArchive a)), I s] [] (resI l c) := by rw [roArchive]; exact hs0
  have hi : CallX Tryz.prog 29 [.a 4 (roL (ownArchive a)), I s] [] (resI l c) := by rw [roArchive]; exact hi0
  have hk := mkArch_le a hl
  have hp := pure_resI l c
  refine callF_of_vc htb hm Tryz.func6 rfl rfl rfl rfl (ann := fun _ => none) (gh := fun _ => false) ?_
  repeat' ((conv => whnf); first
    | (guard_target = Done _; refine Done.mk ?_; first | (rfl; done) | skip)
    | (guard_target = RetX _ _; refine RetX.mk ?_ ?_)
    | (guard_target = Fact _ _; refine Fact.mk fun hL => ?_; (try simp only [List.length_map, maxLen] at hL))
    | (guard_target = Branch _ _ _; (first | refine Branch.dec (fun h => ?_) (fun h => ?_) | refine Branch.beq (fun h => ?_) (fun h => ?_) | refine Branch.bne (fun h => ?_) (fun h => ?_) | refine Branch.ndec (fun h => ?_) (fun h => ?_) | refine Branch.nb (fun h => ?_) (fun h => ?_) | refine Branch.mk (fun h => ?_) (fun h => ?_)) <;> (try simp only [List.length_map] at h) <;> (try omega) <;> (try contradiction))
    | (guard_target = CallN _ 12 _ _ _ _; refine CallN.pure _ _ rfl (hz) rfl _ rfl ?_)
    | (guard_target = CallN _ 14 _ _ _ _; refine CallN.gen [] _ _ _ rfl (toArchive_ok a hl) rfl rfl _ rfl ?_)
    | (guard_target = CallN _ 24 _ _ _ _; refine CallN.pure _ _ rfl (eqI_told l) rfl _ rfl ?_)
    | (guard_target = CallN _ 16 _ _ _ _; refine CallN.pure _ _ rfl (eqArch_own a) rfl _ rfl ?_)
    | (guard_target = CallN _ 25 _ _ _ _; refine CallN.gen [true, false] _ _ _ rfl (markArchive_ok a 1 (by omega) (by omega)) rfl rfl _ rfl ?_)
    | (guard_target = CallN _ 26 _ _ _ _; refine CallN.gen [true, false] _ _ _ rfl (markInt64S_told l 1 (by omega) (by omega)) rfl rfl _ rfl ?_)
    | (guard_target = CallN _ 27 _ _ _ _; refine CallN.pure _ _ rfl (heldInt64S_told l.length 1 (by omega) (by omega)) rfl _ rfl ?_)
    | (guard_target = CallN _ 28 _ _ _ _; refine CallN.own _ _ rfl hs hp _ rfl ?_)
    | (guard_target = CallN _ 29 _ _ _ _; refine CallN.own _ _ rfl hi hp _ rfl ?_)
    | (guard_target = Arith _ _ _; refine Arith.fit (wrap_fit (by first | omega | (simp only [List.length_map]; omega)) (by first | omega | (simp only [List.length_map]; omega))) ?_)
    | (guard_target = Arith _ _ _; refine Arith.fit (by decide) ?_)
    | (guard_target = Index _ _ _; first  | refine Index.mk _ (idx_map (by omega)) ?_)
    | (guard_target = Need (chkDraw _ = true) _; refine Need.mk (by kernel_rfl) ?_)
    | (guard_target = Need (chkRecs _ _ = true) _; refine Need.mk (by first | kernel_rfl | rfl) ?_)
    | (guard_target = Need _ _; refine Need.mk (by first  | omega | (simp only [List.length_map]; omega)) ?_))
theorem KnownIds_law (a : XArchive) (s : Int) : CallF Tryz.prog 6 [encA a, I s] (B true) := by
  by_cases hl : budArchive a ≤ 1048576
  case neg => exact KnownIds_big a s hl
  by_cases h : askN a s 0 = 0
  · have hg := ask_ok h
    have hn := (srv_notes hg.1 (place_lt hg.2.1).2).2
    have h2 := ids_len (a.servers.getD s.toNat s00).notes false
    have h3 := sortI_len (idsN (a.servers.getD s.toNat s00).notes false)
    exact KnownIds_same a s hl _ _ (by omega) (specKnownIds_ok a s hl h) (KnownIds_ok a s hl h)
  · exact KnownIds_same a s hl [] _ (by simp) (specKnownIds_bad a s hl h) (KnownIds_bad a s hl h)
section
variable (a : XArchive) (s : Int) (hl : budArchive a ≤ 1048576)
include hl
theorem RevokedIds_bad (h : ¬ askN a s 0 = 0) : CallX Tryz.prog 31 [encA a, I s] [] (resI [] (askN a s 0)) := by
  refine callX_of_vc htb hm Tryz.func31 rfl rfl rfl rfl (ann := fun _ => none) (gh := fun _ => false) ?_
  repeat' ((conv => whnf); first
    | (guard_target = Done _; refine Done.mk ?_)
    | (guard_target = RetX _ _; refine RetX.mk ?_ ?_)
    | (guard_target = Fact _ _; refine Fact.mk fun hL => ?_; (try simp only [List.length_map, maxLen] at hL))
    | (guard_target = Branch _ _ _; (first | refine Branch.dec (fun h => ?_) (fun h => ?_) | refine Branch.beq (fun h => ?_) (fun h => ?_) | refine Branch.bne (fun h => ?_) (fun h => ?_) | refine Branch.ndec (fun h => ?_) (fun h => ?_) | refine Branch.nb (fun h => ?_) (fun h => ?_) | refine Branch.mk (fun h => ?_) (fun h => ?_)) <;> (try simp only [List.length_map] at h) <;> (try omega) <;> (try contradiction))
    | (guard_target = CallN _ 70 _ _ _ _; refine CallN.pure _ _ rfl (askServer_ok a s 0 hl) rfl _ rfl ?_)
    | (guard_target = Arith _ _ _; refine Arith.fit (wrap_fit (by first | omega | (simp only [List.length_map]; omega)) (by first | omega | (simp only [List.length_map]; omega))) ?_)
    | (guard_target = Arith _ _ _; refine Arith.fit (by decide) ?_)
    | (guard_target = Index _ _ _; first  | refine Index.mk _ (idx_map (by omega)) ?_)
    | (guard_target = Need (chkDraw _ = true) _; refine Need.mk (by kernel_rfl) ?_)
    | (guard_target = Need (chkRecs _ _ = true) _; refine Need.mk (by first | kernel_rfl | rfl) ?_)
    | (guard_target = Need _ _; refine Need.mk (by first  | omega | (simp only [List.length_map]; omega)) ?_))
  all_goals first | rfl | trivial
theorem RevokedIds_ok (h : askN a s 0 = 0) : CallX Tryz.prog 31 [encA a, I s] [] (resI (sortI (idsN (a.servers.getD s.toNat s00).notes true)) 0) := by
  have hg := ask_ok h
  have hs := place_lt hg.2.1
  have hn := (srv_notes hg.1 hs.2).2
  have hk := askServer_ok a s 0 hl
  rw [h] at hk
  refine callX_of_vc htb hm Tryz.func31 rfl rfl rfl rfl (ann := fun _ => none) (gh := fun _ => false) ?_
  repeat' ((conv => whnf); first
    | (guard_target = Done _; refine Done.mk ?_)
    | (guard_target = RetX _ _; refine RetX.mk ?_ ?_)
    | (guard_target = Fact _ _; refine Fact.mk fun hL => ?_; (try simp only [List.length_map, maxLen] at hL))
    | (guard_target = Branch _ _ _; (first | refine Branch.dec (fun h => ?_) (fun h => ?_) | refine Branch.beq (fun h => ?_) (fun h => ?_) | refine Branch.bne (fun h => ?_) (fun h => ?_) | refine Branch.ndec (fun h => ?_) (fun h => ?_) | refine Branch.nb (fun h => ?_) (fun h => ?_) | refine Branch.mk (fun h => ?_) (fun h => ?_)) <;> (try simp only [List.length_map] at h) <;> (try omega) <;> (try contradiction))
    | (guard_target = CallN _ 70 _ _ _ _; refine CallN.pure _ _ rfl (hk) rfl _ rfl ?_)
    | (guard_target = CallN _ 75 _ _ _ _; refine CallN.gen [] _ _ _ rfl (idsOf_ok (a.servers.getD s.toNat s00).notes true hn) rfl rfl _ rfl ?_)
    | (guard_target = Arith _ _ _; refine Arith.fit (wrap_fit (by first | omega | (simp only [List.length_map]; omega)) (by first | omega | (simp only [List.length_map]; omega))) ?_)
    | (guard_target = Arith _ _ _; refine Arith.fit (by decide) ?_)
    | (guard_target = Index _ _ _; first | refine Index.mk _ (idx_getD (d := s00) (i := s.toNat) (by omega)) ?_ | refine Index.mk _ (idx_map (by omega)) ?_)
    | (guard_target = Need (chkDraw _ = true) _; refine Need.mk (by kernel_rfl) ?_)
    | (guard_target = Need (chkRecs _ _ = true) _; refine Need.mk (by first | kernel_rfl | rfl) ?_)
    | (guard_target = Need _ _; refine Need.mk (by first  | omega | (simp only [List.length_map]; omega)) ?_))
  all_goals first | rfl | trivial
theorem specRevokedIds_bad (h : ¬ askN a s 0 = 0) : CallX Tryz.prog 30 [encA a, I s] [] (resI [] (askN a s 0)) := by
  refine callX_of_vc htb hm Tryz.func30 rfl rfl rfl rfl (ann := fun _ => none) (gh := fun _ => false) ?_
  repeat' ((conv => whnf); first
    | (guard_target = Done _; refine Done.mk ?_)
    | (guard_target = RetX _ _; refine RetX.mk ?_ ?_)
    | (guard_target = Fact _ _; refine Fact.mk fun hL => ?_; (try simp only [List.length_map, maxLen] at hL))
    | (guard_target = Branch _ _ _; (first | refine Branch.dec (fun h => ?_) (fun h => ?_) | refine Branch.beq (fun h => ?_) (fun h => ?_) | refine Branch.bne (fun h => ?_) (fun h => ?_) | refine Branch.ndec (fun h => ?_) (fun h => ?_) | refine Branch.nb (fun h => ?_) (fun h => ?_) | refine Branch.mk (fun h => ?_) (fun h => ?_)) <;> (try simp only [List.length_map] at h) <;> (try omega) <;> (try contradiction))
    | (guard_target = CallN _ 68 _ _ _ _; refine CallN.pure _ _ rfl (l08Asked_ok a s 0 hl) rfl _ rfl ?_)
    | (guard_target = Arith _ _ _; refine Arith.fit (wrap_fit (by first | omega | (simp only [List.length_map]; omega)) (by first | omega | (simp only [List.length_map]; omega))) ?_)
    | (guard_target = Arith _ _ _; refine Arith.fit (by decide) ?_)
    | (guard_target = Index _ _ _; first  | refine Index.mk _ (idx_map (by omega)) ?_)
    | (guard_target = Need (chkDraw _ = true) _; refine Need.mk (by kernel_rfl) ?_)
    | (guard_target = Need (chkRecs _ _ = true) _; refine Need.mk (by first | kernel_rfl | rfl) ?_)
    | (guard_target = Need _ _; refine Need.mk (by first  | omega | (simp only [List.length_map]; omega)) ?_))
  all_goals first | rfl | trivial
theorem specRevokedIds_ok (h : askN a s 0 = 0) : CallX Tryz.prog 30 [encA a, I s] [] (resI (sortI (idsN (a.servers.getD s.toNat s00).notes true)) 0) := by
  have hg := ask_ok h
  have hs := place_lt hg.2.1
  have hn := (srv_notes hg.1 hs.2).1
  have hi := l08Ids_ok (a.servers.getD s.toNat s00).notes true
  rw [← ids_sel hn] at hi
  have hk := l08Asked_ok a s 0 hl
  rw [h] at hk
  refine callX_of_vc htb hm Tryz.func30 rfl rfl rfl rfl (ann := fun _ => none) (gh := fun _ => false) ?_
  repeat' ((conv => whnf); first
    | (guard_target = Done _; refine Done.mk ?_)
    | (guard_target = RetX _ _; refine RetX.mk ?_ ?_)
    | (guard_target = Fact _ _; refine Fact.mk fun hL => ?_; (try simp only [List.length_map, maxLen] at hL))
    | (guard_target = Branch _ _ _; (first | refine Branch.dec (fun h => ?_) (fun h => ?_) | refine Branch.beq (fun h => ?_) (fun h => ?_) | refine Branch.bne (fun h => ?_) (fun h => ?_) | refine Branch.ndec (fun h => ?_) (fun h => ?_) | refine Branch.nb (fun h => ?_) (fun h => ?_) | refine Branch.mk (fun h => ?_) (fun h => ?_)) <;> (try simp only [List.length_map] at h) <;> (try omega) <;> (try contradiction))
    | (guard_target = CallN _ 68 _ _ _ _; refine CallN.pure _ _ rfl (hk) rfl _ rfl ?_)
    | (guard_target = CallN _ 74 _ _ _ _; refine CallN.gen [] _ _ _ rfl (hi) rfl rfl _ rfl ?_)
    | (guard_target = Arith _ _ _; refine Arith.fit (wrap_fit (by first | omega | (simp only [List.length_map]; omega)) (by first | omega | (simp only [List.length_map]; omega))) ?_)
    | (guard_target = Arith _ _ _; refine Arith.fit (by decide) ?_)
    | (guard_target = Index _ _ _; first | refine Index.mk _ (idx_getD (d := s00) (i := s.toNat) (by omega)) ?_ | refine Index.mk _ (idx_map (by omega)) ?_)
    | (guard_target = Need (chkDraw _ = true) _; refine Need.mk (by kernel_rfl) ?_)
    | (guard_target = Need (chkRecs _ _ = true) _; refine Need.mk (by first | kernel_rfl | rfl) ?_)
    | (guard_target = Need _ _; refine Need.mk (by first  | omega | (simp only [List.length_map]; omega)) ?_))
  all_goals first | rfl | trivial
end
theorem RevokedIds_big (a : XArchive) (s : Int) (hl : ¬ budArchive a ≤ 1048576) : CallF Tryz.prog 7 [encA a, I s] (B true) := by
  have hz := szArchive_ok a 1048576 (by omega)
  rw [szr_neg (by omega)] at hz
  refine callF_of_vc htb hm Tryz.func7 rfl rfl rfl rfl (ann := fun _ => none) (gh := fun _ => false) ?_
  repeat' ((conv => whnf); first
    | (guard_target = Done _; refine Done.mk ?_; first | (rfl; done) | skip)
    | (guard_target = RetX _ _; refine RetX.mk ?_ ?_)
    | (guard_target = Fact _ _; refine Fact.mk fun hL => ?_; (try simp only [List.length_map, maxLen] at hL))
    | (guard_target = Branch _ _ _; (first | refine Branch.dec (fun h => ?_) (fun h => ?_) | refine Branch.beq (fun h => ?_) (fun h => ?_) | refine Branch.bne (fun h => ?_) (fun h => ?_) | refine Branch.ndec (fun h => ?_) (fun h => ?_) | refine Branch.nb (fun h => ?_) (fun h => ?_) | refine Branch.mk (fun h => ?_) (fun h => ?_)) <;> (try simp only [List.length_map] at h) <;> (try omega) <;> (try contradiction))
    | (guard_target = CallN _ 12 _ _ _ _; refine CallN.pure _ _ rfl (hz) rfl _ rfl ?_)
    | (guard_target = Arith _ _ _; refine Arith.fit (wrap_fit (by first | omega | (simp only [List.length_map]; omega)) (by first | omega | (simp only [List.length_map]; omega))) ?_)
    | (guard_target = Arith _ _ _; refine Arith.fit (by decide) ?_)
    | (guard_target = Index _ _ _; first  | refine Index.mk _ (idx_map (by omega)) ?_)
    | (guard_target = Need (chkDraw _ = true) _; refine Need.mk (by kernel_rfl) ?_)
    | (guard_target = Need (chkRecs _ _ = true) _; refine Need.mk (by first | kernel_rfl | rfl) ?_)
    | (guard_target = Need _ _; refine Need.mk (by first  | omega | (simp only [List.length_map]; omega)) ?_))
theorem RevokedIds_same (a : XArchive) (s : Int) (hl : budArchive a ≤ 1048576) (l : List Int) (c : Int) (hll : l.length ≤ 1000000) (hs0 : CallX Tryz.prog 30 [encA a, I s] [] (resI l c)) (hi0 : CallX Tryz.prog 31 [encA a, I s] [] (resI l c)) : CallF Tryz.prog 7 [encA a, I s] (B true) := by
  have hz := szArchive_ok a 1048576 (by omega)
  rw [szr_eq hl] at hz
  have hs : CallX Tryz.prog 30 [.a 4 (roL (ownArchive a)), I s] [] (resI l c) := by rw [roArchive]; exact hs0
  have hi : CallX Tryz.prog 31 [.a 4 (roL (ownArchive a)), I s] [] (resI l c) := by rw [roArchive]; exact hi0
  have hk := mkArch_le a hl
  have hp := pure_resI l c
  refine callF_of_vc htb hm Tryz.func7 rfl rfl rfl rfl (ann := fun _ => none) (gh := fun _ => false) ?_
  repeat' ((conv => whnf); first
    | (guard_target = Done _; refine Done.mk ?_; first | (rfl; done) | skip)
    | (guard_target = RetX _ _; refine RetX.mk ?_ ?_)
    | (guard_target = Fact _ _; refine Fact.mk fun hL => ?_; (try simp only [List.length_map, maxLen] at hL))
    | (guard_target = Branch _ _ _; (first | refine Branch.dec (fun h => ?_) (fun h => ?_) | refine Branch.beq (fun h => ?_) (fun h => ?_) | refine Branch.bne (fun h => ?_) (fun h => ?_) | refine Branch.ndec (fun h => ?_) (fun h => ?_) | refine Branch.nb (fun h => ?_) (fun h => ?_) | refine Branch.mk (fun h => ?_) (fun h => ?_)) <;> (try simp only [List.length_map] at h) <;> (try omega) <;> (try contradiction))
    | (guard_target = CallN _ 12 _ _ _ _; refine CallN.pure _ _ rfl (hz) rfl _ rfl ?_)
    | (guard_target = CallN _ 14 _ _ _ _; refine CallN.gen [] _ _ _ rfl (toArchive_ok a hl) rfl rfl _ rfl ?_)
    | (guard_target = CallN _ 24 _ _ _ _; refine CallN.pure _ _ rfl (eqI_told l) rfl _ rfl ?_)
    | (guard_target = CallN _ 16 _ _ _ _; refine CallN.pure _ _ rfl (eqArch_own a) rfl _ rfl ?_)
    | (guard_target = CallN _ 25 _ _ _ _; refine CallN.gen [true, false] _ _ _ rfl (markArchive_ok a 1 (by omega) (by omega)) rfl rfl _ rfl ?_)
    | (guard_target = CallN _ 26 _ _ _ _; refine CallN.gen [true, false] _ _ _ rfl (markInt64S_told l 1 (by omega) (by omega)) rfl rfl _ rfl ?_)
    | (guard_target = CallN _ 27 _ _ _ _; refine CallN.pure _ _ rfl (heldInt64S_told l.length 1 (by omega) (by omega)) rfl _ rfl ?_)
    | (guard_target = CallN _ 30 _ _ _ _; refine CallN.own _ _ rfl hs hp _ rfl ?_)
    | (guard_target = CallN _ 31 _ _ _ _; refine CallN.own _ _ rfl hi hp _ rfl ?_)
    | (guard_target = Arith _ _ _; refine Arith.fit (wrap_fit (by first | omega | (simp only [List.length_map]; omega)) (by first | omega | (simp only [List.length_map]; omega))) ?_)
    | (guard_target = Arith _ _ _; refine Arith.fit (by decide) ?_)
    | (guard_target = Index _ _ _; first  | refine Index.mk _ (idx_map (by omega)) ?_)
    | (guard_target = Need (chkDraw _ = true) _; refine Need.mk (by kernel_rfl) ?_)
    | (guard_target = Need (chkRecs _ _ = true) _; refine Need.mk (by first | kernel_rfl | rfl) ?_)
    | (guard_target = Need _ _; refine Need.mk (by first  | omega | (simp only [List.length_map]; omega)) ?_))
theorem RevokedIds_law (a : XArchive) (s : Int) : CallF Tryz.prog 7 [encA a, I s] (B true) := by
  by_cases hl : budArchive a ≤ 1048576
  case neg => exact RevokedIds_big a s hl
  by_cases h : askN a s 0 = 0
  · have hg := ask_ok h
    have hn := (srv_notes hg.1 (place_lt hg.2.1).2).2
    have h2 := ids_len (a.servers.getD s.toNat s00).notes true
    have h3 := sortI_len (idsN (a.servers.getD s.toNat s00).notes true)
    exact RevokedIds_same a s hl _ _ (by omega) (specRevokedIds_ok a s hl h) (RevokedIds_ok a s hl h)
  · exact RevokedIds_same a s hl [] _ (by simp) (specRevokedIds_bad a s hl h) (RevokedIds_bad a s hl h)
end Go.Proofs.YtbbaadkgmdkjdaaGreat
