/- Contracts of the functions that look whether entries, notes and servers are valid. No conditions. -/
import Derived.Test.YtbbaadkgmdkjdaaGreatYf
namespace Go.Proofs.YtbbaadkgmdkjdaaGreat
open Go Go.KA Go.Proofs
set_option maxHeartbeats 16000000
set_option maxRecDepth 100000
theorem find_cut (l : List XNote) (a b : Int) (r : Bool) (id : Int) : CallF Tryz.prog 71 [.c (.ro 7 (((l.map encNote).drop a.toNat).take (b.toNat - a.toNat))), B r, I id] (I (spotN ((l.drop a.toNat).take (b.toNat - a.toNat)) r id)) := by
  have := find_ok ((l.drop a.toNat).take (b.toNat - a.toNat)) r id
  rwa [List.map_take, List.map_drop] at this
theorem l08Spot_cut (l : List XNote) (a b : Int) (r : Bool) (id : Int) : CallF Tryz.prog 69 [.c (.ro 7 (((l.map encNote).drop a.toNat).take (b.toNat - a.toNat))), B r, I id] (I (spotN ((l.drop a.toNat).take (b.toNat - a.toNat)) r id)) := by
  have := l08Spot_ok ((l.drop a.toNat).take (b.toNat - a.toNat)) r id
  rwa [List.map_take, List.map_drop] at this
def hasN (l : List XNote) (id : Int) : Bool := decide (0 ≤ spotN l false id)
def knows (l : List XNote) (ids : List Int) : Bool := ids.all (hasN l)
theorem hasN_no {l : List XNote} {id : Int} (h : spotN l false id < 0) : hasN l id = false := decide_eq_false (by omega)
theorem hasN_yes {l : List XNote} {id : Int} (h : ¬ spotN l false id < 0) : hasN l id = true := decide_eq_true (by omega)
theorem knowsAll_ok (l : List XNote) (ids : List Int) : CallF Tryz.prog 107 [.c (.ro 7 (l.map encNote)), .c (.ro 1 (ids.map eI))] (B (knows l ids)) := by
  refine callF_of_vc htb hm Tryz.func107 rfl rfl rfl rfl (ann := fun _ => none) (gh := fun _ => false) ?_
  repeat' ((conv => whnf); first
    | (guard_target = Done _; refine Done.mk ?_; first | (exact no_of (all_stop (i := i) (by omega) (hasN_no h)); done) | (exact yes_of (all_end (by omega) ha); done) | skip)
    | (guard_target = RetX _ _; refine RetX.mk ?_ ?_)
    | (guard_target =~ LoopE 2 _ _ _ _ _ _; refine LoopE.mk { α := Nat, keep := [0, 7, 8], ov := fun i => [(9, I i)], φ := fun i => i ≤ ids.length ∧ (ids.take i).all (hasN l) = true, μ := fun i => ids.length - i } (LoopN.mk (0 : Nat) (by exact ⟨Nat.zero_le _, rfl⟩) (by (repeat' first | exact trivial | exact rfl | refine ⟨?_, ?_⟩); done) (by (repeat' first | exact trivial | exact rfl | refine ⟨?_, ?_⟩); done) (by (repeat' first | exact trivial | exact rfl | refine ⟨?_, ?_⟩ | (simp only [List.map_append, List.map_cons, List.map_nil]; first | done | rfl)); done) (fun (i : Nat) ha => ?_) (by intro A; first | rfl | (obtain ⟨_, _⟩ := A; rfl) | (obtain ⟨_, _, _⟩ := A; rfl))); have ha : i ≤ ids.length ∧ (ids.take i).all (hasN l) = true := ha)
    | (guard_target = Gh _ _ _ _ _; refine Gh.go ⟨(i + 1 : Nat), (by exact all_go (by omega) ha (hasN_yes h)), (by first | (show _ < _; simp only []; omega) | omega | (simp; omega)), (by (repeat' first | exact trivial | exact rfl | refine ⟨?_, ?_⟩); done), (by (repeat' first | exact trivial | exact rfl | refine ⟨?_, ?_⟩); done), (by (repeat' first | exact trivial | exact rfl | refine ⟨?_, ?_⟩ | (simp only [List.map_append, List.map_cons, List.map_nil]; first | done | rfl)); done)⟩)
    | (guard_target = Fact _ _; refine Fact.mk fun hL => ?_; (try simp only [List.length_map, maxLen] at hL))
    | (guard_target = Branch _ _ _; (first | refine Branch.dec (fun h => ?_) (fun h => ?_) | refine Branch.beq (fun h => ?_) (fun h => ?_) | refine Branch.bne (fun h => ?_) (fun h => ?_) | refine Branch.ndec (fun h => ?_) (fun h => ?_) | refine Branch.nb (fun h => ?_) (fun h => ?_) | refine Branch.mk (fun h => ?_) (fun h => ?_)) <;> (try simp only [List.length_map] at h) <;> (try omega) <;> (try contradiction))
    | (guard_target = CallN _ 71 _ _ _ _; refine CallN.pure _ _ rfl (find_ok l false _) rfl _ rfl ?_)
    | (guard_target = Arith _ _ _; refine Arith.fit (wrap_fit (by first | omega | (simp only [List.length_map]; omega)) (by first | omega | (simp only [List.length_map]; omega))) ?_)
    | (guard_target = Arith _ _ _; refine Arith.fit (by decide) ?_)
    | (guard_target = Index _ _ _; first | refine Index.mk _ (idx_map (i := i) (by omega)) ?_ | refine Index.mk _ (idx_map (by omega)) ?_)
    | (guard_target = Need (chkDraw _ = true) _; refine Need.mk (by kernel_rfl) ?_)
    | (guard_target = Need (chkRecs _ _ = true) _; refine Need.mk (by first | kernel_rfl | rfl) ?_)
    | (guard_target = Need _ _; refine Need.mk (by first  | omega | (simp only [List.length_map]; omega)) ?_))
theorem l08All_ok (l : List XNote) (ids : List Int) : CallF Tryz.prog 139 [.c (.ro 7 (l.map encNote)), .c (.ro 1 (ids.map eI))] (B (knows l ids)) := by
  refine callF_of_vc htb hm Tryz.func139 rfl rfl rfl rfl (ann := fun _ => none) (gh := fun _ => false) ?_
  repeat' ((conv => whnf); first
    | (guard_target = Done _; refine Done.mk ?_; first | (exact no_of (all_stop (i := i) (by omega) (hasN_no h)); done) | (exact yes_of (all_end (by omega) ha); done) | skip)
    | (guard_target = RetX _ _; refine RetX.mk ?_ ?_)
    | (guard_target =~ LoopE 2 _ _ _ _ _ _; refine LoopE.mk { α := Nat, keep := [0, 1], ov := fun i => [(5, I i)], φ := fun i => i ≤ ids.length ∧ (ids.take i).all (hasN l) = true, μ := fun i => ids.length - i } (LoopN.mk (0 : Nat) (by exact ⟨Nat.zero_le _, rfl⟩) (by (repeat' first | exact trivial | exact rfl | refine ⟨?_, ?_⟩); done) (by (repeat' first | exact trivial | exact rfl | refine ⟨?_, ?_⟩); done) (by (repeat' first | exact trivial | exact rfl | refine ⟨?_, ?_⟩ | (simp only [List.map_append, List.map_cons, List.map_nil]; first | done | rfl)); done) (fun (i : Nat) ha => ?_) (by intro A; first | rfl | (obtain ⟨_, _⟩ := A; rfl) | (obtain ⟨_, _, _⟩ := A; rfl))); have ha : i ≤ ids.length ∧ (ids.take i).all (hasN l) = true := ha)
    | (guard_target = Gh _ _ _ _ _; refine Gh.go ⟨(i + 1 : Nat), (by exact all_go (by omega) ha (hasN_yes h)), (by first | (show _ < _; simp only []; omega) | omega | (simp; omega)), (by (repeat' first | exact trivial | exact rfl | refine ⟨?_, ?_⟩); done), (by (repeat' first | exact trivial | exact rfl | refine ⟨?_, ?_⟩); done), (by (repeat' first | exact trivial | exact rfl | refine ⟨?_, ?_⟩ | (simp only [List.map_append, List.map_cons, List.map_nil]; first | done | rfl)); done)⟩)
    | (guard_target = Fact _ _; refine Fact.mk fun hL => ?_; (try simp only [List.length_map, maxLen] at hL))
    | (guard_target = Branch _ _ _; (first | refine Branch.dec (fun h => ?_) (fun h => ?_) | refine Branch.beq (fun h => ?_) (fun h => ?_) | refine Branch.bne (fun h => ?_) (fun h => ?_) | refine Branch.ndec (fun h => ?_) (fun h => ?_) | refine Branch.nb (fun h => ?_) (fun h => ?_) | refine Branch.mk (fun h => ?_) (fun h => ?_)) <;> (try simp only [List.length_map] at h) <;> (try omega) <;> (try contradiction))
    | (guard_target = CallN _ 69 _ _ _ _; refine CallN.pure _ _ rfl (l08Spot_ok l false _) rfl _ rfl ?_)
    | (guard_target = Arith _ _ _; refine Arith.fit (wrap_fit (by first | omega | (simp only [List.length_map]; omega)) (by first | omega | (simp only [List.length_map]; omega))) ?_)
    | (guard_target = Arith _ _ _; refine Arith.fit (by decide) ?_)
    | (guard_target = Index _ _ _; first | refine Index.mk _ (idx_map (i := i) (by omega)) ?_ | refine Index.mk _ (idx_map (by omega)) ?_)
    | (guard_target = Need (chkDraw _ = true) _; refine Need.mk (by kernel_rfl) ?_)
    | (guard_target = Need (chkRecs _ _ = true) _; refine Need.mk (by first | kernel_rfl | rfl) ?_)
    | (guard_target = Need _ _; refine Need.mk (by first  | omega | (simp only [List.length_map]; omega)) ?_))
theorem knowsAll_cut (l : List XNote) (a b : Int) (ids : List Int) : CallF Tryz.prog 107 [.c (.ro 7 (((l.map encNote).drop a.toNat).take (b.toNat - a.toNat))), .c (.ro 1 (ids.map eI))] (B (knows ((l.drop a.toNat).take (b.toNat - a.toNat)) ids)) := by
  have := knowsAll_ok ((l.drop a.toNat).take (b.toNat - a.toNat)) ids
  rwa [List.map_take, List.map_drop] at this
theorem l08All_cut (l : List XNote) (a b : Int) (ids : List Int) : CallF Tryz.prog 139 [.c (.ro 7 (((l.map encNote).drop a.toNat).take (b.toNat - a.toNat))), .c (.ro 1 (ids.map eI))] (B (knows ((l.drop a.toNat).take (b.toNat - a.toNat)) ids)) := by
  have := l08All_ok ((l.drop a.toNat).take (b.toNat - a.toNat)) ids
  rwa [List.map_take, List.map_drop] at this
/-! ### entries -/
def zeroP (p : XProof) : Bool := (p.sig.tests == 0 && p.sig.actions == 0) && ((p.claims.length : Int) == 0)
def goodEntry (t a : Int) (rests : List Int) (p : XProof) : Bool :=
  decide ((rests.length : Int) ≤ 4) && (decide rests.Nodup && (rests.all (rng 0 99) && (goodProof p && ((p.sig.tests == t && p.sig.actions == a) && (decide ((rests.length : Int) < p.claims.length) && decide ((psize p : Int) ≤ 20000))))))
theorem isNoProof_ok (p : XProof) : CallF Tryz.prog 119 [.a 3 (encProof p)] (B (zeroP p)) := by
  refine callF_of_vc htb hm Tryz.func119 rfl rfl rfl rfl (ann := fun _ => none) (gh := fun _ => false) ?_
  repeat' ((conv => whnf); first
    | (guard_target = Done _; refine Done.mk ?_; first | (rfl; done) | (simp_all [zeroP, normS, normV]; done) | (simp_all [zeroP, normS, normV]; omega; done) | (simp_all [zeroP, normS, normV]; intros; omega; done) | (simp_all [-List.all_eq_true, -List.all_eq_false, zeroP, normS, normV]; done) | (simp_all [-List.all_eq_true, -List.all_eq_false, zeroP, normS, normV]; omega; done) | skip)
    | (guard_target = RetX _ _; refine RetX.mk ?_ ?_)
    | (guard_target = Fact _ _; refine Fact.mk fun hL => ?_; (try simp only [List.length_map, maxLen] at hL))
    | (guard_target = Branch _ _ _; (first | refine Branch.dec (fun h => ?_) (fun h => ?_) | refine Branch.beq (fun h => ?_) (fun h => ?_) | refine Branch.bne (fun h => ?_) (fun h => ?_) | refine Branch.ndec (fun h => ?_) (fun h => ?_) | refine Branch.nb (fun h => ?_) (fun h => ?_) | refine Branch.mk (fun h => ?_) (fun h => ?_)) <;> (try simp only [List.length_map] at h) <;> (try omega) <;> (try contradiction))
    | (guard_target = Arith _ _ _; refine Arith.fit (wrap_fit (by first | omega | (simp only [List.length_map]; omega)) (by first | omega | (simp only [List.length_map]; omega))) ?_)
    | (guard_target = Arith _ _ _; refine Arith.fit (by decide) ?_)
    | (guard_target = Index _ _ _; first  | refine Index.mk _ (idx_map (by omega)) ?_)
    | (guard_target = Need (chkDraw _ = true) _; refine Need.mk (by kernel_rfl) ?_)
    | (guard_target = Need (chkRecs _ _ = true) _; refine Need.mk (by first | kernel_rfl | rfl) ?_)
    | (guard_target = Need _ _; refine Need.mk (by first  | omega | (simp only [List.length_map]; omega)) ?_))
theorem l08Empty_ok (p : XProof) : CallF Tryz.prog 117 [.c (.rp 3 (encProof p))] (B (zeroP p)) := by
  refine callF_of_vc htb hm Tryz.func117 rfl rfl rfl rfl (ann := fun _ => none) (gh := fun _ => false) ?_
  repeat' ((conv => whnf); first
    | (guard_target = Done _; refine Done.mk ?_; first | (rfl; done) | (simp_all [zeroP, normS, normV]; done) | (simp_all [zeroP, normS, normV]; omega; done) | (simp_all [zeroP, normS, normV]; intros; omega; done) | (simp_all [-List.all_eq_true, -List.all_eq_false, zeroP, normS, normV]; done) | (simp_all [-List.all_eq_true, -List.all_eq_false, zeroP, normS, normV]; omega; done) | skip)
    | (guard_target = RetX _ _; refine RetX.mk ?_ ?_)
    | (guard_target = Fact _ _; refine Fact.mk fun hL => ?_; (try simp only [List.length_map, maxLen] at hL))
    | (guard_target = Branch _ _ _; (first | refine Branch.dec (fun h => ?_) (fun h => ?_) | refine Branch.beq (fun h => ?_) (fun h => ?_) | refine Branch.bne (fun h => ?_) (fun h => ?_) | refine Branch.ndec (fun h => ?_) (fun h => ?_) | refine Branch.nb (fun h => ?_) (fun h => ?_) | refine Branch.mk (fun h => ?_) (fun h => ?_)) <;> (try simp only [List.length_map] at h) <;> (try omega) <;> (try contradiction))
    | (guard_target = Arith _ _ _; refine Arith.fit (wrap_fit (by first | omega | (simp only [List.length_map]; omega)) (by first | omega | (simp only [List.length_map]; omega))) ?_)
    | (guard_target = Arith _ _ _; refine Arith.fit (by decide) ?_)
    | (guard_target = Index _ _ _; first  | refine Index.mk _ (idx_map (by omega)) ?_)
    | (guard_target = Need (chkDraw _ = true) _; refine Need.mk (by kernel_rfl) ?_)
    | (guard_target = Need (chkRecs _ _ = true) _; refine Need.mk (by first | kernel_rfl | rfl) ?_)
    | (guard_target = Need _ _; refine Need.mk (by first  | omega | (simp only [List.length_map]; omega)) ?_))
theorem isEntry_ok (t a : Int) (rests : List Int) (p : XProof) (hl : budProof p ≤ 1048576) : CallF Tryz.prog 109 [.a 2 [J t, J a], .c (.ro 1 (rests.map eI)), .a 3 (encProof p)] (B (goodEntry t a rests p)) := by
  have hr : CallF Tryz.prog 94 [.c (.ro 1 (rests.map eI)), I 100] (B (rests.all (rng 0 99))) := inRange_ok rests 100 (by omega)
  refine callF_of_vc htb hm Tryz.func109 rfl rfl rfl rfl (ann := fun _ => none) (gh := fun _ => false) ?_
  repeat' ((conv => whnf); first
    | (guard_target = Done _; refine Done.mk ?_; first | (rfl; done) | (simp_all [goodEntry, normS, normV]; done) | (simp_all [goodEntry, normS, normV]; omega; done) | (simp_all [goodEntry, normS, normV]; intros; omega; done) | (simp_all [-List.all_eq_true, -List.all_eq_false, goodEntry, normS, normV]; done) | (simp_all [-List.all_eq_true, -List.all_eq_false, goodEntry, normS, normV]; omega; done) | skip)
    | (guard_target = RetX _ _; refine RetX.mk ?_ ?_)
    | (guard_target = Fact _ _; refine Fact.mk fun hL => ?_; (try simp only [List.length_map, maxLen] at hL))
    | (guard_target = Branch _ _ _; (first | refine Branch.dec (fun h => ?_) (fun h => ?_) | refine Branch.beq (fun h => ?_) (fun h => ?_) | refine Branch.bne (fun h => ?_) (fun h => ?_) | refine Branch.ndec (fun h => ?_) (fun h => ?_) | refine Branch.nb (fun h => ?_) (fun h => ?_) | refine Branch.mk (fun h => ?_) (fun h => ?_)) <;> (try simp only [List.length_map] at h) <;> (try omega) <;> (try contradiction))
    | (guard_target = CallN _ 88 _ _ _ _; refine CallN.pure _ _ rfl (areDifferent_ok _) rfl _ rfl ?_)
    | (guard_target = CallN _ 94 _ _ _ _; refine CallN.pure _ _ rfl (hr) rfl _ rfl ?_)
    | (guard_target = CallN _ 143 _ _ _ _; refine CallN.pure _ _ rfl (ValidProof_ok p) rfl _ rfl ?_)
    | (guard_target = CallN _ 144 _ _ _ _; refine CallN.pure _ _ rfl (proofSize_ok p hl) rfl _ rfl ?_)
    | (guard_target = Arith _ _ _; refine Arith.fit (wrap_fit (by first | omega | (simp only [List.length_map]; omega)) (by first | omega | (simp only [List.length_map]; omega))) ?_)
    | (guard_target = Arith _ _ _; refine Arith.fit (by decide) ?_)
    | (guard_target = Index _ _ _; first  | refine Index.mk _ (idx_map (by omega)) ?_)
    | (guard_target = Need (chkDraw _ = true) _; refine Need.mk (by kernel_rfl) ?_)
    | (guard_target = Need (chkRecs _ _ = true) _; refine Need.mk (by first | kernel_rfl | rfl) ?_)
    | (guard_target = Need _ _; refine Need.mk (by first  | omega | (simp only [List.length_map]; omega)) ?_))
theorem lCs_size (p : XProof) : (lCs p.claims 20000 < 0 ↔ ¬ (psize p : Int) ≤ 20000) := by
  obtain ⟨k, h⟩ := cntCs p.claims
  have := h.iff 20000
  simp only [psize]
  omega
theorem l08Rests_ok (t a : Int) (rests : List Int) (p : XProof) (hl : budProof p ≤ 1048576) : CallF Tryz.prog 116 [.a 2 [J t, J a], .c (.ro 1 (rests.map eI)), .c (.rp 3 (encProof p))] (B (goodEntry t a rests p)) := by
  have hz := lCs_size p
  refine callF_of_vc htb hm Tryz.func116 rfl rfl rfl rfl (ann := fun _ => none) (gh := fun _ => false) ?_
  repeat' ((conv => whnf); first
    | (guard_target = Done _; refine Done.mk ?_; first | (rfl; done) | (simp_all [goodEntry, normS, normV]; done) | (simp_all [goodEntry, normS, normV]; omega; done) | (simp_all [goodEntry, normS, normV]; intros; omega; done) | (simp_all [-List.all_eq_true, -List.all_eq_false, goodEntry, normS, normV]; done) | (simp_all [-List.all_eq_true, -List.all_eq_false, goodEntry, normS, normV]; omega; done) | ((refine no_of ?_; have h9 := all_stop (p := rng 0 99) (i := i) (by omega) h; simp_all [-List.all_eq_true, -List.all_eq_false, goodEntry]; done); done) | ((refine no_of ?_; have h9 : ¬ rests.Nodup := nodup_no (i := i) (by omega) (List.mem_iff_getElem.2 ⟨k, by rw [List.length_take]; omega, by rw [List.getElem_take]; exact h⟩); unfold goodEntry; rw [decide_eq_false h9]; simp); done) | ((refine yes_of ?_; have h7 := ha.2.1; have h8 := ha.2.2; rw [List.take_of_length_le (by omega)] at h7 h8; unfold goodEntry; rw [h7, decide_eq_true h8, decide_eq_true (show (rests.length : Int) ≤ 4 by omega), ‹goodProof p = true›, decide_eq_true (show (rests.length : Int) < p.claims.length by omega), decide_eq_true (show (psize p : Int) ≤ 20000 by omega)]; simp_all); done) | skip)
    | (guard_target = RetX _ _; refine RetX.mk ?_ ?_)
    | (guard_target =~ LoopE 4 _ _ _ _ _ _; refine LoopE.mk { α := Nat, keep := [1], ov := fun i => [(7, I i)], φ := fun i => i ≤ rests.length ∧ (rests.take i).all (rng 0 99) = true ∧ (rests.take i).Nodup, μ := fun i => rests.length - i } (LoopN.mk (0 : Nat) (by exact ⟨Nat.zero_le _, rfl, by simp⟩) (by (repeat' first | exact trivial | exact rfl | refine ⟨?_, ?_⟩); done) (by (repeat' first | exact trivial | exact rfl | refine ⟨?_, ?_⟩); done) (by (repeat' first | exact trivial | exact rfl | refine ⟨?_, ?_⟩ | (simp only [List.map_append, List.map_cons, List.map_nil]; first | done | rfl)); done) (fun (i : Nat) ha => ?_) (by intro A; first | rfl | (obtain ⟨_, _⟩ := A; rfl) | (obtain ⟨_, _, _⟩ := A; rfl))); have ha : i ≤ rests.length ∧ (rests.take i).all (rng 0 99) = true ∧ (rests.take i).Nodup := ha)
    | (guard_target =~ LoopE 9 _ _ _ _ _ _; refine LoopE.mk { α := Nat, keep := [1, 7], ov := fun k => [(8, I k)], φ := fun k => k ≤ i ∧ ∀ j (hj : j < rests.length), j < k → ∀ hi : i < rests.length, ¬ rests[j] = rests[i], μ := fun k => i - k } (LoopN.mk (0 : Nat) (by exact ⟨Nat.zero_le _, fun j _ hj => by omega⟩) (by (repeat' first | exact trivial | exact rfl | refine ⟨?_, ?_⟩); done) (by (repeat' first | exact trivial | exact rfl | refine ⟨?_, ?_⟩); done) (by (repeat' first | exact trivial | exact rfl | refine ⟨?_, ?_⟩ | (simp only [List.map_append, List.map_cons, List.map_nil]; first | done | rfl)); done) (fun (k : Nat) ha => ?_) (by intro A; first | rfl | (obtain ⟨_, _⟩ := A; rfl) | (obtain ⟨_, _, _⟩ := A; rfl))); have ha : k ≤ i ∧ ∀ j (hj : j < rests.length), j < k → ∀ hi : i < rests.length, ¬ rests[j] = rests[i] := ha)
    | (guard_target = Gh _ _ _ _ _; refine Gh.go ⟨(k + 1 : Nat), (by exact ⟨by show k + 1 ≤ _; omega, fun j hj hjk hi => by rcases Nat.lt_succ_iff_lt_or_eq.1 hjk with hjk | rfl; exact ha.2 j hj hjk hi; exact h⟩), (by first | (show _ < _; simp only []; omega) | omega | (simp; omega)), (by (repeat' first | exact trivial | exact rfl | refine ⟨?_, ?_⟩); done), (by (repeat' first | exact trivial | exact rfl | refine ⟨?_, ?_⟩); done), (by (repeat' first | exact trivial | exact rfl | refine ⟨?_, ?_⟩ | (simp only [List.map_append, List.map_cons, List.map_nil]; first | done | rfl)); done)⟩)
    | (guard_target = Gh _ _ _ _ _; refine Gh.go ⟨(i + 1 : Nat), (by (have h8 := ‹i ≤ rests.length ∧ (rests.take i).all (rng 0 99) = true ∧ (rests.take i).Nodup›; have hi : i < rests.length := (by omega); exact ⟨hi, all_more hi h8.2.1 ‹rng 0 99 rests[i] = true›, nodup_next hi h8.2.2 (fun hm => by obtain ⟨j, hj, e⟩ := List.mem_iff_getElem.1 hm; rw [List.length_take] at hj; rw [List.getElem_take] at e; exact ha.2 j (by omega) (by omega) hi e)⟩)), (by first | (show _ < _; simp only []; omega) | omega | (simp; omega)), (by (repeat' first | exact trivial | exact rfl | refine ⟨?_, ?_⟩); done), (by (repeat' first | exact trivial | exact rfl | refine ⟨?_, ?_⟩); done), (by (repeat' first | exact trivial | exact rfl | refine ⟨?_, ?_⟩ | (simp only [List.map_append, List.map_cons, List.map_nil]; first | done | rfl)); done)⟩)
    | (guard_target = Fact _ _; refine Fact.mk fun hL => ?_; (try simp only [List.length_map, maxLen] at hL))
    | (guard_target = Branch _ _ _; (first | refine Branch.dec (fun h => ?_) (fun h => ?_) | refine Branch.beq (fun h => ?_) (fun h => ?_) | refine Branch.bne (fun h => ?_) (fun h => ?_) | refine Branch.ndec (fun h => ?_) (fun h => ?_) | refine Branch.nb (fun h => ?_) (fun h => ?_) | refine Branch.mk (fun h => ?_) (fun h => ?_)) <;> (try simp only [List.length_map] at h) <;> (try omega) <;> (try contradiction))
    | (guard_target = CallN _ 150 _ _ _ _; refine CallN.pure _ _ rfl (l04Ok_ok p hl) rfl _ rfl ?_)
    | (guard_target = CallN _ 151 _ _ _ _; refine CallN.pure _ _ rfl (l08Left_ok p hl 20000 (by omega) (by omega)) rfl _ rfl ?_)
    | (guard_target = CallN _ 90 _ _ _ _; refine CallN.pure _ _ rfl (l00In_ok _ _ _) rfl _ rfl ?_)
    | (guard_target = Arith _ _ _; refine Arith.fit (wrap_fit (by first | omega | (simp only [List.length_map]; omega)) (by first | omega | (simp only [List.length_map]; omega))) ?_)
    | (guard_target = Arith _ _ _; refine Arith.fit (by decide) ?_)
    | (guard_target = Index _ _ _; first | refine Index.mk _ (idx_map (i := i) (by omega)) ?_ | refine Index.mk _ (idx_map (i := k) (by omega)) ?_ | refine Index.mk _ (idx_map (by omega)) ?_)
    | (guard_target = Need (chkDraw _ = true) _; refine Need.mk (by kernel_rfl) ?_)
    | (guard_target = Need (chkRecs _ _ = true) _; refine Need.mk (by first | kernel_rfl | rfl) ?_)
    | (guard_target = Need _ _; refine Need.mk (by first  | omega | (simp only [List.length_map]; omega)) ?_))
end Go.Proofs.YtbbaadkgmdkjdaaGreat
