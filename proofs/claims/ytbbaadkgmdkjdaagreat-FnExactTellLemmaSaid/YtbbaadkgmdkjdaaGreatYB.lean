/- Contracts of the functions that look whether entries, notes and servers are valid. No conditions. -/
import Derived.Test.YtbbaadkgmdkjdaaGreatYA
namespace Go.Proofs.YtbbaadkgmdkjdaaGreat
open Go Go.KA Go.Proofs
set_option maxHeartbeats 16000000
set_option maxRecDepth 100000
theorem find_cut (l : List XNote) (a b : Int) (r : Bool) (id : Int) : CallF Tryz.prog 71 [.c (.ro 7 (((l.map encNote).drop a.toNat).take (b.toNat - a.toNat))), B r, I id] (I (spotN ((l.drop a.toNat).take (b.toNat - a.toNat)) r id)) := by
  have := find_ok ((l.drop a.toNat).take (b.toNat - a.toNat)) r id
  rwa [List.map_take, List.map_drop] at this
theorem l08Spot_cut (l : List XNote) (a b : Int) (r : Bool) (id : Int) : CallF Tryz.prog 69 [.c (.ro 7 (((l.map encNote).drop a.toNat).take (b.toNat - a.toNat))), B r, I id] (I (spotN ((l.drop a.toNat).take (b.toNat - a.toNat)) r id)) := by
  have := l08Spot_ok ((l.drop a.toNat).take (b.toNat - a.toNat)) r id
  rwa [List.map_take, List.map_drop] at this
def hasN (l : List XNote) (id : Int) : Bool := decide (0 ≤ spotN l false id)
def knows (l : List XNote) (ids : List Int) : Bool := ids.all (hasN l)
theorem hasN_no {l : List XNote} {id : Int} (h : spotN l false id < 0) : hasN l id = false := decide_eq_false (by omega)
theorem hasN_yes {l : List XNote} {id : Int} (h : ¬ spotN l false id < 0) : hasN l id = true := decide_eq_true (by omega)
theorem knowsAll_ok (l : List XNote) (ids : List Int) : CallF Tryz.prog 107 [.c (.ro 7 (l.map encNote)), .c (.ro 1 (ids.map eI))] (B (knows l ids)) := by
  refine callF_of_vc htb hm Tryz.func107 rfl rfl rfl rfl (ann := fun _ => none) (gh := fun _ => false) ?_
  repeat' ((conv => whnf); first
    | (guard_target = Done _; refine Done.mk ?_; first | (exact no_of (all_stop (i := i) (by omega) (hasN_no h)); done) | (exact yes_of (all_end (by omega) ha); done) | skip)
    | (guard_target = RetX _ _; refine RetX.mk ?_ ?_)
    | (guard_target =~ LoopE 2 _ _ _ _ _ _; refine LoopE.mk { α := Nat, keep := [0, 7, 8], ov := fun i => [(9, I i)], φ := fun i => i ≤ ids.length ∧ (ids.take i).all (hasN l) = true, μ := fun i => ids.length - i } (LoopN.mk (0 : Nat) (by exact ⟨Nat.zero_le _, rfl⟩) (by (repeat' first | exact trivial | exact rfl | refine ⟨?_, ?_⟩); done) (by (repeat' first | exact trivial | exact rfl | refine ⟨?_, ?_⟩); done) (by (repeat' first | exact trivial | exact rfl | refine ⟨?_, ?_⟩ | (simp only [List.map_append, List.map_cons, List.map_nil]; first | done | rfl)); done) (fun (i : Nat) ha => ?_) (by intro A; first | rfl | (obtain ⟨_, _⟩ := A; rfl) | (obtain ⟨_, _, _⟩ := A; rfl))); have ha : i ≤ ids.length ∧ (ids.take i).all (hasN l) = true := ha)
    | (guard_target = Gh _ _ _ _ _; refine Gh.go ⟨(i + 1 : Nat), (by exact all_go (by omega) ha (hasN_yes h)), (by first | (show _ < _; simp only []; omega) | omega | (simp; omega)), (by (repeat' first | exact trivial | exact rfl | refine ⟨?_, ?_⟩); done), (by (repeat' first | exact trivial | exact rfl | refine ⟨?_, ?_⟩); done), (by (repeat' first | exact trivial | exact rfl | refine ⟨?_, ?_⟩ | (simp only [List.map_append, List.map_cons, List.map_nil]; first | done | rfl)); done)⟩)
    | (guard_target = Fact _ _; refine Fact.mk fun hL => ?_; (try simp only [List.length_map, maxLen] at hL))
    | (guard_target = Branch _ _ _; (first | refine Branch.dec (fun h => ?_) (fun h => ?_) | refine Branch.beq (fun h => ?_) (fun h => ?_) | refine Branch.bne (fun h => ?_) (fun h => ?_) | refine Branch.ndec (fun h => ?_) (fun h => ?_) | refine Branch.nb (fun h => ?_) (fun h => ?_) | refine Branch.mk (fun h => ?_) (fun h => ?_)) <;> (try simp only [List.length_map] at h) <;> (try omega) <;> (try contradiction))
    | (guard_target = CallN _ 71 _ _ _ _; refine CallN.pure _ _ rfl (find_ok l false _) rfl _ rfl ?_)
    | (guard_target = Arith _ _ _; refine Arith.fit (wrap_fit (by first | omega | (simp only [List.length_map]; omega)) (by first | omega | (simp only [List.length_map]; omega))) ?_)
    | (guard_target = Arith _ _ _; refine Arith.fit (by decide) ?_)
    | (guard_target = Index _ _ _; first | refine Index.mk _ (idx_map (i := i) (by omega)) ?_ | refine Index.mk _ (idx_map (by omega)) ?_)
    | (guard_target = Need (chkDraw _ = true) _; refine Need.mk (by kernel_rfl) ?_)
    | (guard_target = Need (chkRecs _ _ = true) _; refine Need.mk (by first | kernel_rfl | rfl) ?_)
    | (guard_target = Need _ _; refine Need.mk (by first  | omega | (simp only [List.length_map]; omega)) ?_))
theorem l08All_ok (l : List XNote) (ids : List Int) : CallF Tryz.prog 139 [.c (.ro 7 (l.map encNote)), .c (.ro 1 (ids.map eI))] (B (knows l ids)) := by
  refine callF_of_vc htb hm Tryz.func139 rfl rfl rfl rfl (ann := fun _ => none) (gh := fun _ => false) ?_
  repeat' ((conv => whnf); first
    | (guard_target = Done _; refine Done.mk ?_; first | (exact no_of (all_stop (i := i) (by omega) (hasN_no h)); done) | (exact yes_of (all_end (by omega) ha); done) | skip)
    | (guard_target = RetX _ _; refine RetX.mk ?_ ?_)
    | (guard_target =~ LoopE 2 _ _ _ _ _ _; refine LoopE.mk { α := Nat, keep := [0, 1], ov := fun i => [(5, I i)], φ := fun i => i ≤ ids.length ∧ (ids.take i).all (hasN l) = true, μ := fun i => ids.length - i } (LoopN.mk (0 : Nat) (by exact ⟨Nat.zero_le _, rfl⟩) (by (repeat' first | exact trivial | exact rfl | refine ⟨?_, ?_⟩); done) (by (repeat' first | exact trivial | exact rfl | refine ⟨?_, ?_⟩); done) (by (repeat' first | exact trivial | exact rfl | refine ⟨?_, ?_⟩ | (simp only [List.map_append, List.map_cons, List.map_nil]; first | done | rfl)); done) (fun (i : Nat) ha => ?_) (by intro A; first | rfl | (obtain ⟨_, _⟩ := A; rfl) | (obtain ⟨_, _, _⟩ := A; rfl))); have ha : i ≤ ids.length ∧ (ids.take i).all (hasN l) = true := ha)
    | (guard_target = Gh _ _ _ _ _; refine Gh.go ⟨(i + 1 : Nat), (by exact all_go (by omega) ha (hasN_yes h)), (by first | (show _ < _; simp only []; omega) | omega | (simp; omega)), (by (repeat' first | exact trivial | exact rfl | refine ⟨?_, ?_⟩); done), (by (repeat' first | exact trivial | exact rfl | refine ⟨?_, ?_⟩); done), (by (repeat' first | exact trivial | exact rfl | refine ⟨?_, ?_⟩ | (simp only [List.map_append, List.map_cons, List.map_nil]; first | done | rfl)); done)⟩)
    | (guard_target = Fact _ _; refine Fact.mk fun hL => ?_; (try simp only [List.length_map, maxLen] at hL))
    | (guard_target = Branch _ _ _; (first | refine Branch.dec (fun h => ?_) (fun h => ?_) | refine Branch.beq (fun h => ?_) (fun h => ?_) | refine Branch.bne (fun h => ?_) (fun h => ?_) | refine Branch.ndec (fun h => ?_) (fun h => ?_) | refine Branch.nb (fun h => ?_) (fun h => ?_) | refine Branch.mk (fun h => ?_) (fun h => ?_)) <;> (try simp only [List.length_map] at h) <;> (try omega) <;> (try contradiction))
    | (guard_target = CallN _ 69 _ _ _ _; refine CallN.pure _ _ rfl (l08Spot_ok l false _) rfl _ rfl ?_)
    | (guard_target = Arith _ _ _; refine Arith.fit (wrap_fit (by first | omega | (simp only [List.length_map]; omega)) (by first | omega | (simp only [List.length_map]; omega))) ?_)
    | (guard_target = Arith _ _ _; refine Arith.fit (by decide) ?_)
    | (guard_target = Index _ _ _; first | refine Index.mk _ (idx_map (i := i) (by omega)) ?_ | refine Index.mk _ (idx_map (by omega)) ?_)
    | (guard_target = Need (chkDraw _ = true) _; refine Need.mk (by kernel_rfl) ?_)
    | (guard_target = Need (chkRecs _ _ = true) _; refine Need.mk (by first | kernel_rfl | rfl) ?_)
    | (guard_target = Need _ _; refine Need.mk (by first  | omega | (simp only [List.length_map]; omega)) ?_))
theorem knowsAll_cut (l : List XNote) (a b : Int) (ids : List Int) : CallF Tryz.prog 107 [.c (.ro 7 (((l.map encNote).drop a.toNat).take (b.toNat - a.toNat))), .c (.ro 1 (ids.map eI))] (B (knows ((l.drop a.toNat).take (b.toNat - a.toNat)) ids)) := by
  have := knowsAll_ok ((l.drop a.toNat).take (b.toNat - a.toNat)) ids
  rwa [List.map_take, List.map_drop] at this
theorem l08All_cut (l : List XNote) (a b : Int) (ids : List Int) : CallF Tryz.prog 139 [.c (.ro 7 (((l.map encNote).drop a.toNat).take (b.toNat - a.toNat))), .c (.ro 1 (ids.map eI))] (B (knows ((l.drop a.toNat).take (b.toNat - a.toNat)) ids)) := by
  have := l08All_ok ((l.drop a.toNat).take (b.toNat - a.toNat)) ids
  rwa [List.map_take, List.map_drop] at this
/-! ### entries -/
def zeroP (p : XProof) : Bool := (p.sig.tests == 0 && p.sig.actions == 0) && ((p.claims.length : Int) == 0)
def goodEntry (t a : Int) (rests : List Int) (p : XProof) : Bool :=
  decide ((rests.length : Int) ≤ 4) && (decide rests.Nodup && (rests.all (rng 0 99) && (goodProof p && ((p.sig.tests == t && p.sig.actions == a) && (decide ((rests.length : Int) < p.claims.length) && decide ((psize p : Int) ≤ 20000))))))
theorem isNoProof_ok (p : XProof) : CallF Tryz.prog 119 [.a 3 (encProof p)] (B (zeroP p)) := by
  refine callF_of_vc htb hm Tryz.func119 rfl rfl rfl rfl (ann := fun _ => none) (gh := fun _ => false) ?_
  repeat' ((conv => whnf); first
    | (guard_target = Done _; refine Done.mk ?_; first | (rfl; done) | (simp_all [zeroP, normS, normV]; done) | (simp_all [zeroP, normS, normV]; omega; done) | (simp_all [zeroP, normS, normV]; intros; omega; done) | (simp_all [-List.all_eq_true, -List.all_eq_false, zeroP, normS, normV]; done) | (simp_all [-List.all_eq_true, -List.all_eq_false, zeroP, normS, normV]; omega; done) | skip)
    | (guard_target = RetX _ _; refine RetX.mk ?_ ?_)
    | (guard_target = Fact _ _; refine Fact.mk fun hL => ?_; (try simp only [List.length_map, maxLen] at hL))
    | (guard_target = Branch _ _ _; (first | refine Branch.dec (fun h => ?_) (fun h => ?_) | refine Branch.beq (fun h => ?_) (fun h => ?_) | refine Branch.bne (fun h => ?_) (fun h => ?_) | refine Branch.ndec (fun h => ?_) (fun h => ?_) | refine Branch.nb (fun h => ?_) (fun h => ?_) | refine Branch.mk (fun h => ?_) (fun h => ?_)) <;> (try simp only [List.length_map] at h) <;> (try omega) <;> (try contradiction))
    | (guard_target = Arith _ _ _; refine Arith.fit (wrap_fit (by first | omega | (simp only [List.length_map]; omega)) (by first | omega | (simp only [List.length_map]; omega))) ?_)
    | (guard_target = Arith _ _ _; refine Arith.fit (by decide) ?_)
    | (guard_target = Index _ _ _; first  | refine Index.mk _ (idx_map (by omega)) ?_)
    | (guard_target = Need (chkDraw _ = true) _; refine Need.mk (by kernel_rfl) ?_)
    | (guard_target = Need (chkRecs _ _ = true) _; refine Need.mk (by first | kernel_rfl | rfl) ?_)
    | (guard_target = Need _ _; refine Need.mk (by first  | omega | (simp only [List.length_map]; omega)) ?_))
theorem l08Empty_ok (p : XProof) : CallF Tryz.prog 117 [.c (.rp 3 (encProof p))] (B (zeroP p)) := by
  refine callF_of_vc htb hm Tryz.func117 rfl rfl rfl rfl (ann := fun _ => none) (gh := fun _ => false) ?_
  repeat' ((conv => whnf); first
    | (guard_target = Done _; refine Done.mk ?_; first | (rfl; done) | (simp_all [zeroP, normS, normV]; done) | (simp_all [zeroP, normS, normV]; omega; done) | (simp_all [zeroP, normS, normV]; intros; omega; done) | (simp_all [-List.all_eq_true, -List.all_eq_false, zeroP, normS, normV]; done) | (simp_all [-List.all_eq_true, -List.all_eq_false, zeroP, normS, normV]; omega; done) | skip)
    | (guard_target = RetX _ _; refine RetX.mk ?_ ?_)
    | (guard_target = Fact _ _; refine Fact.mk fun hL => ?_; (try simp only [List.length_map, maxLen] at hL))
    | (guard_target = Branch _ _ _; (first | refine Branch.dec (fun h => ?_) (fun h => ?_) | refine Branch.beq (fun h => ?_) (fun h => ?_) | refine Branch.bne (fun h => ?_) (fun h => ?_) | refine Branch.ndec (fun h => ?_) (fun h => ?_) | refine Branch.nb (fun h => ?_) (fun h => ?_) | refine Branch.mk (fun h => ?_) (fun h => ?_)) <;> (try simp only [List.length_map] at h) <;> (try omega) <;> (try contradiction))
    | (guard_target = Arith _ _ _; refine Arith.fit (wrap_fit (by first | omega | (simp only [List.length_map]; omega)) (by first | omega | (simp only [List.length_map]; omega))) ?_)
    | (guard_target = Arith _ _ _; refine Arith.fit (by decide) ?_)
    | (guard_target = Index _ _ _; first  | refine Index.mk _ (idx_map (by omega)) ?_)
    | (guard_target = Need (chkDraw _ = true) _; refine Need.mk (by kernel_rfl) ?_)
    | (guard_target = Need (chkRecs _ _ = true) _; refine Need.mk (by first | kernel_rfl | rfl) ?_)
    | (guard_target = Need _ _; refine Need.mk (by first  | omega | (simp only [List.length_map]; omega)) ?_))
theorem isEntry_ok (t a : Int) (rests : List Int) (p : XProof) (hl : budProof p ≤ 1048576) : CallF Tryz.prog 109 [.a 2 [J t, J a], .c (.ro 1 (rests.map eI)), .a 3 (encProof p)] (B (goodEntry t a rests p)) := by
  have hr : CallF Tryz.prog 94 [.c (.ro 1 (rests.map eI)), I 100] (B (rests.all (rng 0 99))) := inRange_ok rests 100 (by omega)
  refine callF_of_vc htb hm Tryz.func109 rfl rfl rfl rfl (ann := fun _ => none) (gh := fun _ => false) ?_
  repeat' ((conv => whnf); first
    | (guard_target = Done _; refine Done.mk ?_; first | (rfl; done) | (simp_all [goodEntry, normS, normV]; done) | (simp_all [goodEntry, normS, normV]; omega; done) | (simp_all [goodEntry, normS, normV]; intros; omega; done) | (simp_all [-List.all_eq_true, -List.all_eq_false, goodEntry, normS, normV]; done) | (simp_all [-List.all_eq_true, -List.all_eq_false, goodEntry, normS, normV]; omega; done) | skip)
    | (guard_target = RetX _ _; refine RetX.mk ?_ ?_)
    | (guard_target = Fact _ _; refine Fact.mk fun hL => ?_; (try simp only [List.length_map, maxLen] at hL))
    | (guard_target = Branch _ _ _; (first | refine Branch.dec (fun h => ?_) (fun h => ?_) | refine Branch.beq (fun h => ?_) (fun h => ?_) | refine Branch.bne (fun h => ?_) (fun h => ?_) | refine Branch.ndec (fun h => ?_) (fun h => ?_) | refine Branch.nb (fun h => ?_) (fun h => ?_) | refine Branch.mk (fun h => ?_) (fun h => ?_)) <;> (try simp only [List.length_map] at h) <;> (try omega) <;> (try contradiction))
    | (guard_target = CallN _ 88 _ _ _ _; refine CallN.pure _ _ rfl (areDifferent_ok _) rfl _ rfl ?_)
    | (guard_target = CallN _ 94 _ _ _ _; refine CallN.pure _ _ rfl (hr) rfl _ rfl ?_)
    | (guard_target = CallN _ 143 _ _ _ _; refine CallN.pure _ _ rfl (ValidProof_ok p) rfl _ rfl ?_)
    | (guard_target = CallN _ 144 _ _ _ _; refine CallN.pure _ _ rfl (proofSize_ok p hl) rfl _ rfl ?_)
    | (guard_target = Arith _ _ _; refine Arith.fit (wrap_fit (by first | omega | (simp only [List.length_map]; omega)) (by first | omega | (simp only [List.length_map]; omega))) ?_)
    | (guard_target = Arith _ _ _; refine Arith.fit (by decide) ?_)
    | (guard_target = Index _ _ _; first  | refine Index.mk _ (idx_map (by omega)) ?_)
    | (guard_target = Need (chkDraw _ = true) _; refine Need.mk (by kernel_rfl) ?_)
    | (guard_target = Need (chkRecs _ _ = true) _; refine Need.mk (by first | kernel_rfl | rfl) ?_)
    | (guard_target = Need _ _; refine Need.mk (by first  | omega | (simp only [List.length_map]; omega)) ?_))
theorem lCs_size (p : XProof) : (lCs p.claims 20000 < 0 ↔ ¬ (psize p : Int) ≤ 20000) := by
  obtain ⟨k, h⟩ := cntCs p.claims
  have := h.iff 20000
  simp only [psize]
  omega
theorem l08Rests_ok (t a : Int) (rests : List Int) (p : XProof) (hl : budProof p ≤ 1048576) : CallF Tryz.prog 116 [.a 2 [J t, J a], .c (.ro 1 (rests.map eI)), .c (.rp 3 (encProof p))] (B (goodEntry t a rests p)) := by
  have hz := lCs_size p
  refine callF_of_vc htb hm Tryz.func116 rfl rfl rfl rfl (ann := fun _ => none) (gh := fun _ => false) ?_
  repeat' ((conv => whnf); first
    | (guard_target = Done _; refine Done.mk ?_; first | (rfl; done) | (simp_all [goodEntry, normS, normV]; done) | (simp_all [goodEntry, normS, normV]; omega; done) | (simp_all [goodEntry, normS, normV]; intros; omega; done) | (simp_all [-List.all_eq_true, -List.all_eq_false, goodEntry, normS, normV]; done) | (simp_all [-List.all_eq_true, -List.all_eq_false, goodEntry, normS, normV]; omega; done) | ((refine no_of ?_; have h9 := all_stop (p := rng 0 99) (i := i) (by omega) h; simp_all [-List.all_eq_true, -List.all_eq_false, goodEntry]; done); done) | ((refine no_of ?_; have h9 : ¬ rests.Nodup := nodup_no (i := i) (by omega) (List.mem_iff_getElem.2 ⟨k, by rw [List.length_take]; omega, by rw [List.getElem_take]; exact h⟩); unfold goodEntry; rw [decide_eq_false h9]; simp); done) | ((refine yes_of ?_; have h7 := ha.2.1; have h8 := ha.2.2; rw [List.take_of_length_le (by omega)] at h7 h8; unfold goodEntry; rw [h7, decide_eq_true h8, decide_eq_true (show (rests.length : Int) ≤ 4 by omega), ‹goodProof p = true›, decide_eq_true (show (rests.length : Int) < p.claims.length by omega), decide_eq_true (show (psize p : Int) ≤ 20000 by omega)]; simp_all); done) | skip)
    | (guard_target = RetX _ _; refine RetX.mk ?_ ?_)
    | (guard_target =~ LoopE 4 _ _ _ _ _ _; refine LoopE.mk { α := Nat, keep := [1], ov := fun i => [(7, I i)], φ := fun i => i ≤ rests.length ∧ (rests.take i).all (rng 0 99) = true ∧ (rests.take i).Nodup, μ := fun i => rests.length - i } (LoopN.mk (0 : Nat) (by exact ⟨Nat.zero_le _, rfl, by simp⟩) (by (repeat' first | exact trivial | exact rfl | refine ⟨?_, ?_⟩); done) (by (repeat' first | exact trivial | exact rfl | refine ⟨?_, ?_⟩); done) (by (repeat' first | exact trivial | exact rfl | refine ⟨?_, ?_⟩ | (simp only [List.map_append, List.map_cons, List.map_nil]; first | done | rfl)); done) (fun (i : Nat) ha => ?_) (by intro A; first | rfl | (obtain ⟨_, _⟩ := A; rfl) | (obtain ⟨_, _, _⟩ := A; rfl))); have ha : i ≤ rests.length ∧ (rests.take i).all (rng 0 99) = true ∧ (rests.take i).Nodup := ha)
    | (guard_target =~ LoopE 9 _ _ _ _ _ _; refine LoopE.mk { α := Nat, keep := [1, 7], ov := fun k => [(8, I k)], φ := fun k => k ≤ i ∧ ∀ j (hj : j < rests.length), j < k → ∀ hi : i < rests.length, ¬ rests[j] = rests[i], μ := fun k => i - k } (LoopN.mk (0 : Nat) (by exact ⟨Nat.zero_le _, fun j _ hj => by omega⟩) (by (repeat' first | exact trivial | exact rfl | refine ⟨?_, ?_⟩); done) (by (repeat' first | exact trivial | exact rfl | refine ⟨?_, ?_⟩); done) (by (repeat' first | exact trivial | exact rfl | refine ⟨?_, ?_⟩ | (simp only [List.map_append, List.map_cons, List.map_nil]; first | done | rfl)); done) (fun (k : Nat) ha => ?_) (by intro A; first | rfl | (obtain ⟨_, _⟩ := A; rfl) | (obtain ⟨_, _, _⟩ := A; rfl))); have ha : k ≤ i ∧ ∀ j (hj : j < rests.length), j < k → ∀ hi : i < rests.length, ¬ rests[j] = rests[i] := ha)
    | (guard_target = Gh _ _ _ _ _; refine Gh.go ⟨(k + 1 : Nat), (by exact ⟨by show k + 1 ≤ _; omega, fun j hj hjk hi => by rcases Nat.lt_succ_iff_lt_or_eq.1 hjk with hjk | rfl; exact ha.2 j hj hjk hi; exact h⟩), (by first | (show _ < _; simp only []; omega) | omega | (simp; omega)), (by (repeat' first | exact trivial | exact rfl | refine ⟨?_, ?_⟩); done), (by (repeat' first | exact trivial | exact rfl | refine ⟨?_, ?_⟩); done), (by (repeat' first | exact trivial | exact rfl | refine ⟨?_, ?_⟩ | (simp only [List.map_append, List.map_cons, List.map_nil]; first | done | rfl)); done)⟩)
    | (guard_target = Gh _ _ _ _ _; refine Gh.go ⟨(i + 1 : Nat), (by (have h8 := ‹i ≤ rests.length ∧ (rests.take i).all (rng 0 99) = true ∧ (rests.take i).Nodup›; have hi : i < rests.length := (by omega); exact ⟨hi, all_more hi h8.2.1 ‹rng 0 99 rests[i] = true›, nodup_next hi h8.2.2 (fun hm => by obtain ⟨j, hj, e⟩ := List.mem_iff_getElem.1 hm; rw [List.length_take] at hj; rw [List.getElem_take] at e; exact ha.2 j (by omega) (by omega) hi e)⟩)), (by first | (show _ < _; simp only []; omega) | omega | (simp; omega)), (by (repeat' first | exact trivial | exact rfl | refine ⟨?_, ?_⟩); done), (by (repeat' first | exact trivial | exact rfl | refine ⟨?_, ?_⟩); done), (by (repeat' first | exact trivial | exact rfl | refine ⟨?_, ?_⟩ | (simp only [List.map_append, List.map_cons, List.map_nil]; first | done | rfl)); done)⟩)
    | (guard_target = Fact _ _; refine Fact.mk fun hL => ?_; (try simp only [List.length_map, maxLen] at hL))
    | (guard_target = Branch _ _ _; (first | refine Branch.dec (fun h => ?_) (fun h => ?_) | refine Branch.beq (fun h => ?_) (fun h => ?_) | refine Branch.bne (fun h => ?_) (fun h => ?_) | refine Branch.ndec (fun h => ?_) (fun h => ?_) | refine Branch.nb (fun h => ?_) (fun h => ?_) | refine Branch.mk (fun h => ?_) (fun h => ?_)) <;> (try simp only [List.length_map] at h) <;> (try omega) <;> (try contradiction))
    | (guard_target = CallN _ 150 _ _ _ _; refine CallN.pure _ _ rfl (l04Ok_ok p hl) rfl _ rfl ?_)
    | (guard_target = CallN _ 151 _ _ _ _; refine CallN.pure _ _ rfl (l08Left_ok p hl 20000 (by omega) (by omega)) rfl _ rfl ?_)
    | (guard_target = CallN _ 90 _ _ _ _; refine CallN.pure _ _ rfl (l00In_ok _ _ _) rfl _ rfl ?_)
    | (guard_target = Arith _ _ _; refine Arith.fit (wrap_fit (by first | omega | (simp only [List.length_map]; omega)) (by first | omega | (simp only [List.length_map]; omega))) ?_)
    | (guard_target = Arith _ _ _; refine Arith.fit (by decide) ?_)
    | (guard_target = Index _ _ _; first | refine Index.mk _ (idx_map (i := i) (by omega)) ?_ | refine Index.mk _ (idx_map (i := k) (by omega)) ?_ | refine Index.mk _ (idx_map (by omega)) ?_)
    | (guard_target = Need (chkDraw _ = true) _; refine Need.mk (by kernel_rfl) ?_)
    | (guard_target = Need (chkRecs _ _ = true) _; refine Need.mk (by first | kernel_rfl | rfl) ?_)
    | (guard_target = Need _ _; refine Need.mk (by first  | omega | (simp only [List.length_map]; omega)) ?_))
end Go.Proofs.YtbbaadkgmdkjdaaGreat

namespace Go.Proofs.YtbbaadkgmdkjdaaGreat
open Go Go.KA Go.Proofs
set_option maxHeartbeats 16000000
set_option maxRecDepth 100000
def zeroN (e : XEntry) : Bool := (e.id == 0) && (((e.rests.length : Int) == 0) && zeroP e.proof)
theorem isEmptyEntry_ok (e : XEntry) : CallF Tryz.prog 108 [.a 5 (encEntry e)] (B (zeroN e)) := by
  refine callF_of_vc htb hm Tryz.func108 rfl rfl rfl rfl (ann := fun _ => none) (gh := fun _ => false) ?_
  repeat' ((conv => whnf); first
    | (guard_target = Done _; refine Done.mk ?_; first | (rfl; done) | (simp_all [zeroN, normS, normV]; done) | (simp_all [zeroN, normS, normV]; omega; done) | (simp_all [zeroN, normS, normV]; intros; omega; done) | (simp_all [-List.all_eq_true, -List.all_eq_false, zeroN, normS, normV]; done) | (simp_all [-List.all_eq_true, -List.all_eq_false, zeroN, normS, normV]; omega; done) | skip)
    | (guard_target = RetX _ _; refine RetX.mk ?_ ?_)
    | (guard_target = Fact _ _; refine Fact.mk fun hL => ?_; (try simp only [List.length_map, maxLen] at hL))
    | (guard_target = Branch _ _ _; (first | refine Branch.dec (fun h => ?_) (fun h => ?_) | refine Branch.beq (fun h => ?_) (fun h => ?_) | refine Branch.bne (fun h => ?_) (fun h => ?_) | refine Branch.ndec (fun h => ?_) (fun h => ?_) | refine Branch.nb (fun h => ?_) (fun h => ?_) | refine Branch.mk (fun h => ?_) (fun h => ?_)) <;> (try simp only [List.length_map] at h) <;> (try omega) <;> (try contradiction))
    | (guard_target = CallN _ 119 _ _ _ _; refine CallN.pure _ _ rfl (isNoProof_ok e.proof) rfl _ rfl ?_)
    | (guard_target = Arith _ _ _; refine Arith.fit (wrap_fit (by first | omega | (simp only [List.length_map]; omega)) (by first | omega | (simp only [List.length_map]; omega))) ?_)
    | (guard_target = Arith _ _ _; refine Arith.fit (by decide) ?_)
    | (guard_target = Index _ _ _; first  | refine Index.mk _ (idx_map (by omega)) ?_)
    | (guard_target = Need (chkDraw _ = true) _; refine Need.mk (by kernel_rfl) ?_)
    | (guard_target = Need (chkRecs _ _ = true) _; refine Need.mk (by first | kernel_rfl | rfl) ?_)
    | (guard_target = Need _ _; refine Need.mk (by first  | omega | (simp only [List.length_map]; omega)) ?_))
def goodNote (t a : Int) (n : XNote) : Bool := rng 0 99 n.id && (if n.revoke = true then zeroN n.entry else (n.entry.id == n.id) && goodEntry t a n.entry.rests n.entry.proof)
theorem isNote_ok (t a : Int) (n : XNote) (hl : budNote n ≤ 1048576) : CallF Tryz.prog 53 [.a 2 [J t, J a], .a 7 (encNote n)] (B (goodNote t a n)) := by
  have hp : budProof n.entry.proof ≤ 1048576 := by simp only [budNote, budEntry] at hl; omega
  refine callF_of_vc htb hm Tryz.func53 rfl rfl rfl rfl (ann := fun _ => none) (gh := fun _ => false) ?_
  repeat' ((conv => whnf); first
    | (guard_target = Done _; refine Done.mk ?_; first | (rfl; done) | (simp_all [goodNote, normS, normV]; done) | (simp_all [goodNote, normS, normV]; omega; done) | (simp_all [goodNote, normS, normV]; intros; omega; done) | (simp_all [-List.all_eq_true, -List.all_eq_false, goodNote, normS, normV]; done) | (simp_all [-List.all_eq_true, -List.all_eq_false, goodNote, normS, normV]; omega; done) | skip)
    | (guard_target = RetX _ _; refine RetX.mk ?_ ?_)
    | (guard_target = Fact _ _; refine Fact.mk fun hL => ?_; (try simp only [List.length_map, maxLen] at hL))
    | (guard_target = Branch _ _ _; (first | refine Branch.dec (fun h => ?_) (fun h => ?_) | refine Branch.beq (fun h => ?_) (fun h => ?_) | refine Branch.bne (fun h => ?_) (fun h => ?_) | refine Branch.ndec (fun h => ?_) (fun h => ?_) | refine Branch.nb (fun h => ?_) (fun h => ?_) | refine Branch.mk (fun h => ?_) (fun h => ?_)) <;> (try simp only [List.length_map] at h) <;> (try omega) <;> (try contradiction))
    | (guard_target = CallN _ 51 _ _ _ _; refine CallN.pure _ _ rfl (within_ok _ _ _) rfl _ rfl ?_)
    | (guard_target = CallN _ 108 _ _ _ _; refine CallN.pure _ _ rfl (isEmptyEntry_ok n.entry) rfl _ rfl ?_)
    | (guard_target = CallN _ 109 _ _ _ _; refine CallN.pure _ _ rfl (isEntry_ok t a n.entry.rests n.entry.proof hp) rfl _ rfl ?_)
    | (guard_target = Arith _ _ _; refine Arith.fit (wrap_fit (by first | omega | (simp only [List.length_map]; omega)) (by first | omega | (simp only [List.length_map]; omega))) ?_)
    | (guard_target = Arith _ _ _; refine Arith.fit (by decide) ?_)
    | (guard_target = Index _ _ _; first  | refine Index.mk _ (idx_map (by omega)) ?_)
    | (guard_target = Need (chkDraw _ = true) _; refine Need.mk (by kernel_rfl) ?_)
    | (guard_target = Need (chkRecs _ _ = true) _; refine Need.mk (by first | kernel_rfl | rfl) ?_)
    | (guard_target = Need _ _; refine Need.mk (by first  | omega | (simp only [List.length_map]; omega)) ?_))
theorem l08Note_ok (t a : Int) (n : XNote) (hl : budNote n ≤ 1048576) : CallF Tryz.prog 103 [.a 2 [J t, J a], .c (.rp 7 (encNote n))] (B (goodNote t a n)) := by
  have hp : budProof n.entry.proof ≤ 1048576 := by simp only [budNote, budEntry] at hl; omega
  refine callF_of_vc htb hm Tryz.func103 rfl rfl rfl rfl (ann := fun _ => none) (gh := fun _ => false) ?_
  repeat' ((conv => whnf); first
    | (guard_target = Done _; refine Done.mk ?_; first | (rfl; done) | (simp_all [goodNote, normS, normV]; done) | (simp_all [goodNote, normS, normV]; omega; done) | (simp_all [goodNote, normS, normV]; intros; omega; done) | (simp_all [-List.all_eq_true, -List.all_eq_false, goodNote, normS, normV]; done) | (simp_all [-List.all_eq_true, -List.all_eq_false, goodNote, normS, normV]; omega; done) | (rfl; done) | (simp_all [goodNote, zeroN, normS, normV]; done) | (simp_all [goodNote, zeroN, normS, normV]; omega; done) | (simp_all [goodNote, zeroN, normS, normV]; intros; omega; done) | (simp_all [-List.all_eq_true, -List.all_eq_false, goodNote, zeroN, normS, normV]; done) | (simp_all [-List.all_eq_true, -List.all_eq_false, goodNote, zeroN, normS, normV]; omega; done) | skip)
    | (guard_target = RetX _ _; refine RetX.mk ?_ ?_)
    | (guard_target = Fact _ _; refine Fact.mk fun hL => ?_; (try simp only [List.length_map, maxLen] at hL))
    | (guard_target = Branch _ _ _; (first | refine Branch.dec (fun h => ?_) (fun h => ?_) | refine Branch.beq (fun h => ?_) (fun h => ?_) | refine Branch.bne (fun h => ?_) (fun h => ?_) | refine Branch.ndec (fun h => ?_) (fun h => ?_) | refine Branch.nb (fun h => ?_) (fun h => ?_) | refine Branch.mk (fun h => ?_) (fun h => ?_)) <;> (try simp only [List.length_map] at h) <;> (try omega) <;> (try contradiction))
    | (guard_target = CallN _ 90 _ _ _ _; refine CallN.pure _ _ rfl (l00In_ok _ _ _) rfl _ rfl ?_)
    | (guard_target = CallN _ 117 _ _ _ _; refine CallN.pure _ _ rfl (l08Empty_ok n.entry.proof) rfl _ rfl ?_)
    | (guard_target = CallN _ 116 _ _ _ _; refine CallN.pure _ _ rfl (l08Rests_ok t a n.entry.rests n.entry.proof hp) rfl _ rfl ?_)
    | (guard_target = Arith _ _ _; refine Arith.fit (wrap_fit (by first | omega | (simp only [List.length_map]; omega)) (by first | omega | (simp only [List.length_map]; omega))) ?_)
    | (guard_target = Arith _ _ _; refine Arith.fit (by decide) ?_)
    | (guard_target = Index _ _ _; first  | refine Index.mk _ (idx_map (by omega)) ?_)
    | (guard_target = Need (chkDraw _ = true) _; refine Need.mk (by kernel_rfl) ?_)
    | (guard_target = Need (chkRecs _ _ = true) _; refine Need.mk (by first | kernel_rfl | rfl) ?_)
    | (guard_target = Need _ _; refine Need.mk (by first  | omega | (simp only [List.length_map]; omega)) ?_))
/-! ### servers -/
abbrev n0 : XNote := ⟨false, 0, ⟨0, [], ⟨⟨0, 0⟩, []⟩⟩⟩
def noteAt (t a : Int) (l : List XNote) (i : Nat) : Bool := goodNote t a (l.getD i n0) && (decide (spotN (l.take i) (l.getD i n0).revoke (l.getD i n0).id < 0) && knows (l.take i) (l.getD i n0).entry.rests)
def allR (n : Nat) (p : Nat → Bool) : Bool := (List.range n).all p
theorem allR_next {n : Nat} {p : Nat → Bool} (h : allR n p = true) (hp : p n = true) : allR (n + 1) p = true := by
  unfold allR at h ⊢
  rw [List.range_succ, List.all_append, h]
  simp [hp]
theorem allR_no {n i : Nat} {p : Nat → Bool} (hi : i < n) (hp : p i = false) : allR n p = false := by
  unfold allR
  rw [List.all_eq_false]
  exact ⟨i, by simp [hi], by simp [hp]⟩
theorem allR_get {n i : Nat} {p : Nat → Bool} (h : allR n p = true) (hi : i < n) : p i = true := by
  unfold allR at h
  rw [List.all_eq_true] at h
  exact h i (by simp [hi])
def goodNotes (t a : Int) (l : List XNote) : Bool := allR l.length (noteAt t a l)
def goodServer (t a : Int) (s : XServer) : Bool :=
  decide ((s.notes.length : Int) ≤ 20) && (rng 0 s.notes.length s.saved && ((s.up || s.saved == s.notes.length) && goodNotes t a s.notes))
theorem server_no {t a : Int} {s : XServer} {i : Nat} (hi : i < s.notes.length) (h : noteAt t a s.notes i = false) : goodServer t a s = false := by
  unfold goodServer goodNotes
  rw [allR_no hi h]
  simp
theorem noteAt_no {t a : Int} {l : List XNote} {i : Nat} (h : ¬ (goodNote t a (l.getD i n0) = true ∧ spotN (l.take i) (l.getD i n0).revoke (l.getD i n0).id < 0 ∧ knows (l.take i) (l.getD i n0).entry.rests = true)) : noteAt t a l i = false := by
  cases hb : noteAt t a l i with
  | false => rfl
  | true =>
    unfold noteAt at hb
    simp only [Bool.and_eq_true, decide_eq_true_eq] at hb
    exact absurd hb h
theorem noteAt_yes {t a : Int} {l : List XNote} {i : Nat} (h1 : goodNote t a (l.getD i n0) = true) (h2 : ¬ spotN (l.take i) (l.getD i n0).revoke (l.getD i n0).id ≥ 0) (h3 : knows (l.take i) (l.getD i n0).entry.rests = true) : noteAt t a l i = true := by
  unfold noteAt
  rw [h1, h3, decide_eq_true (by omega)]
  rfl
theorem isServer_ok (t a : Int) (s : XServer) (hl : budServer s ≤ 1048576) : CallF Tryz.prog 52 [.a 2 [J t, J a], .a 3 (encServer s)] (B (goodServer t a s)) := by
  have hn : ∀ i, i < s.notes.length → budNote (s.notes.getD i n0) ≤ 1048576 := fun i h => by
    rw [getD_eq h]
    have := budS_mem budNote (List.getElem_mem h)
    simp only [budServer] at hl
    omega
  refine callF_of_vc htb hm Tryz.func52 rfl rfl rfl rfl (ann := fun _ => none) (gh := fun _ => false) ?_
  repeat' ((conv => whnf); first
    | (guard_target = Done _; refine Done.mk ?_; first | (rfl; done) | (simp_all [goodServer, normS, normV]; done) | (simp_all [goodServer, normS, normV]; omega; done) | (simp_all [goodServer, normS, normV]; intros; omega; done) | (simp_all [-List.all_eq_true, -List.all_eq_false, goodServer, normS, normV]; done) | (simp_all [-List.all_eq_true, -List.all_eq_false, goodServer, normS, normV]; omega; done) | ((simp only [cut_pre] at *; refine no_of (server_no (i := i) (by omega) (noteAt_no ?_)); rintro ⟨g1, g2, g3⟩; first | omega | (rw [g1] at h; cases h) | (rw [g3] at h; cases h)); done) | ((refine yes_of ?_; have e : i = s.notes.length := (by omega); rw [e] at ha; have h9 : goodNotes t a s.notes = true := ha.2; clear ha; simp_all [goodServer]); done) | skip)
    | (guard_target = RetX _ _; refine RetX.mk ?_ ?_)
    | (guard_target =~ LoopE 5 _ _ _ _ _ _; refine LoopE.mk { α := Nat, keep := [2, 3, 32, 33], ov := fun i => [(34, I i)], φ := fun i => i ≤ s.notes.length ∧ allR i (noteAt t a s.notes) = true, μ := fun i => s.notes.length - i } (LoopN.mk (0 : Nat) (by exact ⟨Nat.zero_le _, rfl⟩) (by (repeat' first | exact trivial | exact rfl | refine ⟨?_, ?_⟩); done) (by (repeat' first | exact trivial | exact rfl | refine ⟨?_, ?_⟩); done) (by (repeat' first | exact trivial | exact rfl | refine ⟨?_, ?_⟩ | (simp only [List.map_append, List.map_cons, List.map_nil]; first | done | rfl)); done) (fun (i : Nat) ha => ?_) (by intro A; first | rfl | (obtain ⟨_, _⟩ := A; rfl) | (obtain ⟨_, _, _⟩ := A; rfl))); have ha : i ≤ s.notes.length ∧ allR i (noteAt t a s.notes) = true := ha)
    | (guard_target = Gh _ _ _ _ _; refine Gh.go ⟨(i + 1 : Nat), (by (simp only [cut_pre] at *; exact ⟨by show i + 1 ≤ _; omega, allR_next ha.2 (noteAt_yes ‹_› ‹_› h)⟩)), (by first | (show _ < _; simp only []; omega) | omega | (simp; omega)), (by (repeat' first | exact trivial | exact rfl | refine ⟨?_, ?_⟩); done), (by (repeat' first | exact trivial | exact rfl | refine ⟨?_, ?_⟩); done), (by (repeat' first | exact trivial | exact rfl | refine ⟨?_, ?_⟩ | (simp only [List.map_append, List.map_cons, List.map_nil]; first | done | rfl)); done)⟩)
    | (guard_target = Fact _ _; refine Fact.mk fun hL => ?_; (try simp only [List.length_map, maxLen] at hL))
    | (guard_target = Branch _ _ _; (first | refine Branch.dec (fun h => ?_) (fun h => ?_) | refine Branch.beq (fun h => ?_) (fun h => ?_) | refine Branch.bne (fun h => ?_) (fun h => ?_) | refine Branch.ndec (fun h => ?_) (fun h => ?_) | refine Branch.nb (fun h => ?_) (fun h => ?_) | refine Branch.mk (fun h => ?_) (fun h => ?_)) <;> (try simp only [List.length_map] at h) <;> (try omega) <;> (try contradiction))
    | (guard_target = CallN _ 51 _ _ _ _; refine CallN.pure _ _ rfl (within_ok _ _ _) rfl _ rfl ?_)
    | (guard_target = CallN _ 53 _ _ _ _; refine CallN.pure _ _ rfl (isNote_ok t a _ (hn i (by omega))) rfl _ rfl ?_)
    | (guard_target = CallN _ 71 _ _ _ _; refine CallN.pure _ _ rfl (find_cut s.notes 0 i _ _) rfl _ rfl ?_)
    | (guard_target = CallN _ 107 _ _ _ _; refine CallN.pure _ _ rfl (knowsAll_cut s.notes 0 i _) rfl _ rfl ?_)
    | (guard_target = Arith _ _ _; refine Arith.fit (wrap_fit (by first | omega | (simp only [List.length_map]; omega)) (by first | omega | (simp only [List.length_map]; omega))) ?_)
    | (guard_target = Arith _ _ _; refine Arith.fit (by decide) ?_)
    | (guard_target = Index _ _ _; first | refine Index.mk _ (idx_getD (d := n0) (i := i) (by omega)) ?_ | refine Index.mk _ (idx_map (by omega)) ?_)
    | (guard_target = Need (chkDraw _ = true) _; refine Need.mk (by kernel_rfl) ?_)
    | (guard_target = Need (chkRecs _ _ = true) _; refine Need.mk (by first | kernel_rfl | rfl) ?_)
    | (guard_target = Need _ _; refine Need.mk (by first  | omega | (simp only [List.length_map]; omega)) ?_))
theorem l08Server_ok (t a : Int) (s : XServer) (hl : budServer s ≤ 1048576) : CallF Tryz.prog 102 [.a 2 [J t, J a], .c (.rp 3 (encServer s))] (B (goodServer t a s)) := by
  have hn : ∀ i, i < s.notes.length → budNote (s.notes.getD i n0) ≤ 1048576 := fun i h => by
    rw [getD_eq h]
    have := budS_mem budNote (List.getElem_mem h)
    simp only [budServer] at hl
    omega
  refine callF_of_vc htb hm Tryz.func102 rfl rfl rfl rfl (ann := fun _ => none) (gh := fun _ => false) ?_
  repeat' ((conv => whnf); first
    | (guard_target = Done _; refine Done.mk ?_; first | (rfl; done) | (simp_all [goodServer, normS, normV]; done) | (simp_all [goodServer, normS, normV]; omega; done) | (simp_all [goodServer, normS, normV]; intros; omega; done) | (simp_all [-List.all_eq_true, -List.all_eq_false, goodServer, normS, normV]; done) | (simp_all [-List.all_eq_true, -List.all_eq_false, goodServer, normS, normV]; omega; done) | ((simp only [cut_pre] at *; refine no_of (server_no (i := i) (by omega) (noteAt_no ?_)); rintro ⟨g1, g2, g3⟩; first | omega | (rw [g1] at h; cases h) | (rw [g3] at h; cases h)); done) | ((refine yes_of ?_; have e : i = s.notes.length := (by omega); rw [e] at ha; have h9 : goodNotes t a s.notes = true := ha.2; clear ha; simp_all [goodServer]); done) | skip)
    | (guard_target = RetX _ _; refine RetX.mk ?_ ?_)
    | (guard_target =~ LoopE 5 _ _ _ _ _ _; refine LoopE.mk { α := Nat, keep := [1, 2], ov := fun i => [(6, I i)], φ := fun i => i ≤ s.notes.length ∧ allR i (noteAt t a s.notes) = true, μ := fun i => s.notes.length - i } (LoopN.mk (0 : Nat) (by exact ⟨Nat.zero_le _, rfl⟩) (by (repeat' first | exact trivial | exact rfl | refine ⟨?_, ?_⟩); done) (by (repeat' first | exact trivial | exact rfl | refine ⟨?_, ?_⟩); done) (by (repeat' first | exact trivial | exact rfl | refine ⟨?_, ?_⟩ | (simp only [List.map_append, List.map_cons, List.map_nil]; first | done | rfl)); done) (fun (i : Nat) ha => ?_) (by intro A; first | rfl | (obtain ⟨_, _⟩ := A; rfl) | (obtain ⟨_, _, _⟩ := A; rfl))); have ha : i ≤ s.notes.length ∧ allR i (noteAt t a s.notes) = true := ha)
    | (guard_target = Gh _ _ _ _ _; refine Gh.go ⟨(i + 1 : Nat), (by (simp only [cut_pre] at *; exact ⟨by show i + 1 ≤ _; omega, allR_next ha.2 (noteAt_yes ‹_› ‹_› h)⟩)), (by first | (show _ < _; simp only []; omega) | omega | (simp; omega)), (by (repeat' first | exact trivial | exact rfl | refine ⟨?_, ?_⟩); done), (by (repeat' first | exact trivial | exact rfl | refine ⟨?_, ?_⟩); done), (by (repeat' first | exact trivial | exact rfl | refine ⟨?_, ?_⟩ | (simp only [List.map_append, List.map_cons, List.map_nil]; first | done | rfl)); done)⟩)
    | (guard_target = Fact _ _; refine Fact.mk fun hL => ?_; (try simp only [List.length_map, maxLen] at hL))
    | (guard_target = Branch _ _ _; (first | refine Branch.dec (fun h => ?_) (fun h => ?_) | refine Branch.beq (fun h => ?_) (fun h => ?_) | refine Branch.bne (fun h => ?_) (fun h => ?_) | refine Branch.ndec (fun h => ?_) (fun h => ?_) | refine Branch.nb (fun h => ?_) (fun h => ?_) | refine Branch.mk (fun h => ?_) (fun h => ?_)) <;> (try simp only [List.length_map] at h) <;> (try omega) <;> (try contradiction))
    | (guard_target = CallN _ 90 _ _ _ _; refine CallN.pure _ _ rfl (l00In_ok _ _ _) rfl _ rfl ?_)
    | (guard_target = CallN _ 103 _ _ _ _; refine CallN.pure _ _ rfl (l08Note_ok t a _ (hn i (by omega))) rfl _ rfl ?_)
    | (guard_target = CallN _ 69 _ _ _ _; refine CallN.pure _ _ rfl (l08Spot_cut s.notes 0 i _ _) rfl _ rfl ?_)
    | (guard_target = CallN _ 139 _ _ _ _; refine CallN.pure _ _ rfl (l08All_cut s.notes 0 i _) rfl _ rfl ?_)
    | (guard_target = Arith _ _ _; refine Arith.fit (wrap_fit (by first | omega | (simp only [List.length_map]; omega)) (by first | omega | (simp only [List.length_map]; omega))) ?_)
    | (guard_target = Arith _ _ _; refine Arith.fit (by decide) ?_)
    | (guard_target = Index _ _ _; first | refine Index.mk _ (idx_getD (d := n0) (i := i) (by omega)) ?_ | refine Index.mk _ (idx_map (by omega)) ?_)
    | (guard_target = Need (chkDraw _ = true) _; refine Need.mk (by kernel_rfl) ?_)
    | (guard_target = Need (chkRecs _ _ = true) _; refine Need.mk (by first | kernel_rfl | rfl) ?_)
    | (guard_target = Need _ _; refine Need.mk (by first  | omega | (simp only [List.length_map]; omega)) ?_))
end Go.Proofs.YtbbaadkgmdkjdaaGreat

namespace Go.Proofs.YtbbaadkgmdkjdaaGreat
open Go Go.KA Go.Proofs
set_option maxHeartbeats 16000000
set_option maxRecDepth 100000
section
variable {α : Type} {a b : List α} {i : Nat}
theorem eqL_len (h : ¬ a.length = b.length) : eqv a b = false := eqv_ne fun e => h (by rw [e])
theorem eqL_no (hi : i < a.length) (hj : i < b.length) (h : eqv a[i] b[i] = false) : eqv a b = false := eqv_ne fun e => by
  subst e
  simp at h
theorem eqL_go (hi : i < a.length) (hj : i < b.length) (ht : a.take i = b.take i) (h : eqv a[i] b[i] = true) : a.take (i + 1) = b.take (i + 1) := by
  rw [List.take_add_one, List.take_add_one, ht, List.getElem?_eq_getElem hi, List.getElem?_eq_getElem hj, eqv_true.1 h]
theorem eqL_end (hl : a.length = b.length) (hi : ¬ i < a.length) (ht : a.take i = b.take i) : eqv a b = true := by
  rw [List.take_of_length_le (by omega), List.take_of_length_le (by omega)] at ht
  exact eqv_true.2 ht
end
theorem l00Same_ok (a b : List Int) : CallF Tryz.prog 160 [.c (.ro 1 (a.map eI)), .c (.ro 1 (b.map eI))] (B (eqv a b)) := by
  refine callF_of_vc htb hm Tryz.func160 rfl rfl rfl rfl (ann := fun _ => none) (gh := fun _ => false) ?_
  repeat' ((conv => whnf); first
    | (guard_target = Done _; refine Done.mk ?_; first | (exact no_of (eqL_len (by omega)); done) | (exact no_of (eqL_no (i := i) (by omega) (by omega) (eqv_ne h)); done) | (exact yes_of (eqL_end ha.2.1 (by omega) ha.2.2); done) | skip)
    | (guard_target = RetX _ _; refine RetX.mk ?_ ?_)
    | (guard_target =~ LoopE 4 _ _ _ _ _ _; refine LoopE.mk { α := Nat, keep := [0, 1], ov := fun i => [(5, I i)], φ := fun i => i ≤ a.length ∧ a.length = b.length ∧ a.take i = b.take i, μ := fun i => a.length - i } (LoopN.mk (0 : Nat) (by exact ⟨Nat.zero_le _, by omega, rfl⟩) (by (repeat' first | exact trivial | exact rfl | refine ⟨?_, ?_⟩); done) (by (repeat' first | exact trivial | exact rfl | refine ⟨?_, ?_⟩); done) (by (repeat' first | exact trivial | exact rfl | refine ⟨?_, ?_⟩ | (simp only [List.map_append, List.map_cons, List.map_nil]; first | done | rfl)); done) (fun (i : Nat) ha => ?_) (by intro A; first | rfl | (obtain ⟨_, _⟩ := A; rfl) | (obtain ⟨_, _, _⟩ := A; rfl))); have ha : i ≤ a.length ∧ a.length = b.length ∧ a.take i = b.take i := ha)
    | (guard_target = Gh _ _ _ _ _; refine Gh.go ⟨(i + 1 : Nat), (by exact ⟨by show i + 1 ≤ _; omega, ha.2.1, eqL_go (by omega) (by omega) ha.2.2 (eqv_of h)⟩), (by first | (show _ < _; simp only []; omega) | omega | (simp; omega)), (by (repeat' first | exact trivial | exact rfl | refine ⟨?_, ?_⟩); done), (by (repeat' first | exact trivial | exact rfl | refine ⟨?_, ?_⟩); done), (by (repeat' first | exact trivial | exact rfl | refine ⟨?_, ?_⟩ | (simp only [List.map_append, List.map_cons, List.map_nil]; first | done | rfl)); done)⟩)
    | (guard_target = Fact _ _; refine Fact.mk fun hL => ?_; (try simp only [List.length_map, maxLen] at hL))
    | (guard_target = Branch _ _ _; (first | refine Branch.dec (fun h => ?_) (fun h => ?_) | refine Branch.beq (fun h => ?_) (fun h => ?_) | refine Branch.bne (fun h => ?_) (fun h => ?_) | refine Branch.ndec (fun h => ?_) (fun h => ?_) | refine Branch.nb (fun h => ?_) (fun h => ?_) | refine Branch.mk (fun h => ?_) (fun h => ?_)) <;> (try simp only [List.length_map] at h) <;> (try omega) <;> (try contradiction))
    | (guard_target = Arith _ _ _; refine Arith.fit (wrap_fit (by first | omega | (simp only [List.length_map]; omega)) (by first | omega | (simp only [List.length_map]; omega))) ?_)
    | (guard_target = Arith _ _ _; refine Arith.fit (by decide) ?_)
    | (guard_target = Index _ _ _; first | refine Index.mk _ (idx_map (i := i) (by omega)) ?_ | refine Index.mk _ (idx_map (by omega)) ?_)
    | (guard_target = Need (chkDraw _ = true) _; refine Need.mk (by kernel_rfl) ?_)
    | (guard_target = Need (chkRecs _ _ = true) _; refine Need.mk (by first | kernel_rfl | rfl) ?_)
    | (guard_target = Need _ _; refine Need.mk (by first  | omega | (simp only [List.length_map]; omega)) ?_))
theorem Equal_ok (a b : List Int) : CallF Tryz.prog 110 [.c (.ro 1 (a.map eI)), .c (.ro 1 (b.map eI))] (B (eqv a b)) := by
  refine callF_of_vc htb hm Tryz.func110 rfl rfl rfl rfl (ann := fun _ => none) (gh := fun _ => false) ?_
  repeat' ((conv => whnf); first
    | (guard_target = Done _; refine Done.mk ?_; first | (exact no_of (eqL_len (by omega)); done) | (exact no_of (eqL_no (i := i) (by omega) (by omega) (eqv_ne h)); done) | (exact yes_of (eqL_end ha.2.1 (by omega) ha.2.2); done) | skip)
    | (guard_target = RetX _ _; refine RetX.mk ?_ ?_)
    | (guard_target =~ LoopE 4 _ _ _ _ _ _; refine LoopE.mk { α := Nat, keep := [0, 1, 12], ov := fun i => [(13, I i)], φ := fun i => i ≤ a.length ∧ a.length = b.length ∧ a.take i = b.take i, μ := fun i => a.length - i } (LoopN.mk (0 : Nat) (by exact ⟨Nat.zero_le _, by omega, rfl⟩) (by (repeat' first | exact trivial | exact rfl | refine ⟨?_, ?_⟩); done) (by (repeat' first | exact trivial | exact rfl | refine ⟨?_, ?_⟩); done) (by (repeat' first | exact trivial | exact rfl | refine ⟨?_, ?_⟩ | (simp only [List.map_append, List.map_cons, List.map_nil]; first | done | rfl)); done) (fun (i : Nat) ha => ?_) (by intro A; first | rfl | (obtain ⟨_, _⟩ := A; rfl) | (obtain ⟨_, _, _⟩ := A; rfl))); have ha : i ≤ a.length ∧ a.length = b.length ∧ a.take i = b.take i := ha)
    | (guard_target = Gh _ _ _ _ _; refine Gh.go ⟨(i + 1 : Nat), (by exact ⟨by show i + 1 ≤ _; omega, ha.2.1, eqL_go (by omega) (by omega) ha.2.2 (eqv_of h)⟩), (by first | (show _ < _; simp only []; omega) | omega | (simp; omega)), (by (repeat' first | exact trivial | exact rfl | refine ⟨?_, ?_⟩); done), (by (repeat' first | exact trivial | exact rfl | refine ⟨?_, ?_⟩); done), (by (repeat' first | exact trivial | exact rfl | refine ⟨?_, ?_⟩ | (simp only [List.map_append, List.map_cons, List.map_nil]; first | done | rfl)); done)⟩)
    | (guard_target = Fact _ _; refine Fact.mk fun hL => ?_; (try simp only [List.length_map, maxLen] at hL))
    | (guard_target = Branch _ _ _; (first | refine Branch.dec (fun h => ?_) (fun h => ?_) | refine Branch.beq (fun h => ?_) (fun h => ?_) | refine Branch.bne (fun h => ?_) (fun h => ?_) | refine Branch.ndec (fun h => ?_) (fun h => ?_) | refine Branch.nb (fun h => ?_) (fun h => ?_) | refine Branch.mk (fun h => ?_) (fun h => ?_)) <;> (try simp only [List.length_map] at h) <;> (try omega) <;> (try contradiction))
    | (guard_target = Arith _ _ _; refine Arith.fit (wrap_fit (by first | omega | (simp only [List.length_map]; omega)) (by first | omega | (simp only [List.length_map]; omega))) ?_)
    | (guard_target = Arith _ _ _; refine Arith.fit (by decide) ?_)
    | (guard_target = Index _ _ _; first | refine Index.mk _ (idx_map (i := i) (by omega)) ?_ | refine Index.mk _ (idx_map (by omega)) ?_)
    | (guard_target = Need (chkDraw _ = true) _; refine Need.mk (by kernel_rfl) ?_)
    | (guard_target = Need (chkRecs _ _ = true) _; refine Need.mk (by first | kernel_rfl | rfl) ?_)
    | (guard_target = Need _ _; refine Need.mk (by first  | omega | (simp only [List.length_map]; omega)) ?_))
/-! ### expressions -/
theorem eqE (x y : XExpr) : eqv x y = ((x.kind == y.kind) && ((x.num == y.num) && eqv x.kids y.kids)) := by
  cases x; cases y
  refine Bool.eq_iff_iff.2 ?_
  simp [XExpr.kind, XExpr.num, XExpr.kids]
theorem l01Same_all (x y : XExpr) (hx : ∀ u ∈ x.kids, ∀ v, CallF Tryz.prog 157 [.c (.rp 3 (encExpr u)), .c (.rp 3 (encExpr v))] (B (eqv u v))) : CallF Tryz.prog 157 [.c (.rp 3 (toldE x)), .c (.rp 3 (toldE y))] (B (eqv x y)) := by
  rw [eqE]
  refine callF_of_vc htb hm Tryz.func157 rfl rfl rfl rfl (ann := fun _ => none) (gh := fun _ => false) ?_
  repeat' ((conv => whnf); first
    | (guard_target = Done _; refine Done.mk ?_; first | ((refine no_of ?_; rw [eqL_len (by omega), Bool.and_false, Bool.and_false]); done) | ((refine no_of ?_; rw [eqL_no (i := i) (by omega) (by omega) (eqv_ne h), Bool.and_false, Bool.and_false]); done) | ((refine yes_of ?_; rw [eqL_end ha.2.1 (by omega) ha.2.2]; simp_all; done); done) | ((refine no_of ?_; simp_all; done); done) | skip)
    | (guard_target = RetX _ _; refine RetX.mk ?_ ?_)
    | (guard_target =~ LoopE 4 _ _ _ _ _ _; refine LoopE.mk { α := Nat, keep := [0, 1], ov := fun i => [(5, I i)], φ := fun i => i ≤ x.kids.length ∧ x.kids.length = y.kids.length ∧ x.kids.take i = y.kids.take i, μ := fun i => x.kids.length - i } (LoopN.mk (0 : Nat) (by exact ⟨Nat.zero_le _, by omega, rfl⟩) (by (repeat' first | exact trivial | exact rfl | refine ⟨?_, ?_⟩); done) (by (repeat' first | exact trivial | exact rfl | refine ⟨?_, ?_⟩); done) (by (repeat' first | exact trivial | exact rfl | refine ⟨?_, ?_⟩ | (simp only [List.map_append, List.map_cons, List.map_nil]; first | done | rfl)); done) (fun (i : Nat) ha => ?_) (by intro A; first | rfl | (obtain ⟨_, _⟩ := A; rfl) | (obtain ⟨_, _, _⟩ := A; rfl))); have ha : i ≤ x.kids.length ∧ x.kids.length = y.kids.length ∧ x.kids.take i = y.kids.take i := ha)
    | (guard_target = Gh _ _ _ _ _; refine Gh.go ⟨(i + 1 : Nat), (by exact ⟨by show i + 1 ≤ _; omega, ha.2.1, eqL_go (by omega) (by omega) ha.2.2 (eqv_of h)⟩), (by first | (show _ < _; simp only []; omega) | omega | (simp; omega)), (by (repeat' first | exact trivial | exact rfl | refine ⟨?_, ?_⟩); done), (by (repeat' first | exact trivial | exact rfl | refine ⟨?_, ?_⟩); done), (by (repeat' first | exact trivial | exact rfl | refine ⟨?_, ?_⟩ | (simp only [List.map_append, List.map_cons, List.map_nil]; first | done | rfl)); done)⟩)
    | (guard_target = Fact _ _; refine Fact.mk fun hL => ?_; (try simp only [List.length_map, maxLen] at hL))
    | (guard_target = Branch _ _ _; (first | refine Branch.dec (fun h => ?_) (fun h => ?_) | refine Branch.beq (fun h => ?_) (fun h => ?_) | refine Branch.bne (fun h => ?_) (fun h => ?_) | refine Branch.ndec (fun h => ?_) (fun h => ?_) | refine Branch.nb (fun h => ?_) (fun h => ?_) | refine Branch.mk (fun h => ?_) (fun h => ?_)) <;> (try simp only [List.length_map] at h) <;> (try omega) <;> (try contradiction))
    | (guard_target = CallN _ 157 _ _ _ _; refine CallN.pure _ _ rfl (hx _ (List.getElem_mem (by omega)) _) rfl _ rfl ?_)
    | (guard_target = Arith _ _ _; refine Arith.fit (wrap_fit (by first | omega | (simp only [List.length_map]; omega)) (by first | omega | (simp only [List.length_map]; omega))) ?_)
    | (guard_target = Arith _ _ _; refine Arith.fit (by decide) ?_)
    | (guard_target = Index _ _ _; first | refine Index.mk _ (idx_map (i := i) (by omega)) ?_ | refine Index.mk _ (idx_map (by omega)) ?_)
    | (guard_target = Need (chkDraw _ = true) _; refine Need.mk (by kernel_rfl) ?_)
    | (guard_target = Need (chkRecs _ _ = true) _; refine Need.mk (by first | kernel_rfl | rfl) ?_)
    | (guard_target = Need _ _; refine Need.mk (by first  | omega | (simp only [List.length_map]; omega)) ?_))
theorem l01Same_ok (x y : XExpr) : CallF Tryz.prog 157 [.c (.rp 3 (encExpr x)), .c (.rp 3 (encExpr y))] (B (eqv x y)) := by
  rw [encExpr_eq, encExpr_eq]
  exact l01Same_all x y fun u _hx v => l01Same_ok u v
  termination_by SizeOf.sizeOf x
  decreasing_by
    have := List.sizeOf_lt_of_mem _hx
    cases x
    simp only [XExpr.mk.sizeOf_spec]
    show SizeOf.sizeOf u < _
    simp only [XExpr.kids] at this
    omega
theorem EqualE_all (a b : List XExpr) (hx : ∀ u ∈ a, ∀ v, CallF Tryz.prog 132 [.a 3 (encExpr u), .a 3 (encExpr v)] (B (eqv u v))) : CallF Tryz.prog 158 [.c (.ro 3 (a.map encExpr)), .c (.ro 3 (b.map encExpr)), .clo 132 []] (B (eqv a b)) := by
  refine callF_of_vc htb hm Tryz.func158 rfl rfl rfl rfl (ann := fun _ => none) (gh := fun _ => false) ?_
  repeat' ((conv => whnf); first
    | (guard_target = Done _; refine Done.mk ?_; first | (exact no_of (eqL_len (by omega)); done) | (exact no_of (eqL_no (i := i) (by omega) (by omega) (eqv_ne h)); done) | (exact yes_of (eqL_end ha.2.1 (by omega) ha.2.2); done) | skip)
    | (guard_target = RetX _ _; refine RetX.mk ?_ ?_)
    | (guard_target =~ LoopE 4 _ _ _ _ _ _; refine LoopE.mk { α := Nat, keep := [1, 2, 15, 16], ov := fun i => [(17, I i)], φ := fun i => i ≤ a.length ∧ a.length = b.length ∧ a.take i = b.take i, μ := fun i => a.length - i } (LoopN.mk (0 : Nat) (by exact ⟨Nat.zero_le _, by omega, rfl⟩) (by (repeat' first | exact trivial | exact rfl | refine ⟨?_, ?_⟩); done) (by (repeat' first | exact trivial | exact rfl | refine ⟨?_, ?_⟩); done) (by (repeat' first | exact trivial | exact rfl | refine ⟨?_, ?_⟩ | (simp only [List.map_append, List.map_cons, List.map_nil]; first | done | rfl)); done) (fun (i : Nat) ha => ?_) (by intro A; first | rfl | (obtain ⟨_, _⟩ := A; rfl) | (obtain ⟨_, _, _⟩ := A; rfl))); have ha : i ≤ a.length ∧ a.length = b.length ∧ a.take i = b.take i := ha)
    | (guard_target = Gh _ _ _ _ _; refine Gh.go ⟨(i + 1 : Nat), (by exact ⟨by show i + 1 ≤ _; omega, ha.2.1, eqL_go (by omega) (by omega) ha.2.2 (eqv_of h)⟩), (by first | (show _ < _; simp only []; omega) | omega | (simp; omega)), (by (repeat' first | exact trivial | exact rfl | refine ⟨?_, ?_⟩); done), (by (repeat' first | exact trivial | exact rfl | refine ⟨?_, ?_⟩); done), (by (repeat' first | exact trivial | exact rfl | refine ⟨?_, ?_⟩ | (simp only [List.map_append, List.map_cons, List.map_nil]; first | done | rfl)); done)⟩)
    | (guard_target = Fact _ _; refine Fact.mk fun hL => ?_; (try simp only [List.length_map, maxLen] at hL))
    | (guard_target = Branch _ _ _; (first | refine Branch.dec (fun h => ?_) (fun h => ?_) | refine Branch.beq (fun h => ?_) (fun h => ?_) | refine Branch.bne (fun h => ?_) (fun h => ?_) | refine Branch.ndec (fun h => ?_) (fun h => ?_) | refine Branch.nb (fun h => ?_) (fun h => ?_) | refine Branch.mk (fun h => ?_) (fun h => ?_)) <;> (try simp only [List.length_map] at h) <;> (try omega) <;> (try contradiction))
    | (guard_target = CallN _ 132 _ _ _ _; refine CallN.pure _ _ rfl (hx _ (List.getElem_mem (by omega)) _) rfl _ rfl ?_)
    | (guard_target = Arith _ _ _; refine Arith.fit (wrap_fit (by first | omega | (simp only [List.length_map]; omega)) (by first | omega | (simp only [List.length_map]; omega))) ?_)
    | (guard_target = Arith _ _ _; refine Arith.fit (by decide) ?_)
    | (guard_target = Index _ _ _; first | refine Index.mk _ (idx_map (i := i) (by omega)) ?_ | refine Index.mk _ (idx_map (by omega)) ?_)
    | (guard_target = Need (chkDraw _ = true) _; refine Need.mk (by kernel_rfl) ?_)
    | (guard_target = Need (chkRecs _ _ = true) _; refine Need.mk (by first | kernel_rfl | rfl) ?_)
    | (guard_target = Need _ _; refine Need.mk (by first  | omega | (simp only [List.length_map]; omega)) ?_))
theorem SameExpr_ok (x y : XExpr) : CallF Tryz.prog 132 [.a 3 (encExpr x), .a 3 (encExpr y)] (B (eqv x y)) := by
  rw [encExpr_eq, encExpr_eq, eqE]
  have h0 := EqualE_all x.kids y.kids fun u _hx v => SameExpr_ok u v
  refine callF_of_vc htb hm Tryz.func132 rfl rfl rfl rfl (ann := fun _ => none) (gh := fun _ => false) ?_
  repeat' ((conv => whnf); first
    | (guard_target = Done _; refine Done.mk ?_; first | ((simp_all [eqv_ne, normS, normV]; done); done) | skip)
    | (guard_target = RetX _ _; refine RetX.mk ?_ ?_)
    | (guard_target = Fact _ _; refine Fact.mk fun hL => ?_; (try simp only [List.length_map, maxLen] at hL))
    | (guard_target = Branch _ _ _; (first | refine Branch.dec (fun h => ?_) (fun h => ?_) | refine Branch.beq (fun h => ?_) (fun h => ?_) | refine Branch.bne (fun h => ?_) (fun h => ?_) | refine Branch.ndec (fun h => ?_) (fun h => ?_) | refine Branch.nb (fun h => ?_) (fun h => ?_) | refine Branch.mk (fun h => ?_) (fun h => ?_)) <;> (try simp only [List.length_map] at h) <;> (try omega) <;> (try contradiction))
    | (guard_target = CallN _ 158 _ _ _ _; refine CallN.pure _ _ rfl (h0) rfl _ rfl ?_)
    | (guard_target = Arith _ _ _; refine Arith.fit (wrap_fit (by first | omega | (simp only [List.length_map]; omega)) (by first | omega | (simp only [List.length_map]; omega))) ?_)
    | (guard_target = Arith _ _ _; refine Arith.fit (by decide) ?_)
    | (guard_target = Index _ _ _; first  | refine Index.mk _ (idx_map (by omega)) ?_)
    | (guard_target = Need (chkDraw _ = true) _; refine Need.mk (by kernel_rfl) ?_)
    | (guard_target = Need (chkRecs _ _ = true) _; refine Need.mk (by first | kernel_rfl | rfl) ?_)
    | (guard_target = Need _ _; refine Need.mk (by first  | omega | (simp only [List.length_map]; omega)) ?_))
  termination_by SizeOf.sizeOf x
  decreasing_by
    have := List.sizeOf_lt_of_mem _hx
    cases x
    simp only [XExpr.mk.sizeOf_spec]
    show SizeOf.sizeOf u < _
    simp only [XExpr.kids] at this
    omega
theorem sameExprs_ok (a b : List XExpr) : CallF Tryz.prog 191 [.c (.ro 3 (a.map encExpr)), .c (.ro 3 (b.map encExpr))] (B (eqv a b)) := by
  have h0 := EqualE_all a b fun u _ v => SameExpr_ok u v
  refine callF_of_vc htb hm Tryz.func191 rfl rfl rfl rfl (ann := fun _ => none) (gh := fun _ => false) ?_
  repeat' ((conv => whnf); first
    | (guard_target = Done _; refine Done.mk ?_; first | (rfl; done) | skip)
    | (guard_target = RetX _ _; refine RetX.mk ?_ ?_)
    | (guard_target = Fact _ _; refine Fact.mk fun hL => ?_; (try simp only [List.length_map, maxLen] at hL))
    | (guard_target = Branch _ _ _; (first | refine Branch.dec (fun h => ?_) (fun h => ?_) | refine Branch.beq (fun h => ?_) (fun h => ?_) | refine Branch.bne (fun h => ?_) (fun h => ?_) | refine Branch.ndec (fun h => ?_) (fun h => ?_) | refine Branch.nb (fun h => ?_) (fun h => ?_) | refine Branch.mk (fun h => ?_) (fun h => ?_)) <;> (try simp only [List.length_map] at h) <;> (try omega) <;> (try contradiction))
    | (guard_target = CallN _ 158 _ _ _ _; refine CallN.pure _ _ rfl (h0) rfl _ rfl ?_)
    | (guard_target = Arith _ _ _; refine Arith.fit (wrap_fit (by first | omega | (simp only [List.length_map]; omega)) (by first | omega | (simp only [List.length_map]; omega))) ?_)
    | (guard_target = Arith _ _ _; refine Arith.fit (by decide) ?_)
    | (guard_target = Index _ _ _; first  | refine Index.mk _ (idx_map (by omega)) ?_)
    | (guard_target = Need (chkDraw _ = true) _; refine Need.mk (by kernel_rfl) ?_)
    | (guard_target = Need (chkRecs _ _ = true) _; refine Need.mk (by first | kernel_rfl | rfl) ?_)
    | (guard_target = Need _ _; refine Need.mk (by first  | omega | (simp only [List.length_map]; omega)) ?_))
theorem l04SameList_ok (a b : List XExpr) : CallF Tryz.prog 214 [.c (.ro 3 (a.map encExpr)), .c (.ro 3 (b.map encExpr))] (B (eqv a b)) := by
  refine callF_of_vc htb hm Tryz.func214 rfl rfl rfl rfl (ann := fun _ => none) (gh := fun _ => false) ?_
  repeat' ((conv => whnf); first
    | (guard_target = Done _; refine Done.mk ?_; first | (exact no_of (eqL_len (by omega)); done) | (exact no_of (eqL_no (i := i) (by omega) (by omega) (eqv_ne h)); done) | (exact yes_of (eqL_end ha.2.1 (by omega) ha.2.2); done) | skip)
    | (guard_target = RetX _ _; refine RetX.mk ?_ ?_)
    | (guard_target =~ LoopE 4 _ _ _ _ _ _; refine LoopE.mk { α := Nat, keep := [0, 1], ov := fun i => [(5, I i)], φ := fun i => i ≤ a.length ∧ a.length = b.length ∧ a.take i = b.take i, μ := fun i => a.length - i } (LoopN.mk (0 : Nat) (by exact ⟨Nat.zero_le _, by omega, rfl⟩) (by (repeat' first | exact trivial | exact rfl | refine ⟨?_, ?_⟩); done) (by (repeat' first | exact trivial | exact rfl | refine ⟨?_, ?_⟩); done) (by (repeat' first | exact trivial | exact rfl | refine ⟨?_, ?_⟩ | (simp only [List.map_append, List.map_cons, List.map_nil]; first | done | rfl)); done) (fun (i : Nat) ha => ?_) (by intro A; first | rfl | (obtain ⟨_, _⟩ := A; rfl) | (obtain ⟨_, _, _⟩ := A; rfl))); have ha : i ≤ a.length ∧ a.length = b.length ∧ a.take i = b.take i := ha)
    | (guard_target = Gh _ _ _ _ _; refine Gh.go ⟨(i + 1 : Nat), (by exact ⟨by show i + 1 ≤ _; omega, ha.2.1, eqL_go (by omega) (by omega) ha.2.2 (eqv_of h)⟩), (by first | (show _ < _; simp only []; omega) | omega | (simp; omega)), (by (repeat' first | exact trivial | exact rfl | refine ⟨?_, ?_⟩); done), (by (repeat' first | exact trivial | exact rfl | refine ⟨?_, ?_⟩); done), (by (repeat' first | exact trivial | exact rfl | refine ⟨?_, ?_⟩ | (simp only [List.map_append, List.map_cons, List.map_nil]; first | done | rfl)); done)⟩)
    | (guard_target = Fact _ _; refine Fact.mk fun hL => ?_; (try simp only [List.length_map, maxLen] at hL))
    | (guard_target = Branch _ _ _; (first | refine Branch.dec (fun h => ?_) (fun h => ?_) | refine Branch.beq (fun h => ?_) (fun h => ?_) | refine Branch.bne (fun h => ?_) (fun h => ?_) | refine Branch.ndec (fun h => ?_) (fun h => ?_) | refine Branch.nb (fun h => ?_) (fun h => ?_) | refine Branch.mk (fun h => ?_) (fun h => ?_)) <;> (try simp only [List.length_map] at h) <;> (try omega) <;> (try contradiction))
    | (guard_target = CallN _ 157 _ _ _ _; refine CallN.pure _ _ rfl (l01Same_ok _ _) rfl _ rfl ?_)
    | (guard_target = Arith _ _ _; refine Arith.fit (wrap_fit (by first | omega | (simp only [List.length_map]; omega)) (by first | omega | (simp only [List.length_map]; omega))) ?_)
    | (guard_target = Arith _ _ _; refine Arith.fit (by decide) ?_)
    | (guard_target = Index _ _ _; first | refine Index.mk _ (idx_map (i := i) (by omega)) ?_ | refine Index.mk _ (idx_map (by omega)) ?_)
    | (guard_target = Need (chkDraw _ = true) _; refine Need.mk (by kernel_rfl) ?_)
    | (guard_target = Need (chkRecs _ _ = true) _; refine Need.mk (by first | kernel_rfl | rfl) ?_)
    | (guard_target = Need _ _; refine Need.mk (by first  | omega | (simp only [List.length_map]; omega)) ?_))
/-! ### steps -/
theorem eqSt (x y : XProofStep) : eqv x y = ((x.use == y.use) && ((x.back == y.back) && (eqv x.path y.path && (eqv x.tests y.tests && eqv x.acts y.acts)))) := by
  cases x; cases y
  refine Bool.eq_iff_iff.2 ?_
  simp
theorem sameStep_ok (x y : XProofStep) : CallF Tryz.prog 168 [.a 5 (encProofStep x), .a 5 (encProofStep y)] (B (eqv x y)) := by
  rw [eqSt]
  refine callF_of_vc htb hm Tryz.func168 rfl rfl rfl rfl (ann := fun _ => none) (gh := fun _ => false) ?_
  repeat' ((conv => whnf); first
    | (guard_target = Done _; refine Done.mk ?_; first | ((simp_all [eqv_ne, normS, normV]; done); done) | skip)
    | (guard_target = RetX _ _; refine RetX.mk ?_ ?_)
    | (guard_target = Fact _ _; refine Fact.mk fun hL => ?_; (try simp only [List.length_map, maxLen] at hL))
    | (guard_target = Branch _ _ _; (first | refine Branch.dec (fun h => ?_) (fun h => ?_) | refine Branch.beq (fun h => ?_) (fun h => ?_) | refine Branch.bne (fun h => ?_) (fun h => ?_) | refine Branch.ndec (fun h => ?_) (fun h => ?_) | refine Branch.nb (fun h => ?_) (fun h => ?_) | refine Branch.mk (fun h => ?_) (fun h => ?_)) <;> (try simp only [List.length_map] at h) <;> (try omega) <;> (try contradiction))
    | (guard_target = CallN _ 110 _ _ _ _; refine CallN.pure _ _ rfl (Equal_ok _ _) rfl _ rfl ?_)
    | (guard_target = CallN _ 191 _ _ _ _; refine CallN.pure _ _ rfl (sameExprs_ok _ _) rfl _ rfl ?_)
    | (guard_target = Arith _ _ _; refine Arith.fit (wrap_fit (by first | omega | (simp only [List.length_map]; omega)) (by first | omega | (simp only [List.length_map]; omega))) ?_)
    | (guard_target = Arith _ _ _; refine Arith.fit (by decide) ?_)
    | (guard_target = Index _ _ _; first  | refine Index.mk _ (idx_map (by omega)) ?_)
    | (guard_target = Need (chkDraw _ = true) _; refine Need.mk (by kernel_rfl) ?_)
    | (guard_target = Need (chkRecs _ _ = true) _; refine Need.mk (by first | kernel_rfl | rfl) ?_)
    | (guard_target = Need _ _; refine Need.mk (by first  | omega | (simp only [List.length_map]; omega)) ?_))
theorem l04SameStep_ok (x y : XProofStep) : CallF Tryz.prog 205 [.c (.rp 5 (encProofStep x)), .c (.rp 5 (encProofStep y))] (B (eqv x y)) := by
  rw [eqSt]
  refine callF_of_vc htb hm Tryz.func205 rfl rfl rfl rfl (ann := fun _ => none) (gh := fun _ => false) ?_
  repeat' ((conv => whnf); first
    | (guard_target = Done _; refine Done.mk ?_; first | ((simp_all [eqv_ne, normS, normV]; done); done) | skip)
    | (guard_target = RetX _ _; refine RetX.mk ?_ ?_)
    | (guard_target = Fact _ _; refine Fact.mk fun hL => ?_; (try simp only [List.length_map, maxLen] at hL))
    | (guard_target = Branch _ _ _; (first | refine Branch.dec (fun h => ?_) (fun h => ?_) | refine Branch.beq (fun h => ?_) (fun h => ?_) | refine Branch.bne (fun h => ?_) (fun h => ?_) | refine Branch.ndec (fun h => ?_) (fun h => ?_) | refine Branch.nb (fun h => ?_) (fun h => ?_) | refine Branch.mk (fun h => ?_) (fun h => ?_)) <;> (try simp only [List.length_map] at h) <;> (try omega) <;> (try contradiction))
    | (guard_target = CallN _ 160 _ _ _ _; refine CallN.pure _ _ rfl (l00Same_ok _ _) rfl _ rfl ?_)
    | (guard_target = CallN _ 214 _ _ _ _; refine CallN.pure _ _ rfl (l04SameList_ok _ _) rfl _ rfl ?_)
    | (guard_target = Arith _ _ _; refine Arith.fit (wrap_fit (by first | omega | (simp only [List.length_map]; omega)) (by first | omega | (simp only [List.length_map]; omega))) ?_)
    | (guard_target = Arith _ _ _; refine Arith.fit (by decide) ?_)
    | (guard_target = Index _ _ _; first  | refine Index.mk _ (idx_map (by omega)) ?_)
    | (guard_target = Need (chkDraw _ = true) _; refine Need.mk (by kernel_rfl) ?_)
    | (guard_target = Need (chkRecs _ _ = true) _; refine Need.mk (by first | kernel_rfl | rfl) ?_)
    | (guard_target = Need _ _; refine Need.mk (by first  | omega | (simp only [List.length_map]; omega)) ?_))
theorem EqualSt_ok (a b : List XProofStep) : CallF Tryz.prog 167 [.c (.ro 5 (a.map encProofStep)), .c (.ro 5 (b.map encProofStep)), .clo 168 []] (B (eqv a b)) := by
  refine callF_of_vc htb hm Tryz.func167 rfl rfl rfl rfl (ann := fun _ => none) (gh := fun _ => false) ?_
  repeat' ((conv => whnf); first
    | (guard_target = Done _; refine Done.mk ?_; first | (exact no_of (eqL_len (by omega)); done) | (exact no_of (eqL_no (i := i) (by omega) (by omega) (eqv_ne h)); done) | (exact yes_of (eqL_end ha.2.1 (by omega) ha.2.2); done) | skip)
    | (guard_target = RetX _ _; refine RetX.mk ?_ ?_)
    | (guard_target =~ LoopE 4 _ _ _ _ _ _; refine LoopE.mk { α := Nat, keep := [1, 2, 15, 16], ov := fun i => [(17, I i)], φ := fun i => i ≤ a.length ∧ a.length = b.length ∧ a.take i = b.take i, μ := fun i => a.length - i } (LoopN.mk (0 : Nat) (by exact ⟨Nat.zero_le _, by omega, rfl⟩) (by (repeat' first | exact trivial | exact rfl | refine ⟨?_, ?_⟩); done) (by (repeat' first | exact trivial | exact rfl | refine ⟨?_, ?_⟩); done) (by (repeat' first | exact trivial | exact rfl | refine ⟨?_, ?_⟩ | (simp only [List.map_append, List.map_cons, List.map_nil]; first | done | rfl)); done) (fun (i : Nat) ha => ?_) (by intro A; first | rfl | (obtain ⟨_, _⟩ := A; rfl) | (obtain ⟨_, _, _⟩ := A; rfl))); have ha : i ≤ a.length ∧ a.length = b.length ∧ a.take i = b.take i := ha)
    | (guard_target = Gh _ _ _ _ _; refine Gh.go ⟨(i + 1 : Nat), (by exact ⟨by show i + 1 ≤ _; omega, ha.2.1, eqL_go (by omega) (by omega) ha.2.2 (eqv_of h)⟩), (by first | (show _ < _; simp only []; omega) | omega | (simp; omega)), (by (repeat' first | exact trivial | exact rfl | refine ⟨?_, ?_⟩); done), (by (repeat' first | exact trivial | exact rfl | refine ⟨?_, ?_⟩); done), (by (repeat' first | exact trivial | exact rfl | refine ⟨?_, ?_⟩ | (simp only [List.map_append, List.map_cons, List.map_nil]; first | done | rfl)); done)⟩)
    | (guard_target = Fact _ _; refine Fact.mk fun hL => ?_; (try simp only [List.length_map, maxLen] at hL))
    | (guard_target = Branch _ _ _; (first | refine Branch.dec (fun h => ?_) (fun h => ?_) | refine Branch.beq (fun h => ?_) (fun h => ?_) | refine Branch.bne (fun h => ?_) (fun h => ?_) | refine Branch.ndec (fun h => ?_) (fun h => ?_) | refine Branch.nb (fun h => ?_) (fun h => ?_) | refine Branch.mk (fun h => ?_) (fun h => ?_)) <;> (try simp only [List.length_map] at h) <;> (try omega) <;> (try contradiction))
    | (guard_target = CallN _ 168 _ _ _ _; refine CallN.pure _ _ rfl (sameStep_ok _ _) rfl _ rfl ?_)
    | (guard_target = Arith _ _ _; refine Arith.fit (wrap_fit (by first | omega | (simp only [List.length_map]; omega)) (by first | omega | (simp only [List.length_map]; omega))) ?_)
    | (guard_target = Arith _ _ _; refine Arith.fit (by decide) ?_)
    | (guard_target = Index _ _ _; first | refine Index.mk _ (idx_map (i := i) (by omega)) ?_ | refine Index.mk _ (idx_map (by omega)) ?_)
    | (guard_target = Need (chkDraw _ = true) _; refine Need.mk (by kernel_rfl) ?_)
    | (guard_target = Need (chkRecs _ _ = true) _; refine Need.mk (by first | kernel_rfl | rfl) ?_)
    | (guard_target = Need _ _; refine Need.mk (by first  | omega | (simp only [List.length_map]; omega)) ?_))
theorem l04SameSteps_ok (a b : List XProofStep) : CallF Tryz.prog 188 [.c (.ro 5 (a.map encProofStep)), .c (.ro 5 (b.map encProofStep))] (B (eqv a b)) := by
  refine callF_of_vc htb hm Tryz.func188 rfl rfl rfl rfl (ann := fun _ => none) (gh := fun _ => false) ?_
  repeat' ((conv => whnf); first
    | (guard_target = Done _; refine Done.mk ?_; first | (exact no_of (eqL_len (by omega)); done) | (exact no_of (eqL_no (i := i) (by omega) (by omega) (eqv_ne h)); done) | (exact yes_of (eqL_end ha.2.1 (by omega) ha.2.2); done) | skip)
    | (guard_target = RetX _ _; refine RetX.mk ?_ ?_)
    | (guard_target =~ LoopE 4 _ _ _ _ _ _; refine LoopE.mk { α := Nat, keep := [0, 1], ov := fun i => [(5, I i)], φ := fun i => i ≤ a.length ∧ a.length = b.length ∧ a.take i = b.take i, μ := fun i => a.length - i } (LoopN.mk (0 : Nat) (by exact ⟨Nat.zero_le _, by omega, rfl⟩) (by (repeat' first | exact trivial | exact rfl | refine ⟨?_, ?_⟩); done) (by (repeat' first | exact trivial | exact rfl | refine ⟨?_, ?_⟩); done) (by (repeat' first | exact trivial | exact rfl | refine ⟨?_, ?_⟩ | (simp only [List.map_append, List.map_cons, List.map_nil]; first | done | rfl)); done) (fun (i : Nat) ha => ?_) (by intro A; first | rfl | (obtain ⟨_, _⟩ := A; rfl) | (obtain ⟨_, _, _⟩ := A; rfl))); have ha : i ≤ a.length ∧ a.length = b.length ∧ a.take i = b.take i := ha)
    | (guard_target = Gh _ _ _ _ _; refine Gh.go ⟨(i + 1 : Nat), (by exact ⟨by show i + 1 ≤ _; omega, ha.2.1, eqL_go (by omega) (by omega) ha.2.2 (eqv_of h)⟩), (by first | (show _ < _; simp only []; omega) | omega | (simp; omega)), (by (repeat' first | exact trivial | exact rfl | refine ⟨?_, ?_⟩); done), (by (repeat' first | exact trivial | exact rfl | refine ⟨?_, ?_⟩); done), (by (repeat' first | exact trivial | exact rfl | refine ⟨?_, ?_⟩ | (simp only [List.map_append, List.map_cons, List.map_nil]; first | done | rfl)); done)⟩)
    | (guard_target = Fact _ _; refine Fact.mk fun hL => ?_; (try simp only [List.length_map, maxLen] at hL))
    | (guard_target = Branch _ _ _; (first | refine Branch.dec (fun h => ?_) (fun h => ?_) | refine Branch.beq (fun h => ?_) (fun h => ?_) | refine Branch.bne (fun h => ?_) (fun h => ?_) | refine Branch.ndec (fun h => ?_) (fun h => ?_) | refine Branch.nb (fun h => ?_) (fun h => ?_) | refine Branch.mk (fun h => ?_) (fun h => ?_)) <;> (try simp only [List.length_map] at h) <;> (try omega) <;> (try contradiction))
    | (guard_target = CallN _ 205 _ _ _ _; refine CallN.pure _ _ rfl (l04SameStep_ok _ _) rfl _ rfl ?_)
    | (guard_target = Arith _ _ _; refine Arith.fit (wrap_fit (by first | omega | (simp only [List.length_map]; omega)) (by first | omega | (simp only [List.length_map]; omega))) ?_)
    | (guard_target = Arith _ _ _; refine Arith.fit (by decide) ?_)
    | (guard_target = Index _ _ _; first | refine Index.mk _ (idx_map (i := i) (by omega)) ?_ | refine Index.mk _ (idx_map (by omega)) ?_)
    | (guard_target = Need (chkDraw _ = true) _; refine Need.mk (by kernel_rfl) ?_)
    | (guard_target = Need (chkRecs _ _ = true) _; refine Need.mk (by first | kernel_rfl | rfl) ?_)
    | (guard_target = Need _ _; refine Need.mk (by first  | omega | (simp only [List.length_map]; omega)) ?_))
/-! ### claims and proofs -/
theorem eqC (x y : XClaim) : eqv x y = (eqv x.left y.left && (eqv x.right y.right && ((x.rule == y.rule) && ((x.ref == y.ref) && eqv x.steps y.steps)))) := by
  cases x; cases y
  refine Bool.eq_iff_iff.2 ?_
  simp
theorem SameExpr_told (x y : XExpr) : CallF Tryz.prog 132 [.a 3 (toldE x), .a 3 (toldE y)] (B (eqv x y)) := by
  have := SameExpr_ok x y
  rwa [encExpr_eq, encExpr_eq] at this
theorem sameClaim_ok (x y : XClaim) : CallF Tryz.prog 146 [.a 9 (encClaim x), .a 9 (encClaim y)] (B (eqv x y)) := by
  rw [eqC]
  refine callF_of_vc htb hm Tryz.func146 rfl rfl rfl rfl (ann := fun _ => none) (gh := fun _ => false) ?_
  repeat' ((conv => whnf); first
    | (guard_target = Done _; refine Done.mk ?_; first | ((simp_all [eqv_ne, normS, normV]; done); done) | skip)
    | (guard_target = RetX _ _; refine RetX.mk ?_ ?_)
    | (guard_target = Fact _ _; refine Fact.mk fun hL => ?_; (try simp only [List.length_map, maxLen] at hL))
    | (guard_target = Branch _ _ _; (first | refine Branch.dec (fun h => ?_) (fun h => ?_) | refine Branch.beq (fun h => ?_) (fun h => ?_) | refine Branch.bne (fun h => ?_) (fun h => ?_) | refine Branch.ndec (fun h => ?_) (fun h => ?_) | refine Branch.nb (fun h => ?_) (fun h => ?_) | refine Branch.mk (fun h => ?_) (fun h => ?_)) <;> (try simp only [List.length_map] at h) <;> (try omega) <;> (try contradiction))
    | (guard_target = CallN _ 167 _ _ _ _; refine CallN.pure _ _ rfl (EqualSt_ok _ _) rfl _ rfl ?_)
    | (guard_target = CallN _ 132 _ _ _ _; (first | refine CallN.pure _ _ rfl (SameExpr_told x.left y.left) rfl _ rfl ?_ | refine CallN.pure _ _ rfl (SameExpr_told x.right y.right) rfl _ rfl ?_))
    | (guard_target = Arith _ _ _; refine Arith.fit (wrap_fit (by first | omega | (simp only [List.length_map]; omega)) (by first | omega | (simp only [List.length_map]; omega))) ?_)
    | (guard_target = Arith _ _ _; refine Arith.fit (by decide) ?_)
    | (guard_target = Index _ _ _; first  | refine Index.mk _ (idx_map (by omega)) ?_)
    | (guard_target = Need (chkDraw _ = true) _; refine Need.mk (by kernel_rfl) ?_)
    | (guard_target = Need (chkRecs _ _ = true) _; refine Need.mk (by first | kernel_rfl | rfl) ?_)
    | (guard_target = Need _ _; refine Need.mk (by first  | omega | (simp only [List.length_map]; omega)) ?_))
theorem EqualC_ok (a b : List XClaim) : CallF Tryz.prog 145 [.c (.ro 9 (a.map encClaim)), .c (.ro 9 (b.map encClaim)), .clo 146 []] (B (eqv a b)) := by
  refine callF_of_vc htb hm Tryz.func145 rfl rfl rfl rfl (ann := fun _ => none) (gh := fun _ => false) ?_
  repeat' ((conv => whnf); first
    | (guard_target = Done _; refine Done.mk ?_; first | (exact no_of (eqL_len (by omega)); done) | (exact no_of (eqL_no (i := i) (by omega) (by omega) (eqv_ne h)); done) | (exact yes_of (eqL_end ha.2.1 (by omega) ha.2.2); done) | skip)
    | (guard_target = RetX _ _; refine RetX.mk ?_ ?_)
    | (guard_target =~ LoopE 4 _ _ _ _ _ _; refine LoopE.mk { α := Nat, keep := [1, 2, 15, 16], ov := fun i => [(17, I i)], φ := fun i => i ≤ a.length ∧ a.length = b.length ∧ a.take i = b.take i, μ := fun i => a.length - i } (LoopN.mk (0 : Nat) (by exact ⟨Nat.zero_le _, by omega, rfl⟩) (by (repeat' first | exact trivial | exact rfl | refine ⟨?_, ?_⟩); done) (by (repeat' first | exact trivial | exact rfl | refine ⟨?_, ?_⟩); done) (by (repeat' first | exact trivial | exact rfl | refine ⟨?_, ?_⟩ | (simp only [List.map_append, List.map_cons, List.map_nil]; first | done | rfl)); done) (fun (i : Nat) ha => ?_) (by intro A; first | rfl | (obtain ⟨_, _⟩ := A; rfl) | (obtain ⟨_, _, _⟩ := A; rfl))); have ha : i ≤ a.length ∧ a.length = b.length ∧ a.take i = b.take i := ha)
    | (guard_target = Gh _ _ _ _ _; refine Gh.go ⟨(i + 1 : Nat), (by exact ⟨by show i + 1 ≤ _; omega, ha.2.1, eqL_go (by omega) (by omega) ha.2.2 (eqv_of h)⟩), (by first | (show _ < _; simp only []; omega) | omega | (simp; omega)), (by (repeat' first | exact trivial | exact rfl | refine ⟨?_, ?_⟩); done), (by (repeat' first | exact trivial | exact rfl | refine ⟨?_, ?_⟩); done), (by (repeat' first | exact trivial | exact rfl | refine ⟨?_, ?_⟩ | (simp only [List.map_append, List.map_cons, List.map_nil]; first | done | rfl)); done)⟩)
    | (guard_target = Fact _ _; refine Fact.mk fun hL => ?_; (try simp only [List.length_map, maxLen] at hL))
    | (guard_target = Branch _ _ _; (first | refine Branch.dec (fun h => ?_) (fun h => ?_) | refine Branch.beq (fun h => ?_) (fun h => ?_) | refine Branch.bne (fun h => ?_) (fun h => ?_) | refine Branch.ndec (fun h => ?_) (fun h => ?_) | refine Branch.nb (fun h => ?_) (fun h => ?_) | refine Branch.mk (fun h => ?_) (fun h => ?_)) <;> (try simp only [List.length_map] at h) <;> (try omega) <;> (try contradiction))
    | (guard_target = CallN _ 146 _ _ _ _; refine CallN.pure _ _ rfl (sameClaim_ok _ _) rfl _ rfl ?_)
    | (guard_target = Arith _ _ _; refine Arith.fit (wrap_fit (by first | omega | (simp only [List.length_map]; omega)) (by first | omega | (simp only [List.length_map]; omega))) ?_)
    | (guard_target = Arith _ _ _; refine Arith.fit (by decide) ?_)
    | (guard_target = Index _ _ _; first | refine Index.mk _ (idx_map (i := i) (by omega)) ?_ | refine Index.mk _ (idx_map (by omega)) ?_)
    | (guard_target = Need (chkDraw _ = true) _; refine Need.mk (by kernel_rfl) ?_)
    | (guard_target = Need (chkRecs _ _ = true) _; refine Need.mk (by first | kernel_rfl | rfl) ?_)
    | (guard_target = Need _ _; refine Need.mk (by first  | omega | (simp only [List.length_map]; omega)) ?_))
theorem eqP (x y : XProof) : eqv x y = ((x.sig.tests == y.sig.tests && x.sig.actions == y.sig.actions) && eqv x.claims y.claims) := by
  obtain ⟨⟨a, b⟩, c⟩ := x
  obtain ⟨⟨a', b'⟩, c'⟩ := y
  refine Bool.eq_iff_iff.2 ?_
  simp
theorem SameProof_ok (x y : XProof) : CallF Tryz.prog 111 [.a 3 (encProof x), .a 3 (encProof y)] (B (eqv x y)) := by
  rw [eqP]
  refine callF_of_vc htb hm Tryz.func111 rfl rfl rfl rfl (ann := fun _ => none) (gh := fun _ => false) ?_
  repeat' ((conv => whnf); first
    | (guard_target = Done _; refine Done.mk ?_; first | ((simp_all [eqv_ne, normS, normV]; done); done) | skip)
    | (guard_target = RetX _ _; refine RetX.mk ?_ ?_)
    | (guard_target = Fact _ _; refine Fact.mk fun hL => ?_; (try simp only [List.length_map, maxLen] at hL))
    | (guard_target = Branch _ _ _; (first | refine Branch.dec (fun h => ?_) (fun h => ?_) | refine Branch.beq (fun h => ?_) (fun h => ?_) | refine Branch.bne (fun h => ?_) (fun h => ?_) | refine Branch.ndec (fun h => ?_) (fun h => ?_) | refine Branch.nb (fun h => ?_) (fun h => ?_) | refine Branch.mk (fun h => ?_) (fun h => ?_)) <;> (try simp only [List.length_map] at h) <;> (try omega) <;> (try contradiction))
    | (guard_target = CallN _ 145 _ _ _ _; refine CallN.pure _ _ rfl (EqualC_ok _ _) rfl _ rfl ?_)
    | (guard_target = Arith _ _ _; refine Arith.fit (wrap_fit (by first | omega | (simp only [List.length_map]; omega)) (by first | omega | (simp only [List.length_map]; omega))) ?_)
    | (guard_target = Arith _ _ _; refine Arith.fit (by decide) ?_)
    | (guard_target = Index _ _ _; first  | refine Index.mk _ (idx_map (by omega)) ?_)
    | (guard_target = Need (chkDraw _ = true) _; refine Need.mk (by kernel_rfl) ?_)
    | (guard_target = Need (chkRecs _ _ = true) _; refine Need.mk (by first | kernel_rfl | rfl) ?_)
    | (guard_target = Need _ _; refine Need.mk (by first  | omega | (simp only [List.length_map]; omega)) ?_))
end Go.Proofs.YtbbaadkgmdkjdaaGreat
