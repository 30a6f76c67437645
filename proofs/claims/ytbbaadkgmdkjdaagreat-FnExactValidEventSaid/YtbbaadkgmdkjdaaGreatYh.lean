/- Contracts of the functions that look whether notes and servers are valid, and that compare expressions, proofs and notes. No conditions. -/
import Derived.Test.YtbbaadkgmdkjdaaGreatYg
namespace Go.Proofs.YtbbaadkgmdkjdaaGreat
open Go Go.KA Go.Proofs
set_option maxHeartbeats 16000000
set_option maxRecDepth 100000
def zeroN (e : XEntry) : Bool := (e.id == 0) && (((e.rests.length : Int) == 0) && zeroP e.proof)
theorem isEmptyEntry_ok (e : XEntry) : CallF Tryz.prog 108 [.a 5 (encEntry e)] (B (zeroN e)) := by
  refine callF_of_vc htb hm Tryz.func108 rfl rfl rfl rfl (ann := fun _ => none) (gh := fun _ => false) ?_
  repeat' ((conv => whnf); first
    | (guard_target = Done _; refine Done.mk ?_; first | (rfl; done) | (simp_all [zeroN, normS, normV]; done) | (simp_all [zeroN, normS, normV]; omega; done) | (simp_all [zeroN, normS, normV]; intros; omega; done) | (simp_all [-List.all_eq_true, -List.all_eq_false, zeroN, normS, normV]; done) | (simp_all [-List.all_eq_true, -List.all_eq_false, zeroN, normS, normV]; omega; done) | skip)
    | (guard_target = RetX _ _; refine RetX.mk ?_ ?_)
    | (guard_target = Fact _ _; refine Fact.mk fun hL => ?_; (try simp only [List.length_map, maxLen] at hL))
    | (guard_target = Branch _ _ _; (first | refine Branch.dec (fun h => ?_) (fun h => ?_) | refine Branch.beq (fun h => ?_) (fun h => ?_) | refine Branch.bne (fun h => ?_) (fun h => ?_) | refine Branch.ndec (fun h => ?_) (fun h => ?_) | refine Branch.nb (fun h => ?_) (fun h => ?_) | refine Branch.mk (fun h => ?_) (fun h => ?_)) <;> (try simp only [List.length_map] at h) <;> (try omega) <;> (try contradiction))
    | (guard_target = CallN _ 119 _ _ _ _; refine CallN.pure _ _ rfl (isNoProof_ok e.proof) rfl _ rfl ?_)
    | (guard_target = Arith _ _ _; refine Arith.fit (wrap_fit (by first | omega | (simp only [List.length_map]; omega)) (by first | omega | (simp only [List.length_map]; omega))) ?_)
    | (guard_target = Arith _ _ _; refine Arith.fit (by decide) ?_)
    | (guard_target = Index _ _ _; first  | refine Index.mk _ (idx_map (by omega)) ?_)
    | (guard_target = Need (chkDraw _ = true) _; refine Need.mk (by kernel_rfl) ?_)
    | (guard_target = Need (chkRecs _ _ = true) _; refine Need.mk (by first | kernel_rfl | rfl) ?_)
    | (guard_target = Need _ _; refine Need.mk (by first  | omega | (simp only [List.length_map]; omega)) ?_))
def goodNote (t a : Int) (n : XNote) : Bool := rng 0 99 n.id && (if n.revoke = true then zeroN n.entry else (n.entry.id == n.id) && goodEntry t a n.entry.rests n.entry.proof)
theorem isNote_ok (t a : Int) (n : XNote) (hl : budNote n ≤ 1048576) : CallF Tryz.prog 53 [.a 2 [J t, J a], .a 7 (encNote n)] (B (goodNote t a n)) := by
  have hp : budProof n.entry.proof ≤ 1048576 := by simp only [budNote, budEntry] at hl; omega
  refine callF_of_vc htb hm Tryz.func53 rfl rfl rfl rfl (ann := fun _ => none) (gh := fun _ => false) ?_
  repeat' ((conv => whnf); first
    | (guard_target = Done _; refine Done.mk ?_; first | (rfl; done) | (simp_all [goodNote, normS, normV]; done) | (simp_all [goodNote, normS, normV]; omega; done) | (simp_all [goodNote, normS, normV]; intros; omega; done) | (simp_all [-List.all_eq_true, -List.all_eq_false, goodNote, normS, normV]; done) | (simp_all [-List.all_eq_true, -List.all_eq_false, goodNote, normS, normV]; omega; done) | skip)
    | (guard_target = RetX _ _; refine RetX.mk ?_ ?_)
    | (guard_target = Fact _ _; refine Fact.mk fun hL => ?_; (try simp only [List.length_map, maxLen] at hL))
    | (guard_target = Branch _ _ _; (first | refine Branch.dec (fun h => ?_) (fun h => ?_) | refine Branch.beq (fun h => ?_) (fun h => ?_) | refine Branch.bne (fun h => ?_) (fun h => ?_) | refine Branch.ndec (fun h => ?_) (fun h => ?_) | refine Branch.nb (fun h => ?_) (fun h => ?_) | refine Branch.mk (fun h => ?_) (fun h => ?_)) <;> (try simp only [List.length_map] at h) <;> (try omega) <;> (try contradiction))
    | (guard_target = CallN _ 51 _ _ _ _; refine CallN.pure _ _ rfl (within_ok _ _ _) rfl _ rfl ?_)
    | (guard_target = CallN _ 108 _ _ _ _; refine CallN.pure _ _ rfl (isEmptyEntry_ok n.entry) rfl _ rfl ?_)
    | (guard_target = CallN _ 109 _ _ _ _; refine CallN.pure _ _ rfl (isEntry_ok t a n.entry.rests n.entry.proof hp) rfl _ rfl ?_)
    | (guard_target = Arith _ _ _; refine Arith.fit (wrap_fit (by first | omega | (simp only [List.length_map]; omega)) (by first | omega | (simp only [List.length_map]; omega))) ?_)
    | (guard_target = Arith _ _ _; refine Arith.fit (by decide) ?_)
    | (guard_target = Index _ _ _; first  | refine Index.mk _ (idx_map (by omega)) ?_)
    | (guard_target = Need (chkDraw _ = true) _; refine Need.mk (by kernel_rfl) ?_)
    | (guard_target = Need (chkRecs _ _ = true) _; refine Need.mk (by first | kernel_rfl | rfl) ?_)
    | (guard_target = Need _ _; refine Need.mk (by first  | omega | (simp only [List.length_map]; omega)) ?_))
theorem l08Note_ok (t a : Int) (n : XNote) (hl : budNote n ≤ 1048576) : CallF Tryz.prog 103 [.a 2 [J t, J a], .c (.rp 7 (encNote n))] (B (goodNote t a n)) := by
  have hp : budProof n.entry.proof ≤ 1048576 := by simp only [budNote, budEntry] at hl; omega
  refine callF_of_vc htb hm Tryz.func103 rfl rfl rfl rfl (ann := fun _ => none) (gh := fun _ => false) ?_
  repeat' ((conv => whnf); first
    | (guard_target = Done _; refine Done.mk ?_; first | (rfl; done) | (simp_all [goodNote, normS, normV]; done) | (simp_all [goodNote, normS, normV]; omega; done) | (simp_all [goodNote, normS, normV]; intros; omega; done) | (simp_all [-List.all_eq_true, -List.all_eq_false, goodNote, normS, normV]; done) | (simp_all [-List.all_eq_true, -List.all_eq_false, goodNote, normS, normV]; omega; done) | (rfl; done) | (simp_all [goodNote, zeroN, normS, normV]; done) | (simp_all [goodNote, zeroN, normS, normV]; omega; done) | (simp_all [goodNote, zeroN, normS, normV]; intros; omega; done) | (simp_all [-List.all_eq_true, -List.all_eq_false, goodNote, zeroN, normS, normV]; done) | (simp_all [-List.all_eq_true, -List.all_eq_false, goodNote, zeroN, normS, normV]; omega; done) | skip)
    | (guard_target = RetX _ _; refine RetX.mk ?_ ?_)
    | (guard_target = Fact _ _; refine Fact.mk fun hL => ?_; (try simp only [List.length_map, maxLen] at hL))
    | (guard_target = Branch _ _ _; (first | refine Branch.dec (fun h => ?_) (fun h => ?_) | refine Branch.beq (fun h => ?_) (fun h => ?_) | refine Branch.bne (fun h => ?_) (fun h => ?_) | refine Branch.ndec (fun h => ?_) (fun h => ?_) | refine Branch.nb (fun h => ?_) (fun h => ?_) | refine Branch.mk (fun h => ?_) (fun h => ?_)) <;> (try simp only [List.length_map] at h) <;> (try omega) <;> (try contradiction))
    | (guard_target = CallN _ 90 _ _ _ _; refine CallN.pure _ _ rfl (l00In_ok _ _ _) rfl _ rfl ?_)
    | (guard_target = CallN _ 117 _ _ _ _; refine CallN.pure _ _ rfl (l08Empty_ok n.entry.proof) rfl _ rfl ?_)
    | (guard_target = CallN _ 116 _ _ _ _; refine CallN.pure _ _ rfl (l08Rests_ok t a n.entry.rests n.entry.proof hp) rfl _ rfl ?_)
    | (guard_target = Arith _ _ _; refine Arith.fit (wrap_fit (by first | omega | (simp only [List.length_map]; omega)) (by first | omega | (simp only [List.length_map]; omega))) ?_)
    | (guard_target = Arith _ _ _; refine Arith.fit (by decide) ?_)
    | (guard_target = Index _ _ _; first  | refine Index.mk _ (idx_map (by omega)) ?_)
    | (guard_target = Need (chkDraw _ = true) _; refine Need.mk (by kernel_rfl) ?_)
    | (guard_target = Need (chkRecs _ _ = true) _; refine Need.mk (by first | kernel_rfl | rfl) ?_)
    | (guard_target = Need _ _; refine Need.mk (by first  | omega | (simp only [List.length_map]; omega)) ?_))
/-! ### servers -/
abbrev n0 : XNote := ⟨false, 0, ⟨0, [], ⟨⟨0, 0⟩, []⟩⟩⟩
def noteAt (t a : Int) (l : List XNote) (i : Nat) : Bool := goodNote t a (l.getD i n0) && (decide (spotN (l.take i) (l.getD i n0).revoke (l.getD i n0).id < 0) && knows (l.take i) (l.getD i n0).entry.rests)
def allR (n : Nat) (p : Nat → Bool) : Bool := (List.range n).all p
theorem allR_next {n : Nat} {p : Nat → Bool} (h : allR n p = true) (hp : p n = true) : allR (n + 1) p = true := by
  unfold allR at h ⊢
  rw [List.range_succ, List.all_append, h]
  simp [hp]
theorem allR_no {n i : Nat} {p : Nat → Bool} (hi : i < n) (hp : p i = false) : allR n p = false := by
  unfold allR
  rw [List.all_eq_false]
  exact ⟨i, by simp [hi], by simp [hp]⟩
theorem allR_get {n i : Nat} {p : Nat → Bool} (h : allR n p = true) (hi : i < n) : p i = true := by
  unfold allR at h
  rw [List.all_eq_true] at h
  exact h i (by simp [hi])
def goodNotes (t a : Int) (l : List XNote) : Bool := allR l.length (noteAt t a l)
def goodServer (t a : Int) (s : XServer) : Bool :=
  decide ((s.notes.length : Int) ≤ 20) && (rng 0 s.notes.length s.saved && ((s.up || s.saved == s.notes.length) && goodNotes t a s.notes))
theorem server_no {t a : Int} {s : XServer} {i : Nat} (hi : i < s.notes.length) (h : noteAt t a s.notes i = false) : goodServer t a s = false := by
  unfold goodServer goodNotes
  rw [allR_no hi h]
  simp
theorem noteAt_no {t a : Int} {l : List XNote} {i : Nat} (h : ¬ (goodNote t a (l.getD i n0) = true ∧ spotN (l.take i) (l.getD i n0).revoke (l.getD i n0).id < 0 ∧ knows (l.take i) (l.getD i n0).entry.rests = true)) : noteAt t a l i = false := by
  cases hb : noteAt t a l i with
  | false => rfl
  | true =>
    unfold noteAt at hb
    simp only [Bool.and_eq_true, decide_eq_true_eq] at hb
    exact absurd hb h
theorem noteAt_yes {t a : Int} {l : List XNote} {i : Nat} (h1 : goodNote t a (l.getD i n0) = true) (h2 : ¬ spotN (l.take i) (l.getD i n0).revoke (l.getD i n0).id ≥ 0) (h3 : knows (l.take i) (l.getD i n0).entry.rests = true) : noteAt t a l i = true := by
  unfold noteAt
  rw [h1, h3, decide_eq_true (by omega)]
  rfl
theorem isServer_ok (t a : Int) (s : XServer) (hl : budServer s ≤ 1048576) : CallF Tryz.prog 52 [.a 2 [J t, J a], .a 3 (encServer s)] (B (goodServer t a s)) := by
  have hn : ∀ i, i < s.notes.length → budNote (s.notes.getD i n0) ≤ 1048576 := fun i h => by
    rw [getD_eq h]
    have := budS_mem budNote (List.getElem_mem h)
    simp only [budServer] at hl
    omega
  refine callF_of_vc htb hm Tryz.func52 rfl rfl rfl rfl (ann := fun _ => none) (gh := fun _ => false) ?_
  repeat' ((conv => whnf); first
    | (guard_target = Done _; refine Done.mk ?_; first | (rfl; done) | (simp_all [goodServer, normS, normV]; done) | (simp_all [goodServer, normS, normV]; omega; done) | (simp_all [goodServer, normS, normV]; intros; omega; done) | (simp_all [-List.all_eq_true, -List.all_eq_false, goodServer, normS, normV]; done) | (simp_all [-List.all_eq_true, -List.all_eq_false, goodServer, normS, normV]; omega; done) | ((simp only [cut_pre] at *; refine no_of (server_no (i := i) (by omega) (noteAt_no ?_)); rintro ⟨g1, g2, g3⟩; first | omega | (rw [g1] at h; cases h) | (rw [g3] at h; cases h)); done) | ((refine yes_of ?_; have e : i = s.notes.length := (by omega); rw [e] at ha; have h9 : goodNotes t a s.notes = true := ha.2; clear ha; simp_all [goodServer]); done) | skip)
    | (guard_target = RetX _ _; refine RetX.mk ?_ ?_)
    | (guard_target =~ LoopE 5 _ _ _ _ _ _; refine LoopE.mk { α := Nat, keep := [2, 3, 32, 33], ov := fun i => [(34, I i)], φ := fun i => i ≤ s.notes.length ∧ allR i (noteAt t a s.notes) = true, μ := fun i => s.notes.length - i } (LoopN.mk (0 : Nat) (by exact ⟨Nat.zero_le _, rfl⟩) (by (repeat' first | exact trivial | exact rfl | refine ⟨?_, ?_⟩); done) (by (repeat' first | exact trivial | exact rfl | refine ⟨?_, ?_⟩); done) (by (repeat' first | exact trivial | exact rfl | refine ⟨?_, ?_⟩ | (simp only [List.map_append, List.map_cons, List.map_nil]; first | done | rfl)); done) (fun (i : Nat) ha => ?_) (by intro A; first | rfl | (obtain ⟨_, _⟩ := A; rfl) | (obtain ⟨_, _, _⟩ := A; rfl))); have ha : i ≤ s.notes.length ∧ allR i (noteAt t a s.notes) = true := ha)
    | (guard_target = Gh _ _ _ _ _; refine Gh.go ⟨(i + 1 : Nat), (by (simp only [cut_pre] at *; exact ⟨by show i + 1 ≤ _; omega, allR_next ha.2 (noteAt_yes ‹_› ‹_› h)⟩)), (by first | (show _ < _; simp only []; omega) | omega | (simp; omega)), (by (repeat' first | exact trivial | exact rfl | refine ⟨?_, ?_⟩); done), (by (repeat' first | exact trivial | exact rfl | refine ⟨?_, ?_⟩); done), (by (repeat' first | exact trivial | exact rfl | refine ⟨?_, ?_⟩ | (simp only [List.map_append, List.map_cons, List.map_nil]; first | done | rfl)); done)⟩)
    | (guard_target = Fact _ _; refine Fact.mk fun hL => ?_; (try simp only [List.length_map, maxLen] at hL))
    | (guard_target = Branch _ _ _; (first | refine Branch.dec (fun h => ?_) (fun h => ?_) | refine Branch.beq (fun h => ?_) (fun h => ?_) | refine Branch.bne (fun h => ?_) (fun h => ?_) | refine Branch.ndec (fun h => ?_) (fun h => ?_) | refine Branch.nb (fun h => ?_) (fun h => ?_) | refine Branch.mk (fun h => ?_) (fun h => ?_)) <;> (try simp only [List.length_map] at h) <;> (try omega) <;> (try contradiction))
    | (guard_target = CallN _ 51 _ _ _ _; refine CallN.pure _ _ rfl (within_ok _ _ _) rfl _ rfl ?_)
    | (guard_target = CallN _ 53 _ _ _ _; refine CallN.pure _ _ rfl (isNote_ok t a _ (hn i (by omega))) rfl _ rfl ?_)
    | (guard_target = CallN _ 71 _ _ _ _; refine CallN.pure _ _ rfl (find_cut s.notes 0 i _ _) rfl _ rfl ?_)
    | (guard_target = CallN _ 107 _ _ _ _; refine CallN.pure _ _ rfl (knowsAll_cut s.notes 0 i _) rfl _ rfl ?_)
    | (guard_target = Arith _ _ _; refine Arith.fit (wrap_fit (by first | omega | (simp only [List.length_map]; omega)) (by first | omega | (simp only [List.length_map]; omega))) ?_)
    | (guard_target = Arith _ _ _; refine Arith.fit (by decide) ?_)
    | (guard_target = Index _ _ _; first | refine Index.mk _ (idx_getD (d := n0) (i := i) (by omega)) ?_ | refine Index.mk _ (idx_map (by omega)) ?_)
    | (guard_target = Need (chkDraw _ = true) _; refine Need.mk (by kernel_rfl) ?_)
    | (guard_target = Need (chkRecs _ _ = true) _; refine Need.mk (by first | kernel_rfl | rfl) ?_)
    | (guard_target = Need _ _; refine Need.mk (by first  | omega | (simp only [List.length_map]; omega)) ?_))
theorem l08Server_ok (t a : Int) (s : XServer) (hl : budServer s ≤ 1048576) : CallF Tryz.prog 102 [.a 2 [J t, J a], .c (.rp 3 (encServer s))] (B (goodServer t a s)) := by
  have hn : ∀ i, i < s.notes.length → budNote (s.notes.getD i n0) ≤ 1048576 := fun i h => by
    rw [getD_eq h]
    have := budS_mem budNote (List.getElem_mem h)
    simp only [budServer] at hl
    omega
  refine callF_of_vc htb hm Tryz.func102 rfl rfl rfl rfl (ann := fun _ => none) (gh := fun _ => false) ?_
  repeat' ((conv => whnf); first
    | (guard_target = Done _; refine Done.mk ?_; first | (rfl; done) | (simp_all [goodServer, normS, normV]; done) | (simp_all [goodServer, normS, normV]; omega; done) | (simp_all [goodServer, normS, normV]; intros; omega; done) | (simp_all [-List.all_eq_true, -List.all_eq_false, goodServer, normS, normV]; done) | (simp_all [-List.all_eq_true, -List.all_eq_false, goodServer, normS, normV]; omega; done) | ((simp only [cut_pre] at *; refine no_of (server_no (i := i) (by omega) (noteAt_no ?_)); rintro ⟨g1, g2, g3⟩; first | omega | (rw [g1] at h; cases h) | (rw [g3] at h; cases h)); done) | ((refine yes_of ?_; have e : i = s.notes.length := (by omega); rw [e] at ha; have h9 : goodNotes t a s.notes = true := ha.2; clear ha; simp_all [goodServer]); done) | skip)
    | (guard_target = RetX _ _; refine RetX.mk ?_ ?_)
    | (guard_target =~ LoopE 5 _ _ _ _ _ _; refine LoopE.mk { α := Nat, keep := [1, 2], ov := fun i => [(6, I i)], φ := fun i => i ≤ s.notes.length ∧ allR i (noteAt t a s.notes) = true, μ := fun i => s.notes.length - i } (LoopN.mk (0 : Nat) (by exact ⟨Nat.zero_le _, rfl⟩) (by (repeat' first | exact trivial | exact rfl | refine ⟨?_, ?_⟩); done) (by (repeat' first | exact trivial | exact rfl | refine ⟨?_, ?_⟩); done) (by (repeat' first | exact trivial | exact rfl | refine ⟨?_, ?_⟩ | (simp only [List.map_append, List.map_cons, List.map_nil]; first | done | rfl)); done) (fun (i : Nat) ha => ?_) (by intro A; first | rfl | (obtain ⟨_, _⟩ := A; rfl) | (obtain ⟨_, _, _⟩ := A; rfl))); have ha : i ≤ s.notes.length ∧ allR i (noteAt t a s.notes) = true := ha)
    | (guard_target = Gh _ _ _ _ _; refine Gh.go ⟨(i + 1 : Nat), (by (simp only [cut_pre] at *; exact ⟨by show i + 1 ≤ _; omega, allR_next ha.2 (noteAt_yes ‹_› ‹_› h)⟩)), (by first | (show _ < _; simp only []; omega) | omega | (simp; omega)), (by (repeat' first | exact trivial | exact rfl | refine ⟨?_, ?_⟩); done), (by (repeat' first | exact trivial | exact rfl | refine ⟨?_, ?_⟩); done), (by (repeat' first | exact trivial | exact rfl | refine ⟨?_, ?_⟩ | (simp only [List.map_append, List.map_cons, List.map_nil]; first | done | rfl)); done)⟩)
    | (guard_target = Fact _ _; refine Fact.mk fun hL => ?_; (try simp only [List.length_map, maxLen] at hL))
    | (guard_target = Branch _ _ _; (first | refine Branch.dec (fun h => ?_) (fun h => ?_) | refine Branch.beq (fun h => ?_) (fun h => ?_) | refine Branch.bne (fun h => ?_) (fun h => ?_) | refine Branch.ndec (fun h => ?_) (fun h => ?_) | refine Branch.nb (fun h => ?_) (fun h => ?_) | refine Branch.mk (fun h => ?_) (fun h => ?_)) <;> (try simp only [List.length_map] at h) <;> (try omega) <;> (try contradiction))
    | (guard_target = CallN _ 90 _ _ _ _; refine CallN.pure _ _ rfl (l00In_ok _ _ _) rfl _ rfl ?_)
    | (guard_target = CallN _ 103 _ _ _ _; refine CallN.pure _ _ rfl (l08Note_ok t a _ (hn i (by omega))) rfl _ rfl ?_)
    | (guard_target = CallN _ 69 _ _ _ _; refine CallN.pure _ _ rfl (l08Spot_cut s.notes 0 i _ _) rfl _ rfl ?_)
    | (guard_target = CallN _ 139 _ _ _ _; refine CallN.pure _ _ rfl (l08All_cut s.notes 0 i _) rfl _ rfl ?_)
    | (guard_target = Arith _ _ _; refine Arith.fit (wrap_fit (by first | omega | (simp only [List.length_map]; omega)) (by first | omega | (simp only [List.length_map]; omega))) ?_)
    | (guard_target = Arith _ _ _; refine Arith.fit (by decide) ?_)
    | (guard_target = Index _ _ _; first | refine Index.mk _ (idx_getD (d := n0) (i := i) (by omega)) ?_ | refine Index.mk _ (idx_map (by omega)) ?_)
    | (guard_target = Need (chkDraw _ = true) _; refine Need.mk (by kernel_rfl) ?_)
    | (guard_target = Need (chkRecs _ _ = true) _; refine Need.mk (by first | kernel_rfl | rfl) ?_)
    | (guard_target = Need _ _; refine Need.mk (by first  | omega | (simp only [List.length_map]; omega)) ?_))
end Go.Proofs.YtbbaadkgmdkjdaaGreat
