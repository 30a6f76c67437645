/- Contract of the reference's function that looks whether an archive is valid. No conditions. -/
import Derived.Test.YtbbaadkgmdkjdaaGreatYk
namespace Go.Proofs.YtbbaadkgmdkjdaaGreat
open Go Go.KA Go.Proofs
set_option maxHeartbeats 16000000
set_option maxRecDepth 100000
theorem l08Ok_ok (a : XArchive) (hl : budArchive a ≤ 1048576) : CallF Tryz.prog 46 [.c (.rp 4 (encArchive a))] (B (goodArch a)) := by
  have hsb : ∀ i (h : i < a.servers.length), budServer (a.servers.getD i s00) ≤ 1048576 := fun i h => by
    rw [getD_eq h]
    have := budS_mem budServer (List.getElem_mem h)
    simp only [budArchive] at hl
    omega
  have hpb : ∀ i (h : i < a.flying.length), budNote (a.flying.getD i p00).note ≤ 1048576 := fun i h => by
    rw [getD_eq h]
    have := budS_mem budPacket (List.getElem_mem h)
    simp only [budArchive, budPacket] at hl this
    omega
  have hn : ∀ i (h : i < a.servers.length), (a.servers.getD i s00).notes.length ≤ 1048576 := fun i h => by
    have h1 := hsb i h
    have h2 := budS_len budNote (a.servers.getD i s00).notes
    simp only [budServer] at h1
    omega
  have hb : ∀ i, ((a.servers.take i).flatMap XServer.notes).length ≤ 1048576 := fun i => by
    have h1 := flat_len (f := XServer.notes) (g := budServer) (fun s => budS_len budNote s.notes) (a.servers.take i)
    have h2 := bsum_le (f := budServer) a.servers i
    simp only [budArchive, budS] at hl
    omega
  have hf : a.flying.length ≤ 1048576 := by simp only [budArchive, budS] at hl; omega
  refine callF_of_vc htb hm Tryz.func46 rfl rfl rfl rfl (ann := fun _ => none) (gh := fun _ => false) ?_
  repeat' ((conv => whnf); first
    | (guard_target = Done _; refine Done.mk ?_; first | ((refine no_of (arch_no ?_); rintro ⟨g1, g2, g3, g4, g5, g6⟩; first | omega | (rw [g1] at h; cases h; done) | (rw [g2] at h; cases h; done) | (have hi : i < a.servers.length := (by omega); rw [getD_eq hi] at h; rw [all_stop hi h] at g4; cases g4; done) | (rw [all_stop (i := k) (by omega) (pkt_no (by omega) (.inl h))] at g5; cases g5; done) | (rw [all_stop (i := k) (by omega) (pkt_no (by omega) (.inr h))] at g5; cases g5; done)); done) | skip)
    | (guard_target = RetX _ _; refine RetX.mk ?_ ?_)
    | (guard_target =~ LoopE 6 _ _ _ _ _ _; refine LoopE.mk { α := Nat × List XNote, keep := [0, 3], ov := fun ⟨i, R⟩ => [(4, .lw 0), (5, I i)], hv := fun ⟨i, R⟩ => [(0, .row none 92 7 (R.map encNote))], φ := fun ⟨i, R⟩ => i ≤ a.servers.length ∧ (a.servers.take i).all (goodServer a.sig.tests a.sig.actions) = true ∧ R = (a.servers.take i).flatMap XServer.notes, μ := fun ⟨i, R⟩ => a.servers.length - i } (LoopN.mk ((0, []) : Nat × List XNote) (by exact ⟨Nat.zero_le _, rfl, rfl⟩) (by (repeat' first | exact trivial | exact rfl | refine ⟨?_, ?_⟩); done) (by (repeat' first | exact trivial | exact rfl | refine ⟨?_, ?_⟩); done) (by (repeat' first | exact trivial | exact rfl | refine ⟨?_, ?_⟩ | (simp only [List.map_append, List.map_cons, List.map_nil]; first | done | rfl)); done) (fun A ha => ?_) (by intro A; first | rfl | (obtain ⟨_, _⟩ := A; rfl) | (obtain ⟨_, _, _⟩ := A; rfl))); obtain ⟨i, R⟩ := A; have ha : i ≤ a.servers.length ∧ (a.servers.take i).all (goodServer a.sig.tests a.sig.actions) = true ∧ R = (a.servers.take i).flatMap XServer.notes := ha)
    | (guard_target =~ LoopE 12 _ _ _ _ _ _; refine LoopE.mk { α := Nat × List XNote, keep := [0, 3], ov := fun ⟨k, S⟩ => [(4, .lw 0), (6, I k)], hv := fun ⟨k, S⟩ => [(0, .row none 92 7 (S.map encNote))], φ := fun ⟨k, S⟩ => k ≤ a.flying.length ∧ (a.flying.take k).all (goodPkt a.sig.tests a.sig.actions a.servers.length) = true ∧ S = R ++ (a.flying.take k).map XPacket.note, μ := fun ⟨k, S⟩ => a.flying.length - k } (LoopN.mk ((0, R) : Nat × List XNote) (by exact ⟨Nat.zero_le _, rfl, by simp⟩) (by (repeat' first | exact trivial | exact rfl | refine ⟨?_, ?_⟩); done) (by (repeat' first | exact trivial | exact rfl | refine ⟨?_, ?_⟩); done) (by (repeat' first | exact trivial | exact rfl | refine ⟨?_, ?_⟩ | (simp only [List.map_append, List.map_cons, List.map_nil]; first | done | rfl)); done) (fun A ha => ?_) (by intro A; first | rfl | (obtain ⟨_, _⟩ := A; rfl) | (obtain ⟨_, _, _⟩ := A; rfl))); obtain ⟨k, S⟩ := A; have ha : k ≤ a.flying.length ∧ (a.flying.take k).all (goodPkt a.sig.tests a.sig.actions a.servers.length) = true ∧ S = R ++ (a.flying.take k).map XPacket.note := ha)
    | (guard_target = Gh _ _ _ _ _; refine Gh.go ⟨((i + 1, R ++ (a.servers.getD i s00).notes) : Nat × List XNote), (by (have hi : i < a.servers.length := (by omega); rw [getD_eq hi] at h ⊢; refine ⟨hi, all_more hi ha.2.1 h, ?_⟩; show R ++ _ = _; rw [flat_next hi, ha.2.2])), (by first | (show _ < _; simp only []; omega) | omega | (simp; omega)), (by (repeat' first | exact trivial | exact rfl | refine ⟨?_, ?_⟩); done), (by (repeat' first | exact trivial | exact rfl | refine ⟨?_, ?_⟩); done), (by (repeat' first | exact trivial | exact rfl | refine ⟨?_, ?_⟩ | (simp only [List.map_append, List.map_cons, List.map_nil]; first | done | rfl)); done)⟩)
    | (guard_target = Gh _ _ _ _ _; refine Gh.go ⟨((k + 1, S ++ [(a.flying.getD k p00).note]) : Nat × List XNote), (by (have hk : k < a.flying.length := (by omega); refine ⟨hk, all_more hk ha.2.1 (pkt_yes hk h (by assumption)), ?_⟩; show S ++ _ = _; rw [take_map_next hk, ha.2.2, List.append_assoc, getD_eq hk])), (by first | (show _ < _; simp only []; omega) | omega | (simp; omega)), (by (repeat' first | exact trivial | exact rfl | refine ⟨?_, ?_⟩); done), (by (repeat' first | exact trivial | exact rfl | refine ⟨?_, ?_⟩); done), (by (repeat' first | exact trivial | exact rfl | refine ⟨?_, ?_⟩ | (simp only [List.map_append, List.map_cons, List.map_nil]; first | done | rfl)); done)⟩)
    | (guard_target = Fact _ _; refine Fact.mk fun hL => ?_; (try simp only [List.length_map, maxLen] at hL))
    | (guard_target = Branch _ _ _; (first | refine Branch.dec (fun h => ?_) (fun h => ?_) | refine Branch.beq (fun h => ?_) (fun h => ?_) | refine Branch.bne (fun h => ?_) (fun h => ?_) | refine Branch.ndec (fun h => ?_) (fun h => ?_) | refine Branch.nb (fun h => ?_) (fun h => ?_) | refine Branch.mk (fun h => ?_) (fun h => ?_)) <;> (try simp only [List.length_map] at h) <;> (try omega) <;> (try contradiction))
    | (guard_target = CallN _ 101 _ _ _ _; refine CallN.pure _ _ rfl (l01Sig_ok _ _) rfl _ rfl ?_)
    | (guard_target = CallN _ 90 _ _ _ _; refine CallN.pure _ _ rfl (l00In_ok _ _ _) rfl _ rfl ?_)
    | (guard_target = CallN _ 102 _ _ _ _; refine CallN.pure _ _ rfl (l08Server_ok _ _ _ (hsb i (by omega))) rfl _ rfl ?_)
    | (guard_target = CallN _ 103 _ _ _ _; refine CallN.pure _ _ rfl (l08Note_ok _ _ _ (hpb k (by omega))) rfl _ rfl ?_)
    | (guard_target = CallN _ 104 _ _ _ _; refine CallN.pure _ _ rfl (l08Agree_ok S) rfl _ rfl ?_)
    | (guard_target = Arith _ _ _; refine Arith.fit (wrap_fit (by first | omega | (simp only [List.length_map]; omega)) (by first | omega | (simp only [List.length_map]; omega))) ?_)
    | (guard_target = Arith _ _ _; refine Arith.fit (by decide) ?_)
    | (guard_target = Index _ _ _; first | refine Index.mk _ (idx_getD (d := s00) (i := i) (by omega)) ?_ | refine Index.mk _ (idx_getD (d := p00) (i := k) (by omega)) ?_ | refine Index.mk _ (idx_map (by omega)) ?_)
    | (guard_target = Need (chkDraw _ = true) _; refine Need.mk (by kernel_rfl) ?_)
    | (guard_target = Need (chkRecs _ _ = true) _; refine Need.mk (by first | kernel_rfl | rfl) ?_)
    | (guard_target = Need _ _; refine Need.mk (by first | ((have h2 := ha.2.2; have h1 := hb i; simp only [List.length_map, maxLen]; first | (have h3 := hn i (by omega); rw [← h2] at h1; constructor <;> omega) | (have h8 := (‹_ ∧ _ ∧ R = _› : i ≤ _ ∧ _ ∧ R = _).2.2; rw [← h8] at h1; have h4 := congrArg List.length h2; simp only [List.length_append, List.length_map, List.length_take] at h4; simp only [List.length_cons, List.length_nil]; constructor <;> omega))) | omega | (simp only [List.length_map]; omega)) ?_))
  have h7 := (‹_ ∧ _ ∧ R = _› : i ≤ _ ∧ (a.servers.take i).all _ = true ∧ R = _)
  have h8 := h7.2.2
  have h6 := h7.2.1
  have h9 := ha.2.2
  have h5 := ha.2.1
  rw [List.take_of_length_le (show a.servers.length ≤ i by omega)] at h8 h6
  rw [List.take_of_length_le (show a.flying.length ≤ k by omega)] at h9 h5
  have e : S = allN a := by rw [h9, h8]; rfl
  have h4 : goodSig a.sig.tests a.sig.actions = true := by assumption
  have h3 : rng 1 5 a.servers.length = true := by assumption
  have h2 : decide ((a.flying.length : Int) ≤ 12) = true := decide_eq_true (by omega)
  unfold goodArch
  rw [h4, h3, h2, h6, h5, e]
  rfl
end Go.Proofs.YtbbaadkgmdkjdaaGreat
