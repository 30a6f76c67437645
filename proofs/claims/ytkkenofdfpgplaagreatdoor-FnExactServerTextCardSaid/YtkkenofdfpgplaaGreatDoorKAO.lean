/- Contract of the reference's function that looks whether an archive is valid. No conditions. -/
import Derived.Test.YtkkenofdfpgplaaGreatDoorKAN
namespace Go.Proofs.YtkkenofdfpgplaaGreatDoor
open Go Go.KA Go.Proofs
set_option maxHeartbeats 16000000
set_option maxRecDepth 100000
theorem l08Ok_ok (a : XArchive) (hl : budArchive a ≤ 1048576) : CallF Tryz.prog 29 [.c (.rp 4 (encArchive a))] (B (goodArch a)) := by
  have hsb : ∀ i (h : i < a.servers.length), budServer (a.servers.getD i s00) ≤ 1048576 := fun i h => by
    rw [getD_eq h]
    have := budS_mem budServer (List.getElem_mem h)
    simp only [budArchive] at hl
    omega
  have hpb : ∀ i (h : i < a.flying.length), budNote (a.flying.getD i p00).note ≤ 1048576 := fun i h => by
    rw [getD_eq h]
    have := budS_mem budPacket (List.getElem_mem h)
    simp only [budArchive, budPacket] at hl this
    omega
  have hn : ∀ i (h : i < a.servers.length), (a.servers.getD i s00).notes.length ≤ 1048576 := fun i h => by
    have h1 := hsb i h
    have h2 := budS_len budNote (a.servers.getD i s00).notes
    simp only [budServer] at h1
    omega
  have hb : ∀ i, ((a.servers.take i).flatMap XServer.notes).length ≤ 1048576 := fun i => by
    have h1 := flat_len (f := XServer.notes) (g := budServer) (fun s => budS_len budNote s.notes) (a.servers.take i)
    have h2 := bsum_le (f := budServer) a.servers i
    simp only [budArchive, budS] at hl
    omega
  have hf : a.flying.length ≤ 1048576 := by simp only [budArchive, budS] at hl; omega
  refine callF_of_vc htb hm Tryz.func29 rfl rfl rfl rfl (ann := fun _ => none) (gh := fun _ => false) ?_
  repeat' ((conv => whnf); first | (guard_target = Done _; refine Done.mk ?_; first | ((refine no_of (arch_no ?_); rintro ⟨g1, g2, g3, g4, g5, g6⟩; first | omega | (rw [g1] at h; cases h; done) | (rw [g2] at h; cases h; done) | (have hi : i < a.servers.length := (by omega); rw [getD_eq hi] at h; rw [all_stop hi h] at g4; cases g4; done) | (rw [all_stop (i := k) (by omega) (pkt_no (by omega) (.inl h))] at g5; cases g5; done) | (rw [all_stop (i := k) (by omega) (pkt_no (by omega) (.inr h))] at g5; cases g5; done)); done) | skip) | (guard_target = RetX _ _; refine RetX.mk ?_ ?_) | (guard_target =~ LoopE 6 _ _ _ _ _ _; refine LoopE.mk { α := Nat × List XNote, keep := [0, 3], ov := fun ⟨i, R⟩ => [(4, .lw 0), (5, I i)], hv := fun ⟨i, R⟩ => [(0, .row none 54 7 (R.map encNote))], φ := fun ⟨i, R⟩ => i ≤ a.servers.length ∧ (a.servers.take i).all (goodServer a.sig.tests a.sig.actions) = true ∧ R = (a.servers.take i).flatMap XServer.notes, μ := fun ⟨i, R⟩ => a.servers.length - i } (LoopN.mk ((0, []) : Nat × List XNote) (by exact ⟨Nat.zero_le _, rfl, rfl⟩) (by (repeat' ((conv => whnf) <;> (first | exact trivial | refine ⟨?_, ?_⟩ | kernel_rfl))); done) (by (repeat' ((conv => whnf) <;> (first | exact trivial | refine ⟨?_, ?_⟩ | kernel_rfl))); done) (by (repeat' ((conv => whnf) <;> (first | exact trivial | refine ⟨?_, ?_⟩ | exact rfl | (simp only [List.map_append, List.map_cons, List.map_nil, List.map_set]; first | done | rfl)))); done) (fun A ha => ?_) (by intro A; first | rfl | (obtain ⟨_, _⟩ := A; rfl) | (obtain ⟨_, _, _⟩ := A; rfl))); obtain ⟨i, R⟩ := A; have ha : i ≤ a.servers.length ∧ (a.servers.take i).all (goodServer a.sig.tests a.sig.actions) = true ∧ R = (a.servers.take i).flatMap XServer.notes := ha) | (guard_target =~ LoopE 12 _ _ _ _ _ _; refine LoopE.mk { α := Nat × List XNote, keep := [0, 3], ov := fun ⟨k, S⟩ => [(4, .lw 0), (6, I k)], hv := fun ⟨k, S⟩ => [(0, .row none 54 7 (S.map encNote))], φ := fun ⟨k, S⟩ => k ≤ a.flying.length ∧ (a.flying.take k).all (goodPkt a.sig.tests a.sig.actions a.servers.length) = true ∧ S = R ++ (a.flying.take k).map XPacket.note, μ := fun ⟨k, S⟩ => a.flying.length - k } (LoopN.mk ((0, R) : Nat × List XNote) (by exact ⟨Nat.zero_le _, rfl, by simp⟩) (by (repeat' ((conv => whnf) <;> (first | exact trivial | refine ⟨?_, ?_⟩ | kernel_rfl))); done) (by (repeat' ((conv => whnf) <;> (first | exact trivial | refine ⟨?_, ?_⟩ | kernel_rfl))); done) (by (repeat' ((conv => whnf) <;> (first | exact trivial | refine ⟨?_, ?_⟩ | exact rfl | (simp only [List.map_append, List.map_cons, List.map_nil, List.map_set]; first | done | rfl)))); done) (fun A ha => ?_) (by intro A; first | rfl | (obtain ⟨_, _⟩ := A; rfl) | (obtain ⟨_, _, _⟩ := A; rfl))); obtain ⟨k, S⟩ := A; have ha : k ≤ a.flying.length ∧ (a.flying.take k).all (goodPkt a.sig.tests a.sig.actions a.servers.length) = true ∧ S = R ++ (a.flying.take k).map XPacket.note := ha) | (guard_target = Gh _ _ _ _ _; refine Gh.go ⟨((i + 1, R ++ (a.servers.getD i s00).notes) : Nat × List XNote), (by (have hi : i < a.servers.length := (by omega); rw [getD_eq hi] at h ⊢; refine ⟨hi, all_more hi ha.2.1 h, ?_⟩; show R ++ _ = _; rw [flat_next hi, ha.2.2])), (by first | (show _ < _; simp only []; omega) | omega | (simp; omega)), (by (repeat' ((conv => whnf) <;> (first | exact trivial | refine ⟨?_, ?_⟩ | kernel_rfl))); done), (by (repeat' ((conv => whnf) <;> (first | exact trivial | refine ⟨?_, ?_⟩ | kernel_rfl))); done), (by (repeat' ((conv => whnf) <;> (first | exact trivial | refine ⟨?_, ?_⟩ | exact rfl | (simp only [List.map_append, List.map_cons, List.map_nil, List.map_set]; first | done | rfl)))); done)⟩) | (guard_target = Gh _ _ _ _ _; refine Gh.go ⟨((k + 1, S ++ [(a.flying.getD k p00).note]) : Nat × List XNote), (by (have hk : k < a.flying.length := (by omega); refine ⟨hk, all_more hk ha.2.1 (pkt_yes hk h (by assumption)), ?_⟩; show S ++ _ = _; rw [take_map_next hk, ha.2.2, List.append_assoc, getD_eq hk])), (by first | (show _ < _; simp only []; omega) | omega | (simp; omega)), (by (repeat' ((conv => whnf) <;> (first | exact trivial | refine ⟨?_, ?_⟩ | kernel_rfl))); done), (by (repeat' ((conv => whnf) <;> (first | exact trivial | refine ⟨?_, ?_⟩ | kernel_rfl))); done), (by (repeat' ((conv => whnf) <;> (first | exact trivial | refine ⟨?_, ?_⟩ | exact rfl | (simp only [List.map_append, List.map_cons, List.map_nil, List.map_set]; first | done | rfl)))); done)⟩) | (guard_target = Fact _ _; refine Fact.mk fun hL => ?_; (try simp only [List.length_map, maxLen] at hL)) | (guard_target = Branch _ _ _; (first | refine Branch.dec ?_ ?_ | refine Branch.beq ?_ ?_ | refine Branch.bne ?_ ?_ | refine Branch.ndec ?_ ?_ | refine Branch.nb ?_ ?_ | refine Branch.mk ?_ ?_) <;> intro h <;> (try simp only [List.length_map] at h) <;> (try omega) <;> (try contradiction)) | (guard_target = CallN _ 46 _ _ _ _; refine CallN.pure _ _ rfl (l01Sig_ok _ _) rfl _ rfl ?_) | (guard_target = CallN _ 31 _ _ _ _; refine CallN.pure _ _ rfl (l00In_ok _ _ _) rfl _ rfl ?_) | (guard_target = CallN _ 47 _ _ _ _; refine CallN.pure _ _ rfl (l08Server_ok _ _ _ (hsb i (by omega))) rfl _ rfl ?_) | (guard_target = CallN _ 48 _ _ _ _; refine CallN.pure _ _ rfl (l08Note_ok _ _ _ (hpb k (by omega))) rfl _ rfl ?_) | (guard_target = CallN _ 49 _ _ _ _; refine CallN.pure _ _ rfl (l08Agree_ok S) rfl _ rfl ?_) | (guard_target = Arith _ _ _; refine Arith.fit (wrap_fit (by first | omega | (simp only [List.length_map]; omega)) (by first | omega | (simp only [List.length_map]; omega))) ?_) | (guard_target = Arith _ _ _; refine Arith.fit (by decide) ?_) | (guard_target = Index _ _ _; first | refine Index.mk _ (idx_getD (d := s00) (i := i) (by omega)) ?_ | refine Index.mk _ (idx_getD (d := p00) (i := k) (by omega)) ?_ | refine Index.mk _ (idx_map (by omega)) ?_) | (guard_target = Need (_ = true) _; refine Need.mk (by first | kernel_rfl | rfl) ?_) | (guard_target = LinkV _ _ _; first  | refine LinkV.no ?_) | (guard_target = GhO _ _ _ _; refine GhO.go ?_) | (guard_target = Need _ _; refine Need.mk (by first | ((have h2 := ha.2.2; have h1 := hb i; simp only [List.length_map, maxLen]; first | (have h3 := hn i (by omega); rw [← h2] at h1; constructor <;> omega) | (have h8 := (‹_ ∧ _ ∧ R = _› : i ≤ _ ∧ _ ∧ R = _).2.2; rw [← h8] at h1; have h4 := congrArg List.length h2; simp only [List.length_append, List.length_map, List.length_take] at h4; simp only [List.length_cons, List.length_nil]; constructor <;> omega))) | omega | (simp only [List.length_map]; omega)) ?_))
  have h7 := (‹_ ∧ _ ∧ R = _› : i ≤ _ ∧ (a.servers.take i).all _ = true ∧ R = _)
  have h8 := h7.2.2
  have h6 := h7.2.1
  have h9 := ha.2.2
  have h5 := ha.2.1
  rw [List.take_of_length_le (show a.servers.length ≤ i by omega)] at h8 h6
  rw [List.take_of_length_le (show a.flying.length ≤ k by omega)] at h9 h5
  have e : S = allN a := by rw [h9, h8]; rfl
  have h4 : goodSig a.sig.tests a.sig.actions = true := by assumption
  have h3 : rng 1 5 a.servers.length = true := by assumption
  have h2 : decide ((a.flying.length : Int) ≤ 12) = true := decide_eq_true (by omega)
  unfold goodArch
  rw [h4, h3, h2, h6, h5, e]
  rfl
end Go.Proofs.YtkkenofdfpgplaaGreatDoor

namespace Go.Proofs.YtkkenofdfpgplaaGreatDoor
open Go Go.KA Go.Proofs
set_option maxHeartbeats 16000000
set_option maxRecDepth 100000
theorem eqArch_own (a : XArchive) : CallF Tryz.prog 8 [.a 4 (roL (ownArchive a)), .a 4 (roL (ownArchive a))] (B true) := by
  rw [roArchive]
  have := eqArchive_ok a a
  rwa [eqv_self] at this
end Go.Proofs.YtkkenofdfpgplaaGreatDoor

namespace Go.Proofs.YtkkenofdfpgplaaGreatDoor
open Go Go.KA Go.Proofs
set_option maxHeartbeats 16000000
set_option maxRecDepth 100000
/-! ### asking a server -/
def placeB (a : XArchive) (s : Int) : Bool := rng 0 ((a.servers.length : Int) - 1) s
noncomputable def askN (a : XArchive) (s id : Int) : Int := if goodArch a = false then 1 else if placeB a s = false ∨ rng 0 99 id = false then 2 else 0
theorem isPlace_ok (a : XArchive) (s : Int) : CallF Tryz.prog 37 [.a 4 (encArchive a), I s] (B (placeB a s)) := by
  refine callF_of_vc htb hm Tryz.func37 rfl rfl rfl rfl (ann := fun _ => none) (gh := fun _ => false) ?_
  repeat' ((conv => whnf); first | (guard_target = Done _; refine Done.mk ?_; first | ((simp only [List.length_map]; rfl); done) | skip) | (guard_target = RetX _ _; refine RetX.mk ?_ ?_) | (guard_target = Fact _ _; refine Fact.mk fun hL => ?_; (try simp only [List.length_map, maxLen] at hL)) | (guard_target = Branch _ _ _; (first | refine Branch.dec ?_ ?_ | refine Branch.beq ?_ ?_ | refine Branch.bne ?_ ?_ | refine Branch.ndec ?_ ?_ | refine Branch.nb ?_ ?_ | refine Branch.mk ?_ ?_) <;> intro h <;> (try simp only [List.length_map] at h) <;> (try omega) <;> (try contradiction)) | (guard_target = CallN _ 38 _ _ _ _; refine CallN.pure _ _ rfl (within_ok _ _ _) rfl _ rfl ?_) | (guard_target = Arith _ _ _; refine Arith.fit (wrap_fit (by first | omega | (simp only [List.length_map]; omega)) (by first | omega | (simp only [List.length_map]; omega))) ?_) | (guard_target = Arith _ _ _; refine Arith.fit (by decide) ?_) | (guard_target = Index _ _ _; first  | refine Index.mk _ (idx_map (by omega)) ?_) | (guard_target = Need (_ = true) _; refine Need.mk (by first | kernel_rfl | rfl) ?_) | (guard_target = LinkV _ _ _; first  | refine LinkV.no ?_) | (guard_target = GhO _ _ _ _; refine GhO.go ?_) | (guard_target = Need _ _; refine Need.mk (by first  | omega | (simp only [List.length_map]; omega)) ?_))
theorem l08At_ok (a : XArchive) (s : Int) : CallF Tryz.prog 30 [.c (.rp 4 (encArchive a)), I s] (B (placeB a s)) := by
  refine callF_of_vc htb hm Tryz.func30 rfl rfl rfl rfl (ann := fun _ => none) (gh := fun _ => false) ?_
  repeat' ((conv => whnf); first | (guard_target = Done _; refine Done.mk ?_; first | ((simp only [List.length_map]; rfl); done) | skip) | (guard_target = RetX _ _; refine RetX.mk ?_ ?_) | (guard_target = Fact _ _; refine Fact.mk fun hL => ?_; (try simp only [List.length_map, maxLen] at hL)) | (guard_target = Branch _ _ _; (first | refine Branch.dec ?_ ?_ | refine Branch.beq ?_ ?_ | refine Branch.bne ?_ ?_ | refine Branch.ndec ?_ ?_ | refine Branch.nb ?_ ?_ | refine Branch.mk ?_ ?_) <;> intro h <;> (try simp only [List.length_map] at h) <;> (try omega) <;> (try contradiction)) | (guard_target = CallN _ 31 _ _ _ _; refine CallN.pure _ _ rfl (l00In_ok _ _ _) rfl _ rfl ?_) | (guard_target = Arith _ _ _; refine Arith.fit (wrap_fit (by first | omega | (simp only [List.length_map]; omega)) (by first | omega | (simp only [List.length_map]; omega))) ?_) | (guard_target = Arith _ _ _; refine Arith.fit (by decide) ?_) | (guard_target = Index _ _ _; first  | refine Index.mk _ (idx_map (by omega)) ?_) | (guard_target = Need (_ = true) _; refine Need.mk (by first | kernel_rfl | rfl) ?_) | (guard_target = LinkV _ _ _; first  | refine LinkV.no ?_) | (guard_target = GhO _ _ _ _; refine GhO.go ?_) | (guard_target = Need _ _; refine Need.mk (by first  | omega | (simp only [List.length_map]; omega)) ?_))
theorem askServer_ok (a : XArchive) (s id : Int) (hl : budArchive a ≤ 1048576) : CallF Tryz.prog 18 [.a 4 (encArchive a), I s, I id] (I (askN a s id)) := by
  refine callF_of_vc htb hm Tryz.func18 rfl rfl rfl rfl (ann := fun _ => none) (gh := fun _ => false) ?_
  repeat' ((conv => whnf); first | (guard_target = Done _; refine Done.mk ?_; first | ((simp_all [askN, normS, normV]; done); done) | skip) | (guard_target = RetX _ _; refine RetX.mk ?_ ?_) | (guard_target = Fact _ _; refine Fact.mk fun hL => ?_; (try simp only [List.length_map, maxLen] at hL)) | (guard_target = Branch _ _ _; (first | refine Branch.dec ?_ ?_ | refine Branch.beq ?_ ?_ | refine Branch.bne ?_ ?_ | refine Branch.ndec ?_ ?_ | refine Branch.nb ?_ ?_ | refine Branch.mk ?_ ?_) <;> intro h <;> (try simp only [List.length_map] at h) <;> (try omega) <;> (try contradiction)) | (guard_target = CallN _ 36 _ _ _ _; refine CallN.pure _ _ rfl (ValidArchive_ok a hl) rfl _ rfl ?_) | (guard_target = CallN _ 37 _ _ _ _; refine CallN.pure _ _ rfl (isPlace_ok a s) rfl _ rfl ?_) | (guard_target = CallN _ 38 _ _ _ _; refine CallN.pure _ _ rfl (within_ok _ _ _) rfl _ rfl ?_) | (guard_target = Arith _ _ _; refine Arith.fit (wrap_fit (by first | omega | (simp only [List.length_map]; omega)) (by first | omega | (simp only [List.length_map]; omega))) ?_) | (guard_target = Arith _ _ _; refine Arith.fit (by decide) ?_) | (guard_target = Index _ _ _; first  | refine Index.mk _ (idx_map (by omega)) ?_) | (guard_target = Need (_ = true) _; refine Need.mk (by first | kernel_rfl | rfl) ?_) | (guard_target = LinkV _ _ _; first  | refine LinkV.no ?_) | (guard_target = GhO _ _ _ _; refine GhO.go ?_) | (guard_target = Need _ _; refine Need.mk (by first  | omega | (simp only [List.length_map]; omega)) ?_))
theorem l08Asked_ok (a : XArchive) (s id : Int) (hl : budArchive a ≤ 1048576) : CallF Tryz.prog 11 [.c (.rp 4 (encArchive a)), I s, I id] (I (askN a s id)) := by
  refine callF_of_vc htb hm Tryz.func11 rfl rfl rfl rfl (ann := fun _ => none) (gh := fun _ => false) ?_
  repeat' ((conv => whnf); first | (guard_target = Done _; refine Done.mk ?_; first | ((simp_all [askN, normS, normV]; done); done) | skip) | (guard_target = RetX _ _; refine RetX.mk ?_ ?_) | (guard_target = Fact _ _; refine Fact.mk fun hL => ?_; (try simp only [List.length_map, maxLen] at hL)) | (guard_target = Branch _ _ _; (first | refine Branch.dec ?_ ?_ | refine Branch.beq ?_ ?_ | refine Branch.bne ?_ ?_ | refine Branch.ndec ?_ ?_ | refine Branch.nb ?_ ?_ | refine Branch.mk ?_ ?_) <;> intro h <;> (try simp only [List.length_map] at h) <;> (try omega) <;> (try contradiction)) | (guard_target = CallN _ 29 _ _ _ _; refine CallN.pure _ _ rfl (l08Ok_ok a hl) rfl _ rfl ?_) | (guard_target = CallN _ 30 _ _ _ _; refine CallN.pure _ _ rfl (l08At_ok a s) rfl _ rfl ?_) | (guard_target = CallN _ 31 _ _ _ _; refine CallN.pure _ _ rfl (l00In_ok _ _ _) rfl _ rfl ?_) | (guard_target = Arith _ _ _; refine Arith.fit (wrap_fit (by first | omega | (simp only [List.length_map]; omega)) (by first | omega | (simp only [List.length_map]; omega))) ?_) | (guard_target = Arith _ _ _; refine Arith.fit (by decide) ?_) | (guard_target = Index _ _ _; first  | refine Index.mk _ (idx_map (by omega)) ?_) | (guard_target = Need (_ = true) _; refine Need.mk (by first | kernel_rfl | rfl) ?_) | (guard_target = LinkV _ _ _; first  | refine LinkV.no ?_) | (guard_target = GhO _ _ _ _; refine GhO.go ?_) | (guard_target = Need _ _; refine Need.mk (by first  | omega | (simp only [List.length_map]; omega)) ?_))
theorem ask_ok {a : XArchive} {s id : Int} (h : askN a s id = 0) : GA a ∧ placeB a s = true ∧ rng 0 99 id = true := by
  unfold askN at h
  cases hg : goodArch a with
  | false => rw [hg] at h; simp at h
  | true =>
    rw [hg] at h
    refine ⟨(arch_iff a).1 hg, ?_⟩
    cases h1 : placeB a s <;> cases h2 : rng 0 99 id <;> simp_all
end Go.Proofs.YtkkenofdfpgplaaGreatDoor

namespace Go.Proofs.YtkkenofdfpgplaaGreatDoor
open Go Go.KA Go.Proofs
set_option maxHeartbeats 16000000
set_option maxRecDepth 100000
def decB (i : Nat) : ByteArray := if i < 10 then ⟨#[UInt8.ofNat (48 + i)]⟩ else ⟨#[UInt8.ofNat (48 + i / 10), UInt8.ofNat (48 + i % 10)]⟩
theorem decB_size (i : Nat) : (decB i).size ≤ 2 := by
  unfold decB
  split
  · show 1 ≤ 2; omega
  · show 2 ≤ 2; omega
theorem decB_lo {i : Nat} {n : Int} (h : n = 48 + i) (hi : i < 10) : strOfNums [n] = decB i := by
  subst h
  unfold decB
  rw [if_pos hi]
  rfl
theorem decB_hi {i : Nat} {n : Int} (h : n = 48 + ((i % 10 : Nat) : Int)) (hi : 10 ≤ i) (h2 : i < 100) : decB (i / 10) ++ strOfNums [n] = decB i := by
  subst h
  unfold decB
  rw [if_pos (by omega), if_neg (by omega)]
  rfl
theorem wrap_u8 {z : Int} (h0 : 0 ≤ z) (h1 : z < 256) : IntKind.wrap .u8 z = z := by
  show (if (false && decide (z % (256 : Int) ≥ (2 ^ 7 : Int))) = true then z % (256 : Int) - (256 : Int) else z % (256 : Int)) = z
  rw [Bool.false_and, if_neg (by simp)]
  omega
theorem Decimal_lo (i : Nat) (hi : i < 10) : CallF Tryz.prog 12 [I (i : Nat)] (.c (.val (.string (decB i)))) := by
  refine callF_of_vc htb hm Tryz.func12 rfl rfl rfl rfl (ann := fun _ => none) (gh := fun _ => false) ?_
  repeat' ((conv => whnf); first | (guard_target = Done _; refine Done.mk ?_) | (guard_target = RetX _ _; refine RetX.mk ?_ ?_) | (guard_target = Fact _ _; refine Fact.mk fun hL => ?_; (try simp only [List.length_map, maxLen] at hL)) | (guard_target = Branch _ _ _; (first | refine Branch.dec ?_ ?_ | refine Branch.beq ?_ ?_ | refine Branch.bne ?_ ?_ | refine Branch.ndec ?_ ?_ | refine Branch.nb ?_ ?_ | refine Branch.mk ?_ ?_) <;> intro h <;> (try simp only [List.length_map] at h) <;> (try omega) <;> (try contradiction)) | (guard_target = Arith .u8 _ _; refine Arith.fit (wrap_u8 (by omega) (by omega)) ?_) | (guard_target = Arith _ _ _; refine Arith.fit (wrap_fit (by first | omega | (simp only [List.length_map]; omega)) (by first | omega | (simp only [List.length_map]; omega))) ?_) | (guard_target = Arith _ _ _; refine Arith.fit (by decide) ?_) | (guard_target = Index _ _ _; first  | refine Index.mk _ (idx_map (by omega)) ?_) | (guard_target = Need (_ = true) _; refine Need.mk (by first | kernel_rfl | rfl) ?_) | (guard_target = LinkV _ _ _; first  | refine LinkV.no ?_) | (guard_target = GhO _ _ _ _; refine GhO.go ?_) | (guard_target = Need _ _; refine Need.mk (by first  | omega | (simp only [List.length_map]; omega)) ?_))
  show SV.c (.val (.string _)) = _
  rw [decB_lo rfl hi]
theorem Decimal_ok (i : Nat) (hi : i < 100) : CallF Tryz.prog 12 [I (i : Nat)] (.c (.val (.string (decB i)))) := by
  refine callF_of_vc htb hm Tryz.func12 rfl rfl rfl rfl (ann := fun _ => none) (gh := fun _ => false) ?_
  repeat' ((conv => whnf); first | (guard_target = Done _; refine Done.mk ?_) | (guard_target = RetX _ _; refine RetX.mk ?_ ?_) | (guard_target = Fact _ _; refine Fact.mk fun hL => ?_; (try simp only [List.length_map, maxLen] at hL)) | (guard_target = Branch _ _ _; (first | refine Branch.dec ?_ ?_ | refine Branch.beq ?_ ?_ | refine Branch.bne ?_ ?_ | refine Branch.ndec ?_ ?_ | refine Branch.nb ?_ ?_ | refine Branch.mk ?_ ?_) <;> intro h <;> (try simp only [List.length_map] at h) <;> (try omega) <;> (try contradiction)) | (guard_target = CallN _ 12 _ _ _ _; refine CallN.pure _ _ rfl (Decimal_lo (i / 10) (by omega)) rfl _ rfl ?_) | (guard_target = Arith .u8 _ _; refine Arith.fit (wrap_u8 (by omega) (by omega)) ?_) | (guard_target = Arith .i64 (Int.tmod _ _) _; rw [show ((i : Int)).tmod 10 = ((i % 10 : Nat) : Int) from rfl]) | (guard_target = Arith _ (Int.tdiv _ _) _; rw [show ((i : Int)).tdiv 10 = ((i / 10 : Nat) : Int) from rfl]) | (guard_target = Arith .i64 (48 + Int.tmod _ _) _; rw [show ((i : Int)).tmod 10 = ((i % 10 : Nat) : Int) from rfl]) | (guard_target = Need (ByteArray.size _ + _ ≤ _) _; refine Need.mk (by have h1 := decB_size (i / 10); have h2 : (strOfNums [48 + ((i % 10 : Nat) : Int)]).size = 1 := rfl; omega) ?_) | (guard_target = Arith _ _ _; refine Arith.fit (wrap_fit (by first | omega | (simp only [List.length_map]; omega)) (by first | omega | (simp only [List.length_map]; omega))) ?_) | (guard_target = Arith _ _ _; refine Arith.fit (by decide) ?_) | (guard_target = Index _ _ _; first  | refine Index.mk _ (idx_map (by omega)) ?_) | (guard_target = Need (_ = true) _; refine Need.mk (by first | kernel_rfl | rfl) ?_) | (guard_target = LinkV _ _ _; first  | refine LinkV.no ?_) | (guard_target = GhO _ _ _ _; refine GhO.go ?_) | (guard_target = Need _ _; refine Need.mk (by first  | omega | (simp only [List.length_map]; omega)) ?_))
  · show SV.c (.val (.string _)) = _
    rw [decB_hi rfl (by omega) hi]
  · show SV.c (.val (.string _)) = _
    rw [decB_lo rfl (by omega)]
end Go.Proofs.YtkkenofdfpgplaaGreatDoor
