/- Plain laws: an event keeps an archive's shape; the shape of what is valid. No conditions. -/
import Derived.Test.YtmpcfplelpdbhaaGreatZZ
import Derived.Test.YtmpcfplelpdbhaaGreatZC
namespace Go.Proofs.YtmpcfplelpdbhaaGreat
open Go Go.KA Go.Proofs
set_option maxRecDepth 100000
structure SA (s : XServer) : Prop where
  n20 : s.notes.length ≤ 20
  sav : 0 ≤ s.saved ∧ s.saved ≤ (s.notes.length : Int)
  bn : ∀ n ∈ s.notes, budNote n ≤ 1048576
theorem WA.srv {a : XArchive} (hw : WA a) {i : Nat} (hi : i < a.servers.length) : SA (a.servers.getD i s00) := ⟨(hw.sv i hi).1, (hw.sv i hi).2, hw.bn i hi⟩
theorem getD_set {l : List XServer} {i k : Nat} {s : XServer} (hk : k < l.length) : (l.set i s).getD k s00 = if i = k then s else l.getD k s00 := by
  rw [getD_eq (by rw [List.length_set]; exact hk), List.getElem_set, getD_eq hk]
theorem WA.set {a : XArchive} (hw : WA a) (i : Int) {s : XServer} (hs : SA s) : WA (setS a i s) := by
  have hl : (a.servers.set i.toNat s).length = a.servers.length := List.length_set
  refine ⟨?_, hw.f12, fun k hk => ?_, fun k hk => ?_, fun k hk => ?_⟩
  · show 1 ≤ (a.servers.set i.toNat s).length ∧ (a.servers.set i.toNat s).length ≤ 5
    rw [hl]; exact hw.n5
  · have hk' : k < a.servers.length := hl ▸ hk
    show ((a.servers.set i.toNat s).getD k s00).notes.length ≤ 20 ∧ 0 ≤ ((a.servers.set i.toNat s).getD k s00).saved ∧ ((a.servers.set i.toNat s).getD k s00).saved ≤ (((a.servers.set i.toNat s).getD k s00).notes.length : Int)
    rw [getD_set hk']
    split
    · exact ⟨hs.n20, hs.sav⟩
    · exact hw.sv k hk'
  · have hk' : k < a.servers.length := hl ▸ hk
    show ∀ n ∈ ((a.servers.set i.toNat s).getD k s00).notes, budNote n ≤ 1048576
    rw [getD_set hk']
    split
    · exact hs.bn
    · exact hw.bn k hk'
  · have := hw.pk k hk
    show 0 ≤ (a.flying.getD k p00).to0 ∧ (a.flying.getD k p00).to0 < ((a.servers.set i.toNat s).length : Int) ∧ budNote (a.flying.getD k p00).note ≤ 1048576
    rw [hl]; exact this
theorem SA.add {s : XServer} (h : SA s) (hn : ¬ s.notes.length = 20) {n : XNote} (hb : budNote n ≤ 1048576) : SA (addN s n) := by
  have h1 := h.n20
  have h2 := h.sav
  refine ⟨?_, ?_, fun x hx => ?_⟩
  · show (s.notes ++ [n]).length ≤ 20
    rw [List.length_append]; simp only [List.length_singleton]; omega
  · show 0 ≤ s.saved ∧ s.saved ≤ ((s.notes ++ [n]).length : Int)
    rw [List.length_append]; simp only [List.length_singleton]; omega
  · rcases List.mem_append.1 hx with hx | hx
    · exact h.bn x hx
    · rw [List.mem_singleton.1 hx]; exact hb
theorem WA.fly {a : XArchive} (hw : WA a) {l : List XPacket} (hl : l.length ≤ 12) (h : ∀ p ∈ l, 0 ≤ p.to0 ∧ p.to0 < (a.servers.length : Int) ∧ budNote p.note ≤ 1048576) : WA ⟨a.sig, a.servers, l⟩ := by
  refine ⟨hw.n5, hl, hw.sv, hw.bn, fun i hi => ?_⟩
  show 0 ≤ (l.getD i p00).to0 ∧ (l.getD i p00).to0 < (a.servers.length : Int) ∧ budNote (l.getD i p00).note ≤ 1048576
  rw [getD_eq hi]
  exact h _ (List.getElem_mem hi)
theorem WA.mem {a : XArchive} (hw : WA a) {p : XPacket} (hp : p ∈ a.flying) : 0 ≤ p.to0 ∧ p.to0 < (a.servers.length : Int) ∧ budNote p.note ≤ 1048576 := by
  obtain ⟨i, hi, rfl⟩ := List.mem_iff_getElem.1 hp
  have := hw.pk i hi
  rwa [getD_eq hi] at this
theorem WA.drop {a : XArchive} (hw : WA a) (i : Int) : WA (doDrop a i).2 := by
  have h12 := hw.f12
  unfold doDrop
  split
  · exact hw
  · refine hw.fly ?_ fun p hp => ?_
    · rw [List.length_append, List.length_take, List.length_drop]; omega
    · rcases List.mem_append.1 hp with hp | hp
      · exact hw.mem (List.mem_of_mem_take hp)
      · exact hw.mem (List.mem_of_mem_drop hp)
theorem WA.take {a : XArchive} (hw : WA a) {i : Int} (hi : 0 ≤ i) : WA (doTake a i).2 := by
  unfold doTake
  repeat' split
  · exact hw
  · exact hw
  · exact hw
  · have hp := hw.pk i.toNat (by omega)
    exact hw.set _ ((hw.srv (i := (pktA a i).to0.toNat) (by show (a.flying.getD i.toNat p00).to0.toNat < _; omega)).add (by assumption) hp.2.2)
theorem bud_put {a : XArchive} {e : XEvent} (he : EA e) : budNote (putN a e) ≤ 1048576 := by
  have := he.bl
  show e.rests.length + budProof e.proof ≤ 1048576
  omega
theorem bud_rev (e : XEvent) : budNote (revN e) ≤ 1048576 := by
  have : budNote (revN e) = 0 := rfl
  omega
theorem WA.step {a : XArchive} (hw : WA a) {e : XEvent} (he : EA e) : WA (doA a e).2 := by
  have hz := he.ra.1
  have hc := he.rc.1
  unfold doA
  split
  · unfold doDeliver
    split
    · exact (hw.take hz).drop _
    · exact hw
  split
  · exact hw.take hz
  split
  · exact hw.drop _
  split
  · exact hw
  have hp : placeB a e.a = true := by cases hb : placeB a e.a with
    | true => rfl
    | false => contradiction
  have hpl : e.a.toNat < a.servers.length := by have := rng_le hp; have := hw.n5; omega
  have hs : SA (sA a e.a) := hw.srv hpl
  split
  · unfold doPut
    repeat' split
    · exact hw
    · exact hw
    · exact hw
    · refine hw.set _ (hs.add ?_ (bud_put he))
      rename_i h
      intro h20
      exact h (by rw [decide_eq_true h20]; rfl)
  split
  · unfold doRevoke
    repeat' split
    · exact hw
    · exact hw
    · exact hw
    · exact hw.set _ (hs.add (by assumption) (bud_rev e))
  split
  · unfold doSend
    repeat' split
    · exact hw
    · exact hw
    · exact hw
    · have hf := hw.f12
      rename_i h1 h2 h3
      simp only [Bool.or_eq_true, Bool.not_eq_true', decide_eq_true_eq, not_or, Bool.not_eq_false] at h1
      have hb := rng_le h1.1
      refine hw.fly (by rw [List.length_append]; simp only [List.length_singleton]; omega) fun p hp => ?_
      rcases List.mem_append.1 hp with hp | hp
      · exact hw.mem hp
      · rw [List.mem_singleton.1 hp]
        have hn : e.c.toNat < (sA a e.a).notes.length := by omega
        refine ⟨hb.1, by show e.b < _; omega, ?_⟩
        show budNote ((sA a e.a).notes.getD e.c.toNat n0) ≤ 1048576
        rw [getD_eq hn]
        exact hs.bn _ (List.getElem_mem hn)
  have h1 := hs.n20
  have h2 := hs.sav
  unfold doSave
  repeat' split
  · exact hw
  · exact hw.set _ ⟨h1, ⟨by show (0 : Int) ≤ ((sA a e.a).notes.length : Nat); omega, Int.le_refl _⟩, hs.bn⟩
  · refine hw.set _ ⟨?_, ?_, fun n hn => hs.bn n (List.mem_of_mem_take hn)⟩
    · show ((sA a e.a).notes.take _).length ≤ 20
      rw [List.length_take]; omega
    · show 0 ≤ (sA a e.a).saved ∧ (sA a e.a).saved ≤ (((sA a e.a).notes.take (sA a e.a).saved.toNat).length : Int)
      rw [List.length_take]; omega
  · exact hw.set _ ⟨h1, h2, hs.bn⟩
theorem WA.ca {a : XArchive} (hw : WA a) : CA a := by
  have h5 := hw.n5
  have h12 := hw.f12
  refine ⟨by omega, by omega, fun i hi => ?_, fun i hi k hk => ?_, fun i hi => (hw.pk i hi).2.2⟩
  · have := (hw.sv i hi).1; omega
  · rw [getD_eq hk]
    exact hw.bn i hi _ (List.getElem_mem hk)
theorem WA.of {a : XArchive} (hg : GA a) (hb : budArchive a ≤ 1048576) : WA a := by
  have hc := CA.of hb
  have h5 := rng_le hg.2.1
  have h12 := hg.2.2.1
  refine ⟨by omega, by omega, fun i hi => ⟨?_, savedB hg hi⟩, fun i hi n hn => ?_, fun i hi => ?_⟩
  · have h4 := List.all_eq_true.1 hg.2.2.2.1 _ (List.getElem_mem hi)
    rw [getD_eq hi]
    unfold goodServer at h4
    simp only [Bool.and_eq_true, decide_eq_true_eq] at h4
    omega
  · obtain ⟨k, hk, rfl⟩ := List.mem_iff_getElem.1 hn
    have := hc.bn i hi k hk
    rwa [getD_eq hk] at this
  · have h := List.all_eq_true.1 hg.2.2.2.2.1 _ (List.getElem_mem hi)
    unfold goodPkt at h
    simp only [Bool.and_eq_true] at h
    have h1 := rng_le h.1
    have h2 := hc.bp i hi
    rw [getD_eq hi] at h2 ⊢
    exact ⟨h1.1, by omega, h2⟩
theorem EA.of {t c : Int} {e : XEvent} (hg : goodEvent t c e = true) (hb : budEvent e ≤ 1048576) : EA e ∧ (1 ≤ e.kind ∧ e.kind ≤ 9) := by
  unfold goodEvent at hg
  simp only [Bool.and_eq_true] at hg
  exact ⟨⟨rng_le hg.2.1, rng_le hg.2.2.1, rng_le hg.2.2.2.1, hb⟩, rng_le hg.1⟩
end Go.Proofs.YtmpcfplelpdbhaaGreat

namespace Go.Proofs.YtmpcfplelpdbhaaGreat
open Go Go.KA Go.Proofs
set_option maxHeartbeats 16000000
set_option maxRecDepth 100000
theorem pureL_srv (s : XServer) : pureL (ownServer s) := ⟨trivial, pureLL_of pureL_note s.notes, trivial, trivial⟩
theorem pureL_pkt (p : XPacket) : pureL (ownPacket p) := ⟨trivial, pureL_note p.note⟩
theorem pureL_arch (a : XArchive) : pureL (ownArchive a) := ⟨trivial, trivial, pureLL_of pureL_srv a.servers, pureLL_of pureL_pkt a.flying, trivial⟩
theorem pure_arch (a : XArchive) : pureT (.a 4 (ownArchive a)) := fun x hx => pureL_iff.1 (pureL_arch a) x hx
theorem softL_srv (l : List XServer) : SoftL (l.map ownServer) (l.map softS) := SoftL.map (fun s => by
  refine .same ?_
  have h : SoftC [.own 136 7 (s.notes.map ownNote), J s.saved] [.ows 136 7 (roLL (s.notes.map ownNote)), J s.saved] := .ows (.same .nil)
  rw [roLL_of roNote] at h
  exact h) l
theorem softB_pkt (o : Option Value) (l : List XPacket) : SoftB (.orow o 210 8 (l.map ownPacket)) (.row o 210 8 (l.map encPacket)) := by
  have h : SoftB (.orow o 210 8 (l.map ownPacket)) (.row o 210 8 (roLL (l.map ownPacket))) := .row
  rwa [roLL_of roPacket] at h
abbrev zA : XArchive := ⟨⟨0, 0⟩, [], []⟩
def stepO (a : XArchive) (e : XEvent) : Int × XArchive := if (doA a e).1 = 0 then doA a e else ((doA a e).1, zA)
end Go.Proofs.YtmpcfplelpdbhaaGreat

namespace Go.Proofs.YtmpcfplelpdbhaaGreat
open Go Go.KA Go.Proofs
set_option maxHeartbeats 16000000
set_option maxRecDepth 100000
noncomputable def stepA (a : XArchive) (e : XEvent) : Int × XArchive := if goodVE a e = true then stepO a e else (1, zA)
end Go.Proofs.YtmpcfplelpdbhaaGreat

namespace Go.Proofs.YtmpcfplelpdbhaaGreat
open Go Go.KA Go.Proofs
set_option maxHeartbeats 16000000
set_option maxRecDepth 100000
/-! ### sizes -/
theorem toArchive_enc (a : XArchive) (hl : budArchive a ≤ 1048576) : CallX Tryz.prog 21 [.a 4 (encArchive a)] [] (.a 4 (encArchive a)) :=
  (toArchive_ok a hl).soft (.v (.a (by rw [← roArchive]; exact SoftN.roL _)))
end Go.Proofs.YtmpcfplelpdbhaaGreat
