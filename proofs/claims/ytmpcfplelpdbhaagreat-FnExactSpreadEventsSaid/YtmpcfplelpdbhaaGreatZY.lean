/- Contracts of what takes in and what removes a packet: the program's and the reference's functions. Conditions: the archive's shape. -/
import Derived.Test.YtmpcfplelpdbhaaGreatZX
import Derived.Test.YtmpcfplelpdbhaaGreatZD
namespace Go.Proofs.YtmpcfplelpdbhaaGreat
open Go Go.KA Go.Proofs
set_option maxHeartbeats 16000000
set_option maxRecDepth 100000
theorem drop_rows {l : List XPacket} {z h : Int} (hz : 0 ≤ z) (hl : z + 1 < (l.length : Int)) :
    [] ++ ((l.map encPacket).drop (0 : Int).toNat).take (z.toNat - (0 : Int).toNat) ++ ((l.map encPacket).drop (z + 1).toNat).take ((((l.map encPacket).length : Nat) : Int).toNat - (z + 1).toNat) = (l.take z.toNat ++ l.drop (z.toNat + 1)).map encPacket := by
  rw [show (z + 1).toNat = z.toNat + 1 by omega, List.take_of_length_le (l := (l.map encPacket).drop (z.toNat + 1)) (by simp), List.map_append, List.map_take, List.map_drop]
  simp
theorem drop_rows1 {l : List XPacket} {z h : Int} (hz : 0 ≤ z) (hl : z + 1 = (l.length : Int)) :
    [] ++ ((l.map encPacket).drop (0 : Int).toNat).take (z.toNat - (0 : Int).toNat) ++ [] = (l.take z.toNat ++ l.drop (z.toNat + 1)).map encPacket := by
  rw [List.drop_of_length_le (l := l) (i := z.toNat + 1) (by omega), List.append_nil, List.append_nil, List.map_take]
  simp
theorem drp_2 {a : XArchive} {i : Int} (h : i ≥ (a.flying.length : Int)) : doDrop a i = (2, a) := if_pos h
theorem drp_0 {a : XArchive} {i : Int} (h : ¬ i ≥ (a.flying.length : Int)) : doDrop a i = (0, ⟨a.sig, a.servers, a.flying.take i.toNat ++ a.flying.drop (i.toNat + 1)⟩) := if_neg h
section
variable {a : XArchive} {i : Int}
abbrev sP (a : XArchive) (i : Int) : XServer := a.servers.getD (a.flying.getD i.toNat p00).to0.toNat s00
abbrev pP (a : XArchive) (i : Int) : XPacket := a.flying.getD i.toNat p00
theorem tk_2 (h : i ≥ (a.flying.length : Int)) : doTake a i = (2, a) := if_pos h
theorem tk_w0 (h : ¬ i ≥ (a.flying.length : Int)) (hw : wants a (pktA a i) = false) : doTake a i = (0, a) := by
  unfold doTake
  rw [if_neg h, if_pos hw]
theorem wt_a (h : (sP a i).up = false) : wants a (pktA a i) = false := by
  unfold wants
  rw [show (sA a (pktA a i).to0).up = false from h]
  rfl
theorem wt_b (h : ¬ spotN (sP a i).notes (pP a i).note.revoke (pP a i).note.id < 0) : wants a (pktA a i) = false := by
  unfold wants
  rw [decide_eq_false (show ¬ spotN (sA a (pktA a i).to0).notes (pktA a i).note.revoke (pktA a i).note.id < 0 from h)]
  simp
theorem wt_c (h : knows (sP a i).notes (pP a i).note.entry.rests = false) : wants a (pktA a i) = false := by
  unfold wants
  rw [show knows (sA a (pktA a i).to0).notes (pktA a i).note.entry.rests = false from h]
  simp
theorem wt_y (h1 : (sP a i).up = true) (h2 : spotN (sP a i).notes (pP a i).note.revoke (pP a i).note.id < 0) (h3 : knows (sP a i).notes (pP a i).note.entry.rests = true) : ¬ wants a (pktA a i) = false := by
  unfold wants
  rw [show (sA a (pktA a i).to0).up = true from h1, decide_eq_true (show spotN (sA a (pktA a i).to0).notes (pktA a i).note.revoke (pktA a i).note.id < 0 from h2), show knows (sA a (pktA a i).to0).notes (pktA a i).note.entry.rests = true from h3]
  decide
theorem tk_3 (h : ¬ i ≥ (a.flying.length : Int)) (h1 : (sP a i).up = true) (h2 : spotN (sP a i).notes (pP a i).note.revoke (pP a i).note.id < 0) (h3 : knows (sP a i).notes (pP a i).note.entry.rests = true) (h4 : (sP a i).notes.length = 20) : doTake a i = (3, a) := by
  unfold doTake
  rw [if_neg h, if_neg (wt_y h1 h2 h3), if_pos h4]
theorem tk_0 (h : ¬ i ≥ (a.flying.length : Int)) (h1 : (sP a i).up = true) (h2 : spotN (sP a i).notes (pP a i).note.revoke (pP a i).note.id < 0) (h3 : knows (sP a i).notes (pP a i).note.entry.rests = true) (h4 : ¬ (sP a i).notes.length = 20) : doTake a i = (0, setS a (pP a i).to0 (addN (sP a i) (pP a i).note)) := by
  unfold doTake
  rw [if_neg h, if_neg (wt_y h1 h2 h3), if_neg h4]
end
theorem Delete_int (l : List XPacket) (z : Int) (hz : 0 ≤ z) (hi : z < (l.length : Int)) : CallX Tryz.prog 194 [.c (.ows 210 8 (l.map encPacket)), I z, I (z + 1)] [] (.c (.ows 210 8 ((l.take z.toNat ++ l.drop (z.toNat + 1)).map encPacket))) := by
  have h := Delete_ok l z.toNat (by omega)
  rwa [show ((z.toNat : Nat) : Int) = z by omega] at h
theorem dlv {a : XArchive} {i : Int} (h : (doTake a i).1 = 0) : doDeliver a i = doDrop (doTake a i).2 i := if_pos h
theorem dlv_n {a : XArchive} {i : Int} (h : ¬ (doTake a i).1 = 0) : doDeliver a i = ((doTake a i).1, a) := if_neg h
def doDC (a : XArchive) (e : XEvent) : Int × XArchive := if e.kind = 4 then doDeliver a e.a else doTake a e.a
theorem dc_2 {a : XArchive} {e : XEvent} (h : e.a ≥ (a.flying.length : Int)) : doDC a e = (2, a) := by
  unfold doDC
  split
  · rw [dlv_n (by rw [tk_2 h]; show ¬ (2 : Int) = 0; decide), tk_2 h]
  · exact tk_2 h
theorem dc_3 {a : XArchive} {e : XEvent} (h : doTake a e.a = (3, a)) : doDC a e = (3, a) := by
  unfold doDC
  split
  · rw [dlv_n (by rw [h]; show ¬ (3 : Int) = 0; decide), h]
  · exact h
theorem dc_d {a b : XArchive} {e : XEvent} (hk : e.kind = 4) (h : doTake a e.a = (0, b)) (hl : e.a < (b.flying.length : Int)) : doDC a e = (0, ⟨b.sig, b.servers, b.flying.take e.a.toNat ++ b.flying.drop (e.a.toNat + 1)⟩) := by
  unfold doDC
  rw [if_pos hk, dlv (by rw [h]), h, drp_0 (by simp only; omega)]
theorem dc_k {a b : XArchive} {e : XEvent} (hk : ¬ e.kind = 4) (h : doTake a e.a = (0, b)) : doDC a e = (0, b) := by
  unfold doDC
  rw [if_neg hk, h]
abbrev FC (a : XArchive) (R S : List (List CV)) : Option (List CV) := some [CV.op [J a.sig.tests, J a.sig.actions, CV.own 127 3 R, CV.ows 210 8 S]]
end Go.Proofs.YtmpcfplelpdbhaaGreat

namespace Go.Proofs.YtmpcfplelpdbhaaGreat
open Go Go.KA Go.Proofs
set_option maxHeartbeats 16000000
set_option maxRecDepth 100000
section
variable (a : XArchive) (e : XEvent) (hw : WA a) (he : EA e)
include hw he
section
variable (hp : placeB a e.a = true)
include hp
end
end
end Go.Proofs.YtmpcfplelpdbhaaGreat

namespace Go.Proofs.YtmpcfplelpdbhaaGreat
open Go Go.KA Go.Proofs
set_option maxHeartbeats 16000000
set_option maxRecDepth 100000
theorem tk_map {n : Nat} {l : List XNote} : (l.map encNote).take (n - Int.toNat 0) = (l.take n).map encNote := List.map_take.symm
section
variable {a : XArchive} {e : XEvent}
theorem sv_4 (h : (sA a e.a).up = (e.kind == 9)) : doSave a e = (4, a) := if_pos h
theorem sv_7 (h : ¬ (sA a e.a).up = (e.kind == 9)) (h7 : e.kind = 7) : doSave a e = (0, setS a e.a ⟨(sA a e.a).up, (sA a e.a).notes, ((sA a e.a).notes.length : Nat)⟩) := (if_neg h).trans (if_pos h7)
theorem sv_8 (h : ¬ (sA a e.a).up = (e.kind == 9)) (h8 : e.kind = 8) : doSave a e = (0, setS a e.a ⟨false, (sA a e.a).notes.take (sA a e.a).saved.toNat, (sA a e.a).saved⟩) := (if_neg h).trans ((if_neg (by omega)).trans (if_pos h8))
theorem sv_9 (h : ¬ (sA a e.a).up = (e.kind == 9)) (h7 : ¬ e.kind = 7) (h8 : ¬ e.kind = 8) : doSave a e = (0, setS a e.a ⟨true, (sA a e.a).notes, (sA a e.a).saved⟩) := (if_neg h).trans ((if_neg h7).trans (if_neg h8))
end
section
variable (a : XArchive) (e : XEvent) (hw : WA a) (he : EA e)
include hw he
section
variable (hp : placeB a e.a = true)
include hp
end
end
end Go.Proofs.YtmpcfplelpdbhaaGreat
