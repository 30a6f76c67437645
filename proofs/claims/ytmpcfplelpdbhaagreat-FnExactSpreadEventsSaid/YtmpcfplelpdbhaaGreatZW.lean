/- Contracts of what revokes: the program's and the reference's function. Conditions: the archive's shape. -/
import Derived.Test.YtmpcfplelpdbhaaGreatZV
import Derived.Test.YtmpcfplelpdbhaaGreatZC
namespace Go.Proofs.YtmpcfplelpdbhaaGreat
open Go Go.KA Go.Proofs
set_option maxHeartbeats 16000000
set_option maxRecDepth 100000
structure WA (a : XArchive) : Prop where
  n5 : 1 ≤ a.servers.length ∧ a.servers.length ≤ 5
  f12 : a.flying.length ≤ 12
  sv : ∀ i, i < a.servers.length → (a.servers.getD i s00).notes.length ≤ 20 ∧ 0 ≤ (a.servers.getD i s00).saved ∧ (a.servers.getD i s00).saved ≤ ((a.servers.getD i s00).notes.length : Int)
  bn : ∀ i, i < a.servers.length → ∀ n ∈ (a.servers.getD i s00).notes, budNote n ≤ 1048576
  pk : ∀ i, i < a.flying.length → 0 ≤ (a.flying.getD i p00).to0 ∧ (a.flying.getD i p00).to0 < (a.servers.length : Int) ∧ budNote (a.flying.getD i p00).note ≤ 1048576
structure EA (e : XEvent) : Prop where
  ra : 0 ≤ e.a ∧ e.a ≤ 999
  rb : 0 ≤ e.b ∧ e.b ≤ 999
  rc : 0 ≤ e.c ∧ e.c ≤ 999
  bl : e.rests.length + budProof e.proof + e.votes.length ≤ 1048576
theorem set_back {l : List XServer} {i : Nat} {x y : List CV} (hi : i < l.length) (hy : y = softS (l.getD i s00)) : ((l.map softS).set i x).set i y = l.map softS := by
  rw [List.set_set, hy, getD_eq hi, ← List.map_set, List.set_getElem_self]
theorem set_upd {l : List XServer} {i : Nat} {x y : List CV} {s : XServer} (hy : y = softS s) : ((l.map softS).set i x).set i y = (l.set i s).map softS := by
  rw [List.set_set, hy, List.map_set]
theorem set_upd1 {l : List XServer} {i : Nat} {y : List CV} {s : XServer} (hy : y = softS s) : (l.map softS).set i y = (l.set i s).map softS := by
  rw [hy, List.map_set]
theorem softL_refl : ∀ l : List (List CV), SoftL l l
  | [] => .nil
  | r :: rs => .cons (SoftC.refl r) (softL_refl rs)
theorem softL_set {x y : List CV} (h : SoftC x y) : ∀ {l : List (List CV)} {i : Nat}, SoftL (l.set i x) (l.set i y)
  | [], _ => .nil
  | r :: rs, 0 => .cons h (softL_refl rs)
  | r :: rs, i + 1 => .cons (SoftC.refl r) (softL_set h)
theorem soft_back {l : List XServer} {i : Nat} {x y : List CV} (hi : i < l.length) (hy : y = softS (l.getD i s00)) : SoftL (((l.map softS).set i x).set i y) (l.map softS) := by
  rw [set_back hi hy]
  exact softL_refl _
theorem roLL_snoc {l : List XNote} {r : List CV} {n : XNote} (h : roL r = encNote n) : roLL (l.map encNote ++ [r]) = (l ++ [n]).map encNote := by
  have h1 := roLL_enc l
  rw [roLL_map] at h1 ⊢
  rw [List.map_append, h1, List.map_append]
  refine congrArg _ ?_
  show [r.map roC] = [encNote n]
  rw [← h, roL_map]
abbrev FA (a : XArchive) (R : List (List CV)) : Option (List CV) := some [CV.op [J a.sig.tests, J a.sig.actions, CV.own 127 3 R, CV.ows 210 8 (a.flying.map encPacket)]]
section
variable {a : XArchive} {e : XEvent}
end
end Go.Proofs.YtmpcfplelpdbhaaGreat

namespace Go.Proofs.YtmpcfplelpdbhaaGreat
open Go Go.KA Go.Proofs
set_option maxHeartbeats 16000000
set_option maxRecDepth 100000
abbrev viewA (a : XArchive) : List CV := [J a.sig.tests, J a.sig.actions, .ro 3 (roLL (a.servers.map softS)), .ro 8 (a.flying.map encPacket)]
theorem viewA_eq (a : XArchive) : viewA a = encArchive a := by
  unfold viewA
  rw [roLL_softS]
  rfl
theorem l08At_soft (a : XArchive) (s : Int) : CallF Tryz.prog 229 [.c (.rp 4 (viewA a)), I s] (B (placeB a s)) := by
  rw [viewA_eq]
  exact l08At_ok a s
theorem isPlace_soft (a : XArchive) (s : Int) : CallF Tryz.prog 195 [.a 4 (viewA a), I s] (B (placeB a s)) := by
  rw [viewA_eq]
  exact isPlace_ok a s
end Go.Proofs.YtmpcfplelpdbhaaGreat

namespace Go.Proofs.YtmpcfplelpdbhaaGreat
open Go Go.KA Go.Proofs
set_option maxHeartbeats 16000000
set_option maxRecDepth 100000
section
variable {a : XArchive} {e : XEvent}
end
end Go.Proofs.YtmpcfplelpdbhaaGreat
