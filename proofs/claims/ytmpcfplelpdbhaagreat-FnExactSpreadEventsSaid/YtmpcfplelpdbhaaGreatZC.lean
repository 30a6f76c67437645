/- Marks of an archive's memory: their number. No conditions. -/
import Derived.Test.YtmpcfplelpdbhaaGreatZA
import Derived.Test.YtmpcfplelpdbhaaGreatMk2
namespace Go.Proofs.YtmpcfplelpdbhaaGreat
open Go Go.KA Go.Proofs
set_option maxHeartbeats 16000000
set_option maxRecDepth 100000
/-! ### marks -/
mutual
theorem mke_le : ∀ e : XExpr, mkeExpr e ≤ 2 + 2 * budExpr e
  | .mk k n kids => by
    have := mkeS_le kids
    simp only [mkeExpr, budExpr]
    omega
theorem mkeS_le : ∀ l : List XExpr, mkeExprS l ≤ 2 * budExprS l
  | [] => Nat.le_refl _
  | x :: xs => by
    have h1 := mke_le x
    have h2 := mkeS_le xs
    simp only [mkeExprS, budExprS]
    omega
end
theorem bsum_one {α : Type} : ∀ l : List α, bsum one l = l.length
  | [] => rfl
  | x :: xs => by simp only [bsum, one, List.length_cons]; rw [bsum_one xs]; omega
theorem mkeL_le (l : List XExpr) : bsum mkeExpr l ≤ 2 * budS budExpr l := by
  have h := mkeS_le l
  rwa [mkeExprS_eq, budExprS_eq] at h
theorem bsum_up {α : Type} {f g : α → Nat} {c d : Nat} (hf : ∀ x, f x ≤ c + d * g x) (hcd : c ≤ d) (l : List α) : bsum f l ≤ d * budS g l := by
  have h := bsum_mono (l := l) (f := f) (g := fun x => c + d * g x) fun x _ => hf x
  rw [bsum_lin] at h
  have : c * l.length ≤ d * l.length := Nat.mul_le_mul_right _ hcd
  unfold budS
  rw [Nat.mul_add]
  omega
theorem mkeSt_le (s : XProofStep) : mkeProofStep s ≤ 2 + 2 * budProofStep s := by
  have h1 := mkeL_le s.tests
  have h2 := mkeL_le s.acts
  rw [mkeProofStep_eq, bsum_one]
  simp only [budProofStep]
  omega
theorem mkeKids_le (e : XExpr) : bsum mkeExpr e.kids ≤ 2 * budExpr e := by
  have := mke_le e
  rw [mkeExpr_eq] at this
  omega
theorem mkeCl_le (c : XClaim) : mkeClaim c ≤ 6 + 2 * budClaim c := by
  have h1 := mkeKids_le c.left
  have h2 := mkeKids_le c.right
  have h3 := bsum_up (fun s => mkeSt_le s) (Nat.le_refl 2) c.steps
  rw [mkeClaim_eq]
  simp only [budClaim]
  omega
theorem mkeCls_le (l : List XClaim) : bsum mkeClaim l ≤ 6 * budS budClaim l := bsum_up (c := 6) (d := 6) (fun s => by have := mkeCl_le s; omega) (Nat.le_refl 6) l
theorem mkeNo_le (n : XNote) : mkeNote n ≤ 6 + 6 * budNote n := by
  have h := mkeCls_le n.entry.proof.claims
  rw [mkeNote_eq, bsum_one]
  simp only [budNote, budEntry, budProof]
  omega
theorem mkeSe_le (s : XServer) : mkeServer s ≤ 6 + 6 * budServer s := by
  have h := bsum_up (fun s => mkeNo_le s) (Nat.le_refl 6) s.notes
  rw [mkeServer_eq]
  simp only [budServer]
  omega
theorem mkePa_le (p : XPacket) : mkePacket p ≤ 6 + 6 * budPacket p := by
  have h := mkeCls_le p.note.entry.proof.claims
  rw [mkePacket_eq, bsum_one]
  simp only [budPacket, budNote, budEntry, budProof]
  omega
theorem mkArch_le (a : XArchive) (hl : budArchive a ≤ 1048576) : bsum mkeServer a.servers + bsum mkePacket a.flying ≤ 10000000 := by
  have h1 := bsum_up (fun s => mkeSe_le s) (Nat.le_refl 6) a.servers
  have h2 := bsum_up (fun s => mkePa_le s) (Nat.le_refl 6) a.flying
  simp only [budArchive] at hl
  omega
end Go.Proofs.YtmpcfplelpdbhaaGreat

namespace Go.Proofs.YtmpcfplelpdbhaaGreat
open Go Go.KA Go.Proofs
set_option maxHeartbeats 16000000
set_option maxRecDepth 100000
/-! ### marks of numbers -/
def mkI (n : Nat) (k : Int) : List Int := (List.range n).map fun (j : Nat) => k + j
def hfI (l : List Int) (k : Int) (i : Nat) : List Int := mkI i k ++ l.drop i
/-! ### numbers that are picked -/
def selR (n : Nat) (p : Nat → Bool) : List Int := ((List.range n).filter p).map fun (i : Nat) => (i : Int)
abbrev resI (l : List Int) (c : Int) : SV := .tup [.c (.ows 2 1 (l.map eI)), I c]
abbrev encA (a : XArchive) : SV := .a 4 (encArchive a)
abbrev sav (s : XServer) : List XNote := (s.notes.drop (0 : Int).toNat).take (s.saved.toNat - (0 : Int).toNat)
def savedP (a : XArchive) (r : Bool) (id : Int) (i : Nat) : Bool := decide (0 ≤ spotN (sav (a.servers.getD i s00)) r id)
theorem savedB {a : XArchive} (h : GA a) {i : Nat} (hi : i < a.servers.length) : 0 ≤ (a.servers.getD i s00).saved ∧ (a.servers.getD i s00).saved ≤ ((a.servers.getD i s00).notes.length : Int) := by
  have h4 := List.all_eq_true.1 h.2.2.2.1 _ (List.getElem_mem hi)
  rw [getD_eq hi]
  unfold goodServer at h4
  simp only [Bool.and_eq_true] at h4
  exact rng_le h4.2.1
end Go.Proofs.YtmpcfplelpdbhaaGreat
