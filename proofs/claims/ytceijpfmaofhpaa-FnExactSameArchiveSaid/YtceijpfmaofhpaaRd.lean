/- Part of a proof engine for functions of the given program: what an operation, a loop and a call compute, symbolically. No conditions. -/
import Derived.Test.YtceijpfmaofhpaaTy
namespace Go.Proofs.Ytceijpfmaofhpaa
open Go Go.KA Go.Proofs
theorem readsI2 (n : Nat) : Reads Try.prog 2 1 eI (fun _ => 0) I64 n := (Reads.int Try.underlying2).map id (fun _ => rfl) (fun _ => Nat.zero_le _) fun _ h => i64ok h
theorem readsSig : ∀ n, Reads Try.prog 29 2 encSig (fun _ => 0) okSig n
  | 0 => Reads.zero
  | n + 1 => (Reads.struct Try.underlying29 (by kernel_rfl) (ReadsF.cons rfl (by kernel_rfl) (readsI2 n) (ReadsF.cons rfl (by kernel_rfl) (readsI2 n) ReadsF.nil))).map (fun p => .mk p.1 p.2.1) (fun p => rfl) (fun _ => Nat.zero_le _) (fun p h => ⟨h.1, h.2.1⟩)
theorem readsIntS : ∀ n, Reads Try.prog 48 1 (fun l : List (Int) => [.ro 1 (l.map eI)]) (fun _ => 0) (fun l => ∀ y ∈ l, I64 y) n
  | 0 => Reads.zero
  | n + 1 => (Reads.slice (sz := 1) (enc := eI) Try.underlying48 (by kernel_rfl) (by decide) (fun _ => rfl) (readsI2 n)).map id (fun _ => rfl) (fun _ => Nat.zero_le _) (fun _ h => h)
theorem readsExpr : ∀ n, Reads Try.prog 76 3 encExpr (fun _ => 0) okExpr n
  | 0 => Reads.zero
  | 1 => (Reads.struct Try.underlying76 (by kernel_rfl) (ReadsF.cons rfl (by kernel_rfl) (readsI2 0) (ReadsF.cons rfl (by kernel_rfl) (readsI2 0) (ReadsF.cons rfl (by kernel_rfl) (Reads.zero : Reads Try.prog 74 1 (fun l : List XExpr => [.ro 3 (l.map encExpr)]) (fun _ => 0) (fun l => ∀ y ∈ l, okExpr y) 0) ReadsF.nil)))).map (fun p => .mk p.1 p.2.1 p.2.2.1) (fun p => by rw [encExpr_eq]; rfl) (fun _ => Nat.zero_le _) (fun p h => .mk h.1 h.2.1 h.2.2.1)
  | n + 2 => (Reads.struct Try.underlying76 (by kernel_rfl) (ReadsF.cons rfl (by kernel_rfl) (readsI2 (n + 1)) (ReadsF.cons rfl (by kernel_rfl) (readsI2 (n + 1)) (ReadsF.cons rfl (by kernel_rfl) ((Reads.slice (sz := 3) (enc := encExpr) Try.underlying74 (by kernel_rfl) (by decide) (fun _ => by rw [encExpr_eq]; rfl) (readsExpr n)).map id (fun _ => rfl) (fun _ => Nat.zero_le _) (fun _ h => h) : Reads Try.prog 74 1 (fun l : List XExpr => [.ro 3 (l.map encExpr)]) (fun _ => 0) (fun l => ∀ y ∈ l, okExpr y) (n + 1)) ReadsF.nil)))).map (fun p => .mk p.1 p.2.1 p.2.2.1) (fun p => by rw [encExpr_eq]; rfl) (fun _ => Nat.zero_le _) (fun p h => .mk h.1 h.2.1 h.2.2.1)
theorem readsExprS : ∀ n, Reads Try.prog 74 1 (fun l : List (XExpr) => [.ro 3 (l.map encExpr)]) (fun _ => 0) (fun l => ∀ y ∈ l, okExpr y) n
  | 0 => Reads.zero
  | n + 1 => (Reads.slice (sz := 3) (enc := encExpr) Try.underlying74 (by kernel_rfl) (by decide) (fun _ => by rw [encExpr_eq]; rfl) (readsExpr n)).map id (fun _ => rfl) (fun _ => Nat.zero_le _) (fun _ h => h)
theorem readsProofStep : ∀ n, Reads Try.prog 324 5 encProofStep (fun _ => 0) okProofStep n
  | 0 => Reads.zero
  | n + 1 => (Reads.struct Try.underlying324 (by kernel_rfl) (ReadsF.cons rfl (by kernel_rfl) (readsI2 n) (ReadsF.cons rfl (by kernel_rfl) (Reads.bool Try.underlying4 (n := n)) (ReadsF.cons rfl (by kernel_rfl) (readsIntS n) (ReadsF.cons rfl (by kernel_rfl) (readsExprS n) (ReadsF.cons rfl (by kernel_rfl) (readsExprS n) ReadsF.nil)))))).map (fun p => .mk p.1 p.2.1 p.2.2.1 p.2.2.2.1 p.2.2.2.2.1) (fun p => rfl) (fun _ => Nat.zero_le _) (fun p h => ⟨h.1, h.2.2.1, h.2.2.2.1, h.2.2.2.2.1⟩)
theorem readsProofStepS : ∀ n, Reads Try.prog 316 1 (fun l : List (XProofStep) => [.ro 5 (l.map encProofStep)]) (fun _ => 0) (fun l => ∀ y ∈ l, okProofStep y) n
  | 0 => Reads.zero
  | n + 1 => (Reads.slice (sz := 5) (enc := encProofStep) Try.underlying316 (by kernel_rfl) (by decide) (fun _ => rfl) (readsProofStep n)).map id (fun _ => rfl) (fun _ => Nat.zero_le _) (fun _ h => h)
theorem readsClaim : ∀ n, Reads Try.prog 318 9 encClaim (fun _ => 0) okClaim n
  | 0 => Reads.zero
  | n + 1 => (Reads.struct Try.underlying318 (by kernel_rfl) (ReadsF.cons rfl (by kernel_rfl) (readsExpr n) (ReadsF.cons rfl (by kernel_rfl) (readsExpr n) (ReadsF.cons rfl (by kernel_rfl) (readsI2 n) (ReadsF.cons rfl (by kernel_rfl) (readsI2 n) (ReadsF.cons rfl (by kernel_rfl) (readsProofStepS n) ReadsF.nil)))))).map (fun p => .mk p.1 p.2.1 p.2.2.1 p.2.2.2.1 p.2.2.2.2.1) (fun p => by simp only [encClaim, encExpr_eq]; rfl) (fun _ => Nat.zero_le _) (fun p h => ⟨h.1, h.2.1, h.2.2.1, h.2.2.2.1, h.2.2.2.2.1⟩)
theorem readsClaimS : ∀ n, Reads Try.prog 206 1 (fun l : List (XClaim) => [.ro 9 (l.map encClaim)]) (fun _ => 0) (fun l => ∀ y ∈ l, okClaim y) n
  | 0 => Reads.zero
  | n + 1 => (Reads.slice (sz := 9) (enc := encClaim) Try.underlying206 (by kernel_rfl) (by decide) (fun _ => rfl) (readsClaim n)).map id (fun _ => rfl) (fun _ => Nat.zero_le _) (fun _ h => h)
theorem readsProof : ∀ n, Reads Try.prog 208 3 encProof (fun _ => 0) okProof n
  | 0 => Reads.zero
  | n + 1 => (Reads.struct Try.underlying208 (by kernel_rfl) (ReadsF.cons rfl (by kernel_rfl) (readsSig n) (ReadsF.cons rfl (by kernel_rfl) (readsClaimS n) ReadsF.nil))).map (fun p => .mk p.1 p.2.1) (fun p => rfl) (fun _ => Nat.zero_le _) (fun p h => ⟨h.1, h.2.1⟩)
theorem readsEntry : ∀ n, Reads Try.prog 210 5 encEntry (fun _ => 0) okEntry n
  | 0 => Reads.zero
  | n + 1 => (Reads.struct Try.underlying210 (by kernel_rfl) (ReadsF.cons rfl (by kernel_rfl) (readsI2 n) (ReadsF.cons rfl (by kernel_rfl) (readsIntS n) (ReadsF.cons rfl (by kernel_rfl) (readsProof n) ReadsF.nil)))).map (fun p => .mk p.1 p.2.1 p.2.2.1) (fun p => rfl) (fun _ => Nat.zero_le _) (fun p h => ⟨h.1, h.2.1, h.2.2.1⟩)
theorem readsNote : ∀ n, Reads Try.prog 212 7 encNote (fun _ => 0) okNote n
  | 0 => Reads.zero
  | n + 1 => (Reads.struct Try.underlying212 (by kernel_rfl) (ReadsF.cons rfl (by kernel_rfl) (Reads.bool Try.underlying4 (n := n)) (ReadsF.cons rfl (by kernel_rfl) (readsI2 n) (ReadsF.cons rfl (by kernel_rfl) (readsEntry n) ReadsF.nil)))).map (fun p => .mk p.1 p.2.1 p.2.2.1) (fun p => rfl) (fun _ => Nat.zero_le _) (fun p h => ⟨h.2.1, h.2.2.1⟩)
theorem readsNoteS : ∀ n, Reads Try.prog 202 1 (fun l : List (XNote) => [.ro 7 (l.map encNote)]) (fun _ => 0) (fun l => ∀ y ∈ l, okNote y) n
  | 0 => Reads.zero
  | n + 1 => (Reads.slice (sz := 7) (enc := encNote) Try.underlying202 (by kernel_rfl) (by decide) (fun _ => rfl) (readsNote n)).map id (fun _ => rfl) (fun _ => Nat.zero_le _) (fun _ h => h)
theorem readsServer : ∀ n, Reads Try.prog 204 3 encServer (fun _ => 0) okServer n
  | 0 => Reads.zero
  | n + 1 => (Reads.struct Try.underlying204 (by kernel_rfl) (ReadsF.cons rfl (by kernel_rfl) (Reads.bool Try.underlying4 (n := n)) (ReadsF.cons rfl (by kernel_rfl) (readsNoteS n) (ReadsF.cons rfl (by kernel_rfl) (readsI2 n) ReadsF.nil)))).map (fun p => .mk p.1 p.2.1 p.2.2.1) (fun p => rfl) (fun _ => Nat.zero_le _) (fun p h => ⟨h.2.1, h.2.2.1⟩)
theorem readsServerS : ∀ n, Reads Try.prog 41 1 (fun l : List (XServer) => [.ro 3 (l.map encServer)]) (fun _ => 0) (fun l => ∀ y ∈ l, okServer y) n
  | 0 => Reads.zero
  | n + 1 => (Reads.slice (sz := 3) (enc := encServer) Try.underlying41 (by kernel_rfl) (by decide) (fun _ => rfl) (readsServer n)).map id (fun _ => rfl) (fun _ => Nat.zero_le _) (fun _ h => h)
theorem readsPacket : ∀ n, Reads Try.prog 214 8 encPacket (fun _ => 0) okPacket n
  | 0 => Reads.zero
  | n + 1 => (Reads.struct Try.underlying214 (by kernel_rfl) (ReadsF.cons rfl (by kernel_rfl) (readsI2 n) (ReadsF.cons rfl (by kernel_rfl) (readsNote n) ReadsF.nil))).map (fun p => .mk p.1 p.2.1) (fun p => rfl) (fun _ => Nat.zero_le _) (fun p h => ⟨h.1, h.2.1⟩)
theorem readsPacketS : ∀ n, Reads Try.prog 42 1 (fun l : List (XPacket) => [.ro 8 (l.map encPacket)]) (fun _ => 0) (fun l => ∀ y ∈ l, okPacket y) n
  | 0 => Reads.zero
  | n + 1 => (Reads.slice (sz := 8) (enc := encPacket) Try.underlying42 (by kernel_rfl) (by decide) (fun _ => rfl) (readsPacket n)).map id (fun _ => rfl) (fun _ => Nat.zero_le _) (fun _ h => h)
theorem readsArchive : ∀ n, Reads Try.prog 44 4 encArchive (fun _ => 0) okArchive n
  | 0 => Reads.zero
  | n + 1 => (Reads.struct Try.underlying44 (by kernel_rfl) (ReadsF.cons rfl (by kernel_rfl) (readsSig n) (ReadsF.cons rfl (by kernel_rfl) (readsServerS n) (ReadsF.cons rfl (by kernel_rfl) (readsPacketS n) ReadsF.nil)))).map (fun p => .mk p.1 p.2.1 p.2.2.1) (fun p => rfl) (fun _ => Nat.zero_le _) (fun p h => ⟨h.1, h.2.1, h.2.2.1⟩)
end Go.Proofs.Ytceijpfmaofhpaa
