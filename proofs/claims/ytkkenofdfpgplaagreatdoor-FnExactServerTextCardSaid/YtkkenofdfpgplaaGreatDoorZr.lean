/- Each argument of the laws' types is read as a value. No conditions. -/
import Derived.Test.YtkkenofdfpgplaaGreatDoorTy
import Derived.Test.YtkkenofdfpgplaaGreatDoorEngV
namespace Go.Proofs.YtkkenofdfpgplaaGreatDoor
open Go Go.KA Go.Proofs
theorem readsI2 (n : Nat) : Reads Tryz.prog 2 1 eI (fun _ => 0) I64 n := (Reads.int Tryz.underlying2).map id (fun _ => rfl) (fun _ => Nat.zero_le _) fun _ h => i64ok h
theorem readsSig : ∀ n, Reads Tryz.prog 23 2 encSig (fun _ => 0) okSig n
  | 0 => Reads.zero
  | n + 1 => (Reads.struct Tryz.underlying23 (by kernel_rfl) (ReadsF.cons rfl (by kernel_rfl) (readsI2 n) (ReadsF.cons rfl (by kernel_rfl) (readsI2 n) ReadsF.nil))).map (fun p => .mk p.1 p.2.1) (fun p => rfl) (fun _ => Nat.zero_le _) (fun p h => ⟨h.1, h.2.1⟩)
theorem readsIntS : ∀ n, Reads Tryz.prog 47 1 (fun l : List (Int) => [.ro 1 (l.map eI)]) (fun _ => 0) (fun l => ∀ y ∈ l, I64 y) n
  | 0 => Reads.zero
  | n + 1 => (Reads.slice (sz := 1) (enc := eI) Tryz.underlying47 (by kernel_rfl) (by decide) (fun _ => rfl) (readsI2 n)).map id (fun _ => rfl) (fun _ => Nat.zero_le _) (fun _ h => h)
theorem readsExpr : ∀ n, Reads Tryz.prog 199 3 encExpr (fun _ => 0) okExpr n
  | 0 => Reads.zero
  | 1 => (Reads.struct Tryz.underlying199 (by kernel_rfl) (ReadsF.cons rfl (by kernel_rfl) (readsI2 0) (ReadsF.cons rfl (by kernel_rfl) (readsI2 0) (ReadsF.cons rfl (by kernel_rfl) (Reads.zero : Reads Tryz.prog 197 1 (fun l : List XExpr => [.ro 3 (l.map encExpr)]) (fun _ => 0) (fun l => ∀ y ∈ l, okExpr y) 0) ReadsF.nil)))).map (fun p => .mk p.1 p.2.1 p.2.2.1) (fun p => by rw [encExpr_eq]; rfl) (fun _ => Nat.zero_le _) (fun p h => .mk h.1 h.2.1 h.2.2.1)
  | n + 2 => (Reads.struct Tryz.underlying199 (by kernel_rfl) (ReadsF.cons rfl (by kernel_rfl) (readsI2 (n + 1)) (ReadsF.cons rfl (by kernel_rfl) (readsI2 (n + 1)) (ReadsF.cons rfl (by kernel_rfl) ((Reads.slice (sz := 3) (enc := encExpr) Tryz.underlying197 (by kernel_rfl) (by decide) (fun _ => by rw [encExpr_eq]; rfl) (readsExpr n)).map id (fun _ => rfl) (fun _ => Nat.zero_le _) (fun _ h => h) : Reads Tryz.prog 197 1 (fun l : List XExpr => [.ro 3 (l.map encExpr)]) (fun _ => 0) (fun l => ∀ y ∈ l, okExpr y) (n + 1)) ReadsF.nil)))).map (fun p => .mk p.1 p.2.1 p.2.2.1) (fun p => by rw [encExpr_eq]; rfl) (fun _ => Nat.zero_le _) (fun p h => .mk h.1 h.2.1 h.2.2.1)
theorem readsExprS : ∀ n, Reads Tryz.prog 197 1 (fun l : List (XExpr) => [.ro 3 (l.map encExpr)]) (fun _ => 0) (fun l => ∀ y ∈ l, okExpr y) n
  | 0 => Reads.zero
  | n + 1 => (Reads.slice (sz := 3) (enc := encExpr) Tryz.underlying197 (by kernel_rfl) (by decide) (fun _ => by rw [encExpr_eq]; rfl) (readsExpr n)).map id (fun _ => rfl) (fun _ => Nat.zero_le _) (fun _ h => h)
theorem readsProofStep : ∀ n, Reads Tryz.prog 229 5 encProofStep (fun _ => 0) okProofStep n
  | 0 => Reads.zero
  | n + 1 => (Reads.struct Tryz.underlying229 (by kernel_rfl) (ReadsF.cons rfl (by kernel_rfl) (readsI2 n) (ReadsF.cons rfl (by kernel_rfl) (Reads.bool Tryz.underlying4 (n := n)) (ReadsF.cons rfl (by kernel_rfl) (readsIntS n) (ReadsF.cons rfl (by kernel_rfl) (readsExprS n) (ReadsF.cons rfl (by kernel_rfl) (readsExprS n) ReadsF.nil)))))).map (fun p => .mk p.1 p.2.1 p.2.2.1 p.2.2.2.1 p.2.2.2.2.1) (fun p => rfl) (fun _ => Nat.zero_le _) (fun p h => ⟨h.1, h.2.2.1, h.2.2.2.1, h.2.2.2.2.1⟩)
theorem readsProofStepS : ∀ n, Reads Tryz.prog 200 1 (fun l : List (XProofStep) => [.ro 5 (l.map encProofStep)]) (fun _ => 0) (fun l => ∀ y ∈ l, okProofStep y) n
  | 0 => Reads.zero
  | n + 1 => (Reads.slice (sz := 5) (enc := encProofStep) Tryz.underlying200 (by kernel_rfl) (by decide) (fun _ => rfl) (readsProofStep n)).map id (fun _ => rfl) (fun _ => Nat.zero_le _) (fun _ h => h)
theorem readsClaim : ∀ n, Reads Tryz.prog 202 9 encClaim (fun _ => 0) okClaim n
  | 0 => Reads.zero
  | n + 1 => (Reads.struct Tryz.underlying202 (by kernel_rfl) (ReadsF.cons rfl (by kernel_rfl) (readsExpr n) (ReadsF.cons rfl (by kernel_rfl) (readsExpr n) (ReadsF.cons rfl (by kernel_rfl) (readsI2 n) (ReadsF.cons rfl (by kernel_rfl) (readsI2 n) (ReadsF.cons rfl (by kernel_rfl) (readsProofStepS n) ReadsF.nil)))))).map (fun p => .mk p.1 p.2.1 p.2.2.1 p.2.2.2.1 p.2.2.2.2.1) (fun p => by simp only [encClaim, encExpr_eq]; rfl) (fun _ => Nat.zero_le _) (fun p h => ⟨h.1, h.2.1, h.2.2.1, h.2.2.2.1, h.2.2.2.2.1⟩)
theorem readsClaimS : ∀ n, Reads Tryz.prog 88 1 (fun l : List (XClaim) => [.ro 9 (l.map encClaim)]) (fun _ => 0) (fun l => ∀ y ∈ l, okClaim y) n
  | 0 => Reads.zero
  | n + 1 => (Reads.slice (sz := 9) (enc := encClaim) Tryz.underlying88 (by kernel_rfl) (by decide) (fun _ => rfl) (readsClaim n)).map id (fun _ => rfl) (fun _ => Nat.zero_le _) (fun _ h => h)
theorem readsProof : ∀ n, Reads Tryz.prog 90 3 encProof (fun _ => 0) okProof n
  | 0 => Reads.zero
  | n + 1 => (Reads.struct Tryz.underlying90 (by kernel_rfl) (ReadsF.cons rfl (by kernel_rfl) (readsSig n) (ReadsF.cons rfl (by kernel_rfl) (readsClaimS n) ReadsF.nil))).map (fun p => .mk p.1 p.2.1) (fun p => rfl) (fun _ => Nat.zero_le _) (fun p h => ⟨h.1, h.2.1⟩)
theorem readsEntry : ∀ n, Reads Tryz.prog 92 5 encEntry (fun _ => 0) okEntry n
  | 0 => Reads.zero
  | n + 1 => (Reads.struct Tryz.underlying92 (by kernel_rfl) (ReadsF.cons rfl (by kernel_rfl) (readsI2 n) (ReadsF.cons rfl (by kernel_rfl) (readsIntS n) (ReadsF.cons rfl (by kernel_rfl) (readsProof n) ReadsF.nil)))).map (fun p => .mk p.1 p.2.1 p.2.2.1) (fun p => rfl) (fun _ => Nat.zero_le _) (fun p h => ⟨h.1, h.2.1, h.2.2.1⟩)
theorem readsNote : ∀ n, Reads Tryz.prog 94 7 encNote (fun _ => 0) okNote n
  | 0 => Reads.zero
  | n + 1 => (Reads.struct Tryz.underlying94 (by kernel_rfl) (ReadsF.cons rfl (by kernel_rfl) (Reads.bool Tryz.underlying4 (n := n)) (ReadsF.cons rfl (by kernel_rfl) (readsI2 n) (ReadsF.cons rfl (by kernel_rfl) (readsEntry n) ReadsF.nil)))).map (fun p => .mk p.1 p.2.1 p.2.2.1) (fun p => rfl) (fun _ => Nat.zero_le _) (fun p h => ⟨h.2.1, h.2.2.1⟩)
theorem readsNoteS : ∀ n, Reads Tryz.prog 84 1 (fun l : List (XNote) => [.ro 7 (l.map encNote)]) (fun _ => 0) (fun l => ∀ y ∈ l, okNote y) n
  | 0 => Reads.zero
  | n + 1 => (Reads.slice (sz := 7) (enc := encNote) Tryz.underlying84 (by kernel_rfl) (by decide) (fun _ => rfl) (readsNote n)).map id (fun _ => rfl) (fun _ => Nat.zero_le _) (fun _ h => h)
theorem readsServer : ∀ n, Reads Tryz.prog 86 3 encServer (fun _ => 0) okServer n
  | 0 => Reads.zero
  | n + 1 => (Reads.struct Tryz.underlying86 (by kernel_rfl) (ReadsF.cons rfl (by kernel_rfl) (Reads.bool Tryz.underlying4 (n := n)) (ReadsF.cons rfl (by kernel_rfl) (readsNoteS n) (ReadsF.cons rfl (by kernel_rfl) (readsI2 n) ReadsF.nil)))).map (fun p => .mk p.1 p.2.1 p.2.2.1) (fun p => rfl) (fun _ => Nat.zero_le _) (fun p h => ⟨h.2.1, h.2.2.1⟩)
theorem readsServerS : ∀ n, Reads Tryz.prog 24 1 (fun l : List (XServer) => [.ro 3 (l.map encServer)]) (fun _ => 0) (fun l => ∀ y ∈ l, okServer y) n
  | 0 => Reads.zero
  | n + 1 => (Reads.slice (sz := 3) (enc := encServer) Tryz.underlying24 (by kernel_rfl) (by decide) (fun _ => rfl) (readsServer n)).map id (fun _ => rfl) (fun _ => Nat.zero_le _) (fun _ h => h)
theorem readsPacket : ∀ n, Reads Tryz.prog 96 8 encPacket (fun _ => 0) okPacket n
  | 0 => Reads.zero
  | n + 1 => (Reads.struct Tryz.underlying96 (by kernel_rfl) (ReadsF.cons rfl (by kernel_rfl) (readsI2 n) (ReadsF.cons rfl (by kernel_rfl) (readsNote n) ReadsF.nil))).map (fun p => .mk p.1 p.2.1) (fun p => rfl) (fun _ => Nat.zero_le _) (fun p h => ⟨h.1, h.2.1⟩)
theorem readsPacketS : ∀ n, Reads Tryz.prog 25 1 (fun l : List (XPacket) => [.ro 8 (l.map encPacket)]) (fun _ => 0) (fun l => ∀ y ∈ l, okPacket y) n
  | 0 => Reads.zero
  | n + 1 => (Reads.slice (sz := 8) (enc := encPacket) Tryz.underlying25 (by kernel_rfl) (by decide) (fun _ => rfl) (readsPacket n)).map id (fun _ => rfl) (fun _ => Nat.zero_le _) (fun _ h => h)
theorem readsArchive : ∀ n, Reads Tryz.prog 27 4 encArchive (fun _ => 0) okArchive n
  | 0 => Reads.zero
  | n + 1 => (Reads.struct Tryz.underlying27 (by kernel_rfl) (ReadsF.cons rfl (by kernel_rfl) (readsSig n) (ReadsF.cons rfl (by kernel_rfl) (readsServerS n) (ReadsF.cons rfl (by kernel_rfl) (readsPacketS n) ReadsF.nil)))).map (fun p => .mk p.1 p.2.1 p.2.2.1) (fun p => rfl) (fun _ => Nat.zero_le _) (fun p h => ⟨h.1, h.2.1, h.2.2.1⟩)
end Go.Proofs.YtkkenofdfpgplaaGreatDoor
