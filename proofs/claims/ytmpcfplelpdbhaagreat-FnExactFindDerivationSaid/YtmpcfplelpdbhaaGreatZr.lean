/- Each argument of the laws' types is read as a value. No conditions. -/
import Derived.Test.YtmpcfplelpdbhaaGreatTy
import Derived.Test.YtmpcfplelpdbhaaGreatEngV
namespace Go.Proofs.YtmpcfplelpdbhaaGreat
open Go Go.KA Go.Proofs
theorem readsI2 (n : Nat) : Reads Tryz.prog 2 1 eI (fun _ => 0) I64 n := (Reads.int Tryz.underlying2).map id (fun _ => rfl) (fun _ => Nat.zero_le _) fun _ h => i64ok h
theorem readsSig : ∀ n, Reads Tryz.prog 23 2 encSig (fun _ => 0) okSig n
  | 0 => Reads.zero
  | n + 1 => (Reads.struct Tryz.underlying23 (by kernel_rfl) (ReadsF.cons rfl (by kernel_rfl) (readsI2 n) (ReadsF.cons rfl (by kernel_rfl) (readsI2 n) ReadsF.nil))).map (fun p => .mk p.1 p.2.1) (fun p => rfl) (fun _ => Nat.zero_le _) (fun p h => ⟨h.1, h.2.1⟩)
theorem readsExpr : ∀ n, Reads Tryz.prog 27 3 encExpr (fun _ => 0) okExpr n
  | 0 => Reads.zero
  | 1 => (Reads.struct Tryz.underlying27 (by kernel_rfl) (ReadsF.cons rfl (by kernel_rfl) (readsI2 0) (ReadsF.cons rfl (by kernel_rfl) (readsI2 0) (ReadsF.cons rfl (by kernel_rfl) (Reads.zero : Reads Tryz.prog 25 1 (fun l : List XExpr => [.ro 3 (l.map encExpr)]) (fun _ => 0) (fun l => ∀ y ∈ l, okExpr y) 0) ReadsF.nil)))).map (fun p => .mk p.1 p.2.1 p.2.2.1) (fun p => by rw [encExpr_eq]; rfl) (fun _ => Nat.zero_le _) (fun p h => .mk h.1 h.2.1 h.2.2.1)
  | n + 2 => (Reads.struct Tryz.underlying27 (by kernel_rfl) (ReadsF.cons rfl (by kernel_rfl) (readsI2 (n + 1)) (ReadsF.cons rfl (by kernel_rfl) (readsI2 (n + 1)) (ReadsF.cons rfl (by kernel_rfl) ((Reads.slice (sz := 3) (enc := encExpr) Tryz.underlying25 (by kernel_rfl) (by decide) (fun _ => by rw [encExpr_eq]; rfl) (readsExpr n)).map id (fun _ => rfl) (fun _ => Nat.zero_le _) (fun _ h => h) : Reads Tryz.prog 25 1 (fun l : List XExpr => [.ro 3 (l.map encExpr)]) (fun _ => 0) (fun l => ∀ y ∈ l, okExpr y) (n + 1)) ReadsF.nil)))).map (fun p => .mk p.1 p.2.1 p.2.2.1) (fun p => by rw [encExpr_eq]; rfl) (fun _ => Nat.zero_le _) (fun p h => .mk h.1 h.2.1 h.2.2.1)
theorem readsPremise : ∀ n, Reads Tryz.prog 80 7 encPremise (fun _ => 0) okPremise n
  | 0 => Reads.zero
  | n + 1 => (Reads.struct Tryz.underlying80 (by kernel_rfl) (ReadsF.cons rfl (by kernel_rfl) (readsExpr n) (ReadsF.cons rfl (by kernel_rfl) (readsI2 n) (ReadsF.cons rfl (by kernel_rfl) (readsExpr n) ReadsF.nil)))).map (fun p => .mk p.1 p.2.1 p.2.2.1) (fun p => by simp only [encPremise, encExpr_eq]; rfl) (fun _ => Nat.zero_le _) (fun p h => ⟨h.1, h.2.1, h.2.2.1⟩)
theorem readsPremiseS : ∀ n, Reads Tryz.prog 24 1 (fun l : List (XPremise) => [.ro 7 (l.map encPremise)]) (fun _ => 0) (fun l => ∀ y ∈ l, okPremise y) n
  | 0 => Reads.zero
  | n + 1 => (Reads.slice (sz := 7) (enc := encPremise) Tryz.underlying24 (by kernel_rfl) (by decide) (fun _ => rfl) (readsPremise n)).map id (fun _ => rfl) (fun _ => Nat.zero_le _) (fun _ h => h)
theorem readsProg : ∀ n, Reads Tryz.prog 30 6 encProg (fun _ => 0) okProg n
  | 0 => Reads.zero
  | 1 => (Reads.struct Tryz.underlying30 (by kernel_rfl) (ReadsF.cons rfl (by kernel_rfl) (readsI2 0) (ReadsF.cons rfl (by kernel_rfl) (readsI2 0) (ReadsF.cons rfl (by kernel_rfl) (readsExpr 0) (ReadsF.cons rfl (by kernel_rfl) (Reads.zero : Reads Tryz.prog 28 1 (fun l : List XProg => [.ro 6 (l.map encProg)]) (fun _ => 0) (fun l => ∀ y ∈ l, okProg y) 0) ReadsF.nil))))).map (fun p => .mk p.1 p.2.1 p.2.2.1 p.2.2.2.1) (fun p => by rw [encProg_eq, encExpr_eq]; rfl) (fun _ => Nat.zero_le _) (fun p h => .mk h.1 h.2.1 h.2.2.1 h.2.2.2.1)
  | n + 2 => (Reads.struct Tryz.underlying30 (by kernel_rfl) (ReadsF.cons rfl (by kernel_rfl) (readsI2 (n + 1)) (ReadsF.cons rfl (by kernel_rfl) (readsI2 (n + 1)) (ReadsF.cons rfl (by kernel_rfl) (readsExpr (n + 1)) (ReadsF.cons rfl (by kernel_rfl) ((Reads.slice (sz := 6) (enc := encProg) Tryz.underlying28 (by kernel_rfl) (by decide) (fun _ => by rw [encProg_eq]; rfl) (readsProg n)).map id (fun _ => rfl) (fun _ => Nat.zero_le _) (fun _ h => h) : Reads Tryz.prog 28 1 (fun l : List XProg => [.ro 6 (l.map encProg)]) (fun _ => 0) (fun l => ∀ y ∈ l, okProg y) (n + 1)) ReadsF.nil))))).map (fun p => .mk p.1 p.2.1 p.2.2.1 p.2.2.2.1) (fun p => by rw [encProg_eq, encExpr_eq]; rfl) (fun _ => Nat.zero_le _) (fun p h => .mk h.1 h.2.1 h.2.2.1 h.2.2.2.1)
theorem readsTriple : ∀ n, Reads Tryz.prog 32 12 encTriple (fun _ => 0) okTriple n
  | 0 => Reads.zero
  | n + 1 => (Reads.struct Tryz.underlying32 (by kernel_rfl) (ReadsF.cons rfl (by kernel_rfl) (readsExpr n) (ReadsF.cons rfl (by kernel_rfl) (readsProg n) (ReadsF.cons rfl (by kernel_rfl) (readsExpr n) ReadsF.nil)))).map (fun p => .mk p.1 p.2.1 p.2.2.1) (fun p => by simp only [encTriple, encExpr_eq, encProg_eq]; rfl) (fun _ => Nat.zero_le _) (fun p h => ⟨h.1, h.2.1, h.2.2.1⟩)
end Go.Proofs.YtmpcfplelpdbhaaGreat
