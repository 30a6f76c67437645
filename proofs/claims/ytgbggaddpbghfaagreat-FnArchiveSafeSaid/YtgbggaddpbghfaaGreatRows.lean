/-
  No cell of these rows narrows 'for every input' (looked for: loops, veiled, ifaces, maps, wideKeys, modest, calm, conditions, laid).
  DERIVED. THE GIVEN ROWS OF THIS SEAT. 4 by the template 'for every input the law returns true; each argument reads behind the call as it read before'; 0 by the template 'total and deterministic' (their statements: YtgbggaddpbghfaaGreatTotals.lean).
  GIVEN WITH THE SEED: the statements are not yours to turn. If you find one false, say at which input.
  Laid BY PROGRAM, IN A SANDBOX (cutbox-rows.mjs): the forced cells as the released guide's own fill.sh prints them over the translation 2ea7eef3ba01ea26… (all of the seat's roots in one cut). By AI agents, Wed Nov 11 2026. No macro, syntax, notation, axiom, sorry.
-/
import Derived.Test.YtgbggaddpbghfaaGreatChecked
import GoSem.Claim
import GoSem.ClaimJoined
import GoSem.ClaimMapViews
import Derived.JoinedTies
import Derived.KernelRfl
namespace Go.Proofs.YtgbggaddpbghfaaGreat
/- THE CELL 'sum', in the pinned program and in every row, IS THE sha256 OF THE DUMP (.gsa) THAT YtgbggaddpbghfaaGreatProg.lean LOADS. Nothing in Lean hashes anything: it is a label: what it is worth is what the hold of that sum in a sandbox is worth. -/
noncomputable def Tryz.pinned : Pinned := { name := "ytgbggaddpbghfaagreat", sum := "2ea7eef3ba01ea267e785d658e8c39bc4efcc8d678c08a8e76777d49c47b7ff7", checked := Tryz.checked }
namespace Rows
def none {H : Type} : Left H := { results := [], args := [] }

/-- 'laws.FnArchiveStep': WHATEVER THE INPUT: true; the input reads as it did. -/
def fnArchiveStepSpec : ChangeSpec := { name := "fnArchiveStep", fn := fun _ => fun
  | [d1, d2] => { results := [.lit (.bool true)], args := [d1, d2] }
  | _ => none }
def fnArchiveStepRow : OpenClaim := { program := "ytgbggaddpbghfaagreat", sum := "2ea7eef3ba01ea267e785d658e8c39bc4efcc8d678c08a8e76777d49c47b7ff7", func := "loop.example/g01101/laws.FnArchiveStep", spec := "fnArchiveStep", unfollowed := true, recurses := true, apart := false }
def FnArchiveStepSaid : Prop := fnArchiveStepRow.holds Tryz.pinned (OpenSpec.ofChange fnArchiveStepSpec)

/-- ITS FALSE NEIGHBOUR: 'it returns false'. Refute it at one input. -/
def fnArchiveStepWrong : ChangeSpec := { name := "fnArchiveStep", fn := fun _ => fun
  | [d1, d2] => { results := [.lit (.bool false)], args := [d1, d2] }
  | _ => none }
def FnArchiveStepWrongFalsely : Prop := fnArchiveStepRow.holds Tryz.pinned (OpenSpec.ofChange fnArchiveStepWrong)

/-- 'laws.FnArchivePackets': WHATEVER THE INPUT: true; the input reads as it did. -/
def fnArchivePacketsSpec : ChangeSpec := { name := "fnArchivePackets", fn := fun _ => fun
  | [d1, d2] => { results := [.lit (.bool true)], args := [d1, d2] }
  | _ => none }
def fnArchivePacketsRow : OpenClaim := { program := "ytgbggaddpbghfaagreat", sum := "2ea7eef3ba01ea267e785d658e8c39bc4efcc8d678c08a8e76777d49c47b7ff7", func := "loop.example/g01101/laws.FnArchivePackets", spec := "fnArchivePackets", unfollowed := true, recurses := true, apart := false }
def FnArchivePacketsSaid : Prop := fnArchivePacketsRow.holds Tryz.pinned (OpenSpec.ofChange fnArchivePacketsSpec)

/-- ITS FALSE NEIGHBOUR: 'it returns false'. Refute it at one input. -/
def fnArchivePacketsWrong : ChangeSpec := { name := "fnArchivePackets", fn := fun _ => fun
  | [d1, d2] => { results := [.lit (.bool false)], args := [d1, d2] }
  | _ => none }
def FnArchivePacketsWrongFalsely : Prop := fnArchivePacketsRow.holds Tryz.pinned (OpenSpec.ofChange fnArchivePacketsWrong)

/-- 'laws.FnArchiveSafe': WHATEVER THE INPUT: true; the input reads as it did. -/
def fnArchiveSafeSpec : ChangeSpec := { name := "fnArchiveSafe", fn := fun _ => fun
  | [d1, d2] => { results := [.lit (.bool true)], args := [d1, d2] }
  | _ => none }
def fnArchiveSafeRow : OpenClaim := { program := "ytgbggaddpbghfaagreat", sum := "2ea7eef3ba01ea267e785d658e8c39bc4efcc8d678c08a8e76777d49c47b7ff7", func := "loop.example/g01101/laws.FnArchiveSafe", spec := "fnArchiveSafe", unfollowed := true, recurses := true, apart := false }
def FnArchiveSafeSaid : Prop := fnArchiveSafeRow.holds Tryz.pinned (OpenSpec.ofChange fnArchiveSafeSpec)

/-- ITS FALSE NEIGHBOUR: 'it returns false'. Refute it at one input. -/
def fnArchiveSafeWrong : ChangeSpec := { name := "fnArchiveSafe", fn := fun _ => fun
  | [d1, d2] => { results := [.lit (.bool false)], args := [d1, d2] }
  | _ => none }
def FnArchiveSafeWrongFalsely : Prop := fnArchiveSafeRow.holds Tryz.pinned (OpenSpec.ofChange fnArchiveSafeWrong)

/-- 'laws.FnArchiveSpread': WHATEVER THE INPUT: true; the input reads as it did. -/
def fnArchiveSpreadSpec : ChangeSpec := { name := "fnArchiveSpread", fn := fun _ => fun
  | [d1, d2] => { results := [.lit (.bool true)], args := [d1, d2] }
  | _ => none }
def fnArchiveSpreadRow : OpenClaim := { program := "ytgbggaddpbghfaagreat", sum := "2ea7eef3ba01ea267e785d658e8c39bc4efcc8d678c08a8e76777d49c47b7ff7", func := "loop.example/g01101/laws.FnArchiveSpread", spec := "fnArchiveSpread", unfollowed := true, recurses := true, apart := false }
def FnArchiveSpreadSaid : Prop := fnArchiveSpreadRow.holds Tryz.pinned (OpenSpec.ofChange fnArchiveSpreadSpec)

/-- ITS FALSE NEIGHBOUR: 'it returns false'. Refute it at one input. -/
def fnArchiveSpreadWrong : ChangeSpec := { name := "fnArchiveSpread", fn := fun _ => fun
  | [d1, d2] => { results := [.lit (.bool false)], args := [d1, d2] }
  | _ => none }
def FnArchiveSpreadWrongFalsely : Prop := fnArchiveSpreadRow.holds Tryz.pinned (OpenSpec.ofChange fnArchiveSpreadWrong)

/- THE SECOND FORM. 'bulk': how many values and letters a reading holds, each counted each time it is reached (what is shared counts as often as it is met; a slice's spare places count too). A statement '..UptoSaid' is the law's where the arguments, and the package variables that the reading takes, are together of bulk at most 1048576: NARROWER than '..Said'. Prove '..Said' where nothing that the law and all that it calls make is longer than what came in: it says more and counts as full. Else prove '..UptoSaid'. A law counts once. -/
mutual
def uptoBulk {H : Type} : DataW H → Nat
  | .lit (.string bytes) => bytes.length + 1
  | .lit _ => 1
  | .nil => 1
  | .ptr d => uptoBulk d + 1
  | .slice elems spare => uptoBulkAll elems + uptoBulkAll spare + 1
  | .agg parts => uptoBulkAll parts + 1
  | .iface _ d => uptoBulk d + 1
  | .map entries => uptoBulkEntries entries + 1
  | .held _ => 1
def uptoBulkAll {H : Type} : List (DataW H) → Nat
  | [] => 0
  | d :: r => uptoBulk d + uptoBulkAll r
def uptoBulkEntries {H : Type} : List (Lit × DataW H) → Nat
  | [] => 0
  | x :: r => uptoBulkEntry x + uptoBulkEntries r
def uptoBulkEntry {H : Type} : Lit × DataW H → Nat
  | (.string bytes, d) => bytes.length + uptoBulk d + 1
  | (_, d) => uptoBulk d + 1
 end
def uptoSmall : (H : Type) → List (DataW H) → Bool := fun _ ds => decide (uptoBulkAll ds ≤ 1048576)
def OpenSpec.upto (s : _root_.Go.ChangeSpec) : _root_.Go.OpenSpec := { _root_.Go.OpenSpec.ofChange s with cond := some uptoSmall }

/-- 'laws.FnArchiveStep', WHERE WHAT IT READS IS OF BULK AT MOST 1048576: true; the input reads as it did. -/
def fnArchiveStepUptoRow : OpenClaim := { program := "ytgbggaddpbghfaagreat", sum := "2ea7eef3ba01ea267e785d658e8c39bc4efcc8d678c08a8e76777d49c47b7ff7", func := "loop.example/g01101/laws.FnArchiveStep", spec := "fnArchiveStep", unfollowed := true, recurses := true, apart := false, narrowed := true }
def FnArchiveStepUptoSaid : Prop := fnArchiveStepUptoRow.holds Tryz.pinned (OpenSpec.upto fnArchiveStepSpec)

/-- 'laws.FnArchivePackets', WHERE WHAT IT READS IS OF BULK AT MOST 1048576: true; the input reads as it did. -/
def fnArchivePacketsUptoRow : OpenClaim := { program := "ytgbggaddpbghfaagreat", sum := "2ea7eef3ba01ea267e785d658e8c39bc4efcc8d678c08a8e76777d49c47b7ff7", func := "loop.example/g01101/laws.FnArchivePackets", spec := "fnArchivePackets", unfollowed := true, recurses := true, apart := false, narrowed := true }
def FnArchivePacketsUptoSaid : Prop := fnArchivePacketsUptoRow.holds Tryz.pinned (OpenSpec.upto fnArchivePacketsSpec)

/-- 'laws.FnArchiveSafe', WHERE WHAT IT READS IS OF BULK AT MOST 1048576: true; the input reads as it did. -/
def fnArchiveSafeUptoRow : OpenClaim := { program := "ytgbggaddpbghfaagreat", sum := "2ea7eef3ba01ea267e785d658e8c39bc4efcc8d678c08a8e76777d49c47b7ff7", func := "loop.example/g01101/laws.FnArchiveSafe", spec := "fnArchiveSafe", unfollowed := true, recurses := true, apart := false, narrowed := true }
def FnArchiveSafeUptoSaid : Prop := fnArchiveSafeUptoRow.holds Tryz.pinned (OpenSpec.upto fnArchiveSafeSpec)

/-- 'laws.FnArchiveSpread', WHERE WHAT IT READS IS OF BULK AT MOST 1048576: true; the input reads as it did. -/
def fnArchiveSpreadUptoRow : OpenClaim := { program := "ytgbggaddpbghfaagreat", sum := "2ea7eef3ba01ea267e785d658e8c39bc4efcc8d678c08a8e76777d49c47b7ff7", func := "loop.example/g01101/laws.FnArchiveSpread", spec := "fnArchiveSpread", unfollowed := true, recurses := true, apart := false, narrowed := true }
def FnArchiveSpreadUptoSaid : Prop := fnArchiveSpreadUptoRow.holds Tryz.pinned (OpenSpec.upto fnArchiveSpreadSpec)

end Rows
end Go.Proofs.YtgbggaddpbghfaaGreat
