/-
  NARROWER THAN 'FOR EVERY INPUT', by the rows' own cells (each row's printed sentence says how): FnExactRunFlow: loops · FnExactRunProg: loops.
  DERIVED. THE GIVEN ROWS OF THIS SEAT. 3 by the template 'for every input the law returns true; each argument reads behind the call as it read before'; 0 by the template 'total and deterministic' (their statements: YtbbaadkgmdkjdaaTotals.lean).
  GIVEN WITH THE SEED: the statements are not yours to turn. If you find one false, say at which input.
  Laid BY PROGRAM, IN A SANDBOX (cutbox-rows.mjs): the forced cells as the released guide's own fill.sh prints them over the translation cc18dace6c2a7430… (all of the seat's roots in one cut). By AI agents, Wed Nov 11 2026. No macro, syntax, notation, axiom, sorry.
-/
import Derived.Test.YtbbaadkgmdkjdaaChecked
import GoSem.Claim
import GoSem.ClaimJoined
import GoSem.ClaimMapViews
import Derived.JoinedTies
import Derived.KernelRfl
namespace Go.Proofs.Ytbbaadkgmdkjdaa
/- THE CELL 'sum', in the pinned program and in every row, IS THE sha256 OF THE DUMP (.gsa) THAT YtbbaadkgmdkjdaaProg.lean LOADS. Nothing in Lean hashes anything: it is a label: what it is worth is what the hold of that sum in a sandbox is worth. -/
noncomputable def Try.pinned : Pinned := { name := "ytbbaadkgmdkjdaa", sum := "cc18dace6c2a74301c97fc8bd25215c0bf27e8db81829aac7fde290393b45848", checked := Try.checked }
namespace Rows
def none {H : Type} : Left H := { results := [], args := [] }

/-- 'laws.FnExactNewArchive': WHATEVER THE INPUT: true; the input reads as it did. -/
def fnExactNewArchiveSpec : ChangeSpec := { name := "fnExactNewArchive", fn := fun _ => fun
  | [d1, d2] => { results := [.lit (.bool true)], args := [d1, d2] }
  | _ => none }
def fnExactNewArchiveRow : OpenClaim := { program := "ytbbaadkgmdkjdaa", sum := "cc18dace6c2a74301c97fc8bd25215c0bf27e8db81829aac7fde290393b45848", func := "loop.example/g01101/laws.FnExactNewArchive", spec := "fnExactNewArchive", recurses := true, apart := false }
def FnExactNewArchiveSaid : Prop := fnExactNewArchiveRow.holds Try.pinned (OpenSpec.ofChange fnExactNewArchiveSpec)

/-- ITS FALSE NEIGHBOUR: 'it returns false'. Refute it at one input. -/
def fnExactNewArchiveWrong : ChangeSpec := { name := "fnExactNewArchive", fn := fun _ => fun
  | [d1, d2] => { results := [.lit (.bool false)], args := [d1, d2] }
  | _ => none }
def FnExactNewArchiveWrongFalsely : Prop := fnExactNewArchiveRow.holds Try.pinned (OpenSpec.ofChange fnExactNewArchiveWrong)

/-- 'laws.FnExactRunFlow': WHATEVER THE INPUT: true; the input reads as it did. -/
def fnExactRunFlowSpec : ChangeSpec := { name := "fnExactRunFlow", fn := fun _ => fun
  | [d1, d2, d3, d4, d5] => { results := [.lit (.bool true)], args := [d1, d2, d3, d4, d5] }
  | _ => none }
def fnExactRunFlowRow : OpenClaim := { program := "ytbbaadkgmdkjdaa", sum := "cc18dace6c2a74301c97fc8bd25215c0bf27e8db81829aac7fde290393b45848", func := "loop.example/g01101/laws.FnExactRunFlow", spec := "fnExactRunFlow", recurses := true, loops := true, apart := false }
def FnExactRunFlowSaid : Prop := fnExactRunFlowRow.holds Try.pinned (OpenSpec.ofChange fnExactRunFlowSpec)

/-- ITS FALSE NEIGHBOUR: 'it returns false'. Refute it at one input. -/
def fnExactRunFlowWrong : ChangeSpec := { name := "fnExactRunFlow", fn := fun _ => fun
  | [d1, d2, d3, d4, d5] => { results := [.lit (.bool false)], args := [d1, d2, d3, d4, d5] }
  | _ => none }
def FnExactRunFlowWrongFalsely : Prop := fnExactRunFlowRow.holds Try.pinned (OpenSpec.ofChange fnExactRunFlowWrong)

/-- 'laws.FnExactRunProg': WHATEVER THE INPUT: true; the input reads as it did. -/
def fnExactRunProgSpec : ChangeSpec := { name := "fnExactRunProg", fn := fun _ => fun
  | [d1, d2, d3, d4, d5] => { results := [.lit (.bool true)], args := [d1, d2, d3, d4, d5] }
  | _ => none }
def fnExactRunProgRow : OpenClaim := { program := "ytbbaadkgmdkjdaa", sum := "cc18dace6c2a74301c97fc8bd25215c0bf27e8db81829aac7fde290393b45848", func := "loop.example/g01101/laws.FnExactRunProg", spec := "fnExactRunProg", recurses := true, loops := true, apart := false }
def FnExactRunProgSaid : Prop := fnExactRunProgRow.holds Try.pinned (OpenSpec.ofChange fnExactRunProgSpec)

/-- ITS FALSE NEIGHBOUR: 'it returns false'. Refute it at one input. -/
def fnExactRunProgWrong : ChangeSpec := { name := "fnExactRunProg", fn := fun _ => fun
  | [d1, d2, d3, d4, d5] => { results := [.lit (.bool false)], args := [d1, d2, d3, d4, d5] }
  | _ => none }
def FnExactRunProgWrongFalsely : Prop := fnExactRunProgRow.holds Try.pinned (OpenSpec.ofChange fnExactRunProgWrong)

/- THE SECOND FORM. 'bulk': how many values and letters a reading holds, each counted each time it is reached (what is shared counts as often as it is met; a slice's spare places count too). A statement '..UptoSaid' is the law's where the arguments, and the package variables that the reading takes, are together of bulk at most 1048576: NARROWER than '..Said'. Prove '..Said' where nothing that the law and all that it calls make is longer than what came in: it says more and counts as full. Else prove '..UptoSaid'. A law counts once. -/
mutual
def uptoBulk {H : Type} : DataW H → Nat
  | .lit (.string bytes) => bytes.length + 1
  | .lit _ => 1
  | .nil => 1
  | .ptr d => uptoBulk d + 1
  | .slice elems spare => uptoBulkAll elems + uptoBulkAll spare + 1
  | .agg parts => uptoBulkAll parts + 1
  | .iface _ d => uptoBulk d + 1
  | .map entries => uptoBulkEntries entries + 1
  | .held _ => 1
def uptoBulkAll {H : Type} : List (DataW H) → Nat
  | [] => 0
  | d :: r => uptoBulk d + uptoBulkAll r
def uptoBulkEntries {H : Type} : List (Lit × DataW H) → Nat
  | [] => 0
  | x :: r => uptoBulkEntry x + uptoBulkEntries r
def uptoBulkEntry {H : Type} : Lit × DataW H → Nat
  | (.string bytes, d) => bytes.length + uptoBulk d + 1
  | (_, d) => uptoBulk d + 1
 end
def uptoSmall : (H : Type) → List (DataW H) → Bool := fun _ ds => decide (uptoBulkAll ds ≤ 1048576)
def OpenSpec.upto (s : _root_.Go.ChangeSpec) : _root_.Go.OpenSpec := { _root_.Go.OpenSpec.ofChange s with cond := some uptoSmall }

/-- 'laws.FnExactNewArchive', WHERE WHAT IT READS IS OF BULK AT MOST 1048576: true; the input reads as it did. -/
def fnExactNewArchiveUptoRow : OpenClaim := { program := "ytbbaadkgmdkjdaa", sum := "cc18dace6c2a74301c97fc8bd25215c0bf27e8db81829aac7fde290393b45848", func := "loop.example/g01101/laws.FnExactNewArchive", spec := "fnExactNewArchive", recurses := true, apart := false, narrowed := true }
def FnExactNewArchiveUptoSaid : Prop := fnExactNewArchiveUptoRow.holds Try.pinned (OpenSpec.upto fnExactNewArchiveSpec)

/-- 'laws.FnExactRunFlow', WHERE WHAT IT READS IS OF BULK AT MOST 1048576: true; the input reads as it did. -/
def fnExactRunFlowUptoRow : OpenClaim := { program := "ytbbaadkgmdkjdaa", sum := "cc18dace6c2a74301c97fc8bd25215c0bf27e8db81829aac7fde290393b45848", func := "loop.example/g01101/laws.FnExactRunFlow", spec := "fnExactRunFlow", recurses := true, loops := true, apart := false, narrowed := true }
def FnExactRunFlowUptoSaid : Prop := fnExactRunFlowUptoRow.holds Try.pinned (OpenSpec.upto fnExactRunFlowSpec)

/-- 'laws.FnExactRunProg', WHERE WHAT IT READS IS OF BULK AT MOST 1048576: true; the input reads as it did. -/
def fnExactRunProgUptoRow : OpenClaim := { program := "ytbbaadkgmdkjdaa", sum := "cc18dace6c2a74301c97fc8bd25215c0bf27e8db81829aac7fde290393b45848", func := "loop.example/g01101/laws.FnExactRunProg", spec := "fnExactRunProg", recurses := true, loops := true, apart := false, narrowed := true }
def FnExactRunProgUptoSaid : Prop := fnExactRunProgUptoRow.holds Try.pinned (OpenSpec.upto fnExactRunProgSpec)

end Rows
end Go.Proofs.Ytbbaadkgmdkjdaa
