/-
  NARROWER THAN 'FOR EVERY INPUT', by the rows' own cells (each row's printed sentence says how): FnExactValidArchive: loops · FnExactValidEvent: loops · FnExactSavedAt: loops · FnExactKnownIds: loops · FnExactRevokedIds: loops · FnExactClosureOf: loops · FnExactDependentsOf: loops · FnExactRepairRests: loops · FnExactTellLemma: loops.
  DERIVED. THE GIVEN ROWS OF THIS SEAT. 9 by the template 'for every input the law returns true; each argument reads behind the call as it read before'; 0 by the template 'total and deterministic' (their statements: YtbbaadkgmdkjdaaGreatTotals.lean).
  GIVEN WITH THE SEED: the statements are not yours to turn. If you find one false, say at which input.
  Laid BY PROGRAM, IN A SANDBOX (cutbox-rows.mjs): the forced cells as the released guide's own fill.sh prints them over the translation 8fdd7828addbe31a… (all of the seat's roots in one cut). By AI agents, Wed Nov 11 2026. No macro, syntax, notation, axiom, sorry.
-/
import Derived.Test.YtbbaadkgmdkjdaaGreatChecked
import GoSem.Claim
import GoSem.ClaimJoined
import GoSem.ClaimMapViews
import Derived.JoinedTies
import Derived.KernelRfl
namespace Go.Proofs.YtbbaadkgmdkjdaaGreat
/- THE CELL 'sum', in the pinned program and in every row, IS THE sha256 OF THE DUMP (.gsa) THAT YtbbaadkgmdkjdaaGreatProg.lean LOADS. Nothing in Lean hashes anything: it is a label: what it is worth is what the hold of that sum in a sandbox is worth. -/
noncomputable def Tryz.pinned : Pinned := { name := "ytbbaadkgmdkjdaagreat", sum := "8fdd7828addbe31ae604ac09d45c367e7f589cd953a19443f5f895142dc87a25", checked := Tryz.checked }
namespace Rows
def none {H : Type} : Left H := { results := [], args := [] }

/-- 'laws.FnExactValidArchive': WHATEVER THE INPUT: true; the input reads as it did. -/
def fnExactValidArchiveSpec : ChangeSpec := { name := "fnExactValidArchive", fn := fun _ => fun
  | [d] => { results := [.lit (.bool true)], args := [d] }
  | _ => none }
def fnExactValidArchiveRow : OpenClaim := { program := "ytbbaadkgmdkjdaagreat", sum := "8fdd7828addbe31ae604ac09d45c367e7f589cd953a19443f5f895142dc87a25", func := "loop.example/g01101/laws.FnExactValidArchive", spec := "fnExactValidArchive", unfollowed := true, recurses := true, loops := true, apart := false }
def FnExactValidArchiveSaid : Prop := fnExactValidArchiveRow.holds Tryz.pinned (OpenSpec.ofChange fnExactValidArchiveSpec)

/-- ITS FALSE NEIGHBOUR: 'it returns false'. Refute it at one input. -/
def fnExactValidArchiveWrong : ChangeSpec := { name := "fnExactValidArchive", fn := fun _ => fun
  | [d] => { results := [.lit (.bool false)], args := [d] }
  | _ => none }
def FnExactValidArchiveWrongFalsely : Prop := fnExactValidArchiveRow.holds Tryz.pinned (OpenSpec.ofChange fnExactValidArchiveWrong)

/-- 'laws.FnExactValidEvent': WHATEVER THE INPUT: true; the input reads as it did. -/
def fnExactValidEventSpec : ChangeSpec := { name := "fnExactValidEvent", fn := fun _ => fun
  | [d1, d2] => { results := [.lit (.bool true)], args := [d1, d2] }
  | _ => none }
def fnExactValidEventRow : OpenClaim := { program := "ytbbaadkgmdkjdaagreat", sum := "8fdd7828addbe31ae604ac09d45c367e7f589cd953a19443f5f895142dc87a25", func := "loop.example/g01101/laws.FnExactValidEvent", spec := "fnExactValidEvent", unfollowed := true, recurses := true, loops := true, apart := false }
def FnExactValidEventSaid : Prop := fnExactValidEventRow.holds Tryz.pinned (OpenSpec.ofChange fnExactValidEventSpec)

/-- ITS FALSE NEIGHBOUR: 'it returns false'. Refute it at one input. -/
def fnExactValidEventWrong : ChangeSpec := { name := "fnExactValidEvent", fn := fun _ => fun
  | [d1, d2] => { results := [.lit (.bool false)], args := [d1, d2] }
  | _ => none }
def FnExactValidEventWrongFalsely : Prop := fnExactValidEventRow.holds Tryz.pinned (OpenSpec.ofChange fnExactValidEventWrong)

/-- 'laws.FnExactSavedAt': WHATEVER THE INPUT: true; the input reads as it did. -/
def fnExactSavedAtSpec : ChangeSpec := { name := "fnExactSavedAt", fn := fun _ => fun
  | [d1, d2, d3] => { results := [.lit (.bool true)], args := [d1, d2, d3] }
  | _ => none }
def fnExactSavedAtRow : OpenClaim := { program := "ytbbaadkgmdkjdaagreat", sum := "8fdd7828addbe31ae604ac09d45c367e7f589cd953a19443f5f895142dc87a25", func := "loop.example/g01101/laws.FnExactSavedAt", spec := "fnExactSavedAt", unfollowed := true, recurses := true, loops := true, apart := false }
def FnExactSavedAtSaid : Prop := fnExactSavedAtRow.holds Tryz.pinned (OpenSpec.ofChange fnExactSavedAtSpec)

/-- ITS FALSE NEIGHBOUR: 'it returns false'. Refute it at one input. -/
def fnExactSavedAtWrong : ChangeSpec := { name := "fnExactSavedAt", fn := fun _ => fun
  | [d1, d2, d3] => { results := [.lit (.bool false)], args := [d1, d2, d3] }
  | _ => none }
def FnExactSavedAtWrongFalsely : Prop := fnExactSavedAtRow.holds Tryz.pinned (OpenSpec.ofChange fnExactSavedAtWrong)

/-- 'laws.FnExactKnownIds': WHATEVER THE INPUT: true; the input reads as it did. -/
def fnExactKnownIdsSpec : ChangeSpec := { name := "fnExactKnownIds", fn := fun _ => fun
  | [d1, d2] => { results := [.lit (.bool true)], args := [d1, d2] }
  | _ => none }
def fnExactKnownIdsRow : OpenClaim := { program := "ytbbaadkgmdkjdaagreat", sum := "8fdd7828addbe31ae604ac09d45c367e7f589cd953a19443f5f895142dc87a25", func := "loop.example/g01101/laws.FnExactKnownIds", spec := "fnExactKnownIds", unfollowed := true, recurses := true, loops := true, apart := false }
def FnExactKnownIdsSaid : Prop := fnExactKnownIdsRow.holds Tryz.pinned (OpenSpec.ofChange fnExactKnownIdsSpec)

/-- ITS FALSE NEIGHBOUR: 'it returns false'. Refute it at one input. -/
def fnExactKnownIdsWrong : ChangeSpec := { name := "fnExactKnownIds", fn := fun _ => fun
  | [d1, d2] => { results := [.lit (.bool false)], args := [d1, d2] }
  | _ => none }
def FnExactKnownIdsWrongFalsely : Prop := fnExactKnownIdsRow.holds Tryz.pinned (OpenSpec.ofChange fnExactKnownIdsWrong)

/-- 'laws.FnExactRevokedIds': WHATEVER THE INPUT: true; the input reads as it did. -/
def fnExactRevokedIdsSpec : ChangeSpec := { name := "fnExactRevokedIds", fn := fun _ => fun
  | [d1, d2] => { results := [.lit (.bool true)], args := [d1, d2] }
  | _ => none }
def fnExactRevokedIdsRow : OpenClaim := { program := "ytbbaadkgmdkjdaagreat", sum := "8fdd7828addbe31ae604ac09d45c367e7f589cd953a19443f5f895142dc87a25", func := "loop.example/g01101/laws.FnExactRevokedIds", spec := "fnExactRevokedIds", unfollowed := true, recurses := true, loops := true, apart := false }
def FnExactRevokedIdsSaid : Prop := fnExactRevokedIdsRow.holds Tryz.pinned (OpenSpec.ofChange fnExactRevokedIdsSpec)

/-- ITS FALSE NEIGHBOUR: 'it returns false'. Refute it at one input. -/
def fnExactRevokedIdsWrong : ChangeSpec := { name := "fnExactRevokedIds", fn := fun _ => fun
  | [d1, d2] => { results := [.lit (.bool false)], args := [d1, d2] }
  | _ => none }
def FnExactRevokedIdsWrongFalsely : Prop := fnExactRevokedIdsRow.holds Tryz.pinned (OpenSpec.ofChange fnExactRevokedIdsWrong)

/-- 'laws.FnExactClosureOf': WHATEVER THE INPUT: true; the input reads as it did. -/
def fnExactClosureOfSpec : ChangeSpec := { name := "fnExactClosureOf", fn := fun _ => fun
  | [d1, d2, d3] => { results := [.lit (.bool true)], args := [d1, d2, d3] }
  | _ => none }
def fnExactClosureOfRow : OpenClaim := { program := "ytbbaadkgmdkjdaagreat", sum := "8fdd7828addbe31ae604ac09d45c367e7f589cd953a19443f5f895142dc87a25", func := "loop.example/g01101/laws.FnExactClosureOf", spec := "fnExactClosureOf", unfollowed := true, recurses := true, loops := true, apart := false }
def FnExactClosureOfSaid : Prop := fnExactClosureOfRow.holds Tryz.pinned (OpenSpec.ofChange fnExactClosureOfSpec)

/-- ITS FALSE NEIGHBOUR: 'it returns false'. Refute it at one input. -/
def fnExactClosureOfWrong : ChangeSpec := { name := "fnExactClosureOf", fn := fun _ => fun
  | [d1, d2, d3] => { results := [.lit (.bool false)], args := [d1, d2, d3] }
  | _ => none }
def FnExactClosureOfWrongFalsely : Prop := fnExactClosureOfRow.holds Tryz.pinned (OpenSpec.ofChange fnExactClosureOfWrong)

/-- 'laws.FnExactDependentsOf': WHATEVER THE INPUT: true; the input reads as it did. -/
def fnExactDependentsOfSpec : ChangeSpec := { name := "fnExactDependentsOf", fn := fun _ => fun
  | [d1, d2, d3] => { results := [.lit (.bool true)], args := [d1, d2, d3] }
  | _ => none }
def fnExactDependentsOfRow : OpenClaim := { program := "ytbbaadkgmdkjdaagreat", sum := "8fdd7828addbe31ae604ac09d45c367e7f589cd953a19443f5f895142dc87a25", func := "loop.example/g01101/laws.FnExactDependentsOf", spec := "fnExactDependentsOf", unfollowed := true, recurses := true, loops := true, apart := false }
def FnExactDependentsOfSaid : Prop := fnExactDependentsOfRow.holds Tryz.pinned (OpenSpec.ofChange fnExactDependentsOfSpec)

/-- ITS FALSE NEIGHBOUR: 'it returns false'. Refute it at one input. -/
def fnExactDependentsOfWrong : ChangeSpec := { name := "fnExactDependentsOf", fn := fun _ => fun
  | [d1, d2, d3] => { results := [.lit (.bool false)], args := [d1, d2, d3] }
  | _ => none }
def FnExactDependentsOfWrongFalsely : Prop := fnExactDependentsOfRow.holds Tryz.pinned (OpenSpec.ofChange fnExactDependentsOfWrong)

/-- 'laws.FnExactRepairRests': WHATEVER THE INPUT: true; the input reads as it did. -/
def fnExactRepairRestsSpec : ChangeSpec := { name := "fnExactRepairRests", fn := fun _ => fun
  | [d1, d2, d3] => { results := [.lit (.bool true)], args := [d1, d2, d3] }
  | _ => none }
def fnExactRepairRestsRow : OpenClaim := { program := "ytbbaadkgmdkjdaagreat", sum := "8fdd7828addbe31ae604ac09d45c367e7f589cd953a19443f5f895142dc87a25", func := "loop.example/g01101/laws.FnExactRepairRests", spec := "fnExactRepairRests", unfollowed := true, recurses := true, loops := true, apart := false }
def FnExactRepairRestsSaid : Prop := fnExactRepairRestsRow.holds Tryz.pinned (OpenSpec.ofChange fnExactRepairRestsSpec)

/-- ITS FALSE NEIGHBOUR: 'it returns false'. Refute it at one input. -/
def fnExactRepairRestsWrong : ChangeSpec := { name := "fnExactRepairRests", fn := fun _ => fun
  | [d1, d2, d3] => { results := [.lit (.bool false)], args := [d1, d2, d3] }
  | _ => none }
def FnExactRepairRestsWrongFalsely : Prop := fnExactRepairRestsRow.holds Tryz.pinned (OpenSpec.ofChange fnExactRepairRestsWrong)

/-- 'laws.FnExactTellLemma': WHATEVER THE INPUT: true; the input reads as it did. -/
def fnExactTellLemmaSpec : ChangeSpec := { name := "fnExactTellLemma", fn := fun _ => fun
  | [d1, d2, d3] => { results := [.lit (.bool true)], args := [d1, d2, d3] }
  | _ => none }
def fnExactTellLemmaRow : OpenClaim := { program := "ytbbaadkgmdkjdaagreat", sum := "8fdd7828addbe31ae604ac09d45c367e7f589cd953a19443f5f895142dc87a25", func := "loop.example/g01101/laws.FnExactTellLemma", spec := "fnExactTellLemma", unfollowed := true, recurses := true, loops := true, apart := false }
def FnExactTellLemmaSaid : Prop := fnExactTellLemmaRow.holds Tryz.pinned (OpenSpec.ofChange fnExactTellLemmaSpec)

/-- ITS FALSE NEIGHBOUR: 'it returns false'. Refute it at one input. -/
def fnExactTellLemmaWrong : ChangeSpec := { name := "fnExactTellLemma", fn := fun _ => fun
  | [d1, d2, d3] => { results := [.lit (.bool false)], args := [d1, d2, d3] }
  | _ => none }
def FnExactTellLemmaWrongFalsely : Prop := fnExactTellLemmaRow.holds Tryz.pinned (OpenSpec.ofChange fnExactTellLemmaWrong)

/- THE SECOND FORM. 'bulk': how many values and letters a reading holds, each counted each time it is reached (what is shared counts as often as it is met; a slice's spare places count too). A statement '..UptoSaid' is the law's where the arguments, and the package variables that the reading takes, are together of bulk at most 1048576: NARROWER than '..Said'. Prove '..Said' where nothing that the law and all that it calls make is longer than what came in: it says more and counts as full. Else prove '..UptoSaid'. A law counts once. -/
mutual
def uptoBulk {H : Type} : DataW H → Nat
  | .lit (.string bytes) => bytes.length + 1
  | .lit _ => 1
  | .nil => 1
  | .ptr d => uptoBulk d + 1
  | .slice elems spare => uptoBulkAll elems + uptoBulkAll spare + 1
  | .agg parts => uptoBulkAll parts + 1
  | .iface _ d => uptoBulk d + 1
  | .map entries => uptoBulkEntries entries + 1
  | .held _ => 1
def uptoBulkAll {H : Type} : List (DataW H) → Nat
  | [] => 0
  | d :: r => uptoBulk d + uptoBulkAll r
def uptoBulkEntries {H : Type} : List (Lit × DataW H) → Nat
  | [] => 0
  | x :: r => uptoBulkEntry x + uptoBulkEntries r
def uptoBulkEntry {H : Type} : Lit × DataW H → Nat
  | (.string bytes, d) => bytes.length + uptoBulk d + 1
  | (_, d) => uptoBulk d + 1
 end
def uptoSmall : (H : Type) → List (DataW H) → Bool := fun _ ds => decide (uptoBulkAll ds ≤ 1048576)
def OpenSpec.upto (s : _root_.Go.ChangeSpec) : _root_.Go.OpenSpec := { _root_.Go.OpenSpec.ofChange s with cond := some uptoSmall }

/-- 'laws.FnExactValidArchive', WHERE WHAT IT READS IS OF BULK AT MOST 1048576: true; the input reads as it did. -/
def fnExactValidArchiveUptoRow : OpenClaim := { program := "ytbbaadkgmdkjdaagreat", sum := "8fdd7828addbe31ae604ac09d45c367e7f589cd953a19443f5f895142dc87a25", func := "loop.example/g01101/laws.FnExactValidArchive", spec := "fnExactValidArchive", unfollowed := true, recurses := true, loops := true, apart := false, narrowed := true }
def FnExactValidArchiveUptoSaid : Prop := fnExactValidArchiveUptoRow.holds Tryz.pinned (OpenSpec.upto fnExactValidArchiveSpec)

/-- 'laws.FnExactValidEvent', WHERE WHAT IT READS IS OF BULK AT MOST 1048576: true; the input reads as it did. -/
def fnExactValidEventUptoRow : OpenClaim := { program := "ytbbaadkgmdkjdaagreat", sum := "8fdd7828addbe31ae604ac09d45c367e7f589cd953a19443f5f895142dc87a25", func := "loop.example/g01101/laws.FnExactValidEvent", spec := "fnExactValidEvent", unfollowed := true, recurses := true, loops := true, apart := false, narrowed := true }
def FnExactValidEventUptoSaid : Prop := fnExactValidEventUptoRow.holds Tryz.pinned (OpenSpec.upto fnExactValidEventSpec)

/-- 'laws.FnExactSavedAt', WHERE WHAT IT READS IS OF BULK AT MOST 1048576: true; the input reads as it did. -/
def fnExactSavedAtUptoRow : OpenClaim := { program := "ytbbaadkgmdkjdaagreat", sum := "8fdd7828addbe31ae604ac09d45c367e7f589cd953a19443f5f895142dc87a25", func := "loop.example/g01101/laws.FnExactSavedAt", spec := "fnExactSavedAt", unfollowed := true, recurses := true, loops := true, apart := false, narrowed := true }
def FnExactSavedAtUptoSaid : Prop := fnExactSavedAtUptoRow.holds Tryz.pinned (OpenSpec.upto fnExactSavedAtSpec)

/-- 'laws.FnExactKnownIds', WHERE WHAT IT READS IS OF BULK AT MOST 1048576: true; the input reads as it did. -/
def fnExactKnownIdsUptoRow : OpenClaim := { program := "ytbbaadkgmdkjdaagreat", sum := "8fdd7828addbe31ae604ac09d45c367e7f589cd953a19443f5f895142dc87a25", func := "loop.example/g01101/laws.FnExactKnownIds", spec := "fnExactKnownIds", unfollowed := true, recurses := true, loops := true, apart := false, narrowed := true }
def FnExactKnownIdsUptoSaid : Prop := fnExactKnownIdsUptoRow.holds Tryz.pinned (OpenSpec.upto fnExactKnownIdsSpec)

/-- 'laws.FnExactRevokedIds', WHERE WHAT IT READS IS OF BULK AT MOST 1048576: true; the input reads as it did. -/
def fnExactRevokedIdsUptoRow : OpenClaim := { program := "ytbbaadkgmdkjdaagreat", sum := "8fdd7828addbe31ae604ac09d45c367e7f589cd953a19443f5f895142dc87a25", func := "loop.example/g01101/laws.FnExactRevokedIds", spec := "fnExactRevokedIds", unfollowed := true, recurses := true, loops := true, apart := false, narrowed := true }
def FnExactRevokedIdsUptoSaid : Prop := fnExactRevokedIdsUptoRow.holds Tryz.pinned (OpenSpec.upto fnExactRevokedIdsSpec)

/-- 'laws.FnExactClosureOf', WHERE WHAT IT READS IS OF BULK AT MOST 1048576: true; the input reads as it did. -/
def fnExactClosureOfUptoRow : OpenClaim := { program := "ytbbaadkgmdkjdaagreat", sum := "8fdd7828addbe31ae604ac09d45c367e7f589cd953a19443f5f895142dc87a25", func := "loop.example/g01101/laws.FnExactClosureOf", spec := "fnExactClosureOf", unfollowed := true, recurses := true, loops := true, apart := false, narrowed := true }
def FnExactClosureOfUptoSaid : Prop := fnExactClosureOfUptoRow.holds Tryz.pinned (OpenSpec.upto fnExactClosureOfSpec)

/-- 'laws.FnExactDependentsOf', WHERE WHAT IT READS IS OF BULK AT MOST 1048576: true; the input reads as it did. -/
def fnExactDependentsOfUptoRow : OpenClaim := { program := "ytbbaadkgmdkjdaagreat", sum := "8fdd7828addbe31ae604ac09d45c367e7f589cd953a19443f5f895142dc87a25", func := "loop.example/g01101/laws.FnExactDependentsOf", spec := "fnExactDependentsOf", unfollowed := true, recurses := true, loops := true, apart := false, narrowed := true }
def FnExactDependentsOfUptoSaid : Prop := fnExactDependentsOfUptoRow.holds Tryz.pinned (OpenSpec.upto fnExactDependentsOfSpec)

/-- 'laws.FnExactRepairRests', WHERE WHAT IT READS IS OF BULK AT MOST 1048576: true; the input reads as it did. -/
def fnExactRepairRestsUptoRow : OpenClaim := { program := "ytbbaadkgmdkjdaagreat", sum := "8fdd7828addbe31ae604ac09d45c367e7f589cd953a19443f5f895142dc87a25", func := "loop.example/g01101/laws.FnExactRepairRests", spec := "fnExactRepairRests", unfollowed := true, recurses := true, loops := true, apart := false, narrowed := true }
def FnExactRepairRestsUptoSaid : Prop := fnExactRepairRestsUptoRow.holds Tryz.pinned (OpenSpec.upto fnExactRepairRestsSpec)

/-- 'laws.FnExactTellLemma', WHERE WHAT IT READS IS OF BULK AT MOST 1048576: true; the input reads as it did. -/
def fnExactTellLemmaUptoRow : OpenClaim := { program := "ytbbaadkgmdkjdaagreat", sum := "8fdd7828addbe31ae604ac09d45c367e7f589cd953a19443f5f895142dc87a25", func := "loop.example/g01101/laws.FnExactTellLemma", spec := "fnExactTellLemma", unfollowed := true, recurses := true, loops := true, apart := false, narrowed := true }
def FnExactTellLemmaUptoSaid : Prop := fnExactTellLemmaUptoRow.holds Tryz.pinned (OpenSpec.upto fnExactTellLemmaSpec)

end Rows
end Go.Proofs.YtbbaadkgmdkjdaaGreat
