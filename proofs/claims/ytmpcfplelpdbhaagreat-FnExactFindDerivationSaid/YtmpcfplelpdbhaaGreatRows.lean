/-
  NARROWER THAN 'FOR EVERY INPUT', by the rows' own cells (each row's printed sentence says how): FnExactFindDerivation: loops · FnExactSpreadEvents: loops.
  DERIVED. THE GIVEN ROWS OF THIS SEAT. 2 by the template 'for every input the law returns true; each argument reads behind the call as it read before'; 0 by the template 'total and deterministic' (their statements: YtmpcfplelpdbhaaGreatTotals.lean).
  GIVEN WITH THE SEED: the statements are not yours to turn. If you find one false, say at which input.
  Laid BY PROGRAM, IN A SANDBOX (cutbox-rows.mjs): the forced cells as the released guide's own fill.sh prints them over the translation 9ea69baa294a9620… (all of the seat's roots in one cut). By AI agents, Wed Nov 11 2026. No macro, syntax, notation, axiom, sorry.
-/
import Derived.Test.YtmpcfplelpdbhaaGreatChecked
import GoSem.Claim
import GoSem.ClaimJoined
import GoSem.ClaimMapViews
import Derived.JoinedTies
import Derived.KernelRfl
namespace Go.Proofs.YtmpcfplelpdbhaaGreat
/- THE CELL 'sum', in the pinned program and in every row, IS THE sha256 OF THE DUMP (.gsa) THAT YtmpcfplelpdbhaaGreatProg.lean LOADS. Nothing in Lean hashes anything: it is a label: what it is worth is what the hold of that sum in a sandbox is worth. -/
noncomputable def Tryz.pinned : Pinned := { name := "ytmpcfplelpdbhaagreat", sum := "9ea69baa294a9620ca42c1a1204438bdc097266f041cb0cf5694ac81fd7437ab", checked := Tryz.checked }
namespace Rows
def none {H : Type} : Left H := { results := [], args := [] }

/-- 'laws.FnExactFindDerivation': WHATEVER THE INPUT: true; the input reads as it did. -/
def fnExactFindDerivationSpec : ChangeSpec := { name := "fnExactFindDerivation", fn := fun _ => fun
  | [d1, d2, d3] => { results := [.lit (.bool true)], args := [d1, d2, d3] }
  | _ => none }
def fnExactFindDerivationRow : OpenClaim := { program := "ytmpcfplelpdbhaagreat", sum := "9ea69baa294a9620ca42c1a1204438bdc097266f041cb0cf5694ac81fd7437ab", func := "loop.example/g01101/laws.FnExactFindDerivation", spec := "fnExactFindDerivation", unfollowed := true, recurses := true, loops := true, apart := false }
def FnExactFindDerivationSaid : Prop := fnExactFindDerivationRow.holds Tryz.pinned (OpenSpec.ofChange fnExactFindDerivationSpec)

/-- ITS FALSE NEIGHBOUR: 'it returns false'. Refute it at one input. -/
def fnExactFindDerivationWrong : ChangeSpec := { name := "fnExactFindDerivation", fn := fun _ => fun
  | [d1, d2, d3] => { results := [.lit (.bool false)], args := [d1, d2, d3] }
  | _ => none }
def FnExactFindDerivationWrongFalsely : Prop := fnExactFindDerivationRow.holds Tryz.pinned (OpenSpec.ofChange fnExactFindDerivationWrong)

/-- 'laws.FnExactSpreadEvents': WHATEVER THE INPUT: true; the input reads as it did. -/
def fnExactSpreadEventsSpec : ChangeSpec := { name := "fnExactSpreadEvents", fn := fun _ => fun
  | [d] => { results := [.lit (.bool true)], args := [d] }
  | _ => none }
def fnExactSpreadEventsRow : OpenClaim := { program := "ytmpcfplelpdbhaagreat", sum := "9ea69baa294a9620ca42c1a1204438bdc097266f041cb0cf5694ac81fd7437ab", func := "loop.example/g01101/laws.FnExactSpreadEvents", spec := "fnExactSpreadEvents", unfollowed := true, recurses := true, loops := true, apart := false }
def FnExactSpreadEventsSaid : Prop := fnExactSpreadEventsRow.holds Tryz.pinned (OpenSpec.ofChange fnExactSpreadEventsSpec)

/-- ITS FALSE NEIGHBOUR: 'it returns false'. Refute it at one input. -/
def fnExactSpreadEventsWrong : ChangeSpec := { name := "fnExactSpreadEvents", fn := fun _ => fun
  | [d] => { results := [.lit (.bool false)], args := [d] }
  | _ => none }
def FnExactSpreadEventsWrongFalsely : Prop := fnExactSpreadEventsRow.holds Tryz.pinned (OpenSpec.ofChange fnExactSpreadEventsWrong)

/- THE SECOND FORM. 'bulk': how many values and letters a reading holds, each counted each time it is reached (what is shared counts as often as it is met; a slice's spare places count too). A statement '..UptoSaid' is the law's where the arguments, and the package variables that the reading takes, are together of bulk at most 1048576: NARROWER than '..Said'. Prove '..Said' where nothing that the law and all that it calls make is longer than what came in: it says more and counts as full. Else prove '..UptoSaid'. A law counts once. -/
mutual
def uptoBulk {H : Type} : DataW H → Nat
  | .lit (.string bytes) => bytes.length + 1
  | .lit _ => 1
  | .nil => 1
  | .ptr d => uptoBulk d + 1
  | .slice elems spare => uptoBulkAll elems + uptoBulkAll spare + 1
  | .agg parts => uptoBulkAll parts + 1
  | .iface _ d => uptoBulk d + 1
  | .map entries => uptoBulkEntries entries + 1
  | .held _ => 1
def uptoBulkAll {H : Type} : List (DataW H) → Nat
  | [] => 0
  | d :: r => uptoBulk d + uptoBulkAll r
def uptoBulkEntries {H : Type} : List (Lit × DataW H) → Nat
  | [] => 0
  | x :: r => uptoBulkEntry x + uptoBulkEntries r
def uptoBulkEntry {H : Type} : Lit × DataW H → Nat
  | (.string bytes, d) => bytes.length + uptoBulk d + 1
  | (_, d) => uptoBulk d + 1
 end
def uptoSmall : (H : Type) → List (DataW H) → Bool := fun _ ds => decide (uptoBulkAll ds ≤ 1048576)
def OpenSpec.upto (s : _root_.Go.ChangeSpec) : _root_.Go.OpenSpec := { _root_.Go.OpenSpec.ofChange s with cond := some uptoSmall }

/-- 'laws.FnExactFindDerivation', WHERE WHAT IT READS IS OF BULK AT MOST 1048576: true; the input reads as it did. -/
def fnExactFindDerivationUptoRow : OpenClaim := { program := "ytmpcfplelpdbhaagreat", sum := "9ea69baa294a9620ca42c1a1204438bdc097266f041cb0cf5694ac81fd7437ab", func := "loop.example/g01101/laws.FnExactFindDerivation", spec := "fnExactFindDerivation", unfollowed := true, recurses := true, loops := true, apart := false, narrowed := true }
def FnExactFindDerivationUptoSaid : Prop := fnExactFindDerivationUptoRow.holds Tryz.pinned (OpenSpec.upto fnExactFindDerivationSpec)

/-- 'laws.FnExactSpreadEvents', WHERE WHAT IT READS IS OF BULK AT MOST 1048576: true; the input reads as it did. -/
def fnExactSpreadEventsUptoRow : OpenClaim := { program := "ytmpcfplelpdbhaagreat", sum := "9ea69baa294a9620ca42c1a1204438bdc097266f041cb0cf5694ac81fd7437ab", func := "loop.example/g01101/laws.FnExactSpreadEvents", spec := "fnExactSpreadEvents", unfollowed := true, recurses := true, loops := true, apart := false, narrowed := true }
def FnExactSpreadEventsUptoSaid : Prop := fnExactSpreadEventsUptoRow.holds Tryz.pinned (OpenSpec.upto fnExactSpreadEventsSpec)

end Rows
end Go.Proofs.YtmpcfplelpdbhaaGreat
