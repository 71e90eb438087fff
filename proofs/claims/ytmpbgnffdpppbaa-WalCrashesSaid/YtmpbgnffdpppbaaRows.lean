/-
  No cell of these rows narrows 'for every input' (looked for: loops, veiled, ifaces, maps, wideKeys, modest, calm, conditions, laid).
  DERIVED. THE GIVEN ROWS OF THIS SEAT. 6 by the template 'for every input the law returns true; each argument reads behind the call as it read before'; 0 by the template 'total and deterministic' (their statements: YtmpbgnffdpppbaaTotals.lean).
  GIVEN WITH THE SEED: the statements are not yours to turn. If you find one false, say at which input.
  Laid BY PROGRAM, IN A SANDBOX (cutbox-rows.mjs): the forced cells as the released guide's own fill.sh prints them over the translation b48d728eff9688a9… (all of the seat's roots in one cut). By AI agents, Wed Nov 11 2026. No macro, syntax, notation, axiom, sorry.
-/
import Derived.Test.YtmpbgnffdpppbaaChecked
import GoSem.Claim
import GoSem.ClaimJoined
import GoSem.ClaimMapViews
import Derived.JoinedTies
import Derived.KernelRfl
namespace Go.Proofs.Ytmpbgnffdpppbaa
/- THE CELL 'sum', in the pinned program and in every row, IS THE sha256 OF THE DUMP (.gsa) THAT YtmpbgnffdpppbaaProg.lean LOADS. Nothing in Lean hashes anything: it is a label: what it is worth is what the hold of that sum in a sandbox is worth. -/
noncomputable def Try.pinned : Pinned := { name := "ytmpbgnffdpppbaa", sum := "b48d728eff9688a92e82c37bc94601228f1ce3c6d00e24218cf38c5c316fc886", checked := Try.checked }
namespace Rows
def none {H : Type} : Left H := { results := [], args := [] }

/-- 'dumbwaiterlaw08.WalScans': WHATEVER THE INPUT: true; the input reads as it did. -/
def walScansSpec : ChangeSpec := { name := "walScans", fn := fun _ => fun
  | [d1, d2, d3] => { results := [.lit (.bool true)], args := [d1, d2, d3] }
  | _ => none }
def walScansRow : OpenClaim := { program := "ytmpbgnffdpppbaa", sum := "b48d728eff9688a92e82c37bc94601228f1ce3c6d00e24218cf38c5c316fc886", func := "dumbwaiter/dumbwaiterlaw08.WalScans", spec := "walScans", apart := false }
def WalScansSaid : Prop := walScansRow.holds Try.pinned (OpenSpec.ofChange walScansSpec)

/-- ITS FALSE NEIGHBOUR: 'it returns false'. Refute it at one input. -/
def walScansWrong : ChangeSpec := { name := "walScans", fn := fun _ => fun
  | [d1, d2, d3] => { results := [.lit (.bool false)], args := [d1, d2, d3] }
  | _ => none }
def WalScansWrongFalsely : Prop := walScansRow.holds Try.pinned (OpenSpec.ofChange walScansWrong)

/-- 'dumbwaiterlaw08.WalJunk': WHATEVER THE INPUT: true; the input reads as it did. -/
def walJunkSpec : ChangeSpec := { name := "walJunk", fn := fun _ => fun
  | [d1, d2, d3, d4] => { results := [.lit (.bool true)], args := [d1, d2, d3, d4] }
  | _ => none }
def walJunkRow : OpenClaim := { program := "ytmpbgnffdpppbaa", sum := "b48d728eff9688a92e82c37bc94601228f1ce3c6d00e24218cf38c5c316fc886", func := "dumbwaiter/dumbwaiterlaw08.WalJunk", spec := "walJunk", apart := false }
def WalJunkSaid : Prop := walJunkRow.holds Try.pinned (OpenSpec.ofChange walJunkSpec)

/-- ITS FALSE NEIGHBOUR: 'it returns false'. Refute it at one input. -/
def walJunkWrong : ChangeSpec := { name := "walJunk", fn := fun _ => fun
  | [d1, d2, d3, d4] => { results := [.lit (.bool false)], args := [d1, d2, d3, d4] }
  | _ => none }
def WalJunkWrongFalsely : Prop := walJunkRow.holds Try.pinned (OpenSpec.ofChange walJunkWrong)

/-- 'dumbwaiterlaw08.WalBytes': WHATEVER THE INPUT: true; the input reads as it did. -/
def walBytesSpec : ChangeSpec := { name := "walBytes", fn := fun _ => fun
  | [d1, d2, d3, d4, d5] => { results := [.lit (.bool true)], args := [d1, d2, d3, d4, d5] }
  | _ => none }
def walBytesRow : OpenClaim := { program := "ytmpbgnffdpppbaa", sum := "b48d728eff9688a92e82c37bc94601228f1ce3c6d00e24218cf38c5c316fc886", func := "dumbwaiter/dumbwaiterlaw08.WalBytes", spec := "walBytes", apart := false }
def WalBytesSaid : Prop := walBytesRow.holds Try.pinned (OpenSpec.ofChange walBytesSpec)

/-- ITS FALSE NEIGHBOUR: 'it returns false'. Refute it at one input. -/
def walBytesWrong : ChangeSpec := { name := "walBytes", fn := fun _ => fun
  | [d1, d2, d3, d4, d5] => { results := [.lit (.bool false)], args := [d1, d2, d3, d4, d5] }
  | _ => none }
def WalBytesWrongFalsely : Prop := walBytesRow.holds Try.pinned (OpenSpec.ofChange walBytesWrong)

/-- 'dumbwaiterlaw08.WalNil': WHATEVER THE INPUT: true; the input reads as it did. -/
def walNilSpec : ChangeSpec := { name := "walNil", fn := fun _ => fun
  | [d] => { results := [.lit (.bool true)], args := [d] }
  | _ => none }
def walNilRow : OpenClaim := { program := "ytmpbgnffdpppbaa", sum := "b48d728eff9688a92e82c37bc94601228f1ce3c6d00e24218cf38c5c316fc886", func := "dumbwaiter/dumbwaiterlaw08.WalNil", spec := "walNil", apart := false }
def WalNilSaid : Prop := walNilRow.holds Try.pinned (OpenSpec.ofChange walNilSpec)

/-- ITS FALSE NEIGHBOUR: 'it returns false'. Refute it at one input. -/
def walNilWrong : ChangeSpec := { name := "walNil", fn := fun _ => fun
  | [d] => { results := [.lit (.bool false)], args := [d] }
  | _ => none }
def WalNilWrongFalsely : Prop := walNilRow.holds Try.pinned (OpenSpec.ofChange walNilWrong)

/-- 'dumbwaiterlaw08.WalCrashes': WHATEVER THE INPUT: true; the input reads as it did. -/
def walCrashesSpec : ChangeSpec := { name := "walCrashes", fn := fun _ => fun
  | [d1, d2, d3] => { results := [.lit (.bool true)], args := [d1, d2, d3] }
  | _ => none }
def walCrashesRow : OpenClaim := { program := "ytmpbgnffdpppbaa", sum := "b48d728eff9688a92e82c37bc94601228f1ce3c6d00e24218cf38c5c316fc886", func := "dumbwaiter/dumbwaiterlaw08.WalCrashes", spec := "walCrashes", apart := false }
def WalCrashesSaid : Prop := walCrashesRow.holds Try.pinned (OpenSpec.ofChange walCrashesSpec)

/-- ITS FALSE NEIGHBOUR: 'it returns false'. Refute it at one input. -/
def walCrashesWrong : ChangeSpec := { name := "walCrashes", fn := fun _ => fun
  | [d1, d2, d3] => { results := [.lit (.bool false)], args := [d1, d2, d3] }
  | _ => none }
def WalCrashesWrongFalsely : Prop := walCrashesRow.holds Try.pinned (OpenSpec.ofChange walCrashesWrong)

/-- 'dumbwaiterlaw08.WalCompacts': WHATEVER THE INPUT: true; the input reads as it did. -/
def walCompactsSpec : ChangeSpec := { name := "walCompacts", fn := fun _ => fun
  | [d1, d2, d3, d4] => { results := [.lit (.bool true)], args := [d1, d2, d3, d4] }
  | _ => none }
def walCompactsRow : OpenClaim := { program := "ytmpbgnffdpppbaa", sum := "b48d728eff9688a92e82c37bc94601228f1ce3c6d00e24218cf38c5c316fc886", func := "dumbwaiter/dumbwaiterlaw08.WalCompacts", spec := "walCompacts", apart := false }
def WalCompactsSaid : Prop := walCompactsRow.holds Try.pinned (OpenSpec.ofChange walCompactsSpec)

/-- ITS FALSE NEIGHBOUR: 'it returns false'. Refute it at one input. -/
def walCompactsWrong : ChangeSpec := { name := "walCompacts", fn := fun _ => fun
  | [d1, d2, d3, d4] => { results := [.lit (.bool false)], args := [d1, d2, d3, d4] }
  | _ => none }
def WalCompactsWrongFalsely : Prop := walCompactsRow.holds Try.pinned (OpenSpec.ofChange walCompactsWrong)

/- THE SECOND FORM. 'bulk': how many values and letters a reading holds, each counted each time it is reached (what is shared counts as often as it is met; a slice's spare places count too). A statement '..UptoSaid' is the law's where the arguments, and the package variables that the reading takes, are together of bulk at most 1048576: NARROWER than '..Said'. Prove '..Said' where nothing that the law and all that it calls make is longer than what came in: it says more and counts as full. Else prove '..UptoSaid'. A law counts once. -/
mutual
def uptoBulk {H : Type} : DataW H → Nat
  | .lit (.string bytes) => bytes.length + 1
  | .lit _ => 1
  | .nil => 1
  | .ptr d => uptoBulk d + 1
  | .slice elems spare => uptoBulkAll elems + uptoBulkAll spare + 1
  | .agg parts => uptoBulkAll parts + 1
  | .iface _ d => uptoBulk d + 1
  | .map entries => uptoBulkEntries entries + 1
  | .held _ => 1
def uptoBulkAll {H : Type} : List (DataW H) → Nat
  | [] => 0
  | d :: r => uptoBulk d + uptoBulkAll r
def uptoBulkEntries {H : Type} : List (Lit × DataW H) → Nat
  | [] => 0
  | x :: r => uptoBulkEntry x + uptoBulkEntries r
def uptoBulkEntry {H : Type} : Lit × DataW H → Nat
  | (.string bytes, d) => bytes.length + uptoBulk d + 1
  | (_, d) => uptoBulk d + 1
 end
def uptoSmall : (H : Type) → List (DataW H) → Bool := fun _ ds => decide (uptoBulkAll ds ≤ 1048576)
def OpenSpec.upto (s : _root_.Go.ChangeSpec) : _root_.Go.OpenSpec := { _root_.Go.OpenSpec.ofChange s with cond := some uptoSmall }

/-- 'dumbwaiterlaw08.WalScans', WHERE WHAT IT READS IS OF BULK AT MOST 1048576: true; the input reads as it did. -/
def walScansUptoRow : OpenClaim := { program := "ytmpbgnffdpppbaa", sum := "b48d728eff9688a92e82c37bc94601228f1ce3c6d00e24218cf38c5c316fc886", func := "dumbwaiter/dumbwaiterlaw08.WalScans", spec := "walScans", apart := false, narrowed := true }
def WalScansUptoSaid : Prop := walScansUptoRow.holds Try.pinned (OpenSpec.upto walScansSpec)

/-- 'dumbwaiterlaw08.WalJunk', WHERE WHAT IT READS IS OF BULK AT MOST 1048576: true; the input reads as it did. -/
def walJunkUptoRow : OpenClaim := { program := "ytmpbgnffdpppbaa", sum := "b48d728eff9688a92e82c37bc94601228f1ce3c6d00e24218cf38c5c316fc886", func := "dumbwaiter/dumbwaiterlaw08.WalJunk", spec := "walJunk", apart := false, narrowed := true }
def WalJunkUptoSaid : Prop := walJunkUptoRow.holds Try.pinned (OpenSpec.upto walJunkSpec)

/-- 'dumbwaiterlaw08.WalBytes', WHERE WHAT IT READS IS OF BULK AT MOST 1048576: true; the input reads as it did. -/
def walBytesUptoRow : OpenClaim := { program := "ytmpbgnffdpppbaa", sum := "b48d728eff9688a92e82c37bc94601228f1ce3c6d00e24218cf38c5c316fc886", func := "dumbwaiter/dumbwaiterlaw08.WalBytes", spec := "walBytes", apart := false, narrowed := true }
def WalBytesUptoSaid : Prop := walBytesUptoRow.holds Try.pinned (OpenSpec.upto walBytesSpec)

/-- 'dumbwaiterlaw08.WalNil', WHERE WHAT IT READS IS OF BULK AT MOST 1048576: true; the input reads as it did. -/
def walNilUptoRow : OpenClaim := { program := "ytmpbgnffdpppbaa", sum := "b48d728eff9688a92e82c37bc94601228f1ce3c6d00e24218cf38c5c316fc886", func := "dumbwaiter/dumbwaiterlaw08.WalNil", spec := "walNil", apart := false, narrowed := true }
def WalNilUptoSaid : Prop := walNilUptoRow.holds Try.pinned (OpenSpec.upto walNilSpec)

/-- 'dumbwaiterlaw08.WalCrashes', WHERE WHAT IT READS IS OF BULK AT MOST 1048576: true; the input reads as it did. -/
def walCrashesUptoRow : OpenClaim := { program := "ytmpbgnffdpppbaa", sum := "b48d728eff9688a92e82c37bc94601228f1ce3c6d00e24218cf38c5c316fc886", func := "dumbwaiter/dumbwaiterlaw08.WalCrashes", spec := "walCrashes", apart := false, narrowed := true }
def WalCrashesUptoSaid : Prop := walCrashesUptoRow.holds Try.pinned (OpenSpec.upto walCrashesSpec)

/-- 'dumbwaiterlaw08.WalCompacts', WHERE WHAT IT READS IS OF BULK AT MOST 1048576: true; the input reads as it did. -/
def walCompactsUptoRow : OpenClaim := { program := "ytmpbgnffdpppbaa", sum := "b48d728eff9688a92e82c37bc94601228f1ce3c6d00e24218cf38c5c316fc886", func := "dumbwaiter/dumbwaiterlaw08.WalCompacts", spec := "walCompacts", apart := false, narrowed := true }
def WalCompactsUptoSaid : Prop := walCompactsUptoRow.holds Try.pinned (OpenSpec.upto walCompactsSpec)

end Rows
end Go.Proofs.Ytmpbgnffdpppbaa
