/-
  No cell of these rows narrows 'for every input' (looked for: loops, veiled, ifaces, maps, wideKeys, modest, calm, conditions, laid).
  DERIVED. THE GIVEN ROWS OF THIS SEAT. 4 by the template 'for every input the law returns true; each argument reads behind the call as it read before'; 0 by the template 'total and deterministic' (their statements: YtkckfmbecbleaaaTotals.lean).
  GIVEN WITH THE SEED: the statements are not yours to turn. If you find one false, say at which input.
  Laid BY PROGRAM, IN A SANDBOX (cutbox-rows.mjs): the forced cells as the released guide's own fill.sh prints them over the translation cd88a1b35dcfd652… (all of the seat's roots in one cut). By AI agents, Wed Nov 11 2026. No macro, syntax, notation, axiom, sorry.
-/
import Derived.Test.YtkckfmbecbleaaaChecked
import GoSem.Claim
import GoSem.ClaimJoined
import GoSem.ClaimMapViews
import Derived.JoinedTies
import Derived.KernelRfl
namespace Go.Proofs.Ytkckfmbecbleaaa
/- THE CELL 'sum', in the pinned program and in every row, IS THE sha256 OF THE DUMP (.gsa) THAT YtkckfmbecbleaaaProg.lean LOADS. Nothing in Lean hashes anything: it is a label: what it is worth is what the hold of that sum in a sandbox is worth. -/
noncomputable def Try.pinned : Pinned := { name := "ytkckfmbecbleaaa", sum := "cd88a1b35dcfd652f8afd203d227ca607f369286e631dbc05c20f6c5bc9b5007", checked := Try.checked }
namespace Rows
def none {H : Type} : Left H := { results := [], args := [] }

/-- 'dumbwaiterlaw06.QueueSizes': WHATEVER THE INPUT: true; the input reads as it did. -/
def queueSizesSpec : ChangeSpec := { name := "queueSizes", fn := fun _ => fun
  | [d1, d2, d3] => { results := [.lit (.bool true)], args := [d1, d2, d3] }
  | _ => none }
def queueSizesRow : OpenClaim := { program := "ytkckfmbecbleaaa", sum := "cd88a1b35dcfd652f8afd203d227ca607f369286e631dbc05c20f6c5bc9b5007", func := "dumbwaiter/dumbwaiterlaw06.QueueSizes", spec := "queueSizes", apart := false }
def QueueSizesSaid : Prop := queueSizesRow.holds Try.pinned (OpenSpec.ofChange queueSizesSpec)

/-- ITS FALSE NEIGHBOUR: 'it returns false'. Refute it at one input. -/
def queueSizesWrong : ChangeSpec := { name := "queueSizes", fn := fun _ => fun
  | [d1, d2, d3] => { results := [.lit (.bool false)], args := [d1, d2, d3] }
  | _ => none }
def QueueSizesWrongFalsely : Prop := queueSizesRow.holds Try.pinned (OpenSpec.ofChange queueSizesWrong)

/-- 'dumbwaiterlaw06.QueueLong': WHATEVER THE INPUT: true; the input reads as it did. -/
def queueLongSpec : ChangeSpec := { name := "queueLong", fn := fun _ => fun
  | [d] => { results := [.lit (.bool true)], args := [d] }
  | _ => none }
def queueLongRow : OpenClaim := { program := "ytkckfmbecbleaaa", sum := "cd88a1b35dcfd652f8afd203d227ca607f369286e631dbc05c20f6c5bc9b5007", func := "dumbwaiter/dumbwaiterlaw06.QueueLong", spec := "queueLong", apart := false }
def QueueLongSaid : Prop := queueLongRow.holds Try.pinned (OpenSpec.ofChange queueLongSpec)

/-- ITS FALSE NEIGHBOUR: 'it returns false'. Refute it at one input. -/
def queueLongWrong : ChangeSpec := { name := "queueLong", fn := fun _ => fun
  | [d] => { results := [.lit (.bool false)], args := [d] }
  | _ => none }
def QueueLongWrongFalsely : Prop := queueLongRow.holds Try.pinned (OpenSpec.ofChange queueLongWrong)

/-- 'dumbwaiterlaw06.QueuePlays': WHATEVER THE INPUT: true; the input reads as it did. -/
def queuePlaysSpec : ChangeSpec := { name := "queuePlays", fn := fun _ => fun
  | [d1, d2, d3, d4] => { results := [.lit (.bool true)], args := [d1, d2, d3, d4] }
  | _ => none }
def queuePlaysRow : OpenClaim := { program := "ytkckfmbecbleaaa", sum := "cd88a1b35dcfd652f8afd203d227ca607f369286e631dbc05c20f6c5bc9b5007", func := "dumbwaiter/dumbwaiterlaw06.QueuePlays", spec := "queuePlays", apart := false }
def QueuePlaysSaid : Prop := queuePlaysRow.holds Try.pinned (OpenSpec.ofChange queuePlaysSpec)

/-- ITS FALSE NEIGHBOUR: 'it returns false'. Refute it at one input. -/
def queuePlaysWrong : ChangeSpec := { name := "queuePlays", fn := fun _ => fun
  | [d1, d2, d3, d4] => { results := [.lit (.bool false)], args := [d1, d2, d3, d4] }
  | _ => none }
def QueuePlaysWrongFalsely : Prop := queuePlaysRow.holds Try.pinned (OpenSpec.ofChange queuePlaysWrong)

/-- 'dumbwaiterlaw06.QueueErrs': WHATEVER THE INPUT: true; the input reads as it did. -/
def queueErrsSpec : ChangeSpec := { name := "queueErrs", fn := fun _ => fun
  | [d1, d2, d3] => { results := [.lit (.bool true)], args := [d1, d2, d3] }
  | _ => none }
def queueErrsRow : OpenClaim := { program := "ytkckfmbecbleaaa", sum := "cd88a1b35dcfd652f8afd203d227ca607f369286e631dbc05c20f6c5bc9b5007", func := "dumbwaiter/dumbwaiterlaw06.QueueErrs", spec := "queueErrs", apart := false }
def QueueErrsSaid : Prop := queueErrsRow.holds Try.pinned (OpenSpec.ofChange queueErrsSpec)

/-- ITS FALSE NEIGHBOUR: 'it returns false'. Refute it at one input. -/
def queueErrsWrong : ChangeSpec := { name := "queueErrs", fn := fun _ => fun
  | [d1, d2, d3] => { results := [.lit (.bool false)], args := [d1, d2, d3] }
  | _ => none }
def QueueErrsWrongFalsely : Prop := queueErrsRow.holds Try.pinned (OpenSpec.ofChange queueErrsWrong)

/- THE SECOND FORM. 'bulk': how many values and letters a reading holds, each counted each time it is reached (what is shared counts as often as it is met; a slice's spare places count too). A statement '..UptoSaid' is the law's where the arguments, and the package variables that the reading takes, are together of bulk at most 1048576: NARROWER than '..Said'. Prove '..Said' where nothing that the law and all that it calls make is longer than what came in: it says more and counts as full. Else prove '..UptoSaid'. A law counts once. -/
mutual
def uptoBulk {H : Type} : DataW H → Nat
  | .lit (.string bytes) => bytes.length + 1
  | .lit _ => 1
  | .nil => 1
  | .ptr d => uptoBulk d + 1
  | .slice elems spare => uptoBulkAll elems + uptoBulkAll spare + 1
  | .agg parts => uptoBulkAll parts + 1
  | .iface _ d => uptoBulk d + 1
  | .map entries => uptoBulkEntries entries + 1
  | .held _ => 1
def uptoBulkAll {H : Type} : List (DataW H) → Nat
  | [] => 0
  | d :: r => uptoBulk d + uptoBulkAll r
def uptoBulkEntries {H : Type} : List (Lit × DataW H) → Nat
  | [] => 0
  | x :: r => uptoBulkEntry x + uptoBulkEntries r
def uptoBulkEntry {H : Type} : Lit × DataW H → Nat
  | (.string bytes, d) => bytes.length + uptoBulk d + 1
  | (_, d) => uptoBulk d + 1
 end
def uptoSmall : (H : Type) → List (DataW H) → Bool := fun _ ds => decide (uptoBulkAll ds ≤ 1048576)
def OpenSpec.upto (s : _root_.Go.ChangeSpec) : _root_.Go.OpenSpec := { _root_.Go.OpenSpec.ofChange s with cond := some uptoSmall }

/-- 'dumbwaiterlaw06.QueueSizes', WHERE WHAT IT READS IS OF BULK AT MOST 1048576: true; the input reads as it did. -/
def queueSizesUptoRow : OpenClaim := { program := "ytkckfmbecbleaaa", sum := "cd88a1b35dcfd652f8afd203d227ca607f369286e631dbc05c20f6c5bc9b5007", func := "dumbwaiter/dumbwaiterlaw06.QueueSizes", spec := "queueSizes", apart := false, narrowed := true }
def QueueSizesUptoSaid : Prop := queueSizesUptoRow.holds Try.pinned (OpenSpec.upto queueSizesSpec)

/-- 'dumbwaiterlaw06.QueueLong', WHERE WHAT IT READS IS OF BULK AT MOST 1048576: true; the input reads as it did. -/
def queueLongUptoRow : OpenClaim := { program := "ytkckfmbecbleaaa", sum := "cd88a1b35dcfd652f8afd203d227ca607f369286e631dbc05c20f6c5bc9b5007", func := "dumbwaiter/dumbwaiterlaw06.QueueLong", spec := "queueLong", apart := false, narrowed := true }
def QueueLongUptoSaid : Prop := queueLongUptoRow.holds Try.pinned (OpenSpec.upto queueLongSpec)

/-- 'dumbwaiterlaw06.QueuePlays', WHERE WHAT IT READS IS OF BULK AT MOST 1048576: true; the input reads as it did. -/
def queuePlaysUptoRow : OpenClaim := { program := "ytkckfmbecbleaaa", sum := "cd88a1b35dcfd652f8afd203d227ca607f369286e631dbc05c20f6c5bc9b5007", func := "dumbwaiter/dumbwaiterlaw06.QueuePlays", spec := "queuePlays", apart := false, narrowed := true }
def QueuePlaysUptoSaid : Prop := queuePlaysUptoRow.holds Try.pinned (OpenSpec.upto queuePlaysSpec)

/-- 'dumbwaiterlaw06.QueueErrs', WHERE WHAT IT READS IS OF BULK AT MOST 1048576: true; the input reads as it did. -/
def queueErrsUptoRow : OpenClaim := { program := "ytkckfmbecbleaaa", sum := "cd88a1b35dcfd652f8afd203d227ca607f369286e631dbc05c20f6c5bc9b5007", func := "dumbwaiter/dumbwaiterlaw06.QueueErrs", spec := "queueErrs", apart := false, narrowed := true }
def QueueErrsUptoSaid : Prop := queueErrsUptoRow.holds Try.pinned (OpenSpec.upto queueErrsSpec)

end Rows
end Go.Proofs.Ytkckfmbecbleaaa
