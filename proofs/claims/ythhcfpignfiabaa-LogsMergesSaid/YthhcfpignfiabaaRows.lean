/-
  No cell of these rows narrows 'for every input' (looked for: loops, veiled, ifaces, maps, wideKeys, modest, calm, conditions, laid).
  DERIVED. THE GIVEN ROWS OF THIS SEAT. 7 by the template 'for every input the law returns true; each argument reads behind the call as it read before'; 0 by the template 'total and deterministic' (their statements: YthhcfpignfiabaaTotals.lean).
  GIVEN WITH THE SEED: the statements are not yours to turn. If you find one false, say at which input.
  Laid BY PROGRAM, IN A SANDBOX (cutbox-rows.mjs): the forced cells as the released guide's own fill.sh prints them over the translation a2956ba35995c3de… (all of the seat's roots in one cut). By AI agents, Wed Nov 11 2026. No macro, syntax, notation, axiom, sorry.
-/
import Derived.Test.YthhcfpignfiabaaChecked
import GoSem.Claim
import GoSem.ClaimJoined
import GoSem.ClaimMapViews
import Derived.JoinedTies
import Derived.KernelRfl
namespace Go.Proofs.Ythhcfpignfiabaa
/- THE CELL 'sum', in the pinned program and in every row, IS THE sha256 OF THE DUMP (.gsa) THAT YthhcfpignfiabaaProg.lean LOADS. Nothing in Lean hashes anything: it is a label: what it is worth is what the hold of that sum in a sandbox is worth. -/
noncomputable def Try.pinned : Pinned := { name := "ythhcfpignfiabaa", sum := "a2956ba35995c3de5ffc288cec0bddceddcbf76af624e697a7d29531528ceb93", checked := Try.checked }
namespace Rows
def none {H : Type} : Left H := { results := [], args := [] }

/-- 'dumbwaiterlaw09.LogsFits': WHATEVER THE INPUT: true; the input reads as it did. -/
def logsFitsSpec : ChangeSpec := { name := "logsFits", fn := fun _ => fun
  | [d1, d2, d3, d4, d5, d6] => { results := [.lit (.bool true)], args := [d1, d2, d3, d4, d5, d6] }
  | _ => none }
def logsFitsRow : OpenClaim := { program := "ythhcfpignfiabaa", sum := "a2956ba35995c3de5ffc288cec0bddceddcbf76af624e697a7d29531528ceb93", func := "dumbwaiter/dumbwaiterlaw09.LogsFits", spec := "logsFits", apart := false }
def LogsFitsSaid : Prop := logsFitsRow.holds Try.pinned (OpenSpec.ofChange logsFitsSpec)

/-- ITS FALSE NEIGHBOUR: 'it returns false'. Refute it at one input. -/
def logsFitsWrong : ChangeSpec := { name := "logsFits", fn := fun _ => fun
  | [d1, d2, d3, d4, d5, d6] => { results := [.lit (.bool false)], args := [d1, d2, d3, d4, d5, d6] }
  | _ => none }
def LogsFitsWrongFalsely : Prop := logsFitsRow.holds Try.pinned (OpenSpec.ofChange logsFitsWrong)

/-- 'dumbwaiterlaw09.LogsMasks': WHATEVER THE INPUT: true; the input reads as it did. -/
def logsMasksSpec : ChangeSpec := { name := "logsMasks", fn := fun _ => fun
  | [d1, d2] => { results := [.lit (.bool true)], args := [d1, d2] }
  | _ => none }
def logsMasksRow : OpenClaim := { program := "ythhcfpignfiabaa", sum := "a2956ba35995c3de5ffc288cec0bddceddcbf76af624e697a7d29531528ceb93", func := "dumbwaiter/dumbwaiterlaw09.LogsMasks", spec := "logsMasks", apart := false }
def LogsMasksSaid : Prop := logsMasksRow.holds Try.pinned (OpenSpec.ofChange logsMasksSpec)

/-- ITS FALSE NEIGHBOUR: 'it returns false'. Refute it at one input. -/
def logsMasksWrong : ChangeSpec := { name := "logsMasks", fn := fun _ => fun
  | [d1, d2] => { results := [.lit (.bool false)], args := [d1, d2] }
  | _ => none }
def LogsMasksWrongFalsely : Prop := logsMasksRow.holds Try.pinned (OpenSpec.ofChange logsMasksWrong)

/-- 'dumbwaiterlaw09.LogsMakes': WHATEVER THE INPUT: true; the input reads as it did. -/
def logsMakesSpec : ChangeSpec := { name := "logsMakes", fn := fun _ => fun
  | [d1, d2, d3, d4, d5] => { results := [.lit (.bool true)], args := [d1, d2, d3, d4, d5] }
  | _ => none }
def logsMakesRow : OpenClaim := { program := "ythhcfpignfiabaa", sum := "a2956ba35995c3de5ffc288cec0bddceddcbf76af624e697a7d29531528ceb93", func := "dumbwaiter/dumbwaiterlaw09.LogsMakes", spec := "logsMakes", apart := false }
def LogsMakesSaid : Prop := logsMakesRow.holds Try.pinned (OpenSpec.ofChange logsMakesSpec)

/-- ITS FALSE NEIGHBOUR: 'it returns false'. Refute it at one input. -/
def logsMakesWrong : ChangeSpec := { name := "logsMakes", fn := fun _ => fun
  | [d1, d2, d3, d4, d5] => { results := [.lit (.bool false)], args := [d1, d2, d3, d4, d5] }
  | _ => none }
def LogsMakesWrongFalsely : Prop := logsMakesRow.holds Try.pinned (OpenSpec.ofChange logsMakesWrong)

/-- 'dumbwaiterlaw09.LogsPuts': WHATEVER THE INPUT: true; the input reads as it did. -/
def logsPutsSpec : ChangeSpec := { name := "logsPuts", fn := fun _ => fun
  | [d1, d2, d3, d4, d5] => { results := [.lit (.bool true)], args := [d1, d2, d3, d4, d5] }
  | _ => none }
def logsPutsRow : OpenClaim := { program := "ythhcfpignfiabaa", sum := "a2956ba35995c3de5ffc288cec0bddceddcbf76af624e697a7d29531528ceb93", func := "dumbwaiter/dumbwaiterlaw09.LogsPuts", spec := "logsPuts", apart := false }
def LogsPutsSaid : Prop := logsPutsRow.holds Try.pinned (OpenSpec.ofChange logsPutsSpec)

/-- ITS FALSE NEIGHBOUR: 'it returns false'. Refute it at one input. -/
def logsPutsWrong : ChangeSpec := { name := "logsPuts", fn := fun _ => fun
  | [d1, d2, d3, d4, d5] => { results := [.lit (.bool false)], args := [d1, d2, d3, d4, d5] }
  | _ => none }
def LogsPutsWrongFalsely : Prop := logsPutsRow.holds Try.pinned (OpenSpec.ofChange logsPutsWrong)

/-- 'dumbwaiterlaw09.LogsCompacts': WHATEVER THE INPUT: true; the input reads as it did. -/
def logsCompactsSpec : ChangeSpec := { name := "logsCompacts", fn := fun _ => fun
  | [d1, d2, d3, d4, d5] => { results := [.lit (.bool true)], args := [d1, d2, d3, d4, d5] }
  | _ => none }
def logsCompactsRow : OpenClaim := { program := "ythhcfpignfiabaa", sum := "a2956ba35995c3de5ffc288cec0bddceddcbf76af624e697a7d29531528ceb93", func := "dumbwaiter/dumbwaiterlaw09.LogsCompacts", spec := "logsCompacts", apart := false }
def LogsCompactsSaid : Prop := logsCompactsRow.holds Try.pinned (OpenSpec.ofChange logsCompactsSpec)

/-- ITS FALSE NEIGHBOUR: 'it returns false'. Refute it at one input. -/
def logsCompactsWrong : ChangeSpec := { name := "logsCompacts", fn := fun _ => fun
  | [d1, d2, d3, d4, d5] => { results := [.lit (.bool false)], args := [d1, d2, d3, d4, d5] }
  | _ => none }
def LogsCompactsWrongFalsely : Prop := logsCompactsRow.holds Try.pinned (OpenSpec.ofChange logsCompactsWrong)

/-- 'dumbwaiterlaw09.LogsMerges': WHATEVER THE INPUT: true; the input reads as it did. -/
def logsMergesSpec : ChangeSpec := { name := "logsMerges", fn := fun _ => fun
  | [d1, d2, d3, d4, d5, d6] => { results := [.lit (.bool true)], args := [d1, d2, d3, d4, d5, d6] }
  | _ => none }
def logsMergesRow : OpenClaim := { program := "ythhcfpignfiabaa", sum := "a2956ba35995c3de5ffc288cec0bddceddcbf76af624e697a7d29531528ceb93", func := "dumbwaiter/dumbwaiterlaw09.LogsMerges", spec := "logsMerges", apart := false }
def LogsMergesSaid : Prop := logsMergesRow.holds Try.pinned (OpenSpec.ofChange logsMergesSpec)

/-- ITS FALSE NEIGHBOUR: 'it returns false'. Refute it at one input. -/
def logsMergesWrong : ChangeSpec := { name := "logsMerges", fn := fun _ => fun
  | [d1, d2, d3, d4, d5, d6] => { results := [.lit (.bool false)], args := [d1, d2, d3, d4, d5, d6] }
  | _ => none }
def LogsMergesWrongFalsely : Prop := logsMergesRow.holds Try.pinned (OpenSpec.ofChange logsMergesWrong)

/-- 'dumbwaiterlaw09.LogsNil': WHATEVER THE INPUT: true; the input reads as it did. -/
def logsNilSpec : ChangeSpec := { name := "logsNil", fn := fun _ => fun
  | [d1, d2, d3] => { results := [.lit (.bool true)], args := [d1, d2, d3] }
  | _ => none }
def logsNilRow : OpenClaim := { program := "ythhcfpignfiabaa", sum := "a2956ba35995c3de5ffc288cec0bddceddcbf76af624e697a7d29531528ceb93", func := "dumbwaiter/dumbwaiterlaw09.LogsNil", spec := "logsNil", apart := false }
def LogsNilSaid : Prop := logsNilRow.holds Try.pinned (OpenSpec.ofChange logsNilSpec)

/-- ITS FALSE NEIGHBOUR: 'it returns false'. Refute it at one input. -/
def logsNilWrong : ChangeSpec := { name := "logsNil", fn := fun _ => fun
  | [d1, d2, d3] => { results := [.lit (.bool false)], args := [d1, d2, d3] }
  | _ => none }
def LogsNilWrongFalsely : Prop := logsNilRow.holds Try.pinned (OpenSpec.ofChange logsNilWrong)

/- THE SECOND FORM. 'bulk': how many values and letters a reading holds, each counted each time it is reached (what is shared counts as often as it is met; a slice's spare places count too). A statement '..UptoSaid' is the law's where the arguments, and the package variables that the reading takes, are together of bulk at most 1048576: NARROWER than '..Said'. Prove '..Said' where nothing that the law and all that it calls make is longer than what came in: it says more and counts as full. Else prove '..UptoSaid'. A law counts once. -/
mutual
def uptoBulk {H : Type} : DataW H → Nat
  | .lit (.string bytes) => bytes.length + 1
  | .lit _ => 1
  | .nil => 1
  | .ptr d => uptoBulk d + 1
  | .slice elems spare => uptoBulkAll elems + uptoBulkAll spare + 1
  | .agg parts => uptoBulkAll parts + 1
  | .iface _ d => uptoBulk d + 1
  | .map entries => uptoBulkEntries entries + 1
  | .held _ => 1
def uptoBulkAll {H : Type} : List (DataW H) → Nat
  | [] => 0
  | d :: r => uptoBulk d + uptoBulkAll r
def uptoBulkEntries {H : Type} : List (Lit × DataW H) → Nat
  | [] => 0
  | x :: r => uptoBulkEntry x + uptoBulkEntries r
def uptoBulkEntry {H : Type} : Lit × DataW H → Nat
  | (.string bytes, d) => bytes.length + uptoBulk d + 1
  | (_, d) => uptoBulk d + 1
 end
def uptoSmall : (H : Type) → List (DataW H) → Bool := fun _ ds => decide (uptoBulkAll ds ≤ 1048576)
def OpenSpec.upto (s : _root_.Go.ChangeSpec) : _root_.Go.OpenSpec := { _root_.Go.OpenSpec.ofChange s with cond := some uptoSmall }

/-- 'dumbwaiterlaw09.LogsFits', WHERE WHAT IT READS IS OF BULK AT MOST 1048576: true; the input reads as it did. -/
def logsFitsUptoRow : OpenClaim := { program := "ythhcfpignfiabaa", sum := "a2956ba35995c3de5ffc288cec0bddceddcbf76af624e697a7d29531528ceb93", func := "dumbwaiter/dumbwaiterlaw09.LogsFits", spec := "logsFits", apart := false, narrowed := true }
def LogsFitsUptoSaid : Prop := logsFitsUptoRow.holds Try.pinned (OpenSpec.upto logsFitsSpec)

/-- 'dumbwaiterlaw09.LogsMasks', WHERE WHAT IT READS IS OF BULK AT MOST 1048576: true; the input reads as it did. -/
def logsMasksUptoRow : OpenClaim := { program := "ythhcfpignfiabaa", sum := "a2956ba35995c3de5ffc288cec0bddceddcbf76af624e697a7d29531528ceb93", func := "dumbwaiter/dumbwaiterlaw09.LogsMasks", spec := "logsMasks", apart := false, narrowed := true }
def LogsMasksUptoSaid : Prop := logsMasksUptoRow.holds Try.pinned (OpenSpec.upto logsMasksSpec)

/-- 'dumbwaiterlaw09.LogsMakes', WHERE WHAT IT READS IS OF BULK AT MOST 1048576: true; the input reads as it did. -/
def logsMakesUptoRow : OpenClaim := { program := "ythhcfpignfiabaa", sum := "a2956ba35995c3de5ffc288cec0bddceddcbf76af624e697a7d29531528ceb93", func := "dumbwaiter/dumbwaiterlaw09.LogsMakes", spec := "logsMakes", apart := false, narrowed := true }
def LogsMakesUptoSaid : Prop := logsMakesUptoRow.holds Try.pinned (OpenSpec.upto logsMakesSpec)

/-- 'dumbwaiterlaw09.LogsPuts', WHERE WHAT IT READS IS OF BULK AT MOST 1048576: true; the input reads as it did. -/
def logsPutsUptoRow : OpenClaim := { program := "ythhcfpignfiabaa", sum := "a2956ba35995c3de5ffc288cec0bddceddcbf76af624e697a7d29531528ceb93", func := "dumbwaiter/dumbwaiterlaw09.LogsPuts", spec := "logsPuts", apart := false, narrowed := true }
def LogsPutsUptoSaid : Prop := logsPutsUptoRow.holds Try.pinned (OpenSpec.upto logsPutsSpec)

/-- 'dumbwaiterlaw09.LogsCompacts', WHERE WHAT IT READS IS OF BULK AT MOST 1048576: true; the input reads as it did. -/
def logsCompactsUptoRow : OpenClaim := { program := "ythhcfpignfiabaa", sum := "a2956ba35995c3de5ffc288cec0bddceddcbf76af624e697a7d29531528ceb93", func := "dumbwaiter/dumbwaiterlaw09.LogsCompacts", spec := "logsCompacts", apart := false, narrowed := true }
def LogsCompactsUptoSaid : Prop := logsCompactsUptoRow.holds Try.pinned (OpenSpec.upto logsCompactsSpec)

/-- 'dumbwaiterlaw09.LogsMerges', WHERE WHAT IT READS IS OF BULK AT MOST 1048576: true; the input reads as it did. -/
def logsMergesUptoRow : OpenClaim := { program := "ythhcfpignfiabaa", sum := "a2956ba35995c3de5ffc288cec0bddceddcbf76af624e697a7d29531528ceb93", func := "dumbwaiter/dumbwaiterlaw09.LogsMerges", spec := "logsMerges", apart := false, narrowed := true }
def LogsMergesUptoSaid : Prop := logsMergesUptoRow.holds Try.pinned (OpenSpec.upto logsMergesSpec)

/-- 'dumbwaiterlaw09.LogsNil', WHERE WHAT IT READS IS OF BULK AT MOST 1048576: true; the input reads as it did. -/
def logsNilUptoRow : OpenClaim := { program := "ythhcfpignfiabaa", sum := "a2956ba35995c3de5ffc288cec0bddceddcbf76af624e697a7d29531528ceb93", func := "dumbwaiter/dumbwaiterlaw09.LogsNil", spec := "logsNil", apart := false, narrowed := true }
def LogsNilUptoSaid : Prop := logsNilUptoRow.holds Try.pinned (OpenSpec.upto logsNilSpec)

end Rows
end Go.Proofs.Ythhcfpignfiabaa
