/-
  No cell of these rows narrows 'for every input' (looked for: loops, veiled, ifaces, maps, wideKeys, modest, calm, conditions, laid).
  DERIVED. THE GIVEN ROWS OF THIS SEAT. 5 by the template 'for every input the law returns true; each argument reads behind the call as it read before'; 0 by the template 'total and deterministic' (their statements: YtbciniijhlaomaaGreatTotals.lean).
  GIVEN WITH THE SEED: the statements are not yours to turn. If you find one false, say at which input.
  Laid BY PROGRAM, IN A SANDBOX (cutbox-rows.mjs): the forced cells as the released guide's own fill.sh prints them over the translation 97b75d3f43a29f64… (all of the seat's roots in one cut). By AI agents, Wed Nov 11 2026. No macro, syntax, notation, axiom, sorry.
-/
import Derived.Test.YtbciniijhlaomaaGreatChecked
import GoSem.Claim
import GoSem.ClaimJoined
import GoSem.ClaimMapViews
import Derived.JoinedTies
import Derived.KernelRfl
namespace Go.Proofs.YtbciniijhlaomaaGreat
/- THE CELL 'sum', in the pinned program and in every row, IS THE sha256 OF THE DUMP (.gsa) THAT YtbciniijhlaomaaGreatProg.lean LOADS. Nothing in Lean hashes anything: it is a label: what it is worth is what the hold of that sum in a sandbox is worth. -/
noncomputable def Tryz.pinned : Pinned := { name := "ytbciniijhlaomaagreat", sum := "97b75d3f43a29f647f4afcf8fd4bc8f2b127b137b12ac20e9156339ac36d1a84", checked := Tryz.checked }
namespace Rows
def none {H : Type} : Left H := { results := [], args := [] }

/-- 'dumbwaiterlaw10.RaftElects': WHATEVER THE INPUT: true; the input reads as it did. -/
def raftElectsSpec : ChangeSpec := { name := "raftElects", fn := fun _ => fun
  | [d1, d2] => { results := [.lit (.bool true)], args := [d1, d2] }
  | _ => none }
def raftElectsRow : OpenClaim := { program := "ytbciniijhlaomaagreat", sum := "97b75d3f43a29f647f4afcf8fd4bc8f2b127b137b12ac20e9156339ac36d1a84", func := "dumbwaiter/dumbwaiterlaw10.RaftElects", spec := "raftElects", inPlace := ["math.Float64frombits", "math.Float64bits"], unfollowed := true, recurses := true, apart := false }
def RaftElectsSaid : Prop := raftElectsRow.holds Tryz.pinned (OpenSpec.ofChange raftElectsSpec)

/-- ITS FALSE NEIGHBOUR: 'it returns false'. Refute it at one input. -/
def raftElectsWrong : ChangeSpec := { name := "raftElects", fn := fun _ => fun
  | [d1, d2] => { results := [.lit (.bool false)], args := [d1, d2] }
  | _ => none }
def RaftElectsWrongFalsely : Prop := raftElectsRow.holds Tryz.pinned (OpenSpec.ofChange raftElectsWrong)

/-- 'dumbwaiterlaw10.RaftQuiet': WHATEVER THE INPUT: true; the input reads as it did. -/
def raftQuietSpec : ChangeSpec := { name := "raftQuiet", fn := fun _ => fun
  | [d] => { results := [.lit (.bool true)], args := [d] }
  | _ => none }
def raftQuietRow : OpenClaim := { program := "ytbciniijhlaomaagreat", sum := "97b75d3f43a29f647f4afcf8fd4bc8f2b127b137b12ac20e9156339ac36d1a84", func := "dumbwaiter/dumbwaiterlaw10.RaftQuiet", spec := "raftQuiet", inPlace := ["math.Float64frombits", "math.Float64bits"], unfollowed := true, recurses := true, apart := false }
def RaftQuietSaid : Prop := raftQuietRow.holds Tryz.pinned (OpenSpec.ofChange raftQuietSpec)

/-- ITS FALSE NEIGHBOUR: 'it returns false'. Refute it at one input. -/
def raftQuietWrong : ChangeSpec := { name := "raftQuiet", fn := fun _ => fun
  | [d] => { results := [.lit (.bool false)], args := [d] }
  | _ => none }
def RaftQuietWrongFalsely : Prop := raftQuietRow.holds Tryz.pinned (OpenSpec.ofChange raftQuietWrong)

/-- 'dumbwaiterlaw10.RaftChanges': WHATEVER THE INPUT: true; the input reads as it did. -/
def raftChangesSpec : ChangeSpec := { name := "raftChanges", fn := fun _ => fun
  | [d] => { results := [.lit (.bool true)], args := [d] }
  | _ => none }
def raftChangesRow : OpenClaim := { program := "ytbciniijhlaomaagreat", sum := "97b75d3f43a29f647f4afcf8fd4bc8f2b127b137b12ac20e9156339ac36d1a84", func := "dumbwaiter/dumbwaiterlaw10.RaftChanges", spec := "raftChanges", inPlace := ["math.Float64frombits", "math.Float64bits"], unfollowed := true, recurses := true, apart := false }
def RaftChangesSaid : Prop := raftChangesRow.holds Tryz.pinned (OpenSpec.ofChange raftChangesSpec)

/-- ITS FALSE NEIGHBOUR: 'it returns false'. Refute it at one input. -/
def raftChangesWrong : ChangeSpec := { name := "raftChanges", fn := fun _ => fun
  | [d] => { results := [.lit (.bool false)], args := [d] }
  | _ => none }
def RaftChangesWrongFalsely : Prop := raftChangesRow.holds Tryz.pinned (OpenSpec.ofChange raftChangesWrong)

/-- 'dumbwaiterlaw10.RaftSafe': WHATEVER THE INPUT: true; the input reads as it did. -/
def raftSafeSpec : ChangeSpec := { name := "raftSafe", fn := fun _ => fun
  | [d1, d2] => { results := [.lit (.bool true)], args := [d1, d2] }
  | _ => none }
def raftSafeRow : OpenClaim := { program := "ytbciniijhlaomaagreat", sum := "97b75d3f43a29f647f4afcf8fd4bc8f2b127b137b12ac20e9156339ac36d1a84", func := "dumbwaiter/dumbwaiterlaw10.RaftSafe", spec := "raftSafe", inPlace := ["math.Float64frombits", "math.Float64bits"], unfollowed := true, recurses := true, apart := false }
def RaftSafeSaid : Prop := raftSafeRow.holds Tryz.pinned (OpenSpec.ofChange raftSafeSpec)

/-- ITS FALSE NEIGHBOUR: 'it returns false'. Refute it at one input. -/
def raftSafeWrong : ChangeSpec := { name := "raftSafe", fn := fun _ => fun
  | [d1, d2] => { results := [.lit (.bool false)], args := [d1, d2] }
  | _ => none }
def RaftSafeWrongFalsely : Prop := raftSafeRow.holds Tryz.pinned (OpenSpec.ofChange raftSafeWrong)

/-- 'dumbwaiterlaw10.RaftKeeps': WHATEVER THE INPUT: true; the input reads as it did. -/
def raftKeepsSpec : ChangeSpec := { name := "raftKeeps", fn := fun _ => fun
  | [d1, d2, d3] => { results := [.lit (.bool true)], args := [d1, d2, d3] }
  | _ => none }
def raftKeepsRow : OpenClaim := { program := "ytbciniijhlaomaagreat", sum := "97b75d3f43a29f647f4afcf8fd4bc8f2b127b137b12ac20e9156339ac36d1a84", func := "dumbwaiter/dumbwaiterlaw10.RaftKeeps", spec := "raftKeeps", inPlace := ["math.Float64frombits", "math.Float64bits"], unfollowed := true, recurses := true, apart := false }
def RaftKeepsSaid : Prop := raftKeepsRow.holds Tryz.pinned (OpenSpec.ofChange raftKeepsSpec)

/-- ITS FALSE NEIGHBOUR: 'it returns false'. Refute it at one input. -/
def raftKeepsWrong : ChangeSpec := { name := "raftKeeps", fn := fun _ => fun
  | [d1, d2, d3] => { results := [.lit (.bool false)], args := [d1, d2, d3] }
  | _ => none }
def RaftKeepsWrongFalsely : Prop := raftKeepsRow.holds Tryz.pinned (OpenSpec.ofChange raftKeepsWrong)

/- THE SECOND FORM. 'bulk': how many values and letters a reading holds, each counted each time it is reached (what is shared counts as often as it is met; a slice's spare places count too). A statement '..UptoSaid' is the law's where the arguments, and the package variables that the reading takes, are together of bulk at most 1048576: NARROWER than '..Said'. Prove '..Said' where nothing that the law and all that it calls make is longer than what came in: it says more and counts as full. Else prove '..UptoSaid'. A law counts once. -/
mutual
def uptoBulk {H : Type} : DataW H → Nat
  | .lit (.string bytes) => bytes.length + 1
  | .lit _ => 1
  | .nil => 1
  | .ptr d => uptoBulk d + 1
  | .slice elems spare => uptoBulkAll elems + uptoBulkAll spare + 1
  | .agg parts => uptoBulkAll parts + 1
  | .iface _ d => uptoBulk d + 1
  | .map entries => uptoBulkEntries entries + 1
  | .held _ => 1
def uptoBulkAll {H : Type} : List (DataW H) → Nat
  | [] => 0
  | d :: r => uptoBulk d + uptoBulkAll r
def uptoBulkEntries {H : Type} : List (Lit × DataW H) → Nat
  | [] => 0
  | x :: r => uptoBulkEntry x + uptoBulkEntries r
def uptoBulkEntry {H : Type} : Lit × DataW H → Nat
  | (.string bytes, d) => bytes.length + uptoBulk d + 1
  | (_, d) => uptoBulk d + 1
 end
def uptoSmall : (H : Type) → List (DataW H) → Bool := fun _ ds => decide (uptoBulkAll ds ≤ 1048576)
def OpenSpec.upto (s : _root_.Go.ChangeSpec) : _root_.Go.OpenSpec := { _root_.Go.OpenSpec.ofChange s with cond := some uptoSmall }

/-- 'dumbwaiterlaw10.RaftElects', WHERE WHAT IT READS IS OF BULK AT MOST 1048576: true; the input reads as it did. -/
def raftElectsUptoRow : OpenClaim := { program := "ytbciniijhlaomaagreat", sum := "97b75d3f43a29f647f4afcf8fd4bc8f2b127b137b12ac20e9156339ac36d1a84", func := "dumbwaiter/dumbwaiterlaw10.RaftElects", spec := "raftElects", inPlace := ["math.Float64frombits", "math.Float64bits"], unfollowed := true, recurses := true, apart := false, narrowed := true }
def RaftElectsUptoSaid : Prop := raftElectsUptoRow.holds Tryz.pinned (OpenSpec.upto raftElectsSpec)

/-- 'dumbwaiterlaw10.RaftQuiet', WHERE WHAT IT READS IS OF BULK AT MOST 1048576: true; the input reads as it did. -/
def raftQuietUptoRow : OpenClaim := { program := "ytbciniijhlaomaagreat", sum := "97b75d3f43a29f647f4afcf8fd4bc8f2b127b137b12ac20e9156339ac36d1a84", func := "dumbwaiter/dumbwaiterlaw10.RaftQuiet", spec := "raftQuiet", inPlace := ["math.Float64frombits", "math.Float64bits"], unfollowed := true, recurses := true, apart := false, narrowed := true }
def RaftQuietUptoSaid : Prop := raftQuietUptoRow.holds Tryz.pinned (OpenSpec.upto raftQuietSpec)

/-- 'dumbwaiterlaw10.RaftChanges', WHERE WHAT IT READS IS OF BULK AT MOST 1048576: true; the input reads as it did. -/
def raftChangesUptoRow : OpenClaim := { program := "ytbciniijhlaomaagreat", sum := "97b75d3f43a29f647f4afcf8fd4bc8f2b127b137b12ac20e9156339ac36d1a84", func := "dumbwaiter/dumbwaiterlaw10.RaftChanges", spec := "raftChanges", inPlace := ["math.Float64frombits", "math.Float64bits"], unfollowed := true, recurses := true, apart := false, narrowed := true }
def RaftChangesUptoSaid : Prop := raftChangesUptoRow.holds Tryz.pinned (OpenSpec.upto raftChangesSpec)

/-- 'dumbwaiterlaw10.RaftSafe', WHERE WHAT IT READS IS OF BULK AT MOST 1048576: true; the input reads as it did. -/
def raftSafeUptoRow : OpenClaim := { program := "ytbciniijhlaomaagreat", sum := "97b75d3f43a29f647f4afcf8fd4bc8f2b127b137b12ac20e9156339ac36d1a84", func := "dumbwaiter/dumbwaiterlaw10.RaftSafe", spec := "raftSafe", inPlace := ["math.Float64frombits", "math.Float64bits"], unfollowed := true, recurses := true, apart := false, narrowed := true }
def RaftSafeUptoSaid : Prop := raftSafeUptoRow.holds Tryz.pinned (OpenSpec.upto raftSafeSpec)

/-- 'dumbwaiterlaw10.RaftKeeps', WHERE WHAT IT READS IS OF BULK AT MOST 1048576: true; the input reads as it did. -/
def raftKeepsUptoRow : OpenClaim := { program := "ytbciniijhlaomaagreat", sum := "97b75d3f43a29f647f4afcf8fd4bc8f2b127b137b12ac20e9156339ac36d1a84", func := "dumbwaiter/dumbwaiterlaw10.RaftKeeps", spec := "raftKeeps", inPlace := ["math.Float64frombits", "math.Float64bits"], unfollowed := true, recurses := true, apart := false, narrowed := true }
def RaftKeepsUptoSaid : Prop := raftKeepsUptoRow.holds Tryz.pinned (OpenSpec.upto raftKeepsSpec)

end Rows
end Go.Proofs.YtbciniijhlaomaaGreat
