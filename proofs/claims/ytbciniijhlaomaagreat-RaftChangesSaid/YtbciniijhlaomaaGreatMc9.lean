/-
  Contracts and plain laws, laid together: part 9.
-/
import Derived.Calls
import Derived.Orders
import Derived.OrdersHeld
import Derived.Tactics
import Derived.OwnWalk
import Derived.Laws.Small
import Derived.Laws.Strings
import Derived.Laws.Pointers
import Derived.Laws.CopyRow
import Derived.Laws.Append
import Derived.Laws.AppendOwn
import Derived.Laws.BytesArg
import Derived.Laws.Slices
import Derived.Laws.MakeOwn
import Derived.Laws.Tables
import Derived.Great.BuildSlice
import Derived.Laws.Cover3
import Derived.Laws.Concat
import Derived.Test.YtbciniijhlaomaaGreatProg
import Derived.Below
import Derived.SizedLaws
import Derived.ChangeSlices
import Derived.ChangeOld
import Derived.Laws.StructEq
import Derived.Deep.Matrix
import Derived.Deep.SlicePairs
import Derived.Deep.Grids
import Derived.MapKept
import Derived.Carry
import Derived.WideLaws
import Derived.Laws.Externs
import Derived.Laws.FloatArith
import Derived.Test.YtbciniijhlaomaaGreatMc8
namespace Go.SX
open Go Go.Proofs
set_option maxRecDepth 4000
set_option linter.unusedSimpArgs false
set_option linter.unusedVariables false
theorem chg_311 : goodAt 3 [8, 2, 2] = true := by decide +kernel
theorem chg_313 : goodAt 3 [8, 2, 8] = true := by decide +kernel
theorem chg_322 : goodAt 3 [8, 4, 4] = true := by decide +kernel
theorem chg_323 : goodAt 3 [8, 4, 8] = true := by decide +kernel
theorem chg_331 : goodAt 3 [8, 8, 2] = true := by decide +kernel
theorem chg_332 : goodAt 3 [8, 8, 4] = true := by decide +kernel
theorem chg_333 : goodAt 3 [8, 8, 8] = true := by decide +kernel
end Go.SX
