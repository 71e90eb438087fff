/-
  Contracts and plain laws, laid together: part 8.
-/
import Derived.Calls
import Derived.Orders
import Derived.OrdersHeld
import Derived.Tactics
import Derived.OwnWalk
import Derived.Laws.Small
import Derived.Laws.Strings
import Derived.Laws.Pointers
import Derived.Laws.CopyRow
import Derived.Laws.Append
import Derived.Laws.AppendOwn
import Derived.Laws.BytesArg
import Derived.Laws.Slices
import Derived.Laws.MakeOwn
import Derived.Laws.Tables
import Derived.Great.BuildSlice
import Derived.Laws.Cover3
import Derived.Laws.Concat
import Derived.Test.YtbciniijhlaomaaGreatProg
import Derived.Below
import Derived.SizedLaws
import Derived.ChangeSlices
import Derived.ChangeOld
import Derived.Laws.StructEq
import Derived.Deep.Matrix
import Derived.Deep.SlicePairs
import Derived.Deep.Grids
import Derived.MapKept
import Derived.Carry
import Derived.WideLaws
import Derived.Laws.Externs
import Derived.Laws.FloatArith
import Derived.Test.YtbciniijhlaomaaGreatMc7
namespace Go.SX
open Go Go.Proofs
set_option maxRecDepth 4000
set_option linter.unusedSimpArgs false
set_option linter.unusedVariables false
theorem chg_211 : goodAt 3 [4, 2, 2] = true := by decide +kernel
theorem chg_212 : goodAt 3 [4, 2, 4] = true := by decide +kernel
theorem chg_221 : goodAt 3 [4, 4, 2] = true := by decide +kernel
theorem chg_222 : goodAt 3 [4, 4, 4] = true := by decide +kernel
theorem chg_223 : goodAt 3 [4, 4, 8] = true := by decide +kernel
theorem chg_232 : goodAt 3 [4, 8, 4] = true := by decide +kernel
theorem chg_233 : goodAt 3 [4, 8, 8] = true := by decide +kernel
end Go.SX
