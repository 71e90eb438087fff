/-
  Contracts and plain laws, laid together: part 13.
-/
import Derived.Calls
import Derived.Orders
import Derived.OrdersHeld
import Derived.Tactics
import Derived.OwnWalk
import Derived.Laws.Small
import Derived.Laws.Strings
import Derived.Laws.Pointers
import Derived.Laws.CopyRow
import Derived.Laws.Append
import Derived.Laws.AppendOwn
import Derived.Laws.BytesArg
import Derived.Laws.Slices
import Derived.Laws.MakeOwn
import Derived.Laws.Tables
import Derived.Great.BuildSlice
import Derived.Laws.Cover3
import Derived.Laws.Concat
import Derived.Test.YtaeeagekgjjhjaaGreatProg
import Derived.Below
import Derived.SizedLaws
import Derived.ChangeSlices
import Derived.ChangeOld
import Derived.MapKept
import Derived.Carry
import Derived.WideLaws
import Derived.Laws.StructEq
import Derived.Deep.Matrix
import Derived.Deep.SlicePairs
import Derived.Deep.Grids
import Derived.Test.YtaeeagekgjjhjaaGreatMt12
namespace Go.SX
open Go Go.Proofs
set_option maxRecDepth 4000
set_option maxRecDepth 100000
theorem run_s2 : pcE TX e_s2 = true := by decide +kernel
theorem run_s3 : pcE TX e_s3 = true := by decide +kernel
end Go.SX
