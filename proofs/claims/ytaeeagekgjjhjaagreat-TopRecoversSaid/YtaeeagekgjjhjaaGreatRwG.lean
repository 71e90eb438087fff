/-
  Closed facts of the row of the law TopRecovers, part 7. Conditions: none.
-/
import Derived.Test.YtaeeagekgjjhjaaGreatRows
import Derived.JoinedOf
import Derived.KernelRfl
namespace Go.Proofs.YtaeeagekgjjhjaaGreat.topRecovers
set_option maxRecDepth 100000
theorem fact25 : Tryz.pinned.checked.prog.stopsHeard = true := by kernel_rfl
theorem fact26 : Tryz.pinned.checked.prog.mayEnter = true := by kernel_rfl
end Go.Proofs.YtaeeagekgjjhjaaGreat.topRecovers
