/-
  Closed facts of the row of the law TopRecovers, part 2. Conditions: none.
-/
import Derived.Test.YtaeeagekgjjhjaaGreatRows
import Derived.JoinedOf
import Derived.KernelRfl
namespace Go.Proofs.YtaeeagekgjjhjaaGreat.topRecovers
set_option maxRecDepth 100000
theorem fact3 : mapsRowed Tryz.pinned.checked.prog = true := by kernel_rfl
end Go.Proofs.YtaeeagekgjjhjaaGreat.topRecovers
