/-
  Closed facts of the row of the law TopRecovers, part 3. Conditions: none.
-/
import Derived.Test.YtaeeagekgjjhjaaGreatRows
import Derived.JoinedOf
import Derived.KernelRfl
namespace Go.Proofs.YtaeeagekgjjhjaaGreat.topRecovers
set_option maxRecDepth 100000
theorem fact10 : (Rows.topRecoversRow.inPlace == Tryz.pinned.checked.prog.inPlace 3) = true := by kernel_rfl
end Go.Proofs.YtaeeagekgjjhjaaGreat.topRecovers
