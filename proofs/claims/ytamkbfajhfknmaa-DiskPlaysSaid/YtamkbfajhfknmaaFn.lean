/-
  The functions of this translation that have a body: each may be called.
-/
import Derived.Test.YtamkbfajhfknmaaSxCall
import Derived.Test.YtamkbfajhfknmaaProg
namespace Go.SX
open Go Go.Proofs
theorem callable2 : callableB Try.prog 2 = true := by decide +kernel
theorem callable3 : callableB Try.prog 3 = true := by decide +kernel
theorem callable4 : callableB Try.prog 4 = true := by decide +kernel
theorem callable5 : callableB Try.prog 5 = true := by decide +kernel
theorem callable6 : callableB Try.prog 6 = true := by decide +kernel
theorem callable7 : callableB Try.prog 7 = true := by decide +kernel
theorem callable8 : callableB Try.prog 8 = true := by decide +kernel
theorem callable9 : callableB Try.prog 9 = true := by decide +kernel
theorem callable10 : callableB Try.prog 10 = true := by decide +kernel
theorem callable11 : callableB Try.prog 11 = true := by decide +kernel
theorem callable12 : callableB Try.prog 12 = true := by decide +kernel
theorem callable13 : callableB Try.prog 13 = true := by decide +kernel
theorem callable14 : callableB Try.prog 14 = true := by decide +kernel
theorem callable15 : callableB Try.prog 15 = true := by decide +kernel
theorem callable16 : callableB Try.prog 16 = true := by decide +kernel
end Go.SX
