/-
  The functions of this translation that have a body: each may be called.
-/
import Derived.Test.YtdmpnpcpnhcioaaSxCall
import Derived.Test.YtdmpnpcpnhcioaaProg
namespace Go.SX
open Go Go.Proofs
theorem callable2 : callableB Try.prog 2 = true := by decide +kernel
theorem callable3 : callableB Try.prog 3 = true := by decide +kernel
theorem callable4 : callableB Try.prog 4 = true := by decide +kernel
theorem callable5 : callableB Try.prog 5 = true := by decide +kernel
theorem callable6 : callableB Try.prog 6 = true := by decide +kernel
theorem callable7 : callableB Try.prog 7 = true := by decide +kernel
theorem callable8 : callableB Try.prog 8 = true := by decide +kernel
theorem callable9 : callableB Try.prog 9 = true := by decide +kernel
theorem callable10 : callableB Try.prog 10 = true := by decide +kernel
theorem callable11 : callableB Try.prog 11 = true := by decide +kernel
theorem callable12 : callableB Try.prog 12 = true := by decide +kernel
theorem callable13 : callableB Try.prog 13 = true := by decide +kernel
theorem callable14 : callableB Try.prog 14 = true := by decide +kernel
theorem callable15 : callableB Try.prog 15 = true := by decide +kernel
theorem callable16 : callableB Try.prog 16 = true := by decide +kernel
theorem callable17 : callableB Try.prog 17 = true := by decide +kernel
theorem callable18 : callableB Try.prog 18 = true := by decide +kernel
theorem callable19 : callableB Try.prog 19 = true := by decide +kernel
theorem callable20 : callableB Try.prog 20 = true := by decide +kernel
theorem callable21 : callableB Try.prog 21 = true := by decide +kernel
theorem callable22 : callableB Try.prog 22 = true := by decide +kernel
theorem callable23 : callableB Try.prog 23 = true := by decide +kernel
theorem callable24 : callableB Try.prog 24 = true := by decide +kernel
theorem callable25 : callableB Try.prog 25 = true := by decide +kernel
theorem callable26 : callableB Try.prog 26 = true := by decide +kernel
theorem callable27 : callableB Try.prog 27 = true := by decide +kernel
theorem callable28 : callableB Try.prog 28 = true := by decide +kernel
theorem callable29 : callableB Try.prog 29 = true := by decide +kernel
theorem callable30 : callableB Try.prog 30 = true := by decide +kernel
theorem callable31 : callableB Try.prog 31 = true := by decide +kernel
theorem callable32 : callableB Try.prog 32 = true := by decide +kernel
theorem callable33 : callableB Try.prog 33 = true := by decide +kernel
theorem callable34 : callableB Try.prog 34 = true := by decide +kernel
theorem callable35 : callableB Try.prog 35 = true := by decide +kernel
theorem callable36 : callableB Try.prog 36 = true := by decide +kernel
theorem callable37 : callableB Try.prog 37 = true := by decide +kernel
theorem callable38 : callableB Try.prog 38 = true := by decide +kernel
theorem callable39 : callableB Try.prog 39 = true := by decide +kernel
theorem callable40 : callableB Try.prog 40 = true := by decide +kernel
theorem callable41 : callableB Try.prog 41 = true := by decide +kernel
theorem callable42 : callableB Try.prog 42 = true := by decide +kernel
theorem callable43 : callableB Try.prog 43 = true := by decide +kernel
theorem callable44 : callableB Try.prog 44 = true := by decide +kernel
theorem callable45 : callableB Try.prog 45 = true := by decide +kernel
theorem callable46 : callableB Try.prog 46 = true := by decide +kernel
theorem callable47 : callableB Try.prog 47 = true := by decide +kernel
theorem callable48 : callableB Try.prog 48 = true := by decide +kernel
theorem callable49 : callableB Try.prog 49 = true := by decide +kernel
end Go.SX
