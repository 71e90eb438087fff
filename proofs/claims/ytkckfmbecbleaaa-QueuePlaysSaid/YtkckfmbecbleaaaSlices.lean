/-
  Contracts of package slices, for bytes.
-/
import Derived.Test.YtkckfmbecbleaaaOct3
import Derived.Test.YtkckfmbecbleaaaSxApp
namespace Go.SX
open Go Go.Proofs
set_option linter.unusedSimpArgs false
set_option linter.unusedVariables false

theorem byte_cell {F : Fz} {H : List Ent} {v : Value} {l : List UInt8} {i : Nat} (hv : SlB F H v l) (hi : i < l.length) : ∃ b off cap, v = .slice (some ⟨b, off, none⟩) l.length cap ∧ Cell F H b (off + i) (byteV l[i]) := by
  obtain ⟨b0, off0, c0, hab, _, hc0⟩ := Sl.view hv (by omega)
  exact ⟨b0, off0, c0, hab, hc0 i _ (by rw [bytesV_get, List.getElem?_eq_getElem hi]; rfl)⟩
theorem byteV_ne (a b : UInt8) : ((a.toNat : Int) ≠ (b.toNat : Int)) ↔ a ≠ b := by
  constructor
  · intro h e; exact h (by rw [e])
  · intro h e
    apply h
    apply UInt8.eq_of_toBitVec_eq
    apply BitVec.eq_of_toNat_eq
    show a.toNat = b.toNat
    omega

/-! ### Is there a byte that isn't nought? -/

end Go.SX
