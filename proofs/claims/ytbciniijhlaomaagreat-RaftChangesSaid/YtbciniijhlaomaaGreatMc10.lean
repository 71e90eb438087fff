/-
  Contracts and plain laws, laid together: part 10.
-/
import Derived.Calls
import Derived.Orders
import Derived.OrdersHeld
import Derived.Tactics
import Derived.OwnWalk
import Derived.Laws.Small
import Derived.Laws.Strings
import Derived.Laws.Pointers
import Derived.Laws.CopyRow
import Derived.Laws.Append
import Derived.Laws.AppendOwn
import Derived.Laws.BytesArg
import Derived.Laws.Slices
import Derived.Laws.MakeOwn
import Derived.Laws.Tables
import Derived.Great.BuildSlice
import Derived.Laws.Cover3
import Derived.Laws.Concat
import Derived.Test.YtbciniijhlaomaaGreatProg
import Derived.Below
import Derived.SizedLaws
import Derived.ChangeSlices
import Derived.ChangeOld
import Derived.Laws.StructEq
import Derived.Deep.Matrix
import Derived.Deep.SlicePairs
import Derived.Deep.Grids
import Derived.MapKept
import Derived.Carry
import Derived.WideLaws
import Derived.Laws.Externs
import Derived.Laws.FloatArith
import Derived.Test.YtbciniijhlaomaaGreatMc9
namespace Go.SX
open Go Go.Proofs
set_option maxRecDepth 4000
set_option linter.unusedSimpArgs false
set_option linter.unusedVariables false
section
open Go.ChangeShapes Go.WideShapes Go.RowKit
theorem cell_world {W : World} {H : List Ent} {b off : Nat} {v : Value} (h : W.cell? ⟨b, off, none⟩ = some v) : Cell (allOf W) H b off v := by
  intro w hw
  unfold World.cell? at h ⊢
  cases hb : W.heap[b]? with
  | none => simp [hb] at h
  | some o =>
    have := hw.1 b o hb
    simp only [hb] at h
    simp only [this]
    exact h
theorem spot_none {W : World} {x : Addr} {v : Value} (h : W.cell? x = some v) : x = ⟨x.block, x.off, none⟩ := by
  unfold World.cell? at h
  split at h
  · split at h
    · cases h
    · rename_i hs
      cases x with
      | mk b o s => cases s with
        | none => rfl
        | some _ => simp at hs
  · cases h
theorem inInts_of {H : Type} {enc : TypeId × Value → H} {P : Program} {W : World} {base : Nat} {spare : Nat → Bool} {held : Bool} {t e : TypeId} {k : IntKind} {a : Option Addr} {len cap : Nat} {d : DataW H} {ps : List MemPlace} {ts : List TypeId} {ds : List (DataW H)} {j B : Nat}
    (hsz : (DataW.weightsEach P ts ds).all (· ≤ reachBytes) = true) (ht : ts[j]? = some t) (hd : ds[j]? = some d) (hu : P.underlying t = some (.slice e)) (he : P.underlying e = some (.int k)) (hc : P.cellsOf e = 1) (hB : P.bytesOf e = B)
    (h : DataW.Trod enc P W base spare held t (.slice a len cap) d ps) : ∃ zs, InInts k W (.slice a len cap) zs ∧ zs.length * B ≤ 140737488351232 := by
  obtain ⟨fuel, hf⟩ := h
  rcases open_ints hu he hc hf with ⟨hcs, _⟩ | ⟨x, l, c, zs, hcs, _, hl, _, hz, hx, hcell, hw⟩
  · simp [Value.cells] at hcs
    obtain ⟨rfl, rfl, rfl⟩ := hcs
    exact ⟨[], ⟨Sl.nil _ _ _, by simp⟩, by simp⟩
  · simp [Value.cells] at hcs
    obtain ⟨rfl, rfl, rfl⟩ := hcs
    obtain ⟨hx, _⟩ := Prod.mk.inj hx
    subst hx
    have z := sized_slice hsz ht hd hu
    rw [hB] at z
    have hl2 : len ≤ zs.length := by
      rw [hz]
      split
      · exact hl
      · exact Nat.le_refl _
    have h1 : (lits (H := H) k (zs.take len)).length + (lits (H := H) k (zs.drop len)).length = zs.length := by
      simp [lits]
      omega
    rw [h1] at z
    have hlen : (zs.take len).length = len := by simp; omega
    refine ⟨zs.take len, ⟨⟨some x, cap, by rw [hlen], by simp, by rw [hlen]; exact hl, by simp, fun i c hi => ?_⟩, fun n hn => hw n (List.mem_of_mem_take hn)⟩, ?_⟩
    · rw [List.getElem?_map] at hi
      obtain ⟨n, hn, rfl⟩ := Option.map_eq_some_iff.1 hi
      have hil : i < len := by
        have hlt : i < (zs.take len).length := by
          rcases Nat.lt_or_ge i (zs.take len).length with h | h
          · exact h
          · simp [List.getElem?_eq_none h] at hn
        omega
      have hz0 : 0 < zs.length := by omega
      have hsp := spot_none (hcell 0 hz0)
      have hx0 : x.add 0 = x := by simp [Addr.add]
      rw [hx0] at hsp
      refine ⟨x.block, x.off, by rw [← hsp], cell_world ?_⟩
      have := hcell i (by omega)
      rw [hsp, sliced_add] at this
      rw [this]
      rw [List.getElem?_take] at hn
      simp only [hil, if_true] at hn
      simp [List.getD, hn]
    · rw [hlen]
      exact Nat.le_trans (Nat.mul_le_mul_right _ hl2) z
end
theorem chg_11_0 : PT.run (fun _ t => t.goesOn) [2, 2] = true := by decide +kernel
theorem chg_11 : goodAt 4 [2, 2] = true := goodAt_step [2, 2] chg_11_0 (all3 (.inr chg_111) (.inr chg_112) (.inr chg_113))
theorem chg_12_0 : PT.run (fun _ t => t.goesOn) [2, 4] = true := by decide +kernel
theorem chg_12 : goodAt 4 [2, 4] = true := goodAt_step [2, 4] chg_12_0 (all3 (.inr chg_121) (.inr chg_122) (.inl (by decide)))
theorem chg_13_0 : PT.run (fun _ t => t.goesOn) [2, 8] = true := by decide +kernel
theorem chg_13 : goodAt 4 [2, 8] = true := goodAt_step [2, 8] chg_13_0 (all3 (.inr chg_131) (.inl (by decide)) (.inr chg_133))
theorem chg_21_0 : PT.run (fun _ t => t.goesOn) [4, 2] = true := by decide +kernel
theorem chg_21 : goodAt 4 [4, 2] = true := goodAt_step [4, 2] chg_21_0 (all3 (.inr chg_211) (.inr chg_212) (.inl (by decide)))
theorem chg_22_0 : PT.run (fun _ t => t.goesOn) [4, 4] = true := by decide +kernel
theorem chg_22 : goodAt 4 [4, 4] = true := goodAt_step [4, 4] chg_22_0 (all3 (.inr chg_221) (.inr chg_222) (.inr chg_223))
theorem chg_23_0 : PT.run (fun _ t => t.goesOn) [4, 8] = true := by decide +kernel
theorem chg_23 : goodAt 4 [4, 8] = true := goodAt_step [4, 8] chg_23_0 (all3 (.inl (by decide)) (.inr chg_232) (.inr chg_233))
theorem chg_31_0 : PT.run (fun _ t => t.goesOn) [8, 2] = true := by decide +kernel
theorem chg_31 : goodAt 4 [8, 2] = true := goodAt_step [8, 2] chg_31_0 (all3 (.inr chg_311) (.inl (by decide)) (.inr chg_313))
theorem chg_32_0 : PT.run (fun _ t => t.goesOn) [8, 4] = true := by decide +kernel
theorem chg_32 : goodAt 4 [8, 4] = true := goodAt_step [8, 4] chg_32_0 (all3 (.inl (by decide)) (.inr chg_322) (.inr chg_323))
theorem chg_33_0 : PT.run (fun _ t => t.goesOn) [8, 8] = true := by decide +kernel
theorem chg_33 : goodAt 4 [8, 8] = true := goodAt_step [8, 8] chg_33_0 (all3 (.inr chg_331) (.inr chg_332) (.inr chg_333))
theorem chg_1_0 : PT.run (fun _ t => t.goesOn) [2] = true := by decide +kernel
theorem chg_1 : goodAt 5 [2] = true := goodAt_step [2] chg_1_0 (all3 (.inr chg_11) (.inr chg_12) (.inr chg_13))
theorem chg_2_0 : PT.run (fun _ t => t.goesOn) [4] = true := by decide +kernel
theorem chg_2 : goodAt 5 [4] = true := goodAt_step [4] chg_2_0 (all3 (.inr chg_21) (.inr chg_22) (.inr chg_23))
theorem chg_3_0 : PT.run (fun _ t => t.goesOn) [8] = true := by decide +kernel
theorem chg_3 : goodAt 5 [8] = true := goodAt_step [8] chg_3_0 (all3 (.inr chg_31) (.inr chg_32) (.inr chg_33))
theorem chg__0 : PT.run (fun _ t => t.goesOn) [] = true := by decide +kernel
theorem chg_ : goodAt 6 [] = true := goodAt_step [] chg__0 (all3 (.inr chg_1) (.inr chg_2) (.inr chg_3))
end Go.SX
namespace Go.SX
open Go Go.Proofs
set_option maxRecDepth 4000
set_option linter.unusedSimpArgs false
set_option linter.unusedVariables false
theorem in_RaftChanges (W : World) (v : Value) (zs : List Int) (h : InInts .u8 W v zs) (hn : zs.length * 1 ≤ 140737488351232) :
    Calls Tryz.prog 5 #[v] W fun e w' => e = .returned (.bool true) ∧ Go.RowKit.Below W.heap.size W w' := in_RaftChanges0 chg_ W v zs h hn
end Go.SX
