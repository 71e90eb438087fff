/-
  From a law's contract to its row: what a row's reading says of memory, in the calculus' words.
-/
import Derived.Test.YtdmpnpcpnhcioaaSxCall
import Derived.Below
import Derived.SizedLaws
import Derived.ChangeSlices
import Derived.ChangeOld
namespace Go.SX
open Go Go.ChangeShapes Go.WideShapes Go.RowKit

/-- All the memory that there is. -/
def allOf (W : World) : Fz := fun b => W.heap[b]?

/-- A law that answers true and keeps all that there was. -/
theorem below_of_does {P : Program} {f : FuncId} {args : Array Value} {W : World} {v : Value} (h : Does P W f args (allOf W) [] (fun r _ _ => r = v)) :
    Calls P f args W fun e w' => e = .returned v ∧ Below W.heap.size W w' := by
  refine (h W ⟨rfl, rfl, rfl, fun b o hb => hb, by simp, by simp, by simp⟩).mono ?_
  rintro e w' ⟨r, F', H', rfl, rfl, hle, hst⟩
  refine ⟨rfl, hst.os, hst.tape, hst.output, ?_, fun k hk => ?_⟩
  · rcases Nat.eq_zero_or_pos W.heap.size with h0 | h0
    · omega
    · have h1 : allOf W (W.heap.size - 1) = some W.heap[W.heap.size - 1] := Array.getElem?_eq_getElem (by omega)
      have h2 := hst.frz _ _ (hle _ _ h1)
      have := (Array.getElem?_eq_some_iff.1 h2).1
      omega
  · have h1 : allOf W k = some W.heap[k] := Array.getElem?_eq_getElem hk
    rw [hst.frz _ _ (hle _ _ h1)]
    exact h1.symm

/-- A cell of the world that there was. -/
theorem cell_world {W : World} {H : List Ent} {b off : Nat} {v : Value} (h : W.cell? ⟨b, off, none⟩ = some v) : Cell (allOf W) H b off v := by
  intro w hw
  unfold World.cell? at h ⊢
  cases hb : W.heap[b]? with
  | none => simp [hb] at h
  | some o =>
    have := hw.1 b o hb
    simp only [hb] at h
    simp only [this]
    exact h

theorem spot_none {W : World} {x : Addr} {v : Value} (h : W.cell? x = some v) : x = ⟨x.block, x.off, none⟩ := by
  unfold World.cell? at h
  split at h
  · split at h
    · cases h
    · rename_i hs
      cases x with
      | mk b o s => cases s with
        | none => rfl
        | some _ => simp at hs
  · cases h

/-- A slice of whole numbers that came in. -/
def InInts (k : IntKind) (W : World) (v : Value) (zs : List Int) : Prop :=
  Sl (allOf W) [] 1 v zs.length (zs.map (.int k)) ∧ ∀ n ∈ zs, (Lit.int k n).wf = true

theorem inInts_of {H : Type} {enc : TypeId × Value → H} {P : Program} {W : World} {base : Nat} {spare : Nat → Bool} {held : Bool} {t e : TypeId} {k : IntKind} {a : Option Addr} {len cap : Nat} {d : DataW H} {ps : List MemPlace} {ts : List TypeId} {ds : List (DataW H)} {j B : Nat}
    (hsz : (DataW.weightsEach P ts ds).all (· ≤ reachBytes) = true) (ht : ts[j]? = some t) (hd : ds[j]? = some d) (hu : P.underlying t = some (.slice e)) (he : P.underlying e = some (.int k)) (hc : P.cellsOf e = 1) (hB : P.bytesOf e = B)
    (h : DataW.Trod enc P W base spare held t (.slice a len cap) d ps) : ∃ zs, InInts k W (.slice a len cap) zs ∧ zs.length * B ≤ 140737488351232 := by
  obtain ⟨fuel, hf⟩ := h
  rcases open_ints hu he hc hf with ⟨hcs, _⟩ | ⟨x, l, c, zs, hcs, _, hl, _, hz, hx, hcell, hw⟩
  · simp [Value.cells] at hcs
    obtain ⟨rfl, rfl, rfl⟩ := hcs
    exact ⟨[], ⟨Sl.nil _ _ _, by simp⟩, by simp⟩
  · simp [Value.cells] at hcs
    obtain ⟨rfl, rfl, rfl⟩ := hcs
    obtain ⟨hx, _⟩ := Prod.mk.inj hx
    subst hx
    have z := sized_slice hsz ht hd hu
    rw [hB] at z
    have hl2 : len ≤ zs.length := by
      rw [hz]
      split
      · exact hl
      · exact Nat.le_refl _
    have h1 : (lits (H := H) k (zs.take len)).length + (lits (H := H) k (zs.drop len)).length = zs.length := by
      simp [lits]
      omega
    rw [h1] at z
    have hlen : (zs.take len).length = len := by simp; omega
    refine ⟨zs.take len, ⟨⟨some x, cap, by rw [hlen], by simp, by rw [hlen]; exact hl, by simp, fun i c hi => ?_⟩, fun n hn => hw n (List.mem_of_mem_take hn)⟩, ?_⟩
    · rw [List.getElem?_map] at hi
      obtain ⟨n, hn, rfl⟩ := Option.map_eq_some_iff.1 hi
      have hil : i < len := by
        have hlt : i < (zs.take len).length := by
          rcases Nat.lt_or_ge i (zs.take len).length with h | h
          · exact h
          · simp [List.getElem?_eq_none h] at hn
        omega
      have hz0 : 0 < zs.length := by omega
      have hsp := spot_none (hcell 0 hz0)
      have hx0 : x.add 0 = x := by simp [Addr.add]
      rw [hx0] at hsp
      refine ⟨x.block, x.off, by rw [← hsp], cell_world ?_⟩
      have := hcell i (by omega)
      rw [hsp, sliced_add] at this
      rw [this]
      rw [List.getElem?_take] at hn
      simp only [hil, if_true] at hn
      simp [List.getD, hn]
    · rw [hlen]
      exact Nat.le_trans (Nat.mul_le_mul_right _ hl2) z

/-- Bytes that came in. -/
theorem inBytesE {W : World} {v : Value} {zs : List Int} (h : InInts .u8 W v zs) : SlB (allOf W) [] v (zs.map fun n => UInt8.ofNat n.toNat) := by
  have hm : zs.map (.int .u8) = bytesV (zs.map fun n => UInt8.ofNat n.toNat) := by
    simp only [bytesV, List.map_map]
    apply List.map_congr_left
    intro n hn
    have := h.2 n hn
    simp [Lit.wf, IntKind.min, IntKind.max, IntKind.signed, IntKind.bits] at this
    simp only [Function.comp, byteV]
    congr 1
    have : (UInt8.ofNat n.toNat).toNat = n.toNat := by simp; omega
    rw [this]
    omega
  have h1 := h.1
  rw [hm] at h1
  unfold SlB
  simpa using h1
theorem inBytes {W : World} {v : Value} {zs : List Int} (h : InInts .u8 W v zs) : ∃ l : List UInt8, l.length = zs.length ∧ SlB (allOf W) [] v l := ⟨_, by simp, inBytesE h⟩
end Go.SX
