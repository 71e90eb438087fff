/-
  Slices of slices of bytes that come in.
-/
import Derived.Test.YtdmpnpcpnhcioaaSxLaw
import Derived.Deep.Matrix
namespace Go.SX
open Go Go.ChangeShapes Go.WideShapes Go.RowKit

/-- A slice of slices of bytes: each row's value, its bytes. -/
def InRows (W : World) (v : Value) (rs : List (Value × List UInt8)) : Prop :=
  Sl (allOf W) [] 1 v rs.length (rs.map (·.1)) ∧ ∀ r ∈ rs, SlB (allOf W) [] r.1 r.2

theorem in_rows {H : Type} {enc : TypeId × Value → H} {P : Program} {W : World} {base : Nat} {held : Bool} {t e q : TypeId} {a : Option Addr} {len cap : Nat} {d : DataW H} {ps : List MemPlace}
    (hu : P.underlying t = some (.slice e)) (he : P.underlying e = some (.slice q)) (hq : P.underlying q = some (.int .u8)) (ce : P.cellsOf e = 1) (cq : P.cellsOf q = 1)
    (h : DataW.Trod enc P W base (fun _ => true) held t (.slice a len cap) d ps) : ∃ rs, InRows W (.slice a len cap) rs ∧ rs.length ≤ 9223372036854775807 := by
  obtain ⟨fuel, hf⟩ := h
  rcases Go.Deep.open_int_rows hu he hq ce cq hf with ⟨hcs, _⟩ | ⟨x, l, c, A, L, C, Z, hcs, _, hl, hm, _, hr⟩
  · simp [Value.cells] at hcs
    obtain ⟨rfl, rfl, rfl⟩ := hcs
    exact ⟨[], ⟨Sl.nil _ _ _, by simp⟩, by simp⟩
  · simp [Value.cells] at hcs
    obtain ⟨rfl, rfl, rfl⟩ := hcs
    refine ⟨(List.range len).map fun r => (.slice (A r) (L r) (C r), ((Z r).take (L r)).map fun n => UInt8.ofNat n.toNat), ⟨⟨some x, cap, by simp, by simp, by simpa using hl, by simp, fun i c hi => ?_⟩, ?_⟩, by unfold maxLen at hm; simp; omega⟩
    · rw [List.map_map, List.getElem?_map] at hi
      obtain ⟨n, hn, rfl⟩ := Option.map_eq_some_iff.1 hi
      have hin : i < len ∧ n = i := by
        rcases Nat.lt_or_ge i len with h | h
        · rw [List.getElem?_range h] at hn; cases hn; exact ⟨h, rfl⟩
        · simp [h] at hn
      obtain ⟨hil, rfl⟩ := hin
      obtain ⟨h0, _⟩ := hr n (by omega)
      obtain ⟨h00, _⟩ := hr 0 (by omega)
      have hsp := spot_none h00
      have hx0 : x.add 0 = x := by simp [Addr.add]
      rw [hx0] at hsp
      refine ⟨x.block, x.off, by rw [← hsp], cell_world ?_⟩
      rw [hsp, sliced_add] at h0
      exact h0
    · intro r hrm
      obtain ⟨i, hi, rfl⟩ := List.mem_map.1 hrm
      have hil : i < len := by simpa using hi
      obtain ⟨_, h1, h2, h3, h4, h5, h6⟩ := hr i (by omega)
      have hz : InInts .u8 W (.slice (A i) (L i) (C i)) ((Z i).take (L i)) := by
        have hlen : ((Z i).take (L i)).length = L i := by simp; omega
        refine ⟨⟨A i, C i, by rw [hlen], by simp, by rw [hlen]; exact h1, fun hn => h5 hn, fun j c hj => ?_⟩, fun n hn => h4 n (List.mem_of_mem_take hn)⟩
        rw [List.getElem?_map] at hj
        obtain ⟨n, hn, rfl⟩ := Option.map_eq_some_iff.1 hj
        have hjl : j < L i := by
          have hlt : j < ((Z i).take (L i)).length := by
            rcases Nat.lt_or_ge j ((Z i).take (L i)).length with h | h
            · exact h
            · simp [List.getElem?_eq_none h] at hn
          omega
        cases hA : A i with
        | none => have := h5 hA; omega
        | some y =>
          obtain ⟨_, h7⟩ := h6 y hA
          have hsp := spot_none (h7 0 (by omega))
          have hx0 : y.add 0 = y := by simp [Addr.add]
          rw [hx0] at hsp
          refine ⟨y.block, y.off, by rw [← hsp], cell_world ?_⟩
          have := h7 j (by omega)
          rw [hsp, sliced_add] at this
          rw [this]
          rw [List.getElem?_take] at hn
          simp only [hjl, if_true] at hn
          simp [List.getD, hn]
      exact inBytesE hz
/-- Whole numbers that came in, none below nought. -/
theorem inNats {W : World} {v : Value} {zs : List Int} (h : InInts .u64 W v zs) : ∃ ns : List Nat, ns.length = zs.length ∧ Sl (allOf W) [] 1 v ns.length (ns.map fun (n : Nat) => .int .u64 (n : Int)) ∧ ∀ n ∈ ns, n < 18446744073709551616 := by
  have hb : ∀ n ∈ zs, 0 ≤ n ∧ n < 18446744073709551616 := fun n hn => by
    have := h.2 n hn
    simp [Lit.wf, IntKind.min, IntKind.max, IntKind.signed, IntKind.bits] at this
    omega
  refine ⟨zs.map Int.toNat, by simp, ?_, fun n hn => ?_⟩
  · have e : (zs.map Int.toNat).map (fun (n : Nat) => Value.int .u64 (n : Int)) = zs.map (.int .u64) := by
      rw [List.map_map]
      apply List.map_congr_left
      intro n hn
      have := hb n hn
      simp only [Function.comp]
      congr 1
      omega
    rw [e, List.length_map]
    exact h.1
  · obtain ⟨m, hm, rfl⟩ := List.mem_map.1 hn
    have := hb m hm
    omega
end Go.SX
