/-
  Records that come in: slices of structs of four numbers and bytes; one of them; truths.
-/
import Derived.Test.YtmpbgnffdpppbaaSxRows
import Derived.Test.YtmpbgnffdpppbaaSxVec
import Derived.Deep.SlicePairs
import Derived.Deep.Grids
namespace Go.SX
open Go Go.ChangeShapes Go.WideShapes Go.RowKit Go.Deep

theorem ints_of_trod {H : Type} {enc : TypeId × Value → H} {P : Program} {W : World} {base : Nat} {spare : Nat → Bool} {held : Bool} {t e : TypeId} {k : IntKind} {v : Value} {x : DataW H × List MemPlace} {fuel : Nat}
    (hu : P.underlying t = some (.slice e)) (he : P.underlying e = some (.int k)) (hc : P.cellsOf e = 1) (hf : DataW.trod enc P W base spare held fuel t [v] = some x) : ∃ zs, InInts k W v zs := by
  rcases open_ints hu he hc hf with ⟨hcs, _⟩ | ⟨y, l, c, zs, hcs, _, hl, _, hz, hx, hcell, hw⟩
  · obtain rfl : v = .slice none 0 0 := by simpa using hcs
    exact ⟨[], ⟨Sl.nil _ _ _, by simp⟩⟩
  · obtain rfl : v = .slice (some y) l c := by simpa using hcs
    have hl2 : l ≤ zs.length := by
      rw [hz]
      split
      · exact hl
      · exact Nat.le_refl _
    have hlen : (zs.take l).length = l := by simp; omega
    refine ⟨zs.take l, ⟨⟨some y, c, by rw [hlen], by simp, by rw [hlen]; exact hl, by simp, fun i q hi => ?_⟩, fun n hn => hw n (List.mem_of_mem_take hn)⟩⟩
    rw [List.getElem?_map] at hi
    obtain ⟨n, hn, rfl⟩ := Option.map_eq_some_iff.1 hi
    have hil : i < l := by
      have hlt : i < (zs.take l).length := by
        rcases Nat.lt_or_ge i (zs.take l).length with h | h
        · exact h
        · simp [List.getElem?_eq_none h] at hn
      omega
    have hz0 : 0 < zs.length := by omega
    have hsp := spot_none (hcell 0 hz0)
    have hx0 : y.add 0 = y := by simp [Addr.add]
    rw [hx0] at hsp
    refine ⟨y.block, y.off, by rw [← hsp], cell_world ?_⟩
    have := hcell i (by omega)
    rw [hsp, sliced_add] at this
    rw [this]
    rw [List.getElem?_take] at hn
    simp only [hil, if_true] at hn
    simp [List.getD, hn]

/-- A record that came in. -/
structure RecI where
  k : Nat
  a : Nat
  b : Nat
  v : Int
  dv : Value
  d : List UInt8
instance : Inhabited RecI := ⟨⟨0, 0, 0, 0, .slice none 0 0, []⟩⟩
def RecI.cells (r : RecI) : List Value := [.int .u8 r.k, .int .u64 r.a, .int .u64 r.b, .int .i16 r.v, r.dv]
theorem RecI.cl (r : RecI) : r.cells.length = 5 := rfl
structure RecI.ok (W : World) (r : RecI) : Prop where
  k : r.k < 256
  a : r.a < 18446744073709551616
  b : r.b < 18446744073709551616
  v1 : -32768 ≤ r.v
  v2 : r.v ≤ 32767
  d : SlB (allOf W) [] r.dv r.d
def InRec (W : World) (v : Value) (rs : List RecI) : Prop := Sl (allOf W) [] 5 v rs.length (rs.flatMap RecI.cells) ∧ ∀ r ∈ rs, r.ok W

/-- The struct that a record is. -/
structure RecT (P : Program) (e : TypeId) : Prop where
  is : ∃ f0 f1 f2 f3 f4 q, P.underlying e = some (.struct #[f0, f1, f2, f3, f4]) ∧ P.cellsOf e = 5 ∧ f0.offset = 0 ∧ f1.offset = 1 ∧ f2.offset = 2 ∧ f3.offset = 3 ∧ f4.offset = 4 ∧
    P.cellsOf f0.type = 1 ∧ P.cellsOf f1.type = 1 ∧ P.cellsOf f2.type = 1 ∧ P.cellsOf f3.type = 1 ∧ P.cellsOf f4.type = 1 ∧
    P.underlying f0.type = some (.int .u8) ∧ P.underlying f1.type = some (.int .u64) ∧ P.underlying f2.type = some (.int .u64) ∧ P.underlying f3.type = some (.int .i16) ∧ P.underlying f4.type = some (.slice q) ∧ P.underlying q = some (.int .u8) ∧ P.cellsOf q = 1

theorem rec_of_trod {H : Type} {enc : TypeId × Value → H} {P : Program} {W : World} {base : Nat} {spare : Nat → Bool} {held : Bool} {e : TypeId} {cs : List Value} {x : DataW H × List MemPlace} {fuel : Nat} (hT : RecT P e)
    (hf : DataW.trod enc P W base spare held fuel e cs = some x) : ∃ r : RecI, cs = r.cells ∧ r.ok W := by
  obtain ⟨f0, f1, f2, f3, f4, q, he, ce, o0, o1, o2, o3, o4, c0, c1, c2, c3, c4, u0, u1, u2, u3, u4, uq, cq⟩ := hT
  obtain ⟨xs, k, _, hxy, hcl, hxl, hx⟩ := DataW.trod_struct he hf
  rw [ce] at hcl
  match xs, hxl, cs, hcl with
  | [y0, y1, y2, y3, y4], _, [v0, v1, v2, v3, v4], _ =>
    have g0 := hx 0 f0 rfl
    have g1 := hx 1 f1 rfl
    have g2 := hx 2 f2 rfl
    have g3 := hx 3 f3 rfl
    have g4 := hx 4 f4 rfl
    simp [o0, c0] at g0
    simp [o1, c1] at g1
    simp [o2, c2] at g2
    simp [o3, c3] at g3
    simp [o4, c4] at g4
    obtain ⟨n0, h0, _, w0⟩ := DataW.trod_int u0 g0
    obtain ⟨n1, h1, _, w1⟩ := DataW.trod_int u1 g1
    obtain ⟨n2, h2, _, w2⟩ := DataW.trod_int u2 g2
    obtain ⟨n3, h3, _, w3⟩ := DataW.trod_int u3 g3
    obtain ⟨zs, hz⟩ := ints_of_trod u4 uq cq g4
    obtain rfl : v0 = .int .u8 n0 := by simpa using h0
    obtain rfl : v1 = .int .u64 n1 := by simpa using h1
    obtain rfl : v2 = .int .u64 n2 := by simpa using h2
    obtain rfl : v3 = .int .i16 n3 := by simpa using h3
    simp [Lit.wf, IntKind.min, IntKind.max, IntKind.signed, IntKind.bits] at w0 w1 w2 w3
    refine ⟨⟨n0.toNat, n1.toNat, n2.toNat, n3, v4, _⟩, ?_, ⟨by dsimp only; omega, by dsimp only; omega, by dsimp only; omega, by dsimp only; omega, by dsimp only; omega, inBytesE hz⟩⟩
    have e0 : ((n0.toNat : Nat) : Int) = n0 := by omega
    have e1 : ((n1.toNat : Nat) : Int) = n1 := by omega
    have e2 : ((n2.toNat : Nat) : Int) = n2 := by omega
    simp only [RecI.cells, e0, e1, e2]

theorem in_Rec {H : Type} {enc : TypeId × Value → H} {P : Program} {W : World} {base : Nat} {held : Bool} {t e : TypeId} {a : Option Addr} {len cap : Nat} {d : DataW H} {ps : List MemPlace}
    (hu : P.underlying t = some (.slice e)) (hT : RecT P e) (h : DataW.Trod enc P W base (fun _ => true) held t (.slice a len cap) d ps) : ∃ rs, InRec W (.slice a len cap) rs ∧ rs.length ≤ 9223372036854775807 := by
  obtain ⟨fuel, hf⟩ := h
  have ce : P.cellsOf e = 5 := by obtain ⟨_, _, _, _, _, _, _, ce, _⟩ := hT.is; exact ce
  rcases open_slice hu hf with ⟨hcs, _⟩ | ⟨x, l, c, m, n, D, Pl, hcs, _, hl, hm, hmm, _, hx⟩
  · simp [Value.cells] at hcs
    obtain ⟨rfl, rfl, rfl⟩ := hcs
    exact ⟨[], ⟨Sl.nil _ _ _, by simp⟩, by simp⟩
  · simp [Value.cells] at hcs
    obtain ⟨rfl, rfl, rfl⟩ := hcs
    simp only [if_true] at hmm
    subst hmm
    have each : ∀ i, i < m → ∃ r : RecI, r.ok W ∧ ∀ j q, r.cells[j]? = some q → W.cell? (x.add (i * 5 + j)) = some q := fun i hi => by
      obtain ⟨cs', h1, h2⟩ := hx i hi
      rw [ce] at h1
      obtain ⟨_, hlen, hcell⟩ := World.cells?_some h1
      obtain ⟨r, hr, hok⟩ := rec_of_trod hT h2
      refine ⟨r, hok, fun j q hj => ?_⟩
      have hj5 : j < 5 := by
        rcases Nat.lt_or_ge j 5 with h | h
        · exact h
        · rw [List.getElem?_eq_none (by rw [r.cl]; exact h)] at hj; cases hj
      have := hcell j (by omega)
      rw [add_add] at this
      rw [this, hr]
      exact hj
    obtain ⟨R, hR⟩ := choose_lt each
    have hlen : ((List.range len).map R).length = len := by simp
    refine ⟨(List.range len).map R, ⟨⟨some x, m, by rw [hlen], by rw [hlen, vec_len (c := RecI.cells) RecI.cl, hlen], by rw [hlen]; exact hl, by simp, fun i q hi => ?_⟩, ?_⟩, by unfold maxLen at hm; rw [hlen]; omega⟩
    · have hi5 : i < len * 5 := by
        rcases Nat.lt_or_ge i (len * 5) with h | h
        · exact h
        · rw [List.getElem?_eq_none (by rw [vec_len (c := RecI.cells) RecI.cl, hlen]; exact h)] at hi; cases hi
      have hd : i / 5 < len := by omega
      have hi' : i = i / 5 * 5 + i % 5 := by omega
      rw [hi', vec_get (c := RecI.cells) RecI.cl _ (i / 5) (by rw [hlen]; exact hd) (i % 5) (by omega)] at hi
      simp only [List.getElem_map, List.getElem_range] at hi
      have h1 := (hR (i / 5) (by omega)).2 _ _ hi
      rw [← hi'] at h1
      have h0 := (hR (i / 5) (by omega)).2 0 _ rfl
      have hsp0 := (hR 0 (by omega)).2 0 _ rfl
      have hsp := spot_none hsp0
      have hx0 : x.add (0 * 5 + 0) = x := by simp [Addr.add]
      rw [hx0] at hsp
      refine ⟨x.block, x.off, by rw [← hsp], cell_world ?_⟩
      rw [hsp, sliced_add] at h1
      exact h1
    · intro r hr
      obtain ⟨i, hi, rfl⟩ := List.mem_map.1 hr
      exact (hR i (by have := List.mem_range.1 hi; omega)).1

theorem in_Rec1 {H : Type} {enc : TypeId × Value → H} {P : Program} {W : World} {base : Nat} {spare : Nat → Bool} {held : Bool} {e : TypeId} {cs : Array Value} {d : DataW H} {ps : List MemPlace} (hT : RecT P e)
    (h : DataW.Trod enc P W base spare held e (.agg cs) d ps) : ∃ r : RecI, cs = r.cells.toArray ∧ r.ok W := by
  obtain ⟨fuel, hf⟩ := h
  obtain ⟨r, hr, hok⟩ := rec_of_trod hT hf
  refine ⟨r, ?_, hok⟩
  have : cs.toList = r.cells := hr
  rw [← this]

/-- Truths that came in. -/
def InBools (W : World) (v : Value) (bs : List Bool) : Prop := Sl (allOf W) [] 1 v bs.length (bs.map .bool)
theorem in_bool {H : Type} {enc : TypeId × Value → H} {P : Program} {W : World} {base : Nat} {held : Bool} {t e : TypeId} {a : Option Addr} {len cap : Nat} {d : DataW H} {ps : List MemPlace}
    (hu : P.underlying t = some (.slice e)) (he : P.underlying e = some .bool) (hc : P.cellsOf e = 1) (h : DataW.Trod enc P W base (fun _ => true) held t (.slice a len cap) d ps) : ∃ bs, InBools W (.slice a len cap) bs ∧ bs.length ≤ 9223372036854775807 := by
  obtain ⟨fuel, hf⟩ := h
  rcases open_bools hu he hc hf with ⟨hcs, _⟩ | ⟨x, l, c, B, hcs, _, hl, hm, _, hB⟩
  · simp [Value.cells] at hcs
    obtain ⟨rfl, rfl, rfl⟩ := hcs
    exact ⟨[], Sl.nil _ _ _, by simp⟩
  · simp [Value.cells] at hcs
    obtain ⟨rfl, rfl, rfl⟩ := hcs
    have hlen : ((List.range len).map B).length = len := by simp
    refine ⟨(List.range len).map B, ⟨some x, cap, by rw [hlen], by simp, by rw [hlen]; exact hl, by simp, fun i q hi => ?_⟩, by unfold maxLen at hm; rw [hlen]; omega⟩
    have hil : i < len := by
      rcases Nat.lt_or_ge i len with h | h
      · exact h
      · rw [List.getElem?_eq_none (by simp; exact h)] at hi; cases hi
    rw [List.getElem?_map, List.getElem?_map, List.getElem?_range hil] at hi
    simp only [Option.map_some, Option.some.injEq] at hi
    subst hi
    have hsp := spot_none (hB 0 (by omega))
    have hx0 : x.add 0 = x := by simp [Addr.add]
    rw [hx0] at hsp
    refine ⟨x.block, x.off, by rw [← hsp], cell_world ?_⟩
    have h1 := hB i (by omega)
    rw [hsp, sliced_add] at h1
    exact h1
end Go.SX
