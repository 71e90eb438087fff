/-
  Plain laws of records: what is laid is taken again; what bytes come to.
-/
import Derived.Test.YtmpbgnffdpppbaaWal4
namespace Go.SX
open Go Go.Proofs
set_option maxRecDepth 4000
set_option linter.unusedSimpArgs false
set_option linter.unusedVariables false

theorem rdNum_le {n v : Nat} {r : List UInt8} (h8 : n ≤ 8) (hv : v < 256 ^ n) : rdNum (leB n v ++ r) false n = (v, r, false) := by
  rw [rdNum_ok (by simp) h8, List.take_left' (leB_length n v), List.drop_left' (leB_length n v), leN_leB n v hv]
theorem rdNum_le' {n v : Nat} (h8 : n ≤ 8) (hv : v < 256 ^ n) : rdNum (leB n v) false n = (v, [], false) := by
  have := rdNum_le (r := []) h8 hv
  rwa [List.append_nil] at this
theorem rdBytes_lenB {d : List UInt8} (h : d.length ≤ 1048576) : rdBytes (lenB d) false 1048576 = (d, [], false) := by
  have h1 : rdNum (lenB d) false 4 = (d.length, d, false) := rdNum_le (n := 4) (by omega) (by omega)
  unfold rdBytes
  rw [h1]
  dsimp only
  rw [if_neg (by simp; omega)]
  simp
theorem hardR_hardP {t w : Nat} (ht : t < 18446744073709551616) (hw : w < 65536) : hardR (hardP t w) = some (t, (w : Int) - 1) := by
  unfold hardR hardP
  have h1 : rdNum (leB 8 t ++ leB 2 w) false 8 = (t, leB 2 w, false) := rdNum_le (n := 8) (by omega) ht
  have h2 : rdNum (leB 2 w) false 2 = (w, [], false) := rdNum_le' (n := 2) (by omega) hw
  rw [h1]
  dsimp only
  rw [h2]
  simp
theorem entR_entP {ix tm kd : Nat} {d : List UInt8} (h1 : ix < 18446744073709551616) (h2 : tm < 18446744073709551616) (h3 : kd < 256) (h4 : d.length ≤ 1048576) : entR (entP ix tm kd d) = some ⟨ix, tm, kd, d⟩ := by
  unfold entR entP
  rw [List.append_assoc, List.append_assoc]
  have e1 : rdNum (leB 8 ix ++ (leB 8 tm ++ (leB 1 kd ++ lenB d))) false 8 = (ix, _, false) := rdNum_le (n := 8) (by omega) h1
  have e2 : rdNum (leB 8 tm ++ (leB 1 kd ++ lenB d)) false 8 = (tm, _, false) := rdNum_le (n := 8) (by omega) h2
  have e3 : rdNum (leB 1 kd ++ lenB d) false 1 = (kd, _, false) := rdNum_le (n := 1) (by omega) h3
  rw [e1]; dsimp only; rw [e2]; dsimp only; rw [e3]; dsimp only; rw [rdBytes_lenB h4]
  simp
theorem snapR_snapP {ix tm vt : Nat} {d : List UInt8} (h1 : ix < 18446744073709551616) (h2 : tm < 18446744073709551616) (h3 : vt < 18446744073709551616) (h4 : d.length ≤ 1048576) : snapR (snapP ix tm vt d) = some (ix, tm, vt, d) := by
  unfold snapR snapP
  rw [List.append_assoc, List.append_assoc]
  have e1 : rdNum (leB 8 ix ++ (leB 8 tm ++ (leB 8 vt ++ lenB d))) false 8 = (ix, _, false) := rdNum_le (n := 8) (by omega) h1
  have e2 : rdNum (leB 8 tm ++ (leB 8 vt ++ lenB d)) false 8 = (tm, _, false) := rdNum_le (n := 8) (by omega) h2
  have e3 : rdNum (leB 8 vt ++ lenB d) false 8 = (vt, _, false) := rdNum_le (n := 8) (by omega) h3
  rw [e1]; dsimp only; rw [e2]; dsimp only; rw [e3]; dsimp only; rw [rdBytes_lenB h4]
  simp

theorem recB_app (k : Nat) (d rest : List UInt8) : recB k d ++ rest = leB 4 d.length ++ (leB 1 k ++ (d ++ (leB 4 (crc (leB 4 d.length ++ leB 1 k ++ d)).toNat ++ rest))) := by
  simp [recB, sealB]
theorem takeB_rec {k : Nat} {d : List UInt8} (hd : d.length ≤ 1048576) (hk : k < 256) (rest : List UInt8) : takeB (recB k d ++ rest) = some (k, d, rest) := by
  have h1 : (recB k d ++ rest).take 4 = leB 4 d.length := by rw [recB_app, List.take_left' (leB_length _ _)]
  have h2 : ((recB k d ++ rest).drop 4).take 1 = leB 1 k := by rw [recB_app, List.drop_left' (leB_length _ _), List.take_left' (leB_length _ _)]
  have h3 : leN (leB 4 d.length) = d.length := leN_leB 4 _ (by omega)
  have h4 : leN (leB 1 k) = k := leN_leB 1 _ (by omega)
  have h5 : (recB k d ++ rest).take (d.length + 9) = recB k d := List.take_left' (recB_length k d)
  have h6 : (recB k d ++ rest).drop (d.length + 9) = rest := List.drop_left' (recB_length k d)
  have h7 : openB (recB k d) = (0, leB 4 d.length ++ leB 1 k ++ d) := openB_seal _
  have h8 : (recB k d ++ rest).length = d.length + 9 + rest.length := by simp
  have h9 : (leB 4 d.length ++ leB 1 k ++ d).drop 5 = d := List.drop_left' (by simp)
  unfold takeB
  rw [h1, h2, h3, h4, h5, h6, h7, h8, if_neg (by omega), if_neg (by omega), if_pos rfl, h9]
theorem takeB_lt9 {b : List UInt8} (h : b.length < 9) : takeB b = none := by
  unfold takeB
  split
  · rfl
  · rw [if_pos (.inr (by omega))]
theorem takeB_cut {k : Nat} {d : List UInt8} (hd : d.length ≤ 1048576) {j : Nat} (hj : j < d.length + 9) : takeB ((recB k d).take j) = none := by
  have hl : ((recB k d).take j).length = j := by simp; omega
  unfold takeB
  rw [hl]
  by_cases h5 : j < 5
  · rw [if_pos h5]
  · rw [if_neg h5, List.take_take, Nat.min_eq_left (by omega)]
    have h1 : (recB k d).take 4 = leB 4 d.length := by
      have := recB_app k d []
      rw [List.append_nil] at this
      rw [this, List.take_left' (leB_length _ _)]
    have h3 : leN (leB 4 d.length) = d.length := leN_leB 4 _ (by omega)
    rw [h1, h3, if_pos (.inr (by omega))]
theorem takeB_local {b d rest : List UInt8} {k : Nat} (h : takeB b = some (k, d, rest)) : ∃ pre, b = pre ++ rest ∧ ∀ rest', takeB (pre ++ rest') = some (k, d, rest') := by
  unfold takeB at h
  split at h
  · cases h
  · split at h
    · cases h
    · rename_i h1 h2
      split at h
      · rename_i h3
        simp only [Option.some.injEq, Prod.mk.injEq] at h
        obtain ⟨rfl, rfl, rfl⟩ := h
        refine ⟨b.take (leN (b.take 4) + 9), (List.take_append_drop _ _).symm, fun rest' => ?_⟩
        have hpl : (b.take (leN (b.take 4) + 9)).length = leN (b.take 4) + 9 := by simp; omega
        have g1 : (b.take (leN (b.take 4) + 9) ++ rest').take 4 = b.take 4 := by
          rw [List.take_append_of_le_length (by omega), List.take_take, Nat.min_eq_left (by omega)]
        have g2 : ((b.take (leN (b.take 4) + 9) ++ rest').drop 4).take 1 = (b.drop 4).take 1 := by
          rw [List.drop_append_of_le_length (by omega), List.take_append_of_le_length (by simp; omega), List.drop_take, List.take_take, Nat.min_eq_left (by omega)]
        have g3 : (b.take (leN (b.take 4) + 9) ++ rest').take (leN (b.take 4) + 9) = b.take (leN (b.take 4) + 9) := List.take_left' hpl
        have g4 : (b.take (leN (b.take 4) + 9) ++ rest').drop (leN (b.take 4) + 9) = rest' := List.drop_left' hpl
        have g5 : (b.take (leN (b.take 4) + 9) ++ rest').length = leN (b.take 4) + 9 + rest'.length := by rw [List.length_append, hpl]
        unfold takeB
        rw [g1, g2, g3, g4, g5, if_neg (by omega), if_neg (by omega), if_pos h3]
      · cases h

theorem scanP_rec {p q : PI} {k : Nat} {d : List UInt8} (hd : d.length ≤ 1048576) (hk : k < 256) (ha : addP p k d = some q) (rest : List UInt8) : scanP p (recB k d ++ rest) = ((scanP q rest).1, d.length + 9 + (scanP q rest).2) := by
  rw [scanP_step (takeB_rec hd hk rest) ha]
  congr 2
  simp
theorem scanP_refused {p : PI} {k : Nat} {d : List UInt8} (hd : d.length ≤ 1048576) (hk : k < 256) (ha : addP p k d = none) (rest : List UInt8) : scanP p (recB k d ++ rest) = (p, 0) := scanP_stop (takeB_rec hd hk rest) ha
/-- These bytes come to this image, and all of them are looked at. -/
def Reaches (b : List UInt8) (q : PI) : Prop := ∀ rest, scanP nilI (b ++ rest) = ((scanP q rest).1, b.length + (scanP q rest).2)
theorem Reaches.nil : Reaches [] nilI := fun rest => by simp
theorem Reaches.more {b : List UInt8} {p q : PI} {k : Nat} {d : List UInt8} (h : Reaches b p) (hd : d.length ≤ 1048576) (hk : k < 256) (ha : addP p k d = some q) : Reaches (b ++ recB k d) q := fun rest => by
  rw [List.append_assoc, h, scanP_rec hd hk ha]
  congr 1
  simp
  omega
theorem Reaches.stop {b : List UInt8} {p : PI} (h : Reaches b p) {rest : List UInt8} (hr : takeB rest = none) : scanP nilI (b ++ rest) = (p, b.length) := by
  rw [h, scanP_none hr]; simp
theorem Reaches.end_ {b : List UInt8} {p : PI} (h : Reaches b p) : scanP nilI b = (p, b.length) := by
  have := h.stop (rest := []) (takeB_lt9 (by simp))
  rwa [List.append_nil] at this
theorem Reaches.refused {b : List UInt8} {p : PI} {k : Nat} {d : List UInt8} (h : Reaches b p) (hd : d.length ≤ 1048576) (hk : k < 256) (ha : addP p k d = none) (rest : List UInt8) : scanP nilI (b ++ (recB k d ++ rest)) = (p, b.length) := by
  rw [h, scanP_refused hd hk ha]; simp

/-- Nothing behind what is looked at matters. -/
theorem scanP_again : ∀ (n : Nat) (p : PI) (b : List UInt8), b.length ≤ n → (scanP p b).2 ≤ b.length ∧ scanP p (b.take (scanP p b).2) = scanP p b
  | n, p, b, hn => by
    have zero : scanP p b = (p, 0) → (scanP p b).2 ≤ b.length ∧ scanP p (b.take (scanP p b).2) = scanP p b := fun h => by
      rw [h]
      refine ⟨Nat.zero_le _, ?_⟩
      rw [List.take_zero]
      exact scanP_none (takeB_lt9 (by simp))
    cases ht : takeB b with
    | none => exact zero (scanP_none ht)
    | some q =>
      obtain ⟨k, d, rest⟩ := q
      cases ha : addP p k d with
      | none => exact zero (scanP_stop ht ha)
      | some q =>
        have h1 := takeB_some ht
        obtain ⟨pre, hb, hloc⟩ := takeB_local ht
        cases n with
        | zero => omega
        | succ n =>
          obtain ⟨h2, h3⟩ := scanP_again n q rest (by omega)
          have hpl : pre.length = b.length - rest.length := by rw [hb]; simp
          rw [scanP_step ht ha]
          dsimp only
          refine ⟨by omega, ?_⟩
          have e1 : b.take (b.length - rest.length + (scanP q rest).2) = pre ++ rest.take (scanP q rest).2 := by
            rw [← hpl]
            conv => lhs; rw [hb]
            rw [List.take_length_add_append]
          rw [e1, scanP_step (hloc _) ha, h3]
          congr 2
          rw [List.length_append]
          omega
end Go.SX
