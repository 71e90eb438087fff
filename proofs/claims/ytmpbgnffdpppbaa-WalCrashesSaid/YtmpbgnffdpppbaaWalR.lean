/-
  Plain laws: records one behind the other, cut anywhere.
-/
import Derived.Test.YtmpbgnffdpppbaaWal9
namespace Go.SX
open Go Go.Proofs
set_option maxRecDepth 4000
set_option linter.unusedSimpArgs false
set_option linter.unusedVariables false

abbrev catR (rl : List (Nat × List UInt8)) : List UInt8 := rl.flatMap fun x => recB x.1 x.2
theorem catR_append (a b : List (Nat × List UInt8)) : catR (a ++ b) = catR a ++ catR b := List.flatMap_append
def stW (W : List PI) (j : Nat) : PI := ((nilI :: W)[j]?).getD nilI
def endAt (rl : List (Nat × List UInt8)) (j : Nat) : Nat := (catR (rl.take j)).length
structure Track (rl : List (Nat × List UInt8)) (W : List PI) : Prop where
  len : W.length = rl.length
  fit : ∀ x ∈ rl, x.1 < 256 ∧ x.2.length ≤ 300
  re : ∀ j, j ≤ rl.length → Reaches (catR (rl.take j)) (stW W j)
theorem Track.nil : Track [] [] := ⟨rfl, by simp, fun j hj => by
  obtain rfl : j = 0 := by simpa using hj
  exact Reaches.nil⟩
theorem stW_app {W V : List PI} {j : Nat} (h : j ≤ W.length) : stW (W ++ V) j = stW W j := by
  unfold stW
  rw [← List.cons_append, List.getElem?_append_left (by simp; omega)]
theorem stW_end (W : List PI) (q : PI) : stW (W ++ [q]) (W.length + 1) = q := by
  unfold stW
  rw [List.getElem?_cons_succ, List.getElem?_append_right (Nat.le_refl _)]
  simp
theorem Track.more {rl : List (Nat × List UInt8)} {W : List PI} {k : Nat} {d : List UInt8} {q : PI} (h : Track rl W) (hk : k < 256) (hd : d.length ≤ 300) (ha : addP (stW W rl.length) k d = some q) : Track (rl ++ [(k, d)]) (W ++ [q]) := by
  refine ⟨by simp [h.len], fun x hx => ?_, fun j hj => ?_⟩
  · rcases List.mem_append.1 hx with hx | hx
    · exact h.fit x hx
    · rw [List.mem_singleton] at hx
      subst hx
      exact ⟨hk, hd⟩
  · rcases Nat.lt_or_ge rl.length j with h1 | h1
    · obtain rfl : j = rl.length + 1 := by simp at hj; omega
      have e1 : (rl ++ [(k, d)]).take (rl.length + 1) = rl ++ [(k, d)] := List.take_of_length_le (by simp)
      have e2 : stW (W ++ [q]) (rl.length + 1) = q := by rw [← h.len]; exact stW_end W q
      rw [e1, e2, catR_append]
      have h2 := h.re rl.length (Nat.le_refl _)
      rw [List.take_length] at h2
      have h3 := h2.more (by omega) hk ha
      simpa [catR] using h3
    · rw [List.take_append_of_le_length h1, stW_app (by rw [h.len]; exact h1)]
      exact h.re j h1
def Stops (q : PI) (tail : List UInt8) : Prop := tail = [] ∨ ∃ k d rest, tail = recB k d ++ rest ∧ d.length ≤ 300 ∧ k < 256 ∧ addP q k d = none
theorem Stops.take {q : PI} {tail b : List UInt8} (h : Stops q tail) (hb : Reaches b q) (c : Nat) : scanP nilI (b ++ tail.take c) = (q, b.length) := by
  rcases h with rfl | ⟨k, d, rest, rfl, hd, hk, ha⟩
  · rw [List.take_nil]
    exact hb.stop (takeB_lt9 (by simp))
  · rcases Nat.lt_or_ge c (d.length + 9) with h1 | h1
    · rw [List.take_append_of_le_length (by rw [recB_length]; omega)]
      exact hb.stop (takeB_cut (by omega) h1)
    · have : (recB k d ++ rest).take c = recB k d ++ rest.take (c - (d.length + 9)) := by
        rw [List.take_append, List.take_of_length_le (by rw [recB_length]; exact h1), recB_length]
      rw [this]
      exact hb.refused (by omega) hk ha _
theorem Stops.junk {q : PI} {tail b junk : List UInt8} (h : Stops q tail) (hb : Reaches b q) (hj : tail = [] → junk.length < 9) : scanP nilI (b ++ tail ++ junk) = (q, b.length) := by
  rcases h with rfl | ⟨k, d, rest, rfl, hd, hk, ha⟩
  · rw [List.append_nil]
    exact hb.stop (takeB_lt9 (hj rfl))
  · rw [List.append_assoc, List.append_assoc]
    exact hb.refused (by omega) hk ha _
theorem Stops.app {q : PI} {tail x : List UInt8} (h : Stops q tail) (hne : tail ≠ []) : Stops q (tail ++ x) := by
  rcases h with rfl | ⟨k, d, rest, rfl, hd, hk, ha⟩
  · exact absurd rfl hne
  · exact .inr ⟨k, d, rest ++ x, by rw [List.append_assoc], hd, hk, ha⟩
theorem endAt_len (rl : List (Nat × List UInt8)) : endAt rl rl.length = (catR rl).length := by unfold endAt; rw [List.take_length]
theorem endAt_succ {rl : List (Nat × List UInt8)} {j : Nat} (h : j < rl.length) : endAt rl (j + 1) = endAt rl j + rl[j].2.length + 9 := by
  unfold endAt
  rw [List.take_succ_eq_append_getElem h, catR_append, List.length_append]
  simp [catR]
  omega
theorem endAt_mono {rl : List (Nat × List UInt8)} : ∀ {k j : Nat}, j ≤ k → k ≤ rl.length → endAt rl j ≤ endAt rl k
  | 0, j, h, _ => by obtain rfl : j = 0 := by omega
                     exact Nat.le_refl _
  | k + 1, j, h, hk => by
    rcases Nat.lt_or_ge k j with h1 | h1
    · obtain rfl : j = k + 1 := by omega
      exact Nat.le_refl _
    · have := endAt_mono h1 (Nat.le_of_succ_le hk)
      have := endAt_succ (rl := rl) (j := k) hk
      omega
theorem endAt_app {rl : List (Nat × List UInt8)} {x : Nat × List UInt8} {j : Nat} (h : j ≤ rl.length) : endAt (rl ++ [x]) j = endAt rl j := by
  unfold endAt
  rw [List.take_append_of_le_length h]
theorem scan_cut {rl : List (Nat × List UInt8)} {W : List PI} {tail : List UInt8} (h : Track rl W) (hs : Stops (stW W rl.length) tail) {m c : Nat} (hm : m ≤ rl.length) (hc : endAt rl m ≤ c) (hc2 : m < rl.length → c < endAt rl (m + 1)) : scanP nilI ((catR rl ++ tail).take c) = (stW W m, endAt rl m) := by
  rcases Nat.lt_or_ge m rl.length with h1 | h1
  · have hc2 := hc2 h1
    rw [endAt_succ h1] at hc2
    have e1 : rl = rl.take m ++ rl[m] :: rl.drop (m + 1) := by rw [List.getElem_cons_drop, List.take_append_drop]
    have e2 : catR rl = catR (rl.take m) ++ (recB rl[m].1 rl[m].2 ++ catR (rl.drop (m + 1))) := by
      conv => lhs; rw [e1]
      rw [catR_append]
      rfl
    have hf := h.fit rl[m] (List.getElem_mem _)
    have e3 : (catR rl ++ tail).take c = catR (rl.take m) ++ (recB rl[m].1 rl[m].2).take (c - endAt rl m) := by
      rw [e2, List.append_assoc, List.take_append, List.take_of_length_le (show (catR (rl.take m)).length ≤ c from hc)]
      congr 1
      rw [List.append_assoc, List.take_append_of_le_length (by rw [recB_length]; show c - endAt rl m ≤ _; omega)]
      rfl
    rw [e3]
    exact (h.re m (by omega)).stop (takeB_cut (by omega) (by omega))
  · obtain rfl : m = rl.length := by omega
    have h2 := h.re rl.length (Nat.le_refl _)
    rw [List.take_length] at h2
    rw [endAt_len] at hc ⊢
    rw [List.take_append, List.take_of_length_le hc]
    exact hs.take h2 _
def endsV (rl : List (Nat × List UInt8)) : List Value := (List.range rl.length).map fun j => Value.int .i64 (endAt rl (j + 1) : Nat)
@[simp] theorem endsV_length (rl : List (Nat × List UInt8)) : (endsV rl).length = rl.length := by simp [endsV]
theorem endsV_app (rl : List (Nat × List UInt8)) (x : Nat × List UInt8) : endsV (rl ++ [x]) = endsV rl ++ [.int .i64 ((catR (rl ++ [x])).length : Nat)] := by
  unfold endsV
  rw [List.length_append, List.length_singleton, List.range_succ, List.map_append]
  congr 1
  · apply List.map_congr_left
    intro j hj
    rw [endAt_app (by have := List.mem_range.1 hj; omega)]
  · have := endAt_len (rl ++ [x])
    rw [List.length_append, List.length_singleton] at this
    simp only [List.map_cons, List.map_nil]
    rw [this]
theorem endsV_get {rl : List (Nat × List UInt8)} {j : Nat} (h : j < rl.length) : (endsV rl)[j]? = some (.int .i64 (endAt rl (j + 1) : Nat)) := by
  unfold endsV
  rw [List.getElem?_map, List.getElem?_range h]
  rfl
theorem Im.cl (p : Im) : p.cells.length = 7 := rfl
end Go.SX
