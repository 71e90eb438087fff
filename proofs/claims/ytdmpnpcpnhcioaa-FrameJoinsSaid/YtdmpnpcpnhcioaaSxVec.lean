/-
  Elements of k cells each, one behind the other.
-/
import Derived.Test.YtdmpnpcpnhcioaaSxWin
namespace Go.SX
open Go

section
variable {α : Type} {c : α → List Value} {k : Nat}

theorem vec_len (hc : ∀ a, (c a).length = k) : ∀ l : List α, (l.flatMap c).length = l.length * k
  | [] => by simp
  | a :: r => by rw [List.flatMap_cons, List.length_append, hc, vec_len hc r, List.length_cons, Nat.add_mul]; omega
theorem vec_get (hc : ∀ a, (c a).length = k) : ∀ (l : List α) (i : Nat) (hi : i < l.length) (j : Nat), j < k → (l.flatMap c)[i * k + j]? = (c l[i])[j]?
  | a :: r, 0, _, j, hj => by
    rw [List.flatMap_cons, Nat.zero_mul, Nat.zero_add, List.getElem?_append_left (by rw [hc]; exact hj)]
    rfl
  | a :: r, i + 1, hi, j, hj => by
    have ih := vec_get hc r i (by simpa using hi) j hj
    rw [List.flatMap_cons, List.getElem?_append_right (by rw [hc, Nat.add_mul]; omega), hc]
    have e : (i + 1) * k + j - k = i * k + j := by rw [Nat.add_mul]; omega
    rw [e, ih]
    rfl
theorem vec_take (hc : ∀ a, (c a).length = k) (l : List α) (n : Nat) (hn : n ≤ l.length) : (l.flatMap c).take (n * k) = (l.take n).flatMap c := by
  have e : l.flatMap c = (l.take n).flatMap c ++ (l.drop n).flatMap c := by rw [← List.flatMap_append, List.take_append_drop]
  rw [e]
  exact List.take_left' (by rw [vec_len hc, List.length_take, Nat.min_eq_left hn])
theorem vec_drop (hc : ∀ a, (c a).length = k) (l : List α) (n : Nat) (hn : n ≤ l.length) : (l.flatMap c).drop (n * k) = (l.drop n).flatMap c := by
  have e : l.flatMap c = (l.take n).flatMap c ++ (l.drop n).flatMap c := by rw [← List.flatMap_append, List.take_append_drop]
  rw [e]
  exact List.drop_left' (by rw [vec_len hc, List.length_take, Nat.min_eq_left hn])
theorem vec_put (hc : ∀ a, (c a).length = k) (l : List α) (i : Nat) (hi : i < l.length) (a : α) : putAt (l.flatMap c) (i * k) (c a) = (l.set i a).flatMap c := by
  unfold putAt
  rw [vec_take hc l i (by omega), hc]
  have e : i * k + k = (i + 1) * k := by rw [Nat.add_mul, Nat.one_mul]
  rw [e, vec_drop hc l (i + 1) (by omega), List.set_eq_take_append_cons_drop, if_pos hi]
  simp
/-- One cell of an element is another. -/
theorem vec_set (hc : ∀ a, (c a).length = k) (l : List α) (i j : Nat) (hi : i < l.length) (hj : j < k) (a : α) (v : Value) (ha : c a = (c l[i]).set j v) : (l.flatMap c).set (i * k + j) v = (l.set i a).flatMap c := by
  rw [← vec_put hc l i hi a, ha]
  have hlen := vec_len hc l
  have hkl : i * k + k ≤ (l.flatMap c).length := by
    rw [hlen]
    have : (i + 1) * k ≤ l.length * k := Nat.mul_le_mul_right _ hi
    rw [Nat.add_mul, Nat.one_mul] at this
    exact this
  apply List.ext_getElem?
  intro x
  rw [List.getElem?_set]
  simp only [putAt, List.length_set, hc]
  have h3 : ((l.flatMap c).take (i * k)).length = i * k := by rw [List.length_take]; omega
  by_cases h1 : x < i * k
  · rw [if_neg (by omega), List.append_assoc, List.getElem?_append_left (by rw [h3]; exact h1), List.getElem?_take, if_pos h1]
  · by_cases h2 : x < i * k + k
    · rw [List.getElem?_append_left (by rw [List.length_append, h3, List.length_set, hc]; omega), List.getElem?_append_right (by rw [h3]; omega), List.getElem?_set, h3]
      by_cases h4 : i * k + j = x
      · rw [if_pos h4, if_pos (by omega), if_pos (by omega), if_pos (by rw [hc]; exact hj)]
      · rw [if_neg h4, if_neg (by omega), ← vec_get hc l i hi (x - i * k) (by omega)]
        congr 1
        omega
    · rw [if_neg (by omega), List.getElem?_append_right (by rw [List.length_append, h3, List.length_set, hc]; omega), List.getElem?_drop]
      congr 1
      rw [List.length_append, h3, List.length_set, hc]
      omega
theorem vec_append (l m : List α) : (l ++ m).flatMap c = l.flatMap c ++ m.flatMap c := List.flatMap_append
theorem vec_one {c : α → List Value} (l : List α) (h : ∀ a ∈ l, (c a).all oneCellB = true) : (l.flatMap c).all oneCellB = true := by
  rw [List.all_eq_true]
  intro v hv
  obtain ⟨a, ha, hva⟩ := List.mem_flatMap.1 hv
  exact List.all_eq_true.1 (h a ha) v hva

/-- An element's cells, in an owned row. -/
theorem vec_cell {F : Fz} {H : List Ent} {b N : Nat} {l : List α} (hc : ∀ a, (c a).length = k) (hm : Ent.mem b (l.flatMap c) N ∈ H) (i : Nat) (hi : i < l.length) (j : Nat) (v : Value) (hv : (c l[i])[j]? = some v) : Cell F H b (i * k + j) v := by
  have hj : j < k := by
    rw [← hc l[i]]
    rcases Nat.lt_or_ge j (c l[i]).length with h | h
    · exact h
    · rw [List.getElem?_eq_none h] at hv; cases hv
  exact cell_own hm (by rw [vec_get hc l i hi j hj]; exact hv)
end

theorem cells_toArray_one (l : List Value) : (Value.agg l.toArray).cells.toList = l := rfl
end Go.SX
