/-
  The reference's joiner, plainly: pairs of a place and what stands there.
-/
import Derived.Test.YtdmpnpcpnhcioaaJoin3
import Derived.Test.YtdmpnpcpnhcioaaSxMap
namespace Go.SX
open Go Go.Proofs
set_option maxRecDepth 4000
set_option linter.unusedSimpArgs false
set_option linter.unusedVariables false

/-- A message of which parts came: its number, of how many, the parts by their places. -/
structure Rm where
  b : Nat
  id : Nat
  of : Nat
  kv : List (Nat × Row)
def lookR : List (Nat × Row) → Nat → Option Row
  | [], _ => none
  | x :: r, k => if x.1 = k then some x.2 else lookR r k
def kvV (l : List (Nat × Row)) : List (Int × Value) := l.map fun x => ((x.1 : Int), x.2.1)
theorem lookKV_kvV : ∀ (l : List (Nat × Row)) (k : Nat), lookKV (kvV l) (k : Int) = (lookR l k).map (·.1)
  | [], k => rfl
  | x :: r, k => by
    have ih := lookKV_kvV r k
    simp only [kvV, List.map_cons, lookKV, lookR] at ih ⊢
    by_cases h : x.1 = k
    · rw [if_pos (by omega), if_pos h]; rfl
    · rw [if_neg (by omega), if_neg h]; exact ih
theorem lookR_append : ∀ (l : List (Nat × Row)) (a : Nat) (x : Row) (k : Nat), lookR (l ++ [(a, x)]) k = (lookR l k).orElse fun _ => if a = k then some x else none
  | [], a, x, k => by simp [lookR]
  | y :: r, a, x, k => by
    simp only [List.cons_append, lookR]
    by_cases h : y.1 = k
    · rw [if_pos h, if_pos h]; rfl
    · rw [if_neg h, if_neg h]; exact lookR_append r a x k
def Rm.pieces (g : Rm) : List (Option (List UInt8)) := (List.range g.of).map fun j => (lookR g.kv j).map (·.2)
def Rm.abs (g : Rm) : HP := ⟨g.id, g.of, g.pieces⟩
theorem pieces_get (g : Rm) (a : Nat) (h : a < g.of) : g.pieces[a]? = some ((lookR g.kv a).map (·.2)) := by
  unfold Rm.pieces
  rw [List.getElem?_map, List.getElem?_range h]
  rfl
theorem pieces_hole (g : Rm) (a : Nat) (h : a < g.of) : isHole g.pieces a = (lookR g.kv a).isNone := by
  unfold isHole
  rw [pieces_get g a h]
  cases lookR g.kv a <;> rfl
/-- A new part is laid in where there was none. -/
theorem pieces_put (g : Rm) (a : Nat) (x : Row) (h : a < g.of) (hn : lookR g.kv a = none) : ({ g with kv := g.kv ++ [(a, x)] } : Rm).pieces = putO g.pieces a x.2 := by
  have hh : isHole g.pieces a = true := by rw [pieces_hole g a h, hn]; rfl
  unfold putO
  rw [if_pos hh]
  apply List.ext_getElem?
  intro j
  rw [List.getElem?_set]
  by_cases hj : j < g.of
  · have h1 : ({ g with kv := g.kv ++ [(a, x)] } : Rm).pieces[j]? = _ := pieces_get _ j hj
    rw [h1, pieces_get g j hj]
    dsimp only
    rw [lookR_append]
    by_cases he : a = j
    · subst he
      rw [hn, if_pos rfl, if_pos rfl, if_pos (by unfold Rm.pieces; simpa using h)]
      rfl
    · rw [if_neg he, if_neg he]
      cases lookR g.kv j <;> rfl
  · have h2 : ∀ q : Rm, q.of = g.of → q.pieces[j]? = none := fun q hq => by
      unfold Rm.pieces
      rw [List.getElem?_map, List.getElem?_eq_none (by simp; omega)]
      rfl
    have : a ≠ j := by omega
    rw [if_neg this, h2 g rfl]
    exact h2 _ rfl
theorem pieces_kept (g : Rm) (a : Nat) (x : List UInt8) (h : a < g.of) (hn : lookR g.kv a ≠ none) : putO g.pieces a x = g.pieces := by
  unfold putO
  rw [if_neg]
  rw [pieces_hole g a h]
  cases h2 : lookR g.kv a with
  | none => exact absurd h2 hn
  | some r => simp
/-- Keys stand for themselves once. -/
structure Rm.ok (g : Rm) : Prop where
  lt : ∀ x ∈ g.kv, x.1 < g.of
  nd : (g.kv.map (·.1)).Nodup
theorem lookR_none : ∀ (l : List (Nat × Row)) (k : Nat), lookR l k = none ↔ k ∉ l.map (·.1)
  | [], k => by simp [lookR]
  | x :: r, k => by
    have ih := lookR_none r k
    simp only [lookR, List.map_cons, List.mem_cons, not_or]
    by_cases h : x.1 = k
    · simp [h]
    · rw [if_neg h, ih]
      exact ⟨fun h1 => ⟨fun h2 => h h2.symm, h1⟩, fun h1 => h1.2⟩
theorem Rm.ok.put {g : Rm} (h : g.ok) {a : Nat} {x : Row} (ha : a < g.of) (hn : lookR g.kv a = none) : ({ g with kv := g.kv ++ [(a, x)] } : Rm).ok := by
  refine ⟨fun y hy => ?_, ?_⟩
  · rcases List.mem_append.1 hy with hy | hy
    · exact h.lt y hy
    · rw [List.mem_singleton] at hy
      rw [hy]
      exact ha
  · rw [List.map_append]
    refine List.nodup_append.2 ⟨h.nd, by simp, ?_⟩
    intro y hy z hz
    simp only [List.map_cons, List.map_nil, List.mem_singleton] at hz
    subst hz
    intro he
    subst he
    exact (lookR_none _ _).1 hn hy

theorem nodup_card : ∀ (n : Nat) (l : List Nat), l.Nodup → (∀ x ∈ l, x < n) → l.length ≤ n
  | 0, l, _, h => by
    cases l with
    | nil => simp
    | cons x r => exact absurd (h x (List.mem_cons_self ..)) (by omega)
  | n + 1, l, hd, h => by
    have h1 : (l.filter (· ≠ n)).length ≤ n := nodup_card n _ (hd.sublist List.filter_sublist) (fun x hx => by
      have h2 := List.mem_filter.1 hx
      have h3 := h x h2.1
      have h4 : x ≠ n := by simpa using h2.2
      omega)
    have h5 : l.length ≤ (l.filter (· ≠ n)).length + 1 := by
      have h6 : l.countP (· ≠ n) + l.countP (· = n) = l.length := by
        have := List.length_eq_countP_add_countP (p := fun x => decide (x ≠ n)) (l := l)
        simp at this
        simp
        omega
      have h7 : l.countP (· = n) ≤ 1 := by
        have := hd.count (a := n)
        unfold List.count at this
        have h8 : l.countP (· == n) ≤ 1 := by rw [this]; split <;> omega
        have h9 : l.countP (fun x => decide (x = n)) = l.countP (· == n) := by
          congr 1
        rw [h9]
        exact h8
      rw [← List.countP_eq_length_filter]
      omega
    omega
/-- Fewer pairs than parts: a part lacks. -/
theorem pieces_any (g : Rm) (h : g.ok) : g.pieces.any Option.isNone = decide (g.kv.length < g.of) := by
  have hle := nodup_card g.of (g.kv.map (·.1)) h.nd (fun x hx => by
    obtain ⟨y, hy, rfl⟩ := List.mem_map.1 hx
    exact h.lt y hy)
  rw [List.length_map] at hle
  by_cases hlt : g.kv.length < g.of
  · rw [decide_eq_true hlt]
    -- some place is no key
    rw [List.any_eq_true]
    have : ∃ j, j < g.of ∧ lookR g.kv j = none := by
      refine Classical.byContradiction fun hc => ?_
      have hall : ∀ j, j < g.of → j ∈ g.kv.map (·.1) := fun j hj => by
        refine Classical.byContradiction fun hn => hc ⟨j, hj, (lookR_none _ _).2 hn⟩
      have h1 : (List.range g.of).length ≤ (g.kv.map (·.1)).length := List.Nodup.length_le_of_subset List.nodup_range (fun j hj => hall j (List.mem_range.1 hj))
      rw [List.length_range, List.length_map] at h1
      omega
    obtain ⟨j, hj, hn⟩ := this
    refine ⟨none, List.mem_of_getElem? (i := j) ?_, rfl⟩
    rw [pieces_get g j hj, hn]
    rfl
  · rw [decide_eq_false hlt]
    have heq : g.kv.length = g.of := by omega
    rw [List.any_eq_false]
    intro q hq
    obtain ⟨j, hj⟩ := List.mem_iff_getElem?.1 hq
    have hjo : j < g.of := by
      rcases Nat.lt_or_ge j g.of with h1 | h1
      · exact h1
      · unfold Rm.pieces at hj
        rw [List.getElem?_eq_none (by simpa using h1)] at hj
        cases hj
    rw [pieces_get g j hjo] at hj
    cases hl : lookR g.kv j with
    | some r =>
      rw [hl] at hj
      cases hj
      simp
    | none =>
      exfalso
      have hnm := (lookR_none _ _).1 hl
      have h1 := nodup_card g.of (j :: g.kv.map (·.1)) (List.nodup_cons.2 ⟨hnm, h.nd⟩) (fun x hx => by
        rcases List.mem_cons.1 hx with rfl | hx
        · exact hjo
        · obtain ⟨y, hy, rfl⟩ := List.mem_map.1 hx
          exact h.lt y hy)
      simp only [List.length_cons, List.length_map] at h1
      omega
end Go.SX
