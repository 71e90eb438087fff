/-
  Maps of whole numbers: made, looked up, a new key laid in, their length.
-/
import Derived.Test.YtdmpnpcpnhcioaaSxPerm
import Derived.Test.YtdmpnpcpnhcioaaSxMore
import Derived.MapKept
import Derived.Carry
import Derived.WideLaws
namespace Go.SX
open Go Go.MapKept

def mapEnts : List (Int × Value) → Nat → List MapEntry
  | [], _ => []
  | x :: r, n => ⟨.int .i64 x.1, x.2, n⟩ :: mapEnts r (n + 1)
theorem mapEnts_length : ∀ (l : List (Int × Value)) (n : Nat), (mapEnts l n).length = l.length
  | [], _ => rfl
  | x :: r, n => by simp [mapEnts, mapEnts_length r]
theorem mapEnts_append : ∀ (l : List (Int × Value)) (x : Int × Value) (n : Nat), mapEnts (l ++ [x]) n = mapEnts l n ++ [⟨.int .i64 x.1, x.2, n + l.length⟩]
  | [], x, n => by simp [mapEnts]
  | y :: r, x, n => by
    rw [List.cons_append, mapEnts, mapEnts_append r x (n + 1), mapEnts]
    simp
    omega
def mapObj (l : List (Int × Value)) : Obj := .map (mapEnts l 0).toArray l.length
def lookKV : List (Int × Value) → Int → Option Value
  | [], _ => none
  | x :: r, k => if x.1 = k then some x.2 else lookKV r k
theorem findNow_lookKV (k : Int) : ∀ (l : List (Int × Value)) (n i : Nat), ∃ a, Instr.findNow (.int .i64) (.int .i64 k) (mapEnts l n) i = some a ∧ a.map (·.2) = lookKV l k
  | [], n, i => ⟨none, rfl, rfl⟩
  | x :: r, n, i => by
    obtain ⟨q, hq, hiff⟩ := sameNow_of_keys (d := .int .i64) (a := .int .i64 k) (b := .int .i64 x.1) rfl rfl
    cases q with
    | true =>
      have : k = x.1 := by have := hiff.1 rfl; cases this; rfl
      exact ⟨some (i, x.2), by simp [mapEnts, Instr.findNow, hq], by simp [lookKV, this]⟩
    | false =>
      have hne : ¬ x.1 = k := fun h => by have := hiff.2 (by rw [h]); cases this
      obtain ⟨a, h1, h2⟩ := findNow_lookKV k r (n + 1) (i + 1)
      exact ⟨a, by simp [mapEnts, Instr.findNow, hq, h1], by simp [lookKV, hne, h2]⟩

theorem St.setObj {O : World} {F : Fz} {H : List Ent} {w : World} (h : St O F H w) {j b : Nat} {o o' : Obj} (hj : H[j]? = some (.obj b o)) {w' : World}
    (hos : w'.os = w.os) (htape : w'.tape = w.tape) (hout : w'.output = w.output) (hot : ∀ k, k ≠ b → w'.heap[k]? = w.heap[k]?) (hh : (Ent.obj b o').holds w') : St O F (H.set j (.obj b o')) w' := by
  have hm : Ent.obj b o ∈ H := List.mem_of_getElem? hj
  have hjl : j < H.length := by
    rcases Nat.lt_or_ge j H.length with h | h
    · exact h
    · simp [List.getElem?_eq_none h] at hj
  have hmap : (H.set j (.obj b o')).map Ent.b = H.map Ent.b := by
    apply List.ext_getElem?
    intro i
    simp only [List.getElem?_map, List.getElem?_set]
    by_cases hi : j = i
    · subst hi; rw [hj]; simp [hjl, Ent.b]
    · simp [hi]
  have hmem : ∀ e ∈ H.set j (.obj b o'), e = .obj b o' ∨ (e ∈ H ∧ e.b ≠ b) := by
    intro e he
    obtain ⟨i, hi⟩ := List.mem_iff_getElem?.1 he
    rw [List.getElem?_set] at hi
    by_cases hij : j = i
    · subst hij; simp [hjl] at hi; exact .inl hi.symm
    · simp only [hij, if_false] at hi
      refine .inr ⟨List.mem_of_getElem? hi, fun hb => ?_⟩
      have h1 : (H.map Ent.b)[i]? = some b := by simp [hi, hb]
      have h2 : (H.map Ent.b)[j]? = some b := by simp [hj, Ent.b]
      exact hij (nodup_inj h.nd h2 h1)
  refine ⟨hos.trans h.os, htape.trans h.tape, hout.trans h.output, fun k o hk => ?_, fun e he => ?_, by rw [hmap]; exact h.nd, fun e he => ?_⟩
  · have hne : k ≠ b := by
      rintro rfl
      have := h.ap _ hm
      simp only [Ent.b] at this
      rw [this] at hk; cases hk
    rw [hot k hne]; exact h.frz k o hk
  · rcases hmem e he with rfl | ⟨h1, h2⟩
    · exact hh
    · exact Ent.holds_of (h.own e h1) (hot _ h2)
  · rcases hmem e he with rfl | ⟨h1, _⟩
    · have := h.ap _ hm
      exact this
    · exact h.ap e h1

section
variable {C : Cx} {k : List Item} {τ : Env} {F : Fz} {H : List Ent} {dst : Option Nat} {ty t u kt et : TypeId} {pos : String} {aft : Array Edge} {g : Option (Nat × Bool)} {x y z : Operand}

theorem a_makeMap : Act1 C ⟨dst, .makeMap t none, ty, pos, aft, g⟩ τ F H (fun v H' => ∃ b, v = .map (some b) ∧ H' = .obj b (mapObj []) :: H) := by
  intro a w ha hw
  refine ⟨.map (some w.heap.size), _, w.alloc (.map #[] 0), ?_, ⟨_, rfl, rfl⟩, hw.new (o := .map #[] 0) rfl rfl rfl rfl rfl ⟨by rw [heap_alloc_new]; rfl, rfl⟩⟩
  simp only [execOp, Option.map_none, Sem.run_bind]
  rfl

theorem v_lookup {b : Nat} {l : List (Int × Value)} {n : Int} {i : TypeInfo} {zv : Value} (ok : Bool) (ht : C.P.underlying t = some (.map kt et)) (hk : C.P.underlying kt = some (.int .i64)) (hi : C.P.info? et = some i) (hz : i.zero = some zv)
    (hm : Ent.obj b (mapObj l) ∈ H) (hx : ev τ x = some (.map (some b))) (hy : ev τ y = some (.int .i64 n)) :
    Val C ⟨dst, .lookup t x y ok, ty, pos, aft, g⟩ τ F H (if ok = true then .tuple #[(lookKV l n).getD zv, .bool (lookKV l n).isSome] else (lookKV l n).getD zv) := fun a w ha hw => by
  have hb := (hw.2 _ hm).1
  obtain ⟨r, h1, h2⟩ := findNow_lookKV n l 0 0
  have hg : (getObj b).run C.P w = .ok (.map (mapEnts l 0).toArray l.length) w := Go.MapKept.run_getObj_map hb
  have hf : (Instr.findKey kt (.int .i64 n) (mapEnts l 0).toArray.toList).run C.P w = .ok r w := Go.MapKept.run_findKey hk h1
  have hc := Go.MapKept.run_checkKey (P := C.P) (w := w) hk (k := .int .i64 n) rfl (mapEnts l 0).toArray.isEmpty 9999
  simp only [execOp, ha.eval hx, ha.eval hy, Instr.lookup, Sem.run_bind, run_underlying ht, Result.andThen_ok, hg, Sem.run_pure, hc, hf]
  cases r with
  | none =>
    have h3 : lookKV l n = none := by rw [← h2]; rfl
    cases ok <;> simp [h3, zeroValue, typeInfo, hi, hz]
  | some q =>
    have h3 : lookKV l n = some q.2 := by rw [← h2]; rfl
    cases ok <;> simp [h3]

theorem v_lenMap {b : Nat} {l : List (Int × Value)} (ht : C.P.underlying t = some (.map (C.P.mapKeyOf t) (C.P.mapElemOf t))) (hm : Ent.obj b (mapObj l) ∈ H) (hx : ev τ x = some (.map (some b))) :
    Val C ⟨dst, .call { callee := .builtin .len, args := #[x], argTypes := #[t] }, ty, pos, aft, g⟩ τ F H (.int .i64 l.length) := fun a w ha hw => by
  have hb := (hw.2 _ hm).1
  have hr := run_len_map (P := C.P) w t ty b _ _ ht hb
  rw [execOp_builtin_run (s := Builtin.len_ #[t] ty #[a.eval x]) (r := .ok (.int .i64 l.length) w) (fun _ => by simp [builtin]) (by rw [ha.eval hx, hr]; simp [goInt, mapEnts_length])]
  rfl

theorem a_mapNew (j : Nat) {b : Nat} {l : List (Int × Value)} {n : Int} {v : Value} (ht : C.P.underlying t = some (.map kt et)) (hk : C.P.underlying kt = some (.int .i64))
    (hj : H[j]? = some (.obj b (mapObj l))) (hx : ev τ x = some (.map (some b))) (hy : ev τ y = some (.int .i64 n)) (hv : ev τ z = some v) (hno : lookKV l n = none) :
    Act0 C ⟨none, .mapUpdate t x y z, ty, pos, aft, g⟩ τ F H (H.set j (.obj b (mapObj (l ++ [(n, v)])))) := by
  intro a w ha hw
  have hb := (hw.own _ (List.mem_of_getElem? hj)).1
  obtain ⟨r, h1, h2⟩ := findNow_lookKV n l 0 0
  obtain rfl : r = none := by
    cases r with
    | none => rfl
    | some q => rw [hno] at h2; cases h2
  have hg : (getObj b).run C.P w = .ok (.map (mapEnts l 0).toArray l.length) w := Go.MapKept.run_getObj_map hb
  have hf : (Instr.findKey kt (.int .i64 n) (mapEnts l 0).toArray.toList).run C.P w = .ok none w := Go.MapKept.run_findKey hk h1
  have hc := Go.MapKept.run_checkKey (P := C.P) (w := w) hk (k := .int .i64 n) rfl false 9999
  have hnew : mapObj (l ++ [(n, v)]) = .map ((mapEnts l 0).toArray.push ⟨.int .i64 n, v, l.length⟩) (l.length + 1) := by
    unfold mapObj
    rw [mapEnts_append]
    simp
  have hst := Go.MapKept.run_setObj_map (P := C.P) (mapObj (l ++ [(n, v)])) hb
  refine ⟨{ w with heap := w.heap.setIfInBounds b (mapObj (l ++ [(n, v)])) }, ?_, hw.setObj hj rfl rfl rfl (fun k hk => (Go.MapKept.heap_set hb).2 k hk) ⟨(Go.MapKept.heap_set hb).1, rfl⟩⟩
  simp only [execOp, ha.eval hx, ha.eval hy, ha.eval hv, Instr.mapUpdate, Sem.run_bind, run_underlying ht, Result.andThen_ok, hg, hc, hf, ← hnew, hst]
  rfl
end
end Go.SX
