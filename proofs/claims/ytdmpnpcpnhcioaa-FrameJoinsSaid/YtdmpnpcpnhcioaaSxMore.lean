/-
  More of the calculus: slices against nil, strings one behind the other, less of a block known.
-/
import Derived.Test.YtdmpnpcpnhcioaaSxCall
import Derived.Laws.Cover3
import Derived.Laws.Concat
namespace Go.SX
open Go

def ptrV (a : Nat) : Value := .pointer (some ⟨a, 0, none⟩)
def nilP : Value := .pointer none
def noneV : Value := .tuple #[]
theorem bytes_one (l : List UInt8) : (bytesV l).all oneCellB = true := by simp [bytesV, byteV, oneCellB]
theorem perm_pre {α : Type} (x : α) (l m : List α) : ([x] ++ (l ++ m)).Perm (l ++ x :: m) := by
  rw [List.singleton_append]
  exact List.perm_middle.symm

section
variable {C : Cx} {τ : Env} {F : Fz} {H : List Ent} {dst : Option Nat} {ty t u : TypeId} {pos : String} {aft : Array Edge} {g : Option (Nat × Bool)} {x y z : Operand}

theorem v_slnil {e : TypeId} {a : Option Addr} {l c : Nat} (ht : C.P.underlying t = some (.slice e)) (hx : ev τ x = some (.slice a l c)) (hy : ev τ y = some (.slice none 0 0)) : Val C ⟨dst, .binOp .eql t x y u, ty, pos, aft, g⟩ τ F H (.bool a.isNone) :=
  v_bin hx hy rfl fun w _ => by
    have := run_equal_slice_nil (P := C.P) w t e a l c ht
    simp [binOp, this]
theorem v_slnnil {e : TypeId} {a : Option Addr} {l c : Nat} (ht : C.P.underlying t = some (.slice e)) (hx : ev τ x = some (.slice a l c)) (hy : ev τ y = some (.slice none 0 0)) : Val C ⟨dst, .binOp .neq t x y u, ty, pos, aft, g⟩ τ F H (.bool (!a.isNone)) :=
  v_bin hx hy rfl fun w _ => by
    have := run_equal_slice_nil (P := C.P) w t e a l c ht
    simp [binOp, this]

theorem v_sadd {l m : List UInt8} (hx : ev τ x = some (strV l)) (hy : ev τ y = some (strV m)) (hl : l.length + m.length ≤ 140737488355328) : Val C ⟨dst, .binOp .add t x y u, ty, pos, aft, g⟩ τ F H (strV (l ++ m)) :=
  v_bin hx hy rfl fun w _ => by
    have h2 := run_string_add_sum (P := C.P) (w := w) ⟨l.toArray⟩ ⟨m.toArray⟩ (by
      show l.toArray.size + m.toArray.size ≤ _
      simp; omega)
    have h3 : (ByteArray.mk l.toArray) ++ (ByteArray.mk m.toArray) = ByteArray.mk (l ++ m).toArray := by
      apply ByteArray.ext
      rw [ByteArray.data_append]
      simp
    rw [h3] at h2
    simp only [strV, binOp_string_add]
    exact h2

/-- A literal of no elements. -/
theorem a_buildS0 {sz : Nat} (hsl : isSliceB C.P t = true) (hsz : elemSize C.P t = some sz) :
    Act1 C ⟨dst, .buildSlice t 0 #[], ty, pos, aft, g⟩ τ F H (fun r H' => ∃ b, r = .slice (some ⟨b, 0, none⟩) 0 0 ∧ H' = .mem b [] 0 :: H) := by
  intro a w ha hw
  obtain ⟨hu, hs⟩ := isSlice_elem hsl hsz
  refine ⟨.slice (some ⟨w.heap.size, 0, none⟩) 0 0, .mem w.heap.size [] 0 :: H, w.alloc (.cells #[] (C.P.elem t)), ?_, ⟨_, rfl, rfl⟩, hw.new (o := .cells #[] (C.P.elem t)) rfl rfl rfl rfl rfl ?_⟩
  · have hrun : (Instr.buildSlice t 0 #[]).run C.P w = .ok (.slice (some ⟨w.heap.size, 0, none⟩) 0 0) (w.alloc (.cells #[] (C.P.elem t))) := by
      have h0 : Array.range 0 = #[] := by decide
      simp [Instr.buildSlice, run_underlying hu, hs w, Instr.fill, newRow, h0]
    simp only [execOp, Array.map_empty, Sem.run_bind, hrun]; rfl
  · exact ⟨[], C.P.elem t, by rw [heap_alloc_new]; simp, by simp⟩

/-- Less of a block is known. -/
theorem j_cut {X : Act → World → Prop} (j k : Nat) {b n : Nat} {cs : List Value} (hj : H[j]? = some (.mem b cs n)) (h : Jd C τ F (H.set j (.mem b (cs.take k) n)) X) : Jd C τ F H X := by
  intro a w ha hw
  refine h a w ha (hw.set hj rfl rfl rfl (fun _ _ => rfl) ?_)
  obtain ⟨rest, e, hb, hlen⟩ := hw.own _ (List.mem_of_getElem? hj)
  exact ⟨cs.drop k ++ rest, e, by rw [← List.append_assoc, List.take_append_drop]; exact hb, by rw [← List.append_assoc, List.take_append_drop]; exact hlen⟩

theorem Bf.cut (bf : Bf) (h sz : Nat) : Go.sliced bf.addr 0 h bf.cp sz = bf.val h := by
  cases bf with
  | nil => simp [Go.sliced, Bf.addr, Bf.cp]
  | «at» b cap =>
    simp only [Go.sliced, Bf.addr, Bf.cp, Nat.zero_mul, Nat.sub_zero]
    congr 1
    split
    · rfl
    · simp [Addr.add, Bf.addr]
/-! ### Structs that come back -/

theorem loadVar_agg {P : Program} {F : Fz} {H : List Ent} {w : World} {b off sz : Nat} {cs : List Value} (hw : Held F H w) (ht : isAggB P t = some true) (hs : (P.info? t).map (·.size) = some sz) (hl : cs.length = sz) (hc : ∀ i c, cs[i]? = some c → Cell F H b (off + i) c) :
    (loadVar t ⟨b, off, none⟩).run P w = .ok (.agg cs.toArray) w := by
  obtain ⟨i0, hi0, hsz⟩ := Option.map_eq_some_iff.1 hs
  have hcells := run_loadCells_list (P := P) w ⟨b, off, none⟩ cs (fun j v hj => by
    have := hc j v hj w hw
    by_cases hi : j = 0
    · subst hi; simpa [Addr.add] using this
    · simp only [Addr.add, if_neg hi]; exact this)
  rw [hl] at hcells
  simp [loadVar, isAgg_run ht, sizeOf, typeInfo, hi0, hsz, hcells]
theorem r_retC {k : List Item} {t0 b off sz : Nat} {cs : List Value} (hf : C.P.funcs[C.f]? = some C.fn) (hr : C.fn.results = #[.cell t0 t]) (h0 : τ.get? t0 = some (.pointer (some ⟨b, off, none⟩)))
    (ht : isAggB C.P t = some true) (hs : (C.P.info? t).map (·.size) = some sz) (hl : cs.length = sz) (hc : ∀ i c, cs[i]? = some c → Cell F H b (off + i) c) {H' : List Ent} (hd : H'.Sublist H) (hR : C.R (.agg cs.toArray) F H') : Run C (.code .ret :: k) τ F H := fun a w ha hw =>
  (Fin.ret (k := k) hf ha.defers (by
    have g0 : a.tmps[t0]?.getD undef = .pointer (some ⟨b, off, none⟩) := by simpa using (ha.get t0 _ h0).2
    have h1 := loadVar_agg hw.held ht hs hl hc
    simp [results, hr, g0, asAddr, h1]) (hw.drop hd) hR).1
theorem r_retC1 {k : List Item} {t0 t1 b off sz : Nat} {cs : List Value} {v1 : Value} (hf : C.P.funcs[C.f]? = some C.fn) (hr : C.fn.results = #[.cell t0 t, .tmp t1]) (h0 : τ.get? t0 = some (.pointer (some ⟨b, off, none⟩))) (h1 : τ.get? t1 = some v1)
    (ht : isAggB C.P t = some true) (hs : (C.P.info? t).map (·.size) = some sz) (hl : cs.length = sz) (hc : ∀ i c, cs[i]? = some c → Cell F H b (off + i) c) {H' : List Ent} (hd : H'.Sublist H) (hR : C.R (.tuple #[.agg cs.toArray, v1]) F H') : Run C (.code .ret :: k) τ F H := fun a w ha hw =>
  (Fin.ret (k := k) hf ha.defers (by
    have g0 : a.tmps[t0]?.getD undef = .pointer (some ⟨b, off, none⟩) := by simpa using (ha.get t0 _ h0).2
    have g1 : a.tmps[t1]?.getD undef = v1 := by simpa using (ha.get t1 _ h1).2
    have h1 := loadVar_agg hw.held ht hs hl hc
    simp [results, hr, g0, g1, asAddr, h1]) (hw.drop hd) hR).1

theorem Bf.ok_cp {bf : Bf} {n : Nat} (h : bf.ok n) : n ≤ bf.cp := by
  cases bf with
  | nil => exact Nat.le_of_eq h
  | «at» b cap => exact h
theorem Bf.ok_le {bf : Bf} {n m : Nat} (h : bf.ok n) (hm : m ≤ n) : bf.ok m := by
  cases bf with
  | nil =>
    have : n = 0 := h
    show m = 0
    omega
  | «at» b cap => exact Nat.le_trans hm h
theorem j_cutBf {X : Act → World → Prop} (Pre : List Ent) (k : Nat) {bf : Bf} {sz : Nat} {cs : List Value} {Fr : List Ent} (h : Jd C τ F (Pre ++ (bf.ents sz (cs.take k) ++ Fr)) X) : Jd C τ F (Pre ++ (bf.ents sz cs ++ Fr)) X := by
  cases bf with
  | nil => exact h
  | «at» b cap =>
    refine j_cut (b := b) (n := cap * sz) (cs := cs) Pre.length k ?_ ?_
    · rw [List.getElem?_append_right (Nat.le_refl _), Nat.sub_self]
      rfl
    · rw [List.set_append_right _ _ (Nat.le_refl _), Nat.sub_self]
      exact h
end
end Go.SX
