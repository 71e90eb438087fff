/-
  Slicing, calls, and what a body begins and ends with.
-/
import Derived.Test.YtdmpnpcpnhcioaaSxWr
namespace Go.SX
open Go

theorem sliced_add (b off k : Nat) : (⟨b, off, none⟩ : Addr).add k = ⟨b, off + k, none⟩ := by unfold Addr.add; split <;> simp_all

/-- A part of a slice. -/
theorem Sl.sliced {F : Fz} {H : List Ent} {sz n l h cap : Nat} {a : Option Addr} {cs : List Value} (hs : Sl F H sz (.slice a n cap) n cs) (h1 : l ≤ h) (h2 : h ≤ n) :
    Sl F H sz (Go.sliced a l h cap sz) (h - l) ((cs.drop (l * sz)).take ((h - l) * sz)) := by
  obtain ⟨a', cap', he, hl, hc, hn, hcell⟩ := hs
  simp only [Value.slice.injEq, true_and] at he
  obtain ⟨rfl, rfl⟩ := he
  have hlen : ((cs.drop (l * sz)).take ((h - l) * sz)).length = (h - l) * sz := by
    simp only [List.length_take, List.length_drop, hl, ← Nat.sub_mul]
    exact Nat.min_eq_left (Nat.mul_le_mul_right _ (by omega))
  refine ⟨_, cap - l, rfl, hlen, by omega, fun hnone => ?_, fun i c hi => ?_⟩
  · split at hnone
    · omega
    · have := hn (by simpa using hnone); omega
  · have hil : i < (h - l) * sz := by
      rw [← hlen]
      rcases Nat.lt_or_ge i ((cs.drop (l * sz)).take ((h - l) * sz)).length with h | h
      · exact h
      · simp [List.getElem?_eq_none h] at hi
    have hic : cs[l * sz + i]? = some c := by
      rw [List.getElem?_take] at hi
      simpa [hil] using hi
    obtain ⟨b, off, rfl, hcc⟩ := hcell _ c hic
    have hne : ¬ cap = l := by
      intro hcl
      have : h - l = 0 := by omega
      rw [this] at hil
      simp at hil
    rw [if_neg hne]
    exact ⟨b, off + l * sz, by rw [Option.map_some, sliced_add], by rw [Nat.add_assoc]; exact hcc⟩

section
variable {C : Cx} {τ : Env} {F : Fz} {H : List Ent} {dst : Option Nat} {ty t u : TypeId} {pos : String} {aft : Array Edge} {g : Option (Nat × Bool)} {x y z : Operand}

theorem isSlice_elem {P : Program} {t : TypeId} {sz : Nat} (ht : isSliceB P t = true) (hs : elemSize P t = some sz) : P.underlying t = some (.slice (P.elem t)) ∧ ∀ w, (sizeOf (P.elem t)).run P w = .ok sz w := by
  unfold isSliceB at ht
  unfold elemSize at hs
  cases hu : P.underlying t with
  | none => simp [hu] at ht
  | some d =>
    cases d <;> simp [hu] at ht
    rename_i e
    simp only [hu] at hs
    have he : P.elem t = e := by simp [Program.elem, hu]
    obtain ⟨i0, hi0, hsz⟩ := Option.map_eq_some_iff.1 hs
    rw [he]
    exact ⟨rfl, fun w => by simp [sizeOf, typeInfo, hi0, hsz]⟩

theorem v_slice2 {a0 : Option Addr} {n cap sz l h : Nat} {kl kh : IntKind} {li hi : Int} (ht : isSliceB C.P t = true) (hs : elemSize C.P t = some sz) (hx : ev τ x = some (.slice a0 n cap)) (hy : ev τ y = some (.int kl li)) (hz : ev τ z = some (.int kh hi))
    (hli : li = l) (hhi : hi = h) (h1 : l ≤ h) (h2 : h ≤ cap) : Val C ⟨dst, .slice t x (some y) (some z) none, ty, pos, aft, g⟩ τ F H (Go.sliced a0 l h cap sz) := fun a w ha hw => by
  subst hli hhi
  obtain ⟨h3, h4⟩ := isSlice_elem ht hs
  simp [execOp, ha.eval hx, ha.eval hy, ha.eval hz, run_sliceAt_slice w t _ _ _ _ h3, run_slice_lh w t a0 n cap h3 kl kh l h (by omega) (by omega) (by omega), h4]
theorem v_sliceL {a0 : Option Addr} {n cap sz l : Nat} {kl : IntKind} {li : Int} (ht : isSliceB C.P t = true) (hs : elemSize C.P t = some sz) (hx : ev τ x = some (.slice a0 n cap)) (hy : ev τ y = some (.int kl li))
    (hli : li = l) (h1 : l ≤ n) : Val C ⟨dst, .slice t x (some y) none none, ty, pos, aft, g⟩ τ F H (Go.sliced a0 l n cap sz) := fun a w ha hw => by
  subst hli
  obtain ⟨h3, h4⟩ := isSlice_elem ht hs
  simp [execOp, ha.eval hx, ha.eval hy, run_sliceAt_slice w t _ _ _ _ h3, run_slice_l w t a0 n cap h3 kl l (by omega) (by omega), h4]
theorem v_sliceH {a0 : Option Addr} {n cap sz h : Nat} {kh : IntKind} {hi : Int} (ht : isSliceB C.P t = true) (hs : elemSize C.P t = some sz) (hx : ev τ x = some (.slice a0 n cap)) (hz : ev τ z = some (.int kh hi))
    (hhi : hi = h) (h2 : h ≤ cap) : Val C ⟨dst, .slice t x none (some z) none, ty, pos, aft, g⟩ τ F H (Go.sliced a0 0 h cap sz) := fun a w ha hw => by
  subst hhi
  obtain ⟨h3, h4⟩ := isSlice_elem ht hs
  simp [execOp, ha.eval hx, ha.eval hz, run_sliceAt_slice w t _ _ _ _ h3, run_slice_h w t a0 n cap h3 kh h (by omega) (by omega), h4]
theorem v_sliceHM {a0 : Option Addr} {n cap sz h m : Nat} {kh km : IntKind} {hi mi : Int} {q : Operand} (ht : isSliceB C.P t = true) (hs : elemSize C.P t = some sz) (hx : ev τ x = some (.slice a0 n cap)) (hz : ev τ z = some (.int kh hi)) (hq : ev τ q = some (.int km mi))
    (hhi : hi = h) (hmi : mi = m) (h1 : h ≤ m) (h2 : m ≤ cap) : Val C ⟨dst, .slice t x none (some z) (some q), ty, pos, aft, g⟩ τ F H (Go.sliced a0 0 h m sz) := fun a w ha hw => by
  subst hhi hmi
  obtain ⟨h3, h4⟩ := isSlice_elem ht hs
  simp [execOp, ha.eval hx, ha.eval hz, ha.eval hq, run_sliceAt_slice w t _ _ _ _ h3, run_slice_hm w t a0 n cap h3 kh km h m (by omega) (by omega) (by omega), h4]

/-- A literal's bytes, said to be another type's: the block is frozen. -/
theorem a_same (j : Nat) {e : TypeId} {b len cap n : Nat} {cs : List Value} (hj : H[j]? = some (.mem b cs n)) (ht : C.P.underlying t = some (.slice e)) (he : C.P.underlying e = some (.int .u8)) (hx : ev τ x = some (.slice (some ⟨b, 0, none⟩) len cap)) :
    ActF C ⟨dst, .convert t t x, ty, pos, aft, g⟩ τ F H (fun r F' H' => r = .slice (some ⟨b, 0, none⟩) len cap ∧ (∃ (all : Array Value) (el : TypeId) (fz : Nat × Nat), F' b = some (.cells all el fz) ∧ ∀ (i : Nat) (c : Value), cs[i]? = some c → all[i]? = some c) ∧ H' = H.eraseIdx j) := by
  intro a w ha hw
  obtain ⟨F', rest, el, hle, hF', hn, hother, hst⟩ := hw.freeze hj
  have hb := hst.frz _ _ hF'
  have hlt : b < w.heap.size := (Array.getElem?_eq_some_iff.1 hb).1
  have hap : F b = none := by
    have := hw.ap _ (List.mem_of_getElem? hj)
    exact this
  have hmod : ∀ k, (w.heap.modify b fun
      | .cells c elem (lo, hi) => .cells c elem (if lo == hi then (n, n + 1) else (min lo n, max hi (n + 1)))
      | o => o)[k]? = if k = b then some (.cells (cs ++ rest).toArray el (n, n + 1)) else w.heap[k]? := fun k => by
    rw [Array.getElem?_modify]
    by_cases hk : k = b
    · subst hk; simp [hb]
    · have : ¬ b = k := fun e => hk e.symm
      simp [hk, this]
  refine ⟨.slice (some ⟨b, 0, none⟩) len cap, fun k => if k = b then some (.cells (cs ++ rest).toArray el (n, n + 1)) else F k, H.eraseIdx j, w.freeze ⟨b, n, none⟩ 1, ?_, ⟨rfl, ⟨(cs ++ rest).toArray, el, (n, n + 1), by simp, fun i c hc => ?_⟩, rfl⟩, fun k o hk => ?_, ?_⟩
  · have hshape : w.shape? b = some (el, n) := by
      simp only [World.shape?, hb, Option.some.injEq, Prod.mk.injEq, true_and]
      simpa using hn
    simp only [execOp, ha.eval hx]
    simp [convert, markStringish, shape, freeze, Sem.run, bind, Sem.bind, pure, hshape, underlying, program, ht, he]
  · have hil : i < cs.length := by
      rcases Nat.lt_or_ge i cs.length with h | h
      · exact h
      · simp [List.getElem?_eq_none h] at hc
    simp only [List.getElem?_toArray]
    rw [List.getElem?_append_left hil]
    exact hc
  · by_cases hkb : k = b
    · subst hkb; rw [hap] at hk; cases hk
    · simp [hkb, hk]
  · have hfr : (w.freeze ⟨b, n, none⟩ 1).heap = w.heap.modify b fun
        | .cells c elem (lo, hi) => .cells c elem (if lo == hi then (n, n + 1) else (min lo n, max hi (n + 1)))
        | o => o := by
      unfold World.freeze
      rw [if_neg (by decide)]
      congr 1
    have hne : ∀ y ∈ H.eraseIdx j, y.b ≠ b := fun y hy hyb => by
      have := hst.ap y hy
      rw [hyb, hF'] at this
      cases this
    refine ⟨by simpa [World.freeze] using hst.os, by simpa [World.freeze] using hst.tape, by simpa [World.freeze] using hst.output, fun k o hk => ?_, fun y hy => ?_, hst.nd, fun y hy => ?_⟩
    · rw [hfr, hmod]
      by_cases hkb : k = b
      · simp only [hkb, if_true] at hk ⊢
        exact hk
      · simp only [hkb, if_false] at hk ⊢
        exact hw.frz k o hk
    · refine Ent.holds_of (hst.own y hy) ?_
      rw [hfr, hmod, if_neg (hne y hy)]
    · simp only [hne y hy, if_false]
      have := hst.ap y hy
      rw [hother _ (hne y hy)] at this
      exact this

/-! ### Calls -/

def evs (τ : Env) : List Operand → Option (List Value)
  | [] => some []
  | x :: r => match ev τ x, evs τ r with
    | some v, some vs => some (v :: vs)
    | _, _ => none

theorem evs_eval {n : Nat} {a : Act} (ha : EnvOk n τ a) : ∀ {xs : List Operand} {vs : List Value}, evs τ xs = some vs → xs.map a.eval = vs
  | [], vs, h => by simp [evs] at h; subst h; rfl
  | x :: r, vs, h => by
    simp only [evs] at h
    split at h
    · rename_i v vs' hv hvs
      simp only [Option.some.injEq] at h
      subst h
      simp [ha.eval hv, evs_eval ha hvs]
    · cases h

theorem evs_length : ∀ {xs : List Operand} {vs : List Value}, evs τ xs = some vs → vs.length = xs.length
  | [], vs, h => by simp [evs] at h; subst h; rfl
  | x :: r, vs, h => by
    simp only [evs] at h
    split at h
    · rename_i v vs' hv hvs
      simp only [Option.some.injEq] at h
      subst h
      simp [evs_length hvs]
    · cases h

/-- A slice literal, every place written. -/
theorem a_buildS {len sz : Nat} {parts : Array (Nat × Operand)} (xs : List Operand) {vs cs : List Value} (hp : parts.toList = (xs.zipIdx 0).map fun x => (x.2, x.1)) (hlen : xs.length = len) (hv : evs τ xs = some vs)
    (hsl : isSliceB C.P t = true) (hsz : elemSize C.P t = some sz) (hzs : ((C.P.info? (C.P.elem t)).bind (·.zero)).isSome = true) (hpos : Nat.blt 0 (len * sz) = true) (hsmall : Nat.ble (len * sz) 16777216 = true)
    (hc : vs.all (fun v => v.cells.size == sz) = true) (hcs : (vs.flatMap fun v => v.cells.toList) = cs) :
    Act1 C ⟨dst, .buildSlice t len parts, ty, pos, aft, g⟩ τ F H (fun r H' => ∃ b, r = .slice (some ⟨b, 0, none⟩) len len ∧ H' = .mem b cs (len * sz) :: H) := by
  intro a w ha hw
  obtain ⟨hu, _⟩ := isSlice_elem hsl hsz
  have hie : ∃ i, C.P.info? (C.P.elem t) = some i ∧ i.size = sz := by
    unfold elemSize at hsz
    rw [hu] at hsz
    exact Option.map_eq_some_iff.1 hsz
  obtain ⟨i, hi, hisz⟩ := hie
  rw [hi] at hzs
  obtain ⟨z, hz⟩ := Option.isSome_iff_exists.1 hzs
  simp only [Option.bind_some] at hz
  have hpos' := Nat.le_of_ble_eq_true hpos
  have hsmall' := Nat.le_of_ble_eq_true hsmall
  have hvl := evs_length hv
  have hparts : (parts.map fun (j, x) => (j, a.eval x)).toList = (vs.zipIdx 0).map fun x => (x.2, x.1) := by
    rw [← evs_eval ha hv, Array.toList_map, hp, List.map_map, List.zipIdx_map, List.map_map]
    rfl
  have hcv : ∀ v ∈ vs, v.cells.size = sz := fun v hm => by simpa using List.all_eq_true.1 hc v hm
  have hfill := Great.fill_whole (s := sz) (Nat.pos_of_ne_zero (by rintro rfl; simp at hpos')) vs ((Array.range (len * sz)).map (z.cells[· % z.cells.size]!)) hcv (by simp; rw [hvl, hlen])
  have hrun := run_buildSlice (P := C.P) w t (C.P.elem t) len (parts.map fun (j, x) => (j, a.eval x)) _ i z hu hi hz (by rw [hisz]; omega) (by rw [hisz]; omega) (by rw [hparts, hisz]; exact hfill)
  refine ⟨.slice (some ⟨w.heap.size, 0, none⟩) len len, .mem w.heap.size cs (len * sz) :: H, w.alloc (.cells cs.toArray (C.P.elem t)), ?_, ⟨_, rfl, rfl⟩, hw.new (o := .cells cs.toArray (C.P.elem t)) rfl rfl rfl rfl rfl ?_⟩
  · rw [hcs] at hrun
    simp only [execOp, Sem.run_bind, hrun]; rfl
  · refine ⟨[], C.P.elem t, by rw [heap_alloc_new]; simp, ?_⟩
    have : ∀ l : List Value, (∀ v ∈ l, v.cells.size = sz) → (l.flatMap fun v => v.cells.toList).length = l.length * sz := fun l => by
      induction l with
      | nil => intro _; simp
      | cons v r ih =>
        intro hl
        simp only [List.flatMap_cons, List.length_append, Array.length_toList, List.length_cons]
        rw [ih (fun u hu => hl u (List.mem_cons_of_mem _ hu)), hl v List.mem_cons_self, Nat.add_mul, Nat.one_mul, Nat.add_comm]
    rw [List.append_nil, ← hcs, this vs hcv, hvl, hlen]

def callableB (P : Program) (g : FuncId) : Bool :=
  match P.funcs[g]? with
  | some fn => !(fn.name == "runtime.NumGoroutine") && fn.body.isSome
  | none => false

theorem callFunc_run {P : Program} {g : FuncId} (h : callableB P g = true) (args : Array Value) (w : World) : (callFunc g args).run P w = .ok (.enter g args) w := by
  unfold callableB at h
  cases hf : P.funcs[g]? with
  | none => simp [hf] at h
  | some fn =>
    simp only [hf, Bool.and_eq_true, Bool.not_eq_true'] at h
    have hn : ¬ fn.name = "runtime.NumGoroutine" := by
      have := h.1
      simpa using this
    have hb : ¬ fn.body = none := by
      intro hb; simp [hb] at h
    simp [callFunc, program, Sem.run, hf, hn, hb]

theorem c_call {f : FuncId} {args : List Operand} {ats : Array TypeId} {vs : List Value} (hf : callableB C.P f = true) (ha : evs τ args = some vs) :
    Calling C ⟨dst, .call { callee := .value (.func f), args := args.toArray, argTypes := ats }, ty, pos, aft, g⟩ τ f vs.toArray := fun a w henv => by
  have hargs := evs_eval henv ha
  have : (args.toArray.map a.eval) = vs.toArray := by rw [← hargs]; simp
  simp only [execOp, resolve, Sem.run_bind, this, Act.eval, Deferred.ofValue]
  simp [invoke, callFunc_run hf]

/-- A call of what a slot holds. -/
theorem c_callv {f : FuncId} {args : List Operand} {ats : Array TypeId} {vs : List Value} {first cap : Array Value} (hx : ev τ x = some (.func (.func f) first cap)) (hf : callableB C.P f = true) (ha : evs τ args = some vs) :
    Calling C ⟨dst, .call { callee := .value x, args := args.toArray, argTypes := ats }, ty, pos, aft, g⟩ τ f (first ++ vs.toArray ++ cap) := fun a w henv => by
  have hargs := evs_eval henv ha
  have : (args.toArray.map a.eval) = vs.toArray := by rw [← hargs]; simp
  simp only [execOp, resolve, Sem.run_bind, this, henv.eval hx, Deferred.ofValue]
  simp [invoke, callFunc_run hf]
end
end Go.SX
