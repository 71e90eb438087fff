/-
  The operations that turn memory: stores, new blocks, append.
-/
import Derived.Test.YtdmpnpcpnhcioaaSxMem
namespace Go.SX
open Go

/-! ### A world's blocks -/

theorem nodup_inj {α : Type} : ∀ {l : List α} {i j : Nat} {a : α}, l.Nodup → l[i]? = some a → l[j]? = some a → i = j
  | [], i, j, a, _, h, _ => by simp at h
  | x :: l, 0, 0, a, _, _, _ => rfl
  | x :: l, 0, j + 1, a, hn, h, h' => by
    simp at h h'
    subst h
    exact absurd (List.mem_of_getElem? h') (List.nodup_cons.1 hn).1
  | x :: l, i + 1, 0, a, hn, h, h' => by
    simp at h h'
    subst h'
    exact absurd (List.mem_of_getElem? h) (List.nodup_cons.1 hn).1
  | x :: l, i + 1, j + 1, a, hn, h, h' => by
    simp at h h'
    rw [nodup_inj (List.nodup_cons.1 hn).2 h h']

theorem St.block_lt {O : World} {F : Fz} {H : List Ent} {w : World} (h : St O F H w) {e : Ent} (he : e ∈ H) : e.b < w.heap.size := by
  have := h.own e he
  cases e with
  | mem b cs n =>
    obtain ⟨rest, el, hb, _⟩ := this
    exact (Array.getElem?_eq_some_iff.1 hb).1
  | obj b o => exact (Array.getElem?_eq_some_iff.1 this.1).1

theorem Ent.holds_of {w w' : World} {e : Ent} (h : e.holds w) (hb : w'.heap[e.b]? = w.heap[e.b]?) : e.holds w' := by
  cases e with
  | mem b cs n =>
    obtain ⟨rest, el, h1, h2⟩ := h
    exact ⟨rest, el, by rw [← h1]; exact hb, h2⟩
  | obj b o => exact ⟨by rw [← h.1]; exact hb, h.2⟩

/-- Block number j of the list gets other cells. -/
theorem St.set {O : World} {F : Fz} {H : List Ent} {w : World} (h : St O F H w) {j b n : Nat} {cs cs' : List Value} (hj : H[j]? = some (.mem b cs n)) {w' : World}
    (hos : w'.os = w.os) (htape : w'.tape = w.tape) (hout : w'.output = w.output) (hot : ∀ k, k ≠ b → w'.heap[k]? = w.heap[k]?) (hh : (Ent.mem b cs' n).holds w') : St O F (H.set j (.mem b cs' n)) w' := by
  have hm : Ent.mem b cs n ∈ H := List.mem_of_getElem? hj
  have hjl : j < H.length := by
    rcases Nat.lt_or_ge j H.length with h | h
    · exact h
    · simp [List.getElem?_eq_none h] at hj
  have hmap : (H.set j (.mem b cs' n)).map Ent.b = H.map Ent.b := by
    apply List.ext_getElem?
    intro i
    simp only [List.getElem?_map, List.getElem?_set]
    by_cases hi : j = i
    · subst hi; rw [hj]; simp [hjl, Ent.b]
    · simp [hi]
  have hmem : ∀ e ∈ H.set j (.mem b cs' n), e = .mem b cs' n ∨ (e ∈ H ∧ e.b ≠ b) := by
    intro e he
    obtain ⟨i, hi⟩ := List.mem_iff_getElem?.1 he
    rw [List.getElem?_set] at hi
    by_cases hij : j = i
    · subst hij; simp [hjl] at hi; exact .inl hi.symm
    · simp only [hij, if_false] at hi
      refine .inr ⟨List.mem_of_getElem? hi, fun hb => ?_⟩
      have h1 : (H.map Ent.b)[i]? = some b := by simp [hi, hb]
      have h2 : (H.map Ent.b)[j]? = some b := by simp [hj, Ent.b]
      exact hij (nodup_inj h.nd h2 h1)
  refine ⟨hos.trans h.os, htape.trans h.tape, hout.trans h.output, fun k o hk => ?_, fun e he => ?_, by rw [hmap]; exact h.nd, fun e he => ?_⟩
  · have hne : k ≠ b := by
      rintro rfl
      have := h.ap _ hm
      simp only [Ent.b] at this
      rw [this] at hk; cases hk
    rw [hot k hne]; exact h.frz k o hk
  · rcases hmem e he with rfl | ⟨h1, h2⟩
    · exact hh
    · exact Ent.holds_of (h.own e h1) (hot _ h2)
  · rcases hmem e he with rfl | ⟨h1, _⟩
    · have := h.ap _ hm
      exact this
    · exact h.ap e h1

/-- A new block. -/
theorem St.new {O : World} {F : Fz} {H : List Ent} {w : World} (h : St O F H w) {e : Ent} {o : Obj} {w' : World} (hw : w'.heap = w.heap.push o) (hos : w'.os = w.os) (htape : w'.tape = w.tape) (hout : w'.output = w.output)
    (hb : e.b = w.heap.size) (hh : e.holds w') : St O F (e :: H) w' := by
  have hot : ∀ k, k < w.heap.size → w'.heap[k]? = w.heap[k]? := fun k hk => by rw [hw, Array.getElem?_push]; simp [Nat.ne_of_lt hk]
  refine ⟨hos.trans h.os, htape.trans h.tape, hout.trans h.output, fun k o' hk => ?_, fun x hx => ?_, ?_, fun x hx => ?_⟩
  · have := h.frz k o' hk
    rw [hot k (Array.getElem?_eq_some_iff.1 this).1]; exact this
  · rcases List.mem_cons.1 hx with rfl | hx
    · exact hh
    · exact Ent.holds_of (h.own x hx) (hot _ (h.block_lt hx))
  · simp only [List.map_cons, List.nodup_cons]
    refine ⟨fun hm => ?_, h.nd⟩
    obtain ⟨x, hx, hxb⟩ := List.mem_map.1 hm
    have := h.block_lt hx
    omega
  · rcases List.mem_cons.1 hx with rfl | hx
    · cases hF : F x.b with
      | none => rfl
      | some o' =>
        have := (Array.getElem?_eq_some_iff.1 (h.frz _ _ hF)).1
        omega
    · exact h.ap x hx

/-- A block is frozen. -/
theorem St.freeze {O : World} {F : Fz} {H : List Ent} {w : World} {j b n : Nat} {cs : List Value} (hj : H[j]? = some (.mem b cs n)) (h : St O F H w) :
    ∃ F' rest e, F.le F' ∧ F' b = some (.cells (cs ++ rest).toArray e (0, 0)) ∧ (cs ++ rest).length = n ∧ (∀ k, k ≠ b → F' k = F k) ∧ St O F' (H.eraseIdx j) w := by
  have hm : Ent.mem b cs n ∈ H := List.mem_of_getElem? hj
  obtain ⟨rest, e, hb, hlen⟩ := h.own _ hm
  have hap := h.ap _ hm
  simp only [Ent.b] at hap
  have hsub : (H.eraseIdx j).Sublist H := List.eraseIdx_sublist H j
  refine ⟨fun k => if k = b then some (.cells (cs ++ rest).toArray e (0, 0)) else F k, rest, e, fun k o hk => ?_, by simp, hlen, fun k hk => by simp [hk], h.os, h.tape, h.output, fun k o hk => ?_, fun x hx => h.own x (hsub.subset hx), (hsub.map Ent.b).nodup h.nd, fun x hx => ?_⟩
  · by_cases hkb : k = b
    · subst hkb; rw [hap] at hk; cases hk
    · simp [hkb, hk]
  · by_cases hkb : k = b
    · subst hkb; simp at hk; rw [← hk]; exact hb
    · simp [hkb] at hk; exact h.frz k o hk
  · have hne : x.b ≠ b := by
      intro hxb
      obtain ⟨i, hi⟩ := List.mem_iff_getElem?.1 hx
      rw [List.getElem?_eraseIdx] at hi
      have hjl : j < H.length := by
        rcases Nat.lt_or_ge j H.length with h | h
        · exact h
        · simp [List.getElem?_eq_none h] at hj
      split at hi
      · rename_i hlt
        have h1 : (H.map Ent.b)[i]? = some b := by simp [hi, hxb]
        have h2 : (H.map Ent.b)[j]? = some b := by simp [hj, Ent.b]
        have := nodup_inj h.nd h2 h1
        omega
      · rename_i hge
        have h1 : (H.map Ent.b)[i + 1]? = some b := by simp [hi, hxb]
        have h2 : (H.map Ent.b)[j]? = some b := by simp [hj, Ent.b]
        have := nodup_inj h.nd h2 h1
        omega
    simp [hne]
    exact h.ap x (hsub.subset hx)

section
variable {C : Cx} {τ : Env} {F : Fz} {H : List Ent} {dst : Option Nat} {ty t u : TypeId} {pos : String} {aft : Array Edge} {g : Option (Nat × Bool)} {x y z : Operand}

theorem j_freeze {X : Act → World → Prop} (j : Nat) {b n : Nat} {cs : List Value} (hj : H[j]? = some (.mem b cs n))
    (h : ∀ F' rest e, F.le F' → F' b = some (.cells (cs ++ rest).toArray e (0, 0)) → (cs ++ rest).length = n → (∀ k, k ≠ b → F' k = F k) → Jd C τ F' (H.eraseIdx j) X) : Jd C τ F H X := by
  intro a w ha hw
  obtain ⟨F', rest, e, h1, h2, h3, h4, h5⟩ := hw.freeze hj
  exact h F' rest e h1 h2 h3 h4 a w ha h5

/-! ### Stores -/

/-- What one cell may hold. -/
def oneCellB : Value → Bool
  | .agg _ => false
  | .tuple _ => false
  | _ => true
theorem oneCell_eq (v : Value) : v.oneCell' = oneCellB v := by cases v <;> rfl

/-- cs with other cells from off on. -/
def putAt (cs : List Value) (off : Nat) (vs : List Value) : List Value := cs.take off ++ vs ++ cs.drop (off + vs.length)

theorem a_store (j : Nat) {b off n : Nat} {cs : List Value} {v : Value} {sz : Nat} (hj : H[j]? = some (.mem b cs n)) (hs : (C.P.info? t).map (·.size) = some sz) (hsz : v.cells.size = sz) (h1 : v.cells.toList.all oneCellB = true)
    (hx : ev τ x = some (.pointer (some ⟨b, off, none⟩))) (hy : ev τ y = some v) (hfit : off + v.cells.size ≤ cs.length) :
    Act0 C ⟨none, .store t x y, ty, pos, aft, g⟩ τ F H (H.set j (.mem b (putAt cs off v.cells.toList) n)) := by
  intro a w ha hw
  have hm : Ent.mem b cs n ∈ H := List.mem_of_getElem? hj
  obtain ⟨rest, e, hb, hlen⟩ := hw.own _ hm
  obtain ⟨i0, hi0, hsz0⟩ := Option.map_eq_some_iff.1 hs
  have hst := run_storeCells_at C.P b off e v.cells.toList 0 (cs ++ rest).toArray w hb (by simp; omega) (fun u hu => by rw [oneCell_eq]; exact List.all_eq_true.1 h1 u hu)
  simp only [Nat.add_zero] at hst
  refine ⟨w.setRow b (putAt cs off v.cells.toList ++ rest).toArray, ?_, hw.set hj rfl rfl rfl (fun k hk => setRow_other w b k _ hk) ?_⟩
  · have e1 : (cs ++ rest).toArray.toList.take off ++ v.cells.toList ++ (cs ++ rest).toArray.toList.drop (off + v.cells.toList.length) = putAt cs off v.cells.toList ++ rest := by
      simp only [putAt, List.append_assoc]
      rw [List.take_append_of_le_length (by omega), List.drop_append_of_le_length (by simp; omega)]
    rw [e1] at hst
    simp [execOp, ha.eval hx, ha.eval hy, Instr.storeAt, Instr.sureAddr, storeVar, sizeOf, typeInfo, hi0, hsz0, hsz, hst]
  · refine ⟨rest, e, setRow_heap w b _ _ e _ hb, ?_⟩
    have h2 : (putAt cs off v.cells.toList).length = cs.length := by
      simp [putAt]; omega
    simp only [List.length_append] at hlen ⊢
    rw [h2]; exact hlen

theorem cells_one {v : Value} (h : oneCellB v = true) : v.cells = #[v] := by cases v <;> first | rfl | cases h

/-- A store of one cell. -/
theorem a_store1 (j : Nat) {b off n : Nat} {cs : List Value} {v : Value} (hj : H[j]? = some (.mem b cs n)) (hs : (C.P.info? t).map (·.size) = some 1) (h1 : oneCellB v = true)
    (hx : ev τ x = some (.pointer (some ⟨b, off, none⟩))) (hy : ev τ y = some v) (hfit : off < cs.length) :
    Act0 C ⟨none, .store t x y, ty, pos, aft, g⟩ τ F H (H.set j (.mem b (cs.set off v) n)) := by
  have hc := cells_one h1
  have := a_store (C := C) (F := F) (ty := ty) (pos := pos) (aft := aft) (g := g) j hj hs (by rw [hc]; rfl) (by rw [hc]; simp [h1]) hx hy (by rw [hc]; simp; omega)
  have he : putAt cs off v.cells.toList = cs.set off v := by
    rw [hc, List.set_eq_take_append_cons_drop]
    simp [putAt, hfit]
  rw [he] at this
  exact this

/-! ### New blocks -/

def zeroCells? (P : Program) (t : TypeId) : Option (List Value) := ((P.info? t).bind (·.zero)).map fun z => z.cells.toList

theorem a_alloc {cs : List Value} (hz : zeroCells? C.P t = some cs) : Act1 C ⟨dst, .alloc t, ty, pos, aft, g⟩ τ F H (fun v H' => ∃ b, v = .pointer (some ⟨b, 0, none⟩) ∧ H' = .mem b cs cs.length :: H) := by
  intro a w ha hw
  unfold zeroCells? at hz
  obtain ⟨z, hz1, hz2⟩ := Option.map_eq_some_iff.1 hz
  obtain ⟨i, hi, hiz⟩ := Option.bind_eq_some_iff.1 hz1
  refine ⟨.pointer (some ⟨w.heap.size, 0, none⟩), .mem w.heap.size cs cs.length :: H, w.alloc (.cells z.cells t), ?_, ⟨_, rfl, rfl⟩, hw.new (o := .cells z.cells t) rfl rfl rfl rfl rfl ?_⟩
  · simp [execOp, Instr.alloc, zeroValue, typeInfo, hi, hiz, newVar, newRow]
  · refine ⟨[], t, ?_, by simp⟩
    rw [heap_alloc_new]
    simp [← hz2]

theorem a_box {v : Value} (hx : ev τ x = some v) : Act1 C ⟨dst, .box t x, ty, pos, aft, g⟩ τ F H (fun r H' => ∃ b, r = .pointer (some ⟨b, 0, none⟩) ∧ H' = .mem b v.cells.toList v.cells.toList.length :: H) := by
  intro a w ha hw
  refine ⟨.pointer (some ⟨w.heap.size, 0, none⟩), .mem w.heap.size v.cells.toList v.cells.toList.length :: H, w.alloc (.cells v.cells t), ?_, ⟨_, rfl, rfl⟩, hw.new (o := .cells v.cells t) rfl rfl rfl rfl rfl ?_⟩
  · simp [execOp, ha.eval hx, Instr.box, newVar, newRow]
  · refine ⟨[], t, ?_, by simp⟩
    rw [heap_alloc_new]
    simp

def filled (P : Program) (τ : Env) (t : TypeId) (len : Nat) (parts : Array (Nat × Operand)) : Option (List Value) :=
  match P.underlying t with
  | some (.slice e) => match P.info? e with
    | some i => match i.zero with
      | some z => if len * i.size > 2 ^ 24 ∨ len * i.size = 0 then none else
        (Instr.fill (fun j => some (j * i.size, i.size)) ((Array.range (len * i.size)).map (z.cells[· % z.cells.size]!)) (parts.map fun (j, x) => (j, evD τ x)).toList).map (·.toList)
      | none => none
    | none => none
  | _ => none

theorem a_buildSlice {len : Nat} {parts : Array (Nat × Operand)} {cs : List Value} (hp : allEv τ (parts.toList.map (·.2)) = true) (hf : filled C.P τ t len parts = some cs) :
    Act1 C ⟨dst, .buildSlice t len parts, ty, pos, aft, g⟩ τ F H (fun r H' => ∃ b, r = .slice (some ⟨b, 0, none⟩) len len ∧ H' = .mem b cs cs.length :: H) := by
  intro a w ha hw
  unfold filled at hf
  cases hu : C.P.underlying t with
  | none => simp [hu] at hf
  | some d =>
    cases d <;> try (simp [hu] at hf; done)
    rename_i e
    simp only [hu] at hf
    cases hi : C.P.info? e with
    | none => simp [hi] at hf
    | some i =>
      simp only [hi] at hf
      cases hz : i.zero with
      | none => simp [hz] at hf
      | some zv =>
        simp only [hz] at hf
        split at hf
        · cases hf
        · rename_i hne
          obtain ⟨arr, h1, h2⟩ := Option.map_eq_some_iff.1 hf
          have hparts : (parts.map fun (j, x) => (j, a.eval x)) = (parts.map fun (j, x) => (j, evD τ x)) := Array.map_congr_left fun p hm => by
            obtain ⟨j, y⟩ := p
            have := List.all_eq_true.1 hp y (List.mem_map.2 ⟨(j, y), by simpa using hm, rfl⟩)
            simp only [evD_eq ha this]
          have hrun := run_buildSlice (P := C.P) w t e len (parts.map fun (j, x) => (j, a.eval x)) arr i zv hu hi hz (fun h => hne (.inl h)) (fun h => hne (.inr h)) (by rw [hparts]; exact h1)
          refine ⟨.slice (some ⟨w.heap.size, 0, none⟩) len len, .mem w.heap.size cs cs.length :: H, w.alloc (.cells arr e), ?_, ⟨_, rfl, rfl⟩, hw.new (o := .cells arr e) rfl rfl rfl rfl rfl ?_⟩
          · simp only [execOp, Sem.run_bind, hrun]; rfl
          · refine ⟨[], e, ?_, by simp⟩
            rw [heap_alloc_new]
            simp [← h2]

/-! ### append -/

/-- A slice that a function makes longer: none yet, or one that has a block for itself. -/
inductive Bf where
  | nil
  | at (b cap : Nat)

def Bf.addr : Bf → Option Addr
  | .nil => none
  | .at b _ => some ⟨b, 0, none⟩
def Bf.cp : Bf → Nat
  | .nil => 0
  | .at _ cap => cap
abbrev Bf.val (bf : Bf) (n : Nat) : Value := .slice bf.addr n bf.cp

def Bf.ents (sz : Nat) : Bf → List Value → List Ent
  | .nil, _ => []
  | .at b cap, cs => [.mem b cs (cap * sz)]

def Bf.ok : Bf → Nat → Prop
  | .nil, n => n = 0
  | .at _ cap, n => n ≤ cap

structure AppT (P : Program) (t : TypeId) (sz bytes : Nat) : Prop where
  ex : ∃ e i z, P.underlying t = some (.slice e) ∧ P.info? e = some i ∧ i.zero = some z ∧ i.size = sz ∧ i.bytes = bytes ∧ z.cells.size = sz
  pos : 0 < sz

theorem a_append {bf : Bf} {n m sz bytes : Nat} {xs ys : List Value} {v : Value} {H1 : List Ent} (hT : AppT C.P t sz bytes) (hx : ev τ x = some (bf.val n)) (hok : bf.ok n) (hl : xs.length = n * sz)
    (hH : H = bf.ents sz xs ++ H1) (hy : ev τ y = some v) (hv : Sl F H sz v m ys) (h1 : ys.all oneCellB = true) (h63 : n + m ≤ maxLen) (hby : (n + m) * bytes ≤ 140737488355328) :
    Act1 C ⟨dst, .call { callee := .builtin .append, args := #[x, y], argTypes := #[t, t] }, ty, pos, aft, g⟩ τ F H
      (fun r H' => ∃ bf' : Bf, r = bf'.val (n + m) ∧ bf'.ok (n + m) ∧ H' = bf'.ents sz (xs ++ ys) ++ H1) := by
  intro a w ha hw
  obtain ⟨⟨e, i, z, ht, hi, hz, hsz, hbytes, hzs⟩, hpos⟩ := hT
  subst hsz hbytes
  obtain ⟨a0, cap0, rfl, _⟩ := hv.shape
  have hyl := hv.len
  obtain ⟨_, hcells⟩ := hv.cells hw.held
  have hops : ∀ (s : Value) (r : Value) (w' : World), (Builtin.append_ #[t, t] ty #[s, .slice a0 m cap0]).run C.P w = .ok r w' → a.eval x = s →
      (execOp a.eval ⟨dst, .call { callee := .builtin .append, args := #[x, y], argTypes := #[t, t] }, ty, pos, aft, g⟩).run C.P w = .ok (.value r) w' := fun s r w' hr hs => by
    rw [execOp_builtin_run (s := Builtin.append_ #[t, t] ty #[a.eval x, a.eval y]) (r := .ok r w') (fun _ => by simp [builtin]) (by rw [hs, ha.eval hy]; exact hr)]
    rfl
  have hsmall : n + m ≤ 9223372036854775807 := by simp only [maxLen] at h63; omega
  -- the new block
  have grown : ∀ (W : World), St C.O F H W → ∀ newcap, n + m ≤ newcap → W.heap.size = w.heap.size → St C.O F (Bf.ents i.size (.at w.heap.size newcap) (xs ++ ys) ++ H1)
      (W.alloc (.cells (xs.toArray ++ ys.toArray ++ Builtin.zeroCells z.cells (newcap - (n + m))) e)) := fun W hW newcap hle hs => by
    have hW1 : St C.O F H1 W := hW.drop (by rw [hH]; exact List.sublist_append_right _ _)
    refine hW1.new (o := .cells (xs.toArray ++ ys.toArray ++ Builtin.zeroCells z.cells (newcap - (n + m))) e) rfl rfl rfl rfl hs.symm ?_
    refine ⟨(Builtin.zeroCells z.cells (newcap - (n + m))).toList, e, ?_, ?_⟩
    · rw [← hs, heap_alloc_new]
      congr 2
      apply Array.ext'
      simp
    · simp only [List.length_append, Array.length_toList, size_zeroCells, hzs, hl, hyl, ← Nat.add_mul]
      congr 1
      omega
  have hev := ha.eval hx
  cases bf with
  | nil =>
    have hn : n = 0 := hok
    subst hn
    have hxs : xs = [] := List.eq_nil_of_length_eq_zero (by simpa using hl)
    subst hxs
    by_cases hm : m = 0
    · subst hm
      have hys : ys = [] := List.eq_nil_of_length_eq_zero (by simpa using hyl)
      subst hys
      refine ⟨.slice none 0 0, H, w, hops _ _ _ ?_ hev, ⟨.nil, rfl, rfl, by simpa [Bf.ents] using hH⟩, hw⟩
      have hf := hv.firstCells (P := C.P) hw.held
      simp [Bf.addr, Bf.cp, Builtin.append_, run_underlying ht, sizeOf, typeInfo, hi, Builtin.lenOf, hf]
    · obtain ⟨b, off, cap, heq, _, hc⟩ := hv.view (Nat.mul_pos (by omega) hpos)
      simp only [Value.slice.injEq] at heq
      obtain ⟨rfl, _, rfl⟩ := heq
      have hr := run_append_nil (P := C.P) w t ty e i z ht hi hz ⟨b, off, none⟩ m cap0 ys hyl (fun j u hj => by
        obtain ⟨b', hb', h'⟩ := hcells j u hj
        simp only [Option.some.injEq] at hb'
        subst hb'
        exact h') (by omega) (by omega) (by simp only [Nat.zero_add] at hby; omega)
      have hge := grownCap_ge w m 0 e
      have hgr := grown w.drew (hw.drew _) (grownCap w m 0 e) (by omega) rfl
      simp only [List.nil_append, Nat.zero_add] at hgr ⊢
      refine ⟨_, _, _, hops _ _ _ hr hev, ⟨.at w.heap.size (grownCap w m 0 e), rfl, hge, rfl⟩, ?_⟩
      simpa using hgr
  | «at» b cap =>
    have hle : n ≤ cap := hok
    have hj : H[0]? = some (.mem b xs (cap * i.size)) := by rw [hH]; rfl
    obtain ⟨rest, e', hb, hlen⟩ := hw.own _ (List.mem_of_getElem? hj)
    by_cases hroom : n + m ≤ cap
    · have hf := hv.firstCells (P := C.P) hw.held
      have hfit : n * i.size + ys.length ≤ cap * i.size := by rw [hyl, ← Nat.add_mul]; exact Nat.mul_le_mul_right _ hroom
      have hst := run_storeCells_at C.P b (n * i.size) e' ys 0 (xs ++ rest).toArray w hb (by simp only [Nat.add_zero, List.size_toArray, hlen]; exact hfit) (fun u hu => by rw [oneCell_eq]; exact List.all_eq_true.1 h1 u hu)
      simp only [Nat.add_zero] at hst
      have e1 : (xs ++ rest).toArray.toList.take (n * i.size) ++ ys ++ (xs ++ rest).toArray.toList.drop (n * i.size + ys.length) = (xs ++ ys) ++ rest.drop ys.length := by
        have hrl : ys.length ≤ rest.length := by
          have := hlen
          simp only [List.length_append, hl] at this
          omega
        show (xs ++ rest).take (n * i.size) ++ ys ++ (xs ++ rest).drop (n * i.size + ys.length) = _
        rw [← hl, List.take_left, List.drop_append]
        have : xs.drop (xs.length + ys.length) = [] := List.drop_eq_nil_of_le (by omega)
        rw [this]
        simp
      rw [e1] at hst
      refine ⟨.slice (some ⟨b, 0, none⟩) (n + m) cap, H.set 0 (.mem b (xs ++ ys) (cap * i.size)), w.setRow b ((xs ++ ys) ++ rest.drop ys.length).toArray, hops _ _ _ ?_ hev, ⟨.at b cap, rfl, hroom, by rw [hH]; rfl⟩,
        hw.set hj rfl rfl rfl (fun k hk => setRow_other w b k _ hk) ⟨rest.drop ys.length, e', setRow_heap w b _ _ e' _ hb, ?_⟩⟩
      · have hadd : (⟨b, 0, none⟩ : Addr).add (n * i.size) = ⟨b, n * i.size, none⟩ := by
          unfold Addr.add
          split
          · rename_i h0; rw [h0]
          · simp
        simp [Bf.addr, Bf.cp, Builtin.append_, run_underlying ht, sizeOf, typeInfo, hi, Builtin.lenOf, hroom, hf, hadd, hst]
      · have := hlen
        simp only [List.length_append, List.length_drop] at this ⊢
        omega
    · have hm : 0 < m := by omega
      obtain ⟨b2, off, cap2, heq, _, hc⟩ := hv.view (Nat.mul_pos hm hpos)
      simp only [Value.slice.injEq] at heq
      obtain ⟨rfl, _, rfl⟩ := heq
      have hr := run_append_grow (P := C.P) w t ty e i z ht hi hz ⟨b, 0, none⟩ n cap xs hl (fun j u hj => by
        have hadd : (⟨b, 0, none⟩ : Addr).add j = ⟨b, j, none⟩ := by
          unfold Addr.add
          split
          · rename_i h0; rw [h0]
          · simp
        have hjl : j < xs.length := by
          rcases Nat.lt_or_ge j xs.length with h | h
          · exact h
          · simp [List.getElem?_eq_none h] at hj
        rw [hadd]
        simp only [World.cell?, hb]
        simp [List.getElem?_append_left hjl, hj]) ⟨b2, off, none⟩ m cap0 ys hyl (fun j u hj => by
        obtain ⟨b', hb', h'⟩ := hcells j u hj
        simp only [Option.some.injEq] at hb'
        subst hb'
        exact h') (by omega) (by omega) (growslice_fits (by omega) hby)
      have hge := grownCap_ge w (n + m) cap e
      exact ⟨_, _, _, hops _ _ _ hr hev, ⟨.at w.heap.size (grownCap w (n + m) cap e), rfl, hge, rfl⟩, grown w.drew (hw.drew _) _ hge rfl⟩

/-- The same behind some other blocks. -/
theorem a_appendP (Pre : List Ent) {bf : Bf} {n m sz bytes : Nat} {xs ys : List Value} {v : Value} {H1 : List Ent} (hT : AppT C.P t sz bytes) (hx : ev τ x = some (bf.val n)) (hok : bf.ok n) (hl : xs.length = n * sz)
    (hH : H = Pre ++ (bf.ents sz xs ++ H1)) (hy : ev τ y = some v) (hv : Sl F H sz v m ys) (h1 : ys.all oneCellB = true) (h63 : n + m ≤ maxLen) (hby : (n + m) * bytes ≤ 140737488355328) :
    Act1 C ⟨dst, .call { callee := .builtin .append, args := #[x, y], argTypes := #[t, t] }, ty, pos, aft, g⟩ τ F H
      (fun r H' => ∃ bf' : Bf, r = bf'.val (n + m) ∧ bf'.ok (n + m) ∧ H' = Pre ++ (bf'.ents sz (xs ++ ys) ++ H1)) := by
  intro a w ha hw
  have sw : ∀ E : List Ent, (Pre ++ (E ++ H1)).Perm (E ++ (Pre ++ H1)) := fun E => by
    rw [← List.append_assoc, ← List.append_assoc]
    exact List.Perm.append_right H1 List.perm_append_comm
  have hp : H.Perm (bf.ents sz xs ++ (Pre ++ H1)) := by rw [hH]; exact sw _
  obtain ⟨r, H', w', hr, ⟨bf', h2, h3, h4⟩, hst⟩ := a_append (C := C) (F := F) (H := bf.ents sz xs ++ (Pre ++ H1)) (ty := ty) (pos := pos) (aft := aft) (g := g) (dst := dst) hT hx hok hl rfl hy (hv.mono (Fz.le_refl F) hp.subset) h1 h63 hby a w ha (hw.perm hp)
  subst h4
  exact ⟨r, _, w', hr, ⟨bf', h2, h3, rfl⟩, hst.perm (sw _).symm⟩

theorem Bf.oneCell (bf : Bf) (n : Nat) : oneCellB (bf.val n) = true := rfl

/-- What a function has made long is frozen. -/
theorem j_freezeBf {X : Act → World → Prop} {bf : Bf} {sz n : Nat} {cs : List Value} {Fr : List Ent} (hok : bf.ok n) (hl : cs.length = n * sz) (h : ∀ F', F.le F' → Sl F' [] sz (bf.val n) n cs → Jd C τ F' Fr X) : Jd C τ F (bf.ents sz cs ++ Fr) X := by
  cases bf with
  | nil =>
    have hn : n = 0 := hok
    subst hn
    have hcs : cs = [] := List.eq_nil_of_length_eq_zero (by simpa using hl)
    subst hcs
    exact h F (Fz.le_refl _) (Sl.nil _ _ _)
  | «at» b cap =>
    refine j_freeze 0 rfl fun F' rest e hle hF' _ _ => ?_
    refine h F' hle ⟨_, cap, rfl, hl, hok, by simp [Bf.addr], fun i c hc => ⟨b, 0, rfl, ?_⟩⟩
    refine cell_frz hF' ?_
    have hlt : i < cs.length := by
      rcases Nat.lt_or_ge i cs.length with h | h
      · exact h
      · simp [List.getElem?_eq_none h] at hc
    simp only [Nat.zero_add, List.getElem?_toArray]
    rw [List.getElem?_append_left hlt]
    exact hc

/-- What a function has made long is read. -/
theorem Bf.reads {bf : Bf} {sz n : Nat} {cs : List Value} {F : Fz} {H : List Ent} (hok : bf.ok n) (hl : cs.length = n * sz) (hH : bf.ents sz cs ⊆ H) : Sl F H sz (bf.val n) n cs := by
  cases bf with
  | nil =>
    have hn : n = 0 := hok
    subst hn
    have hcs : cs = [] := List.eq_nil_of_length_eq_zero (by simpa using hl)
    subst hcs
    exact Sl.nil _ _ _
  | «at» b cap => exact ⟨_, cap, rfl, hl, hok, by simp [Bf.addr], fun i c hc => ⟨b, 0, rfl, cell_own (hH (List.mem_cons_self ..)) (by simpa using hc)⟩⟩

/-! ### Structs as values -/

/-- A struct's cells out of its parts. -/
def buildL (places : List (Nat × Nat)) : List Value → List (Nat × Value) → Option (List Value)
  | cs, [] => some cs
  | cs, (i, v) :: r => match places[i]? with
    | some (off, size) => if v.cells.size ≠ size ∨ off + v.cells.size > cs.length then none else buildL places (putAt cs off v.cells.toList) r
    | none => none
def buildV (P : Program) (t : TypeId) (ps : List (Nat × Value)) : Option (List Value) :=
  match P.underlying t with
  | some (.struct fields) => match zeroCells? P t, fields.toList.mapM (fun f => (P.info? f.type).map fun i => (f.offset, i.size)) with
    | some z, some places => buildL places z ps
    | _, _ => none
  | _ => none

theorem fold_put (cells : Array Value) (off : Nat) (vs : Array Value) (h : off + vs.size ≤ cells.size) : (vs.zipIdx.foldl (fun cs (c, j) => cs.setIfInBounds (off + j) c) cells) = (putAt cells.toList off vs.toList).toArray := by
  have h2 := Great.foldl_set off vs.toList 0 cells
  have h1 : vs.zipIdx.foldl (fun cs (c, j) => cs.setIfInBounds (off + j) c) cells = (vs.toList.zipIdx 0).foldl (fun cs (x : Value × Nat) => cs.setIfInBounds (off + x.2) x.1) cells := by
    rw [← Array.foldl_toList, Array.toList_zipIdx]
  rw [h1]
  apply Array.ext_getElem?
  intro k
  rw [h2.2 k]
  simp only [putAt, List.getElem?_toArray, Nat.add_zero, Array.length_toList]
  by_cases hk : off ≤ k ∧ k < off + vs.size ∧ k < cells.size
  · rw [if_pos hk, List.append_assoc, List.getElem?_append_right (by simp; omega), List.getElem?_append_left (by simp; omega)]
    simp
    congr 1
    omega
  · rw [if_neg hk]
    by_cases hk1 : k < off
    · rw [List.append_assoc, List.getElem?_append_left (by simp; omega)]
      simp [hk1]
    · by_cases hk2 : k < off + vs.size
      · omega
      · rw [List.getElem?_append_right (by simp; omega)]
        simp only [List.length_append, List.length_take, Array.length_toList, List.getElem?_drop, Array.getElem?_toList]
        congr 1
        omega

theorem fill_buildL (places : List (Nat × Nat)) : ∀ (ps : List (Nat × Value)) (cells : Array Value) (cs : List Value), buildL places cells.toList ps = some cs → Instr.fill (places.toArray[·]?) cells ps = some cs.toArray
  | [], cells, cs, h => by simp [buildL] at h; subst h; simp [Instr.fill]
  | (i, v) :: r, cells, cs, h => by
    simp only [buildL] at h
    cases hp : places[i]? with
    | none => simp [hp] at h
    | some p =>
      obtain ⟨off, size⟩ := p
      simp only [hp] at h
      split at h
      · cases h
      · rename_i hne
        have h1 : v.cells.size = size := by
          rcases Nat.decEq v.cells.size size with h0 | h0
          · exact absurd (.inl h0) hne
          · exact h0
        have h2 : ¬ off + v.cells.size > cells.size := fun h0 => hne (.inr (by simpa using h0))
        have hb : (decide (v.cells.size ≠ size) || decide (off + v.cells.size > cells.size)) = false := by simp [h1]; omega
        simp only [Instr.fill, List.getElem?_toArray, hp]
        rw [if_neg (by simp [h1]; omega)]
        rw [fold_put cells off v.cells (by omega)]
        have := fill_buildL places r (putAt cells.toList off v.cells.toList).toArray cs h
        simpa using this

theorem built_of {P : Program} {t : TypeId} {ps : List (Nat × Value)} {cs : List Value} (h : buildV P t ps = some cs) : P.built t ps = some cs.toArray := by
  unfold buildV at h
  cases hu : P.underlying t with
  | none => simp [hu] at h
  | some d =>
    cases d <;> try (simp [hu] at h; done)
    rename_i fields
    simp only [hu] at h
    cases hz : zeroCells? P t with
    | none => simp [hz] at h
    | some z =>
      cases hm : fields.toList.mapM (fun f => (P.info? f.type).map fun i => (f.offset, i.size)) with
      | none => simp [hz, hm] at h
      | some places =>
        simp only [hz, hm] at h
        unfold zeroCells? at hz
        obtain ⟨zv, hz1, hz2⟩ := Option.map_eq_some_iff.1 hz
        obtain ⟨it, hit, hzv⟩ := Option.bind_eq_some_iff.1 hz1
        unfold Program.built
        simp only [hit, hu, hzv, hm]
        exact fill_buildL places ps zv.cells cs (by rw [hz2]; exact h)

theorem v_build {parts : Array (Nat × Operand)} {cs : List Value} (hp : allEv τ (parts.toList.map (·.2)) = true) (hb : buildV C.P t (parts.toList.map fun p => (p.1, evD τ p.2)) = some cs) :
    Val C ⟨dst, .build t parts, ty, pos, aft, g⟩ τ F H (.agg cs.toArray) := fun a w ha _ => by
  have hparts : (parts.map fun (j, x) => (j, a.eval x)).toList = parts.toList.map fun p => (p.1, evD τ p.2) := by
    rw [Array.toList_map]
    apply List.map_congr_left
    intro p hm
    obtain ⟨j, y⟩ := p
    have := List.all_eq_true.1 hp y (List.mem_map.2 ⟨(j, y), hm, rfl⟩)
    simp only [evD_eq ha this]
  have hrun := run_build (P := C.P) w t (parts.map fun (j, x) => (j, a.eval x)) cs.toArray (by rw [hparts]; exact built_of hb)
  simp only [execOp, Sem.run_bind, hrun]
  rfl
end
end Go.SX
