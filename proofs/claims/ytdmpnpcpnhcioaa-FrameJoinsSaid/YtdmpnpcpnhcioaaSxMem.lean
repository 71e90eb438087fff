/-
  The operations that read and write memory.
-/
import Derived.Test.YtdmpnpcpnhcioaaSxOps
import Derived.Laws.CopyRow
import Derived.Laws.Append
import Derived.Laws.AppendOwn
import Derived.Laws.BytesArg
import Derived.Laws.Slices
import Derived.Laws.MakeOwn
import Derived.Laws.Tables
import Derived.Great.BuildSlice
namespace Go.SX
open Go

/-! ### What is read -/

def Cell (F : Fz) (H : List Ent) (b off : Nat) (v : Value) : Prop := ∀ w, Held F H w → w.cell? ⟨b, off, none⟩ = some v

theorem cell_own {F : Fz} {H : List Ent} {b off n : Nat} {cs : List Value} {v : Value} (hm : Ent.mem b cs n ∈ H) (hv : cs[off]? = some v) : Cell F H b off v := by
  intro w hw
  obtain ⟨rest, e, hb, _⟩ := hw.2 _ hm
  have hlt : off < cs.length := by
    rcases Nat.lt_or_ge off cs.length with h | h
    · exact h
    · simp [List.getElem?_eq_none h] at hv
  simp only [World.cell?, hb]
  simp [List.getElem?_append_left hlt, hv]

theorem cell_at {F : Fz} {H : List Ent} {j b off n : Nat} {cs : List Value} {v : Value} (hm : H[j]? = some (.mem b cs n)) (hv : cs[off]? = some v) : Cell F H b off v :=
  cell_own (List.mem_of_getElem? hm) hv

theorem cell_frz {F : Fz} {H : List Ent} {b off : Nat} {all : Array Value} {e : TypeId} {fz : Nat × Nat} {v : Value} (hb : F b = some (.cells all e fz)) (hv : all[off]? = some v) : Cell F H b off v := by
  intro w hw
  have := hw.1 _ _ hb
  simp only [World.cell?, this]
  simpa using hv

theorem Cell.mono {F F' : Fz} {H H' : List Ent} {b off : Nat} {v : Value} (h : Cell F H b off v) (hF : F.le F') (hH : H ⊆ H') : Cell F' H' b off v :=
  fun w hw => h w ⟨fun b o hb => hw.1 b o (hF b o hb), fun e he => hw.2 e (hH he)⟩

/-- A slice of n elements, each of sz cells. -/
def Sl (F : Fz) (H : List Ent) (sz : Nat) (v : Value) (n : Nat) (cs : List Value) : Prop :=
  ∃ a cap, v = .slice a n cap ∧ cs.length = n * sz ∧ n ≤ cap ∧ (a = none → cap = 0) ∧
    ∀ i c, cs[i]? = some c → ∃ b off, a = some ⟨b, off, none⟩ ∧ Cell F H b (off + i) c

theorem Sl.mono {F F' : Fz} {H H' : List Ent} {sz n : Nat} {v : Value} {cs : List Value} (h : Sl F H sz v n cs) (hF : F.le F') (hH : H ⊆ H') : Sl F' H' sz v n cs := by
  obtain ⟨a, cap, h1, h2, h3, h4, h6⟩ := h
  exact ⟨a, cap, h1, h2, h3, h4, fun i c hc => by
    obtain ⟨b, off, g1, g2⟩ := h6 i c hc
    exact ⟨b, off, g1, g2.mono hF hH⟩⟩

theorem Sl.frz {F F' : Fz} {H : List Ent} {sz n : Nat} {v : Value} {cs : List Value} (h : Sl F [] sz v n cs) (hF : F.le F') : Sl F' H sz v n cs := h.mono hF (by simp)

theorem Sl.nil (F : Fz) (H : List Ent) (sz : Nat) : Sl F H sz (.slice none 0 0) 0 [] := ⟨none, 0, rfl, by simp, Nat.le_refl _, fun _ => rfl, by simp⟩

/-- A slice that isn't empty has an address. -/
theorem Sl.view {F : Fz} {H : List Ent} {sz n : Nat} {v : Value} {cs : List Value} (h : Sl F H sz v n cs) (hp : 0 < n * sz) :
    ∃ b off cap, v = .slice (some ⟨b, off, none⟩) n cap ∧ n ≤ cap ∧ ∀ i c, cs[i]? = some c → Cell F H b (off + i) c := by
  obtain ⟨a, cap, h1, h2, h3, h4, h6⟩ := h
  have h0 : cs[0]? = some (cs[0]'(by omega)) := List.getElem?_eq_getElem (by omega)
  obtain ⟨b, off, ha, _⟩ := h6 0 _ h0
  refine ⟨b, off, cap, by rw [h1, ha], h3, fun i c hc => ?_⟩
  obtain ⟨b', off', ha', hc'⟩ := h6 i c hc
  rw [ha] at ha'
  simp only [Option.some.injEq, Addr.mk.injEq, and_true] at ha'
  obtain ⟨rfl, rfl⟩ := ha'
  exact hc'

theorem Sl.shape {F : Fz} {H : List Ent} {sz n : Nat} {v : Value} {cs : List Value} (h : Sl F H sz v n cs) : ∃ a cap, v = .slice a n cap ∧ n ≤ cap := by
  obtain ⟨a, cap, h1, h2, h3, h4, h6⟩ := h
  exact ⟨a, cap, h1, h3⟩

theorem Sl.len {F : Fz} {H : List Ent} {sz n : Nat} {v : Value} {cs : List Value} (h : Sl F H sz v n cs) : cs.length = n * sz := by
  obtain ⟨a, cap, h1, h2, h3, h4, h6⟩ := h
  exact h2

/-- In a world at hand: the first cells. -/
theorem Sl.cells {F : Fz} {H : List Ent} {sz n m : Nat} {a : Option Addr} {cap : Nat} {cs : List Value} (h : Sl F H sz (.slice a n cap) m cs) {w : World} (hw : Held F H w) :
    n = m ∧ (∀ i c, cs[i]? = some c → ∃ b, a = some b ∧ w.cell? (b.add i) = some c) := by
  obtain ⟨a', cap', h1, h2, h3, h4, h6⟩ := h
  simp only [Value.slice.injEq] at h1
  obtain ⟨rfl, rfl, rfl⟩ := h1
  refine ⟨rfl, fun i c hc => ?_⟩
  obtain ⟨b, off, rfl, hcell⟩ := h6 i c hc
  refine ⟨_, rfl, ?_⟩
  have := hcell w hw
  by_cases hi : i = 0
  · subst hi; simpa [Addr.add] using this
  · simp only [Addr.add, if_neg hi]; exact this

theorem Sl.firstCells {P : Program} {F : Fz} {H : List Ent} {sz n : Nat} {v : Value} {cs : List Value} (h : Sl F H sz v n cs) {w : World} (hw : Held F H w) :
    (Builtin.firstCells sz n v).run P w = .ok cs.toArray w := by
  obtain ⟨a, cap, rfl, _⟩ := h.shape
  have hl := h.len
  obtain ⟨_, hc⟩ := h.cells hw
  cases a with
  | none =>
    have : cs = [] := by
      cases cs with
      | nil => rfl
      | cons c r => obtain ⟨b, hb, _⟩ := hc 0 c rfl; cases hb
    subst this
    exact run_firstCells_none w _ _ _ _
  | some b =>
    exact run_firstCells_some w sz n b n cap cs hl fun j u hj => by
      obtain ⟨b', hb, hcell⟩ := hc j u hj
      simp only [Option.some.injEq] at hb
      subst hb
      exact hcell

/-! ### Bytes -/

def byteV (b : UInt8) : Value := .int .u8 b.toNat
def bytesV (l : List UInt8) : List Value := l.map byteV
/-- A slice of bytes. -/
def SlB (F : Fz) (H : List Ent) (v : Value) (l : List UInt8) : Prop := Sl F H 1 v l.length (bytesV l)

@[simp] theorem bytesV_length (l : List UInt8) : (bytesV l).length = l.length := by simp [bytesV]
@[simp] theorem bytesV_append (l m : List UInt8) : bytesV (l ++ m) = bytesV l ++ bytesV m := by simp [bytesV]
@[simp] theorem bytesV_nil : bytesV [] = [] := rfl
theorem bytesV_get (l : List UInt8) (i : Nat) : (bytesV l)[i]? = (l[i]?).map byteV := by simp [bytesV]

theorem SlB.mono {F F' : Fz} {H H' : List Ent} {v : Value} {l : List UInt8} (h : SlB F H v l) (hF : F.le F') (hH : H ⊆ H') : SlB F' H' v l := Sl.mono h hF hH
theorem SlB.frz {F F' : Fz} {H : List Ent} {v : Value} {l : List UInt8} (h : SlB F [] v l) (hF : F.le F') : SlB F' H v l := Sl.frz h hF

section
variable {C : Cx} {τ : Env} {F : Fz} {H : List Ent} {dst : Option Nat} {ty t u : TypeId} {pos : String} {aft : Array Edge} {g : Option (Nat × Bool)} {x y z : Operand}

def isAggB (P : Program) (t : TypeId) : Option Bool :=
  match P.underlying t with
  | some (.struct _) => some true
  | some (.array _ _) => some true
  | some _ => some false
  | none => none

theorem isAgg_run {P : Program} {t : TypeId} {b : Bool} (h : isAggB P t = some b) (w : World) : (isAgg t).run P w = .ok b w := by
  unfold isAggB at h
  cases hu : P.underlying t with
  | none => simp [hu] at h
  | some d =>
    simp only [isAgg, Sem.run_bind, run_underlying hu, Result.andThen_ok]
    cases d <;> simp_all

theorem v_load {b off : Nat} {v : Value} (ht : isAggB C.P t = some false) (hx : ev τ x = some (.pointer (some ⟨b, off, none⟩))) (hc : Cell F H b off v) : Val C ⟨dst, .load t x, ty, pos, aft, g⟩ τ F H v := fun a w ha hw => by
  have h1 := hc w hw
  simp [execOp, ha.eval hx, Instr.loadAt, Instr.sureAddr, loadVar, isAgg_run ht, h1]

/-- A struct's cells. -/
theorem v_loadAgg {b off sz : Nat} {cs : List Value} (ht : isAggB C.P t = some true) (hs : (C.P.info? t).map (·.size) = some sz) (hx : ev τ x = some (.pointer (some ⟨b, off, none⟩))) (hl : cs.length = sz) (hc : ∀ i c, cs[i]? = some c → Cell F H b (off + i) c) :
    Val C ⟨dst, .load t x, ty, pos, aft, g⟩ τ F H (.agg cs.toArray) := fun a w ha hw => by
  obtain ⟨i0, hi0, hsz⟩ := Option.map_eq_some_iff.1 hs
  have hcells := run_loadCells_list (P := C.P) w ⟨b, off, none⟩ cs (fun j v hj => by
    have := hc j v hj w hw
    by_cases hi : j = 0
    · subst hi; simpa [Addr.add] using this
    · simp only [Addr.add, if_neg hi]; exact this)
  rw [hl] at hcells
  simp [execOp, ha.eval hx, Instr.loadAt, Instr.sureAddr, loadVar, isAgg_run ht, sizeOf, typeInfo, hi0, hsz, hcells]

def fieldOff (P : Program) (s : TypeId) (f : Nat) : Option Nat :=
  match P.underlying s with
  | some (.struct fields) => match fields[f]? with
    | some fd => match P.info? fd.type with
      | some i => if i.size = 0 then none else some fd.offset
      | none => none
    | none => none
  | _ => none

theorem v_field {b off k r : Nat} {f : Nat} (hf : fieldOff C.P t f = some k) (hx : ev τ x = some (.pointer (some ⟨b, off, none⟩))) (hr : off + k = r) : Val C ⟨dst, .fieldAddr t x f, ty, pos, aft, g⟩ τ F H (.pointer (some ⟨b, r, none⟩)) := fun a w ha hw => by
  subst hr
  unfold fieldOff at hf
  cases hu : C.P.underlying t with
  | none => simp [hu] at hf
  | some d =>
    cases d <;> try (simp [hu] at hf; done)
    rename_i fields
    simp only [hu] at hf
    cases hfd : fields[f]? with
    | none => simp [hfd] at hf
    | some fd =>
      simp only [hfd] at hf
      cases hi : C.P.info? fd.type with
      | none => simp [hi] at hf
      | some i =>
        simp only [hi] at hf
        split at hf
        · cases hf
        · rename_i hne
          simp only [Option.some.injEq] at hf
          subst hf
          have hadd : (⟨b, off, none⟩ : Addr).add fd.offset = ⟨b, off + fd.offset, none⟩ := by unfold Addr.add; split <;> simp_all
          simp [execOp, ha.eval hx, Instr.fieldAt, run_underlying hu, hfd, Instr.sureAddr, fieldPlace, sizeOf, typeInfo, hi, hne, hadd]

def elemSize (P : Program) (t : TypeId) : Option Nat :=
  match P.underlying t with
  | some (.slice e) => (P.info? e).map (·.size)
  | some (.array _ e) => (P.info? e).map (·.size)
  | _ => none
def isSliceB (P : Program) (t : TypeId) : Bool := match P.underlying t with | some (.slice _) => true | _ => false
def arrLen (P : Program) (t : TypeId) : Option Nat := match P.underlying t with | some (.array n _) => some n | _ => none

theorem v_index {b off len cap sz r : Nat} {k : IntKind} {i : Int} (ht : isSliceB C.P t = true) (hs : elemSize C.P t = some sz) (hx : ev τ x = some (.slice (some ⟨b, off, none⟩) len cap)) (hy : ev τ y = some (.int k i))
    (h0 : 0 ≤ i) (h1 : i < len) (hr : off + i.toNat * sz = r) : Val C ⟨dst, .indexAddr t x y, ty, pos, aft, g⟩ τ F H (.pointer (some ⟨b, r, none⟩)) := fun a w ha hw => by
  subst hr
  unfold isSliceB at ht
  unfold elemSize at hs
  cases hu : C.P.underlying t with
  | none => simp [hu] at ht
  | some d =>
    cases d <;> simp [hu] at ht
    rename_i e
    simp only [hu] at hs
    obtain ⟨i0, hi0, hsz⟩ := Option.map_eq_some_iff.1 hs
    have hadd : (⟨b, off, none⟩ : Addr).add (i.toNat * sz) = ⟨b, off + i.toNat * sz, none⟩ := by unfold Addr.add; split <;> simp_all
    simp [execOp, ha.eval hx, ha.eval hy, Instr.indexAt, run_underlying hu, asIntOf, h0, h1, sizeOf, typeInfo, hi0, hsz, hadd]

theorem v_indexArr {b off n sz r : Nat} {k : IntKind} {i : Int} (ht : arrLen C.P t = some n) (hs : elemSize C.P t = some sz) (hx : ev τ x = some (.pointer (some ⟨b, off, none⟩))) (hy : ev τ y = some (.int k i))
    (h0 : 0 ≤ i) (h1 : i < n) (hr : off + i.toNat * sz = r) : Val C ⟨dst, .indexAddr t x y, ty, pos, aft, g⟩ τ F H (.pointer (some ⟨b, r, none⟩)) := fun a w ha hw => by
  subst hr
  unfold arrLen at ht
  unfold elemSize at hs
  cases hu : C.P.underlying t with
  | none => simp [hu] at ht
  | some d =>
    cases d <;> simp [hu] at ht
    rename_i m e
    subst ht
    simp only [hu] at hs
    obtain ⟨i0, hi0, hsz⟩ := Option.map_eq_some_iff.1 hs
    have hadd : (⟨b, off, none⟩ : Addr).add (i.toNat * sz) = ⟨b, off + i.toNat * sz, none⟩ := by unfold Addr.add; split <;> simp_all
    simp [execOp, ha.eval hx, ha.eval hy, Instr.indexAt, run_underlying hu, asIntOf, h0, h1, sizeOf, typeInfo, hi0, hsz, hadd, Instr.sureAddr]

/-- The same at a place that is a number. -/
theorem v_indexN {b off len cap sz i : Nat} {k : IntKind} (ht : isSliceB C.P t = true) (hs : elemSize C.P t = some sz) (hx : ev τ x = some (.slice (some ⟨b, off, none⟩) len cap)) (hy : ev τ y = some (.int k (i : Int)))
    (h1 : i < len) : Val C ⟨dst, .indexAddr t x y, ty, pos, aft, g⟩ τ F H (.pointer (some ⟨b, off + i * sz, none⟩)) :=
  v_index ht hs hx hy (by omega) (by omega) (by simp)
theorem v_index1 {b off len cap i : Nat} {k : IntKind} (ht : isSliceB C.P t = true) (hs : elemSize C.P t = some 1) (hx : ev τ x = some (.slice (some ⟨b, off, none⟩) len cap)) (hy : ev τ y = some (.int k (i : Int)))
    (h1 : i < len) : Val C ⟨dst, .indexAddr t x y, ty, pos, aft, g⟩ τ F H (.pointer (some ⟨b, off + i, none⟩)) :=
  v_index ht hs hx hy (by omega) (by omega) (by simp)

/-! ### len, cap, min, max -/

theorem execOp_builtin_run {P : Program} {a : Act} {w : World} {bi : Builtin} {args : Array Operand} {ats : Array TypeId} {s : Sem Value} {r : Result Value}
    (hs : ∀ cs, builtin bi ats ty cs (args.map a.eval) = (do pure (.value (← s)))) (hr : s.run P w = r) :
    (execOp a.eval ⟨dst, .call { callee := .builtin bi, args := args, argTypes := ats }, ty, pos, aft, g⟩).run P w = r.andThen fun v w' => .ok (.value v) w' := by
  simp only [execOp, resolve, invoke, Sem.run_bind, Sem.run_pure, Result.andThen_ok, hs, hr]

theorem v_len {a0 : Option Addr} {n c : Nat} (ht : isSliceB C.P t = true) (hx : ev τ x = some (.slice a0 n c)) : Val C ⟨dst, .call { callee := .builtin .len, args := #[x], argTypes := #[t] }, ty, pos, aft, g⟩ τ F H (.int .i64 n) := fun a w ha hw => by
  unfold isSliceB at ht
  cases hu : C.P.underlying t with
  | none => simp [hu] at ht
  | some d =>
    cases d <;> simp [hu] at ht
    rw [execOp_builtin_run (s := Builtin.len_ #[t] ty #[a.eval x]) (r := .ok (.int .i64 n) w) (fun _ => by simp [builtin]) (by simp [Builtin.len_, ha.eval hx, run_underlying hu, goInt])]
    rfl
theorem v_cap {a0 : Option Addr} {n c : Nat} (ht : isSliceB C.P t = true) (hx : ev τ x = some (.slice a0 n c)) : Val C ⟨dst, .call { callee := .builtin .cap, args := #[x], argTypes := #[t] }, ty, pos, aft, g⟩ τ F H (.int .i64 c) := fun a w ha hw => by
  unfold isSliceB at ht
  cases hu : C.P.underlying t with
  | none => simp [hu] at ht
  | some d =>
    cases d <;> simp [hu] at ht
    rw [execOp_builtin_run (s := Builtin.cap_ #[t] ty #[a.eval x]) (r := .ok (.int .i64 c) w) (fun _ => by simp [builtin]) (by simp [Builtin.cap_, ha.eval hx, run_underlying hu, goInt])]
    rfl
theorem v_lenS {sz n : Nat} {v : Value} {cs : List Value} (hs : Sl F H sz v n cs) (ht : isSliceB C.P t = true) (hx : ev τ x = some v) : Val C ⟨dst, .call { callee := .builtin .len, args := #[x], argTypes := #[t] }, ty, pos, aft, g⟩ τ F H (.int .i64 n) := by
  obtain ⟨a, cap, rfl, _⟩ := hs.shape
  exact v_len ht hx
theorem v_min {k k' : IntKind} {m n : Int} {ats : Array TypeId} (hx : ev τ x = some (.int k m)) (hy : ev τ y = some (.int k' n)) : Val C ⟨dst, .call { callee := .builtin .min, args := #[x, y], argTypes := ats }, ty, pos, aft, g⟩ τ F H (.int k (if n < m then n else m)) := fun a w ha hw => by
  rw [execOp_builtin_run (s := Builtin.min_ ats ty #[a.eval x, a.eval y]) (r := .ok (.int k (if n < m then n else m)) w) (fun _ => by simp [builtin]) (by simp [Builtin.min_, ha.eval hx, ha.eval hy, Builtin.min2])]
  rfl
theorem v_max {k k' : IntKind} {m n : Int} {ats : Array TypeId} (hx : ev τ x = some (.int k m)) (hy : ev τ y = some (.int k' n)) : Val C ⟨dst, .call { callee := .builtin .max, args := #[x, y], argTypes := ats }, ty, pos, aft, g⟩ τ F H (.int k (if n > m then n else m)) := fun a w ha hw => by
  rw [execOp_builtin_run (s := Builtin.max_ ats ty #[a.eval x, a.eval y]) (r := .ok (.int k (if n > m then n else m)) w) (fun _ => by simp [builtin]) (by simp [Builtin.max_, ha.eval hx, ha.eval hy, Builtin.max2])]
  rfl

/-! ### Bytes to a string -/

theorem v_bytesString {src d e : TypeId} {v : Value} {l : List UInt8} (hs : C.P.underlying src = some (.slice e)) (he : C.P.underlying e = some (.int .u8)) (hd : C.P.underlying d = some .string) (hx : ev τ x = some v) (hv : SlB F H v l) :
    Val C ⟨dst, .convert src d x, ty, pos, aft, g⟩ τ F H (strV l) := fun a w ha hw => by
  obtain ⟨a0, cap, rfl, hlen⟩ := Sl.shape hv
  obtain ⟨_, hc⟩ := Sl.cells hv hw
  have hrun : (convert src d (.slice a0 l.length cap)).run C.P w = .ok (strV l) w := by
    cases a0 with
    | none =>
      have : l = [] := by
        cases l with
        | nil => rfl
        | cons c r => obtain ⟨b, hb, _⟩ := hc 0 (byteV c) rfl; cases hb
      subst this
      rw [run_convert_bytes_nil w src e hs he _ _ d hd]
      rfl
    | some b =>
      by_cases hl : l = []
      · subst hl
        rw [run_convert_bytes_string w src d e _ _ _ hs he hd]
        simp only [List.length_nil]
        rw [run_bytesToString w _ 0 cap [] (by simp [loadCells, loadCellsFrom])]
        rfl
      · have hpos : 0 < l.length * 1 := by
          have := List.length_pos_iff.2 hl
          omega
        obtain ⟨b', off, cap', heq, _, _⟩ := Sl.view hv hpos
        simp only [Value.slice.injEq, Option.some.injEq] at heq
        obtain ⟨rfl, _, rfl⟩ := heq
        rw [run_convert_bytes_arg w src e hs he b' off l.length cap (l.map fun c => (c.toNat : Int)) (by simp) (fun i hi => by
          obtain ⟨b2, hb2, hcell⟩ := hc i (byteV l[i]) (by rw [bytesV_get, List.getElem?_eq_getElem hi]; rfl)
          simp only [Option.some.injEq] at hb2
          subst hb2
          have hadd : (⟨b', off, none⟩ : Addr).add i = ⟨b', off + i, none⟩ := by unfold Addr.add; split <;> simp_all
          rw [hadd] at hcell
          rw [hcell]
          simp [byteV, List.getD, hi]) d hd]
        congr 2
        simp only [strOfNums, List.map_map]
        congr 2
        have : ∀ m : List UInt8, List.map ((fun n => UInt8.ofNat n.toNat) ∘ fun c => ((c.toNat : Nat) : Int)) m = m := fun m => by
          induction m with
          | nil => rfl
          | cons c r ih => simp [ih]
        exact this l
  simp only [execOp, ha.eval hx, Sem.run_bind, hrun]
  rfl
end
end Go.SX
