/-
  A window of a block: a slice that begins further on, and is appended to.
-/
import Derived.Test.YtdmpnpcpnhcioaaSxDel
namespace Go.SX
open Go

/-- None yet; or a block's address, where in it (in cells), the slice's room (in elements), the block's cells, what stands ahead. -/
inductive Wf where
  | nil
  | at (b off cp N : Nat) (pre : List Value)
def Wf.addr : Wf → Option Addr
  | .nil => none
  | .at b off _ _ _ => some ⟨b, off, none⟩
def Wf.cp : Wf → Nat
  | .nil => 0
  | .at _ _ cp _ _ => cp
abbrev Wf.val (n : Nat) (wf : Wf) : Value := .slice wf.addr n wf.cp
def Wf.ents (xs : List Value) : Wf → List Ent
  | .nil => []
  | .at b _ _ N pre => [.mem b (pre ++ xs) N]
def Wf.ok (sz n : Nat) : Wf → Prop
  | .nil => n = 0
  | .at _ off cp N pre => n ≤ cp ∧ off + cp * sz ≤ N ∧ pre.length = off

theorem Wf.reads {wf : Wf} {sz n : Nat} {cs : List Value} {F : Fz} {H : List Ent} (hok : wf.ok sz n) (hl : cs.length = n * sz) (hH : wf.ents cs ⊆ H) : Sl F H sz (wf.val n) n cs := by
  cases wf with
  | nil =>
    have hn : n = 0 := hok
    subst hn
    have hcs : cs = [] := List.eq_nil_of_length_eq_zero (by simpa using hl)
    subst hcs
    exact Sl.nil _ _ _
  | «at» b off cp N pre =>
    obtain ⟨h1, h2, h3⟩ := hok
    refine ⟨_, cp, rfl, hl, h1, by simp [Wf.addr], fun i c hc => ⟨b, off, rfl, ?_⟩⟩
    refine cell_own (hH (List.mem_cons_self ..)) ?_
    rw [List.getElem?_append_right (by omega), h3, Nat.add_sub_cancel_left]
    exact hc

section
variable {C : Cx} {τ : Env} {F : Fz} {H : List Ent} {dst : Option Nat} {ty t u : TypeId} {pos : String} {aft : Array Edge} {g : Option (Nat × Bool)} {x y z : Operand}

theorem a_appendW (Pre : List Ent) {wf : Wf} {n m sz bytes : Nat} {xs ys : List Value} {v : Value} {H1 : List Ent} (hT : AppT C.P t sz bytes) (hx : ev τ x = some (wf.val n)) (hok : wf.ok sz n) (hl : xs.length = n * sz)
    (hH : H = Pre ++ (wf.ents xs ++ H1)) (hy : ev τ y = some v) (hv : Sl F H sz v m ys) (h1 : ys.all oneCellB = true) (h63 : n + m ≤ maxLen) (hby : (n + m) * bytes ≤ 140737488355328) :
    Act1 C ⟨dst, .call { callee := .builtin .append, args := #[x, y], argTypes := #[t, t] }, ty, pos, aft, g⟩ τ F H
      (fun r H' => ∃ wf' : Wf, r = wf'.val (n + m) ∧ wf'.ok sz (n + m) ∧ H' = Pre ++ (wf'.ents (xs ++ ys) ++ H1)) := by
  cases wf with
  | nil =>
    have hn : n = 0 := hok
    subst hn
    intro a w ha hw
    obtain ⟨r, H', w', hr, ⟨bf', h2, h3, h4⟩, hst⟩ := a_appendP (C := C) (F := F) (H := H) (ty := ty) (pos := pos) (aft := aft) (g := g) (dst := dst) Pre (bf := .nil) (n := 0) hT hx rfl hl hH hy hv h1 h63 hby a w ha hw
    cases bf' with
    | nil => exact ⟨r, H', w', hr, ⟨.nil, h2, h3, h4⟩, hst⟩
    | «at» b c => exact ⟨r, H', w', hr, ⟨.at b 0 c (c * sz) [], h2, ⟨h3, by omega, rfl⟩, h4⟩, hst⟩
  | «at» b off cap N pre =>
    intro a w ha hw
    obtain ⟨hle, hN, hpl⟩ := hok
    have sw : ∀ E : List Ent, (Pre ++ (E ++ H1)).Perm (E ++ (Pre ++ H1)) := fun E => by
      rw [← List.append_assoc, ← List.append_assoc]
      exact List.Perm.append_right H1 List.perm_append_comm
    have hv := hv.mono (F' := F) (H' := (Wf.at b off cap N pre).ents xs ++ (Pre ++ H1)) (Fz.le_refl F) (by rw [hH]; exact (sw _).subset)
    have hw : St C.O F ((Wf.at b off cap N pre).ents xs ++ (Pre ++ H1)) w := St.perm (sw _) (by rw [← hH]; exact hw)
    suffices hs : ∃ (v' : Value) (wf' : Wf) (w' : World), (execOp a.eval ⟨dst, .call { callee := .builtin .append, args := #[x, y], argTypes := #[t, t] }, ty, pos, aft, g⟩).run C.P w = .ok (.value v') w' ∧
        v' = wf'.val (n + m) ∧ wf'.ok sz (n + m) ∧ St C.O F (wf'.ents (xs ++ ys) ++ (Pre ++ H1)) w' by
      obtain ⟨v', wf', w', h1, h2, h3, h4⟩ := hs
      exact ⟨v', _, w', h1, ⟨wf', h2, h3, rfl⟩, h4.perm (sw _).symm⟩
    obtain ⟨⟨e, i, z, ht, hi, hz, hsz, hbytes, hzs⟩, hpos⟩ := hT
    subst hsz hbytes
    obtain ⟨a0, cap0, rfl, _⟩ := hv.shape
    have hyl := hv.len
    obtain ⟨_, hcells⟩ := hv.cells hw.held
    have hops : ∀ (s : Value) (r : Value) (w' : World), (Builtin.append_ #[t, t] ty #[s, .slice a0 m cap0]).run C.P w = .ok r w' → a.eval x = s →
        (execOp a.eval ⟨dst, .call { callee := .builtin .append, args := #[x, y], argTypes := #[t, t] }, ty, pos, aft, g⟩).run C.P w = .ok (.value r) w' := fun s r w' hr hs => by
      rw [execOp_builtin_run (s := Builtin.append_ #[t, t] ty #[a.eval x, a.eval y]) (r := .ok r w') (fun _ => by simp [builtin]) (by rw [hs, ha.eval hy]; exact hr)]
      rfl
    have hsmall : n + m ≤ 9223372036854775807 := by simp only [maxLen] at h63; omega
    have hev := ha.eval hx
    have hj : ((Wf.at b off cap N pre).ents xs ++ (Pre ++ H1))[0]? = some (.mem b (pre ++ xs) N) := rfl
    obtain ⟨rest, e', hb, hlen⟩ := hw.own _ (List.mem_of_getElem? hj)
    simp only [List.length_append, hpl, hl] at hlen
    by_cases hroom : n + m ≤ cap
    · have hf := hv.firstCells (P := C.P) hw.held
      have hmul : n * i.size + m * i.size ≤ cap * i.size := by rw [← Nat.add_mul]; exact Nat.mul_le_mul_right _ hroom
      have hst := run_storeCells_at C.P b (off + n * i.size) e' ys 0 (pre ++ xs ++ rest).toArray w hb (by simp only [Nat.add_zero, List.size_toArray, List.length_append, hpl, hl, hyl]; omega) (fun u hu => by rw [oneCell_eq]; exact List.all_eq_true.1 h1 u hu)
      simp only [Nat.add_zero] at hst
      have e1 : (pre ++ xs ++ rest).toArray.toList.take (off + n * i.size) ++ ys ++ (pre ++ xs ++ rest).toArray.toList.drop (off + n * i.size + ys.length) = (pre ++ (xs ++ ys)) ++ rest.drop ys.length := by
        have hpx : (pre ++ xs).length = off + n * i.size := by rw [List.length_append, hpl, hl]
        show (pre ++ xs ++ rest).take (off + n * i.size) ++ ys ++ (pre ++ xs ++ rest).drop (off + n * i.size + ys.length) = _
        rw [← hpx, List.take_left, List.drop_append]
        have : (pre ++ xs).drop ((pre ++ xs).length + ys.length) = [] := List.drop_eq_nil_of_le (by omega)
        rw [this]
        simp
      rw [e1] at hst
      refine ⟨.slice (some ⟨b, off, none⟩) (n + m) cap, .at b off cap N pre, w.setRow b ((pre ++ (xs ++ ys)) ++ rest.drop ys.length).toArray, hops _ _ _ ?_ hev, rfl, ⟨hroom, hN, hpl⟩,
        hw.set (j := 0) hj rfl rfl rfl (fun k hk => setRow_other w b k _ hk) ⟨rest.drop ys.length, e', setRow_heap w b _ _ e' _ hb, ?_⟩⟩
      · have hadd : (⟨b, off, none⟩ : Addr).add (n * i.size) = ⟨b, off + n * i.size, none⟩ := by
          unfold Addr.add
          split
          · rename_i h0; rw [h0, Nat.add_zero]
          · simp
        simp [Wf.addr, Wf.cp, Builtin.append_, run_underlying ht, sizeOf, typeInfo, hi, Builtin.lenOf, hroom, hf, hadd, hst]
      · simp only [List.length_append, List.length_drop, hpl, hl, hyl]
        omega
    · have hm : 0 < m := by omega
      obtain ⟨b2, off2, cap2, heq, _, hc⟩ := hv.view (Nat.mul_pos hm hpos)
      simp only [Value.slice.injEq] at heq
      obtain ⟨rfl, _, rfl⟩ := heq
      have hr := run_append_grow (P := C.P) w t ty e i z ht hi hz ⟨b, off, none⟩ n cap xs hl (fun j u hj => by
        have hadd : (⟨b, off, none⟩ : Addr).add j = ⟨b, off + j, none⟩ := by
          unfold Addr.add
          split
          · rename_i h0; rw [h0, Nat.add_zero]
          · simp
        have hjl : j < xs.length := by
          rcases Nat.lt_or_ge j xs.length with h | h
          · exact h
          · simp [List.getElem?_eq_none h] at hj
        rw [hadd]
        simp only [World.cell?, hb]
        have h9 : (pre ++ xs ++ rest)[off + j]? = some u := by
          rw [List.getElem?_append_left (by rw [List.length_append, hpl]; omega), List.getElem?_append_right (by omega), hpl, Nat.add_sub_cancel_left, hj]
        simpa using h9) ⟨b2, off2, none⟩ m cap0 ys hyl (fun j u hj => by
        obtain ⟨b', hb', h'⟩ := hcells j u hj
        simp only [Option.some.injEq] at hb'
        subst hb'
        exact h') (by omega) (by omega) (growslice_fits (by omega) hby)
      have hge := grownCap_ge w (n + m) cap e
      refine ⟨_, .at w.heap.size 0 (grownCap w (n + m) cap e) (grownCap w (n + m) cap e * i.size) [], _, hops _ _ _ hr hev, rfl, ⟨hge, by omega, rfl⟩, ?_⟩
      have hW1 : St C.O F (Pre ++ H1) w.drew := (hw.drew _).drop (List.sublist_append_right _ _)
      refine hW1.new (o := .cells (xs.toArray ++ ys.toArray ++ Builtin.zeroCells z.cells (grownCap w (n + m) cap e - (n + m))) e) rfl rfl rfl rfl rfl ?_
      refine ⟨(Builtin.zeroCells z.cells (grownCap w (n + m) cap e - (n + m))).toList, e, ?_, ?_⟩
      · show (w.drew.alloc _).heap[w.drew.heap.size]? = _
        rw [heap_alloc_new]
        congr 2
        apply Array.ext'
        simp
      · simp only [List.length_append, Array.length_toList, size_zeroCells, hzs, hl, hyl, ← Nat.add_mul, List.nil_append]
        congr 1
        omega

/-- The first element is left out. -/
theorem j_tailW {X : Act → World → Prop} (Pre : List Ent) {wf : Wf} {n : Nat} {x : Value} {xs : List Value} {Fr : List Ent} (hok : wf.ok 1 (n + 1))
    (h : ∀ wf' : Wf, wf'.ok 1 n → Go.sliced wf.addr 1 (n + 1) wf.cp 1 = wf'.val n → (xs.length = n → Jd C τ F (Pre ++ (wf'.ents xs ++ Fr)) X)) (hl : xs.length = n) : Jd C τ F (Pre ++ (wf.ents (x :: xs) ++ Fr)) X := by
  cases wf with
  | nil =>
    have : n + 1 = 0 := hok
    omega
  | «at» b off cp N pre =>
    obtain ⟨h1, h2, h3⟩ := hok
    by_cases hc : cp = 1
    · subst hc
      have hn : n = 0 := by omega
      subst hn
      have hx : xs = [] := List.eq_nil_of_length_eq_zero hl
      subst hx
      refine j_cut (C := C) (j := Pre.length) (k := off) (b := b) (n := N) (cs := pre ++ [x]) ?_ ?_
      · rw [List.getElem?_append_right (Nat.le_refl _), Nat.sub_self]; rfl
      · have := h (.at b off 0 N pre) ⟨by omega, by omega, h3⟩ (by simp [Go.sliced, Wf.addr, Wf.cp]) rfl
        rw [List.set_append_right _ _ (Nat.le_refl _), Nat.sub_self]
        show Jd C τ F (Pre ++ (.mem b ((pre ++ [x]).take off) N :: Fr)) X
        rw [← h3, List.take_left]
        show Jd C τ F (Pre ++ (.mem b pre N :: Fr)) X
        have e : (Wf.at b off 0 N pre).ents [] ++ Fr = .mem b pre N :: Fr := by simp [Wf.ents]
        rw [← e]
        exact this
    · have := h (.at b (off + 1) (cp - 1) N (pre ++ [x])) ⟨by omega, by omega, by simp [h3]⟩ (by
        have hadd : (⟨b, off, none⟩ : Addr).add (1 * 1) = ⟨b, off + 1, none⟩ := by simp [Addr.add]
        show Value.slice (if cp = 1 then some ⟨b, off, none⟩ else (some (⟨b, off, none⟩ : Addr)).map (·.add (1 * 1))) (n + 1 - 1) (cp - 1) = .slice (some ⟨b, off + 1, none⟩) n (cp - 1)
        rw [if_neg hc, Option.map_some, hadd]
        rfl) hl
      have e : (Wf.at b (off + 1) (cp - 1) N (pre ++ [x])).ents xs ++ Fr = (Wf.at b off cp N pre).ents (x :: xs) ++ Fr := by simp [Wf.ents]
      rw [e] at this
      exact this
end
end Go.SX
