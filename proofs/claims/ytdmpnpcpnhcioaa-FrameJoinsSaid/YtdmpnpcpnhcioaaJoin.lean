/-
  Contracts of package frame: a Joiner.
-/
import Derived.Test.YtdmpnpcpnhcioaaDelH
import Derived.Test.YtdmpnpcpnhcioaaSxVec
namespace Go.SX
open Go Go.Proofs
set_option maxRecDepth 4000
set_option linter.unusedSimpArgs false
set_option linter.unusedVariables false

/-- A message of which not all parts are there. -/
structure HP where
  id : Nat
  of : Nat
  rows : List (Option (List UInt8))
def HP.is (h : HP) (id of_ : Nat) : Bool := decide (h.id = id) && decide (h.of = of_)
/-- Is nothing there yet? -/
def isHole {α : Type} (l : List (Option α)) (a : Nat) : Bool := match l[a]? with
  | some none => true
  | _ => false
def putO {α : Type} (l : List (Option α)) (a : Nat) (x : α) : List (Option α) := if isHole l a = true then l.set a (some x) else l
/-- One more part: the messages then; one that is whole. -/
def joinAt (l : List HP) (i a : Nat) (d : List UInt8) : List HP × Option (List UInt8) :=
  match l[i]? with
  | none => (l, none)
  | some h =>
    if (putO h.rows a d).any Option.isNone then (l.set i ⟨h.id, h.of, putO h.rows a d⟩, none) else (l.eraseIdx i, some ((putO h.rows a d).flatMap fun r => r.getD []))
def joinT (l : List HP) (p : List UInt8) : List HP × Option (List UInt8) :=
  if (readB p).1 ≠ 0 then (l, none) else
  let i := l.findIdx fun h => h.is (readB p).2.1 (readB p).2.2.2.1
  if i < l.length then joinAt l i (readB p).2.2.1 (readB p).2.2.2.2
  else
    let l1 := if 16 ≤ l.length then l.drop 1 else l
    joinAt (l1 ++ [⟨(readB p).2.1, (readB p).2.2.2.1, List.replicate (readB p).2.2.2.1 none⟩]) l1.length (readB p).2.2.1 (readB p).2.2.2.2

/-- The same in memory: its numbers, how many are there, the block of its parts, and they. -/
structure Hf where
  id : Nat
  of : Nat
  hv : Nat
  b : Nat
  rows : List (Option Row)
def cellR : Option Row → Value
  | none => .slice none 0 0
  | some r => r.1
def Hf.cells (h : Hf) : List Value := [.int .u64 h.id, .int .i64 h.of, .int .i64 h.hv, .slice (some ⟨h.b, 0, none⟩) h.of h.of]
def Hf.blk (h : Hf) : Ent := .mem h.b (h.rows.map cellR) (h.of * 1)
def Hf.abs (h : Hf) : HP := ⟨h.id, h.of, h.rows.map fun r => r.map (·.2)⟩
abbrev hfV (l : List Hf) : List Value := l.flatMap Hf.cells
theorem Hf.cells_len (h : Hf) : h.cells.length = 4 := rfl
theorem Hf.cells_one (h : Hf) : h.cells.all oneCellB = true := rfl
def cntR (l : List (Option Row)) : Nat := (l.filter Option.isSome).length
structure Hf.ok (F : Fz) (h : Hf) : Prop where
  len : h.rows.length = h.of
  of : h.of < 65536
  id : h.id < 18446744073709551616
  hv : h.hv = cntR h.rows
  fz : ∀ r, some r ∈ h.rows → SlB F [] r.1 r.2 ∧ (∃ a l c, r.1 = .slice (some a) l c) ∧ r.2.length ≤ 4096
theorem Hf.ok.frz {F F' : Fz} {h : Hf} (ho : h.ok F) (hle : F.le F') : h.ok F' := ⟨ho.len, ho.of, ho.id, ho.hv, fun r hr => ⟨(ho.fz r hr).1.frz hle, (ho.fz r hr).2⟩⟩
abbrev JE (j : Nat) (bf : Bf) (n : Nat) : Ent := .mem j [bf.val n] 1
abbrev JH (j : Nat) (bf : Bf) (hs : List Hf) (Fr : List Ent) : List Ent := JE j bf hs.length :: (bf.ents 4 (hfV hs) ++ (hs.map Hf.blk ++ Fr))

theorem cntR_le (l : List (Option Row)) : cntR l ≤ l.length := List.length_filter_le _ _
theorem cntR_lt (l : List (Option Row)) : cntR l < l.length ↔ l.any Option.isNone = true := by
  unfold cntR
  induction l with
  | nil => simp
  | cons a r ih =>
    have hle := List.length_filter_le Option.isSome r
    cases a with
    | none => simp; omega
    | some x => simp [ih]
theorem cntR_set {l : List (Option Row)} {a : Nat} {x : Row} (h : l[a]? = some none) : cntR (l.set a (some x)) = cntR l + 1 := by
  unfold cntR
  induction l generalizing a with
  | nil => simp at h
  | cons y r ih =>
    cases a with
    | zero =>
      simp at h
      subst h
      simp
    | succ a =>
      have := ih (a := a) (by simpa using h)
      cases y with
      | none => simpa using this
      | some z => simp; omega

/-! ### Which message -/

theorem j_isHalf (O : World) (F : Fz) (h : Hf) (x id a of_ : Nat) (dv : Value) (H : List Ent) (hx : Ent.mem x [.int .u64 id, .int .i64 a, .int .i64 of_, dv] 4 ∈ H) :
    Does Try.prog O 35 #[.agg h.cells.toArray, ptrV x] F H (fun r F' H' => r = .bool (h.abs.is id of_) ∧ F' = F ∧ H' = H) := by
  refine does_of_run (args := [_, _]) Try.func35 rfl rfl ?_
  have hcx : ∀ F H j c, Ent.mem x [.int .u64 id, .int .i64 a, .int .i64 of_, dv] 4 ∈ H → [Value.int .u64 id, .int .i64 a, .int .i64 of_, dv][j]? = some c → Cell F H x (0 + j) c := fun F H j c hm hc => by
    rw [Nat.zero_add]
    exact cell_own hm hc
  have hr : h.abs.is id of_ = (decide (h.id = id) && decide (h.of = of_)) := rfl
  rw [hr]
  refine r_seq ?_
  refine r_region rfl ?_
  refine o_act rfl rfl rfl rfl (a_box rfl) ?_
  rintro v' H' ⟨y, rfl, rfl⟩
  refine j_heap (H' := .mem y h.cells 4 :: H) rfl ?_
  refine o_val rfl rfl rfl rfl (v_assign rfl) ?_
  refine o_end ?_
  refine r_seq ?_
  refine r_region rfl ?_
  refine o_val rfl rfl rfl rfl (v_field (k := 0) rfl rfl rfl) ?_
  refine o_val rfl rfl rfl rfl (v_load (v := .int .u64 h.id) rfl rfl (cell_at (j := 0) rfl rfl)) ?_
  refine o_val rfl rfl rfl rfl (v_field (k := 0) rfl rfl rfl) ?_
  refine o_val rfl rfl rfl rfl (v_load (v := .int .u64 id) rfl rfl (hcx _ _ 0 _ (by simp [hx]) rfl)) ?_
  refine o_val rfl rfl rfl rfl (v_eql rfl rfl) ?_
  refine j_drop (H' := .mem y h.cells 4 :: H) (List.Sublist.refl _) ?_
  refine j_prop 8 rfl (fun h1 => ?_) (fun h1 => ?_)
  · refine o_val rfl rfl rfl rfl (v_move rfl) ?_
    refine o_val rfl rfl rfl rfl (v_field (k := 1) rfl rfl rfl) ?_
    refine o_val rfl rfl rfl rfl (v_load (v := .int .i64 h.of) rfl rfl (cell_at (j := 0) rfl rfl)) ?_
    refine o_val rfl rfl rfl rfl (v_field (k := 2) rfl rfl rfl) ?_
    refine o_val rfl rfl rfl rfl (v_load (v := .int .i64 of_) rfl rfl (hcx _ _ 2 _ (by simp [hx]) rfl)) ?_
    refine o_val rfl rfl rfl rfl (v_eql rfl rfl) ?_
    refine o_val rfl rfl rfl rfl (v_pick1 rfl rfl) ?_
    refine o_val rfl rfl rfl rfl (v_assign rfl) ?_
    refine o_end ?_
    refine j_drop (List.sublist_cons_self _ _) ?_
    have e6 : ((h.of : Int) = of_) ↔ h.of = of_ := by omega
    refine r_ret1 Try.func35 rfl rfl ⟨⟨?_, rfl, rfl⟩, Fz.le_refl _⟩
    rw [decide_eq_true (p := h.id = id) (by omega), Bool.true_and]
    congr 1
    exact decide_eq_decide.2 e6
  · refine o_val rfl rfl rfl rfl (v_move rfl) ?_
    refine o_skip rfl rfl rfl rfl ?_
    refine o_skip rfl rfl rfl rfl ?_
    refine o_skip rfl rfl rfl rfl ?_
    refine o_skip rfl rfl rfl rfl ?_
    refine o_skip rfl rfl rfl rfl ?_
    refine o_val rfl rfl rfl rfl (v_pick0 rfl rfl) ?_
    refine o_val rfl rfl rfl rfl (v_assign rfl) ?_
    refine o_end ?_
    refine j_drop (List.sublist_cons_self _ _) ?_
    refine r_ret1 Try.func35 rfl rfl ⟨⟨?_, rfl, rfl⟩, Fz.le_refl _⟩
    rw [decide_eq_false (p := h.id = id) (by omega), Bool.false_and]

theorem j_Index (O : World) (F : Fz) (v : Value) (hs : List Hf) (x id a of_ : Nat) (dv : Value) (H : List Ent) (hv : Sl F H 4 v hs.length (hfV hs)) (hx : Ent.mem x [.int .u64 id, .int .i64 a, .int .i64 of_, dv] 4 ∈ H) (hn : hs.length ≤ 1000000) :
    Does Try.prog O 34 #[v, .func (.func 35) #[] #[ptrV x]] F H
      (fun r F' H' => (∃ n : Int, r = .int .i64 n ∧ (n < 0 ↔ ¬ hs.findIdx (fun h => h.abs.is id of_) < hs.length) ∧ (hs.findIdx (fun h => h.abs.is id of_) < hs.length → n = hs.findIdx (fun h => h.abs.is id of_))) ∧ F' = F ∧ H' = H) := by
  obtain ⟨a0, cap, rfl, hcap⟩ := Sl.shape hv
  refine does_of_run (args := [_, _]) Try.func34 rfl rfl ?_
  refine r_seq ?_
  refine r_region rfl ?_
  refine o_val rfl rfl rfl rfl (v_assign rfl) ?_
  refine o_end ?_
  refine r_seq ?_
  refine r_seq ?_
  refine r_region rfl ?_
  refine o_val rfl rfl rfl rfl (v_move rfl) ?_
  refine o_val rfl rfl rfl rfl (v_len rfl rfl) ?_
  refine o_val rfl rfl rfl rfl (v_move rfl) ?_
  refine o_end ?_
  refine r_block ?_
  refine r_loop (fun i : Nat => i ≤ hs.length ∧ ∀ (j : Nat) (h : j < hs.length), j < i → hs[j].abs.is id of_ = false) (fun i => [(0, .slice a0 hs.length cap), (1, .func (.func 35) #[] #[ptrV x]), (7, .int .i64 hs.length), (8, .int .i64 i)]) (fun _ => F) (fun _ => H) (fun i => hs.length - i) 0 ⟨Nat.zero_le _, fun j _ h => by omega⟩ ⟨rfl, rfl, rfl, rfl, trivial⟩ rfl rfl ?_
  rintro i ⟨hi, hz⟩ IH
  refine r_seq ?_
  refine r_region rfl ?_
  refine o_val rfl rfl rfl rfl (v_lss rfl rfl) ?_
  refine o_end ?_
  refine r_seq ?_
  refine r_if rfl (fun h => ?_) (fun h => ?_)
  · have hil : i < hs.length := by omega
    obtain ⟨b0, off0, c0, hab, _, hc0⟩ := Sl.view hv (by omega)
    simp only [Value.slice.injEq] at hab
    obtain ⟨rfl, _, rfl⟩ := hab
    have hcell : ∀ j c, hs[i].cells[j]? = some c → Cell F H b0 (off0 + i * 4 + j) c := fun j c hj => by
      have hj4 : j < 4 := by
        rcases Nat.lt_or_ge j 4 with h | h
        · exact h
        · rw [List.getElem?_eq_none (by rw [Hf.cells_len]; exact h)] at hj; cases hj
      have := hc0 (i * 4 + j) c (by rw [vec_get Hf.cells_len hs i hil j hj4]; exact hj)
      rw [← Nat.add_assoc] at this
      exact this
    refine r_skip ?_
    refine r_seq ?_
    refine r_block ?_
    refine r_seq ?_
    refine r_region rfl ?_
    refine o_val rfl rfl rfl rfl (v_move rfl) ?_
    refine o_val rfl rfl rfl rfl (v_assign rfl) ?_
    refine o_end ?_
    refine r_seq ?_
    refine r_region rfl ?_
    refine o_val rfl rfl rfl rfl (v_move rfl) ?_
    refine o_val rfl rfl rfl rfl (v_move rfl) ?_
    refine o_val rfl rfl rfl rfl (v_move rfl) ?_
    refine o_val rfl rfl rfl rfl (v_indexN (sz := 4) rfl rfl rfl rfl hil) ?_
    refine o_val rfl rfl rfl rfl (v_loadAgg (sz := 4) (cs := hs[i].cells) rfl rfl rfl rfl hcell) ?_
    refine o_call rfl rfl rfl rfl (c_callv rfl callable35 rfl) (j_isHalf _ _ hs[i] x id a of_ dv H hx) ?_
    rintro v' F H ⟨rfl, rfl, rfl⟩ _
    cases hq : hs[i].abs.is id of_ with
    | true =>
      have hfi : hs.findIdx (fun h => h.abs.is id of_) = i := by
        rw [List.findIdx_eq hil]
        exact ⟨hq, fun j hj => hz j (by omega) hj⟩
      refine o_end ?_
      refine r_true rfl ?_
      refine r_seq ?_
      refine r_region rfl ?_
      refine o_val rfl rfl rfl rfl (v_move rfl) ?_
      refine o_val rfl rfl rfl rfl (v_assign rfl) ?_
      refine o_end ?_
      exact r_ret1 Try.func34 rfl rfl ⟨⟨⟨_, rfl, by rw [hfi]; omega, fun _ => by rw [hfi]⟩, rfl, rfl⟩, Fz.le_refl _⟩
    | false =>
      refine o_end ?_
      refine r_false rfl ?_
      refine r_skip ?_
      refine r_inBlock ?_
      refine r_region rfl ?_
      refine o_val rfl rfl rfl rfl (v_add rfl rfl (wrap_i64 (by omega) (by omega))) ?_
      refine o_val rfl rfl rfl rfl (v_move rfl) ?_
      refine o_end ?_
      refine j_keep ?_ (IH (i + 1) ⟨hil, fun j hj hji => by
        by_cases hje : j = i
        · subst hje; exact hq
        · exact hz j hj (by omega)⟩ (by omega))
      exact ⟨rfl, rfl, rfl, rfl, trivial⟩
  · have hfi : ¬ hs.findIdx (fun h => h.abs.is id of_) < hs.length := fun hlt => by
      have := List.findIdx_getElem (w := hlt)
      rw [hz _ hlt (by omega)] at this
      cases this
    refine r_exit rfl ?_
    refine r_seq ?_
    refine r_region rfl ?_
    refine o_val rfl rfl rfl rfl (v_assign rfl) ?_
    refine o_end ?_
    exact r_ret1 Try.func34 rfl rfl ⟨⟨⟨_, rfl, by omega, fun h => absurd h hfi⟩, rfl, rfl⟩, Fz.le_refl _⟩

theorem j_Len0 (O : World) (F : Fz) (Fr : List Ent) : Does Try.prog O 20 #[nilP] F Fr (fun r F' H' => r = .int .i64 0 ∧ F' = F ∧ H' = Fr) := by
  refine does_of_run (args := [_]) Try.func20 rfl rfl ?_
  refine r_seq ?_
  refine r_region rfl ?_
  refine o_val rfl rfl rfl rfl (v_assign rfl) ?_
  refine o_end ?_
  refine r_seq ?_
  refine r_seq ?_
  refine r_region rfl ?_
  refine o_val rfl rfl rfl rfl (v_move rfl) ?_
  refine o_val rfl rfl rfl rfl (v_peqnil rfl rfl rfl) ?_
  refine o_end ?_
  refine r_true rfl ?_
  refine r_seq ?_
  refine r_region rfl ?_
  refine o_val rfl rfl rfl rfl (v_assign rfl) ?_
  refine o_end ?_
  exact r_ret1 Try.func20 rfl rfl ⟨⟨rfl, rfl, rfl⟩, Fz.le_refl _⟩
theorem j_Len (O : World) (F : Fz) (j : Nat) (bf : Bf) (n : Nat) (Fr : List Ent) : Does Try.prog O 20 #[ptrV j] F (JE j bf n :: Fr) (fun r F' H' => r = .int .i64 n ∧ F' = F ∧ H' = JE j bf n :: Fr) := by
  refine does_of_run (args := [_]) Try.func20 rfl rfl ?_
  refine r_seq ?_
  refine r_region rfl ?_
  refine o_val rfl rfl rfl rfl (v_assign rfl) ?_
  refine o_end ?_
  refine r_seq ?_
  refine r_seq ?_
  refine r_region rfl ?_
  refine o_val rfl rfl rfl rfl (v_move rfl) ?_
  refine o_val rfl rfl rfl rfl (v_peqnil rfl rfl rfl) ?_
  refine o_end ?_
  refine r_false rfl ?_
  refine r_skip ?_
  refine r_seq ?_
  refine r_region rfl ?_
  refine o_val rfl rfl rfl rfl (v_move rfl) ?_
  refine o_val rfl rfl rfl rfl (v_nilCheck rfl) ?_
  refine o_val rfl rfl rfl rfl (v_field (k := 0) rfl rfl rfl) ?_
  refine o_val rfl rfl rfl rfl (v_load rfl rfl (cell_at (j := 0) rfl rfl)) ?_
  refine o_val rfl rfl rfl rfl (v_len rfl rfl) ?_
  refine o_val rfl rfl rfl rfl (v_assign rfl) ?_
  refine o_end ?_
  exact r_ret1 Try.func20 rfl rfl ⟨⟨rfl, rfl, rfl⟩, Fz.le_refl _⟩
theorem j_Take0 (O : World) (F : Fz) (v : Value) (p : List UInt8) (Fr : List Ent) (hv : SlB F [] v p) (hl : p.length ≤ 140737488350000) :
    Does Try.prog O 18 #[nilP, v] F Fr (fun r F' H' => r = .tuple #[.slice none 0 0, .bool false] ∧ F.le F' ∧ H' = Fr) := by
  refine does_of_run (args := [_, _]) Try.func18 rfl rfl ?_
  refine r_seq ?_
  refine r_region rfl ?_
  refine o_val rfl rfl rfl rfl (v_assign rfl) ?_
  refine o_val rfl rfl rfl rfl (v_assign rfl) ?_
  refine o_end ?_
  refine r_seq ?_
  refine r_region rfl ?_
  refine o_val rfl rfl rfl rfl (v_move rfl) ?_
  refine o_call rfl rfl rfl rfl (c_call callable17 rfl) (fr_Read _ _ _ p _ hv hl) ?_
  rintro v' F2 H' ⟨hF2, rfl, dv, rfl, hdv⟩ _
  obtain ⟨ad, cd, rfl, _⟩ := Sl.shape hdv
  refine o_val rfl rfl rfl rfl (v_move rfl) ?_
  refine o_val rfl rfl rfl rfl (v_extract rfl rfl) ?_
  refine o_val rfl rfl rfl rfl (v_extract rfl rfl) ?_
  refine o_act rfl rfl rfl rfl (a_alloc rfl) ?_
  rintro v' H' ⟨y, rfl, rfl⟩
  refine o_act0 rfl rfl rfl (a_store (sz := 4) 0 rfl rfl rfl rfl rfl rfl (Nat.le_of_ble_eq_true rfl)) ?_
  refine j_drop (List.sublist_cons_self _ _) ?_
  refine o_val rfl rfl rfl rfl (v_assign rfl) ?_
  refine o_end ?_
  refine r_seq ?_
  refine r_seq ?_
  refine r_region rfl ?_
  refine o_val rfl rfl rfl rfl (v_move rfl) ?_
  refine o_val rfl rfl rfl rfl (v_peqnil rfl rfl rfl) ?_
  refine o_val rfl rfl rfl rfl (v_move rfl) ?_
  refine o_skip rfl rfl rfl rfl ?_
  refine o_skip rfl rfl rfl rfl ?_
  refine o_val rfl rfl rfl rfl (v_pick1 rfl rfl) ?_
  refine o_end ?_
  refine r_true rfl ?_
  refine r_seq ?_
  refine r_region rfl ?_
  refine o_val rfl rfl rfl rfl (v_assign rfl) ?_
  refine o_val rfl rfl rfl rfl (v_assign rfl) ?_
  refine o_end ?_
  exact r_ret2 Try.func18 rfl rfl rfl ⟨⟨rfl, hF2, rfl⟩, hF2⟩
end Go.SX
