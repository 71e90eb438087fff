/-
  Contracts of package logs.
-/
import Derived.Test.YthhcfpignfiabaaSxLaw
import Derived.Test.YthhcfpignfiabaaSxMore
import Derived.Test.YthhcfpignfiabaaFn
import Derived.Test.YthhcfpignfiabaaProg
namespace Go.SX
open Go Go.Proofs
set_option linter.unusedSimpArgs false
set_option linter.unusedVariables false

/-- An entry: its numbers, the value of its bytes, and they. -/
structure En where
  ix : Nat
  tm : Nat
  kd : Nat
  dv : Value
  data : List UInt8
def En.cells (e : En) : List Value := [.int .u64 e.ix, .int .u64 e.tm, .int .u8 e.kd, e.dv]
def enV (l : List En) : List Value := l.flatMap En.cells
structure En.ok (F : Fz) (e : En) : Prop where
  ix : e.ix < 18446744073709551616
  tm : e.tm < 18446744073709551616
  kd : e.kd < 256
  dv : SlB F [] e.dv e.data
theorem En.ok.frz {F F' : Fz} {e : En} (h : e.ok F) (hF : F.le F') : e.ok F' := ⟨h.ix, h.tm, h.kd, h.dv.frz hF⟩
theorem En.ok.one {F : Fz} {e : En} (h : e.ok F) : e.cells.all oneCellB = true := by
  obtain ⟨a, c, hd, _⟩ := Sl.shape h.dv
  simp [En.cells, hd, oneCellB]
@[simp] theorem enV_length (l : List En) : (enV l).length = l.length * 4 := by
  induction l with
  | nil => rfl
  | cons e r ih => simp only [enV, List.flatMap_cons, List.length_append, List.length_cons] at ih ⊢; rw [ih]; simp [En.cells]; omega
theorem enV_append (l m : List En) : enV (l ++ m) = enV l ++ enV m := by simp [enV]
theorem enV_get : ∀ (l : List En) (i : Nat) (hi : i < l.length) (j : Nat), j < 4 → (enV l)[i * 4 + j]? = l[i].cells[j]?
  | e :: r, 0, _, j, hj => by
    simp only [enV, List.flatMap_cons, Nat.zero_mul, Nat.zero_add, List.getElem_cons_zero]
    rw [List.getElem?_append_left (by simp [En.cells]; omega)]
  | e :: r, i + 1, hi, j, hj => by
    have ih := enV_get r i (by simpa using hi) j hj
    simp only [enV, List.flatMap_cons, List.getElem_cons_succ] at ih ⊢
    rw [List.getElem?_append_right (by simp [En.cells]; omega), ← ih]
    congr 1
    simp [En.cells]
    omega

abbrev LgE (a ix tm vt : Nat) (bf : Bf) (n : Nat) : Ent := .mem a [.int .u64 ix, .int .u64 tm, .int .u64 vt, bf.val n] 4
abbrev LgH (a ix tm vt : Nat) (bf : Bf) (l : List En) (Fr : List Ent) : List Ent := LgE a ix tm vt bf l.length :: (bf.ents 4 (enV l) ++ Fr)

theorem lg_Last0 (O : World) (F : Fz) (Fr : List Ent) : Does Try.prog O 17 #[nilP] F Fr (fun r F' H' => r = .int .u64 0 ∧ F' = F ∧ H' = Fr) := by
  refine does_of_run (args := [_]) Try.func17 rfl rfl ?_
  refine r_seq ?_
  refine r_region rfl ?_
  refine o_val rfl rfl rfl rfl (v_assign rfl) ?_
  refine o_end ?_
  refine r_seq ?_
  refine r_seq ?_
  refine r_region rfl ?_
  refine o_val rfl rfl rfl rfl (v_move rfl) ?_
  refine o_val rfl rfl rfl rfl (v_peqnil rfl rfl rfl) ?_
  refine o_end ?_
  refine r_true rfl ?_
  refine r_seq ?_
  refine r_region rfl ?_
  refine o_val rfl rfl rfl rfl (v_assign rfl) ?_
  refine o_end ?_
  exact r_ret1 Try.func17 rfl rfl ⟨⟨rfl, rfl, rfl⟩, Fz.le_refl _⟩
theorem lg_Last (O : World) (F : Fz) (a ix tm vt : Nat) (bf : Bf) (n : Nat) (Fr : List Ent) (hb : ix + n < 18446744073709551616) :
    Does Try.prog O 17 #[ptrV a] F (LgE a ix tm vt bf n :: Fr) (fun r F' H' => r = .int .u64 (ix + n : Nat) ∧ F' = F ∧ H' = LgE a ix tm vt bf n :: Fr) := by
  refine does_of_run (args := [_]) Try.func17 rfl rfl ?_
  refine r_seq ?_
  refine r_region rfl ?_
  refine o_val rfl rfl rfl rfl (v_assign rfl) ?_
  refine o_end ?_
  refine r_seq ?_
  refine r_seq ?_
  refine r_region rfl ?_
  refine o_val rfl rfl rfl rfl (v_move rfl) ?_
  refine o_val rfl rfl rfl rfl (v_peqnil rfl rfl rfl) ?_
  refine o_end ?_
  refine r_false rfl ?_
  refine r_skip ?_
  refine r_seq ?_
  refine d_region 1000000 rfl ([LgE a ix tm vt bf n]) ?_
  refine d_take (i := 0) rfl rfl rfl (by decide +kernel) (by decide +kernel) (by decide +kernel) (Fz.le_refl _) (by simp) rfl (v_move rfl) ?_
  refine d_take (i := 1) rfl rfl rfl (by decide +kernel) (by decide +kernel) (by decide +kernel) (Fz.le_refl _) (by simp) rfl (v_nilCheck rfl) ?_
  refine d_take (i := 2) rfl rfl rfl (by decide +kernel) (by decide +kernel) (by decide +kernel) (Fz.le_refl _) (by simp) rfl (v_field (k := 0) rfl rfl rfl) ?_
  refine d_take (i := 3) rfl rfl rfl (by decide +kernel) (by decide +kernel) (by decide +kernel) (Fz.le_refl _) (by simp) rfl (v_load rfl rfl (cell_at (j := 0) rfl rfl)) ?_
  refine d_take (i := 4) rfl rfl rfl (by decide +kernel) (by decide +kernel) (by decide +kernel) (Fz.le_refl _) (by simp) rfl (v_move rfl) ?_
  refine d_take (i := 5) rfl rfl rfl (by decide +kernel) (by decide +kernel) (by decide +kernel) (Fz.le_refl _) (by simp) rfl (v_nilCheck rfl) ?_
  refine d_take (i := 6) rfl rfl rfl (by decide +kernel) (by decide +kernel) (by decide +kernel) (Fz.le_refl _) (by simp) rfl (v_field (k := 3) rfl rfl rfl) ?_
  refine d_take (i := 7) rfl rfl rfl (by decide +kernel) (by decide +kernel) (by decide +kernel) (Fz.le_refl _) (by simp) rfl (v_load rfl rfl (cell_at (j := 0) rfl rfl)) ?_
  refine d_take (i := 8) rfl rfl rfl (by decide +kernel) (by decide +kernel) (by decide +kernel) (Fz.le_refl _) (by simp) rfl (v_len rfl rfl) ?_
  refine d_take (i := 9) rfl rfl rfl (by decide +kernel) (by decide +kernel) (by decide +kernel) (Fz.le_refl _) (by simp) rfl (v_conv rfl rfl rfl (wrap_u64 (by omega) (by omega))) ?_
  refine d_take (i := 10) rfl rfl rfl (by decide +kernel) (by decide +kernel) (by decide +kernel) (Fz.le_refl _) (by simp) rfl (v_add rfl rfl (r := ((ix + n : Nat) : Int)) (wrap_u64 (by omega) (by omega))) ?_
  refine d_take (i := 11) rfl rfl rfl (by decide +kernel) (by decide +kernel) (by decide +kernel) (Fz.le_refl _) (by simp) rfl (v_assign rfl) ?_
  refine d_end (by decide +kernel) ?_
  exact r_ret1 Try.func17 rfl rfl ⟨⟨rfl, rfl, rfl⟩, Fz.le_refl _⟩

/-- The term of an index, and whether it is there. -/
def lgTerm (ix tm : Nat) (l : List En) (i : Nat) : Nat × Bool :=
  if i < ix ∨ ix + l.length < i then (0, false) else if i = ix then (tm, true) else (((l[i - ix - 1]?).map En.tm).getD 0, true)

theorem lg_Term0 (O : World) (F : Fz) (i : Nat) (Fr : List Ent) : Does Try.prog O 26 #[nilP, .int .u64 i] F Fr (fun r F' H' => r = .tuple #[.int .u64 0, .bool false] ∧ F' = F ∧ H' = Fr) := by
  refine does_of_run (args := [_, _]) Try.func26 rfl rfl ?_
  refine r_seq ?_
  refine r_region rfl ?_
  refine o_val rfl rfl rfl rfl (v_assign rfl) ?_
  refine o_val rfl rfl rfl rfl (v_assign rfl) ?_
  refine o_end ?_
  refine r_seq ?_
  refine r_block ?_
  refine r_seq ?_
  refine r_region rfl ?_
  refine o_val rfl rfl rfl rfl (v_move rfl) ?_
  refine o_val rfl rfl rfl rfl (v_peqnil rfl rfl rfl) ?_
  refine o_val rfl rfl rfl rfl (v_move rfl) ?_
  refine o_skip rfl rfl rfl rfl ?_
  refine o_skip rfl rfl rfl rfl ?_
  refine o_skip rfl rfl rfl rfl ?_
  refine o_skip rfl rfl rfl rfl ?_
  refine o_skip rfl rfl rfl rfl ?_
  refine o_skip rfl rfl rfl rfl ?_
  refine o_val rfl rfl rfl rfl (v_pick1 rfl rfl) ?_
  refine o_val rfl rfl rfl rfl (v_move rfl) ?_
  refine o_skip rfl rfl rfl rfl ?_
  refine o_skip rfl rfl rfl rfl ?_
  refine o_skip rfl rfl rfl rfl ?_
  refine o_skip rfl rfl rfl rfl ?_
  refine o_val rfl rfl rfl rfl (v_pick1 rfl rfl) ?_
  refine o_val rfl rfl rfl rfl (v_assign rfl) ?_
  refine o_end ?_
  refine r_true rfl ?_
  refine r_seq ?_
  refine r_region rfl ?_
  refine o_val rfl rfl rfl rfl (v_assign rfl) ?_
  refine o_val rfl rfl rfl rfl (v_assign rfl) ?_
  refine o_end ?_
  exact r_ret2 Try.func26 rfl rfl rfl ⟨⟨rfl, rfl, rfl⟩, Fz.le_refl _⟩
theorem lg_Term (O : World) (F : Fz) (a ix tm vt : Nat) (bf : Bf) (l : List En) (i : Nat) (Fr : List Ent) (hb : ix + l.length < 18446744073709551616) (hok : bf.ok l.length) (hi : i < 18446744073709551616) :
    Does Try.prog O 26 #[ptrV a, .int .u64 i] F (LgH a ix tm vt bf l Fr)
      (fun r F' H' => r = .tuple #[.int .u64 (lgTerm ix tm l i).1, .bool (lgTerm ix tm l i).2] ∧ F' = F ∧ H' = LgH a ix tm vt bf l Fr) := by
  refine does_of_run (args := [_, _]) Try.func26 rfl rfl ?_
  refine r_seq ?_
  refine r_region rfl ?_
  refine o_val rfl rfl rfl rfl (v_assign rfl) ?_
  refine o_val rfl rfl rfl rfl (v_assign rfl) ?_
  refine o_end ?_
  refine r_seq ?_
  refine r_block ?_
  refine r_seq ?_
  refine r_region rfl ?_
  refine o_val rfl rfl rfl rfl (v_move rfl) ?_
  refine o_val rfl rfl rfl rfl (v_peqnil rfl rfl rfl) ?_
  refine o_val rfl rfl rfl rfl (v_move rfl) ?_
  refine o_val rfl rfl rfl rfl (v_move rfl) ?_
  refine o_val rfl rfl rfl rfl (v_move rfl) ?_
  refine o_val rfl rfl rfl rfl (v_nilCheck rfl) ?_
  refine o_val rfl rfl rfl rfl (v_field (k := 0) rfl rfl rfl) ?_
  refine o_val rfl rfl rfl rfl (v_load rfl rfl (cell_at (j := 0) rfl rfl)) ?_
  refine o_val rfl rfl rfl rfl (v_lss rfl rfl) ?_
  refine o_val rfl rfl rfl rfl (v_pick0 rfl rfl) ?_
  refine o_val rfl rfl rfl rfl (v_move rfl) ?_
  refine j_prop 17 rfl (fun h1 => ?_) (fun h1 => ?_)
  · have hr : lgTerm ix tm l i = (0, false) := by unfold lgTerm; rw [if_pos (.inl (by omega))]
    refine o_skip rfl rfl rfl rfl ?_
    refine o_skip rfl rfl rfl rfl ?_
    refine o_skip rfl rfl rfl rfl ?_
    refine o_skip rfl rfl rfl rfl ?_
    refine o_val rfl rfl rfl rfl (v_pick1 rfl rfl) ?_
    refine o_val rfl rfl rfl rfl (v_assign rfl) ?_
    refine o_end ?_
    refine r_true rfl ?_
    refine r_seq ?_
    refine r_region rfl ?_
    refine o_val rfl rfl rfl rfl (v_assign rfl) ?_
    refine o_val rfl rfl rfl rfl (v_assign rfl) ?_
    refine o_end ?_
    rw [hr]
    exact r_ret2 Try.func26 rfl rfl rfl ⟨⟨rfl, rfl, rfl⟩, Fz.le_refl _⟩
  · refine o_val rfl rfl rfl rfl (v_move rfl) ?_
    refine o_val rfl rfl rfl rfl (v_move rfl) ?_
    refine o_call rfl rfl rfl rfl (c_call callable17 rfl) (lg_Last _ _ a ix tm vt bf l.length _ hb) ?_
    rintro v' F' H' ⟨rfl, rfl, rfl⟩ _
    refine o_val rfl rfl rfl rfl (v_gtr rfl rfl) ?_
    refine o_val rfl rfl rfl rfl (v_pick0 rfl rfl) ?_
    refine o_val rfl rfl rfl rfl (v_assign rfl) ?_
    refine o_end ?_
    refine r_if rfl (fun h2 => ?_) (fun h2 => ?_)
    · have hr : lgTerm ix tm l i = (0, false) := by unfold lgTerm; rw [if_pos (.inr (by omega))]
      refine r_seq ?_
      refine r_region rfl ?_
      refine o_val rfl rfl rfl rfl (v_assign rfl) ?_
      refine o_val rfl rfl rfl rfl (v_assign rfl) ?_
      refine o_end ?_
      rw [hr]
      exact r_ret2 Try.func26 rfl rfl rfl ⟨⟨rfl, rfl, rfl⟩, Fz.le_refl _⟩
    · refine r_seq ?_
      refine r_region rfl ?_
      refine o_val rfl rfl rfl rfl (v_move rfl) ?_
      refine o_val rfl rfl rfl rfl (v_move rfl) ?_
      refine o_val rfl rfl rfl rfl (v_nilCheck rfl) ?_
      refine o_val rfl rfl rfl rfl (v_field (k := 0) rfl rfl rfl) ?_
      refine o_val rfl rfl rfl rfl (v_load rfl rfl (cell_at (j := 0) rfl rfl)) ?_
      refine o_val rfl rfl rfl rfl (v_eql rfl rfl) ?_
      refine o_val rfl rfl rfl rfl (v_assign rfl) ?_
      refine o_end ?_
      refine r_if rfl (fun h3 => ?_) (fun h3 => ?_)
      · have hr : lgTerm ix tm l i = (tm, true) := by unfold lgTerm; rw [if_neg (by omega), if_pos (by omega)]
        refine r_seq ?_
        refine r_region rfl ?_
        refine o_val rfl rfl rfl rfl (v_move rfl) ?_
        refine o_val rfl rfl rfl rfl (v_nilCheck rfl) ?_
        refine o_val rfl rfl rfl rfl (v_field (k := 1) rfl rfl rfl) ?_
        refine o_val rfl rfl rfl rfl (v_load rfl rfl (cell_at (j := 0) rfl rfl)) ?_
        refine o_val rfl rfl rfl rfl (v_assign rfl) ?_
        refine o_val rfl rfl rfl rfl (v_assign rfl) ?_
        refine o_end ?_
        rw [hr]
        exact r_ret2 Try.func26 rfl rfl rfl ⟨⟨rfl, rfl, rfl⟩, Fz.le_refl _⟩
      · have hil : i - ix - 1 < l.length := by omega
        have hr : lgTerm ix tm l i = (l[i - ix - 1].tm, true) := by
          unfold lgTerm
          rw [if_neg (by omega), if_neg (by omega), List.getElem?_eq_getElem hil]
          rfl
        cases bf with
        | nil =>
          have : l.length = 0 := hok
          omega
        | «at» b c =>
          have hg := enV_get l _ hil 1 (by decide)
          refine r_skip ?_
          refine r_inBlock ?_
          refine r_seq ?_
          refine d_region 1000000 rfl ([LgE a ix tm vt (.at b c) l.length, .mem b (enV l) (c * 4)]) ?_
          refine d_take (i := 0) rfl rfl rfl (by decide +kernel) (by decide +kernel) (by decide +kernel) (Fz.le_refl _) (by intro e he; simp only [List.mem_cons, List.not_mem_nil, or_false] at he; rcases he with rfl | rfl <;> simp [LgH, Bf.ents]) rfl (v_move rfl) ?_
          refine d_take (i := 1) rfl rfl rfl (by decide +kernel) (by decide +kernel) (by decide +kernel) (Fz.le_refl _) (by intro e he; simp only [List.mem_cons, List.not_mem_nil, or_false] at he; rcases he with rfl | rfl <;> simp [LgH, Bf.ents]) rfl (v_nilCheck rfl) ?_
          refine d_take (i := 2) rfl rfl rfl (by decide +kernel) (by decide +kernel) (by decide +kernel) (Fz.le_refl _) (by intro e he; simp only [List.mem_cons, List.not_mem_nil, or_false] at he; rcases he with rfl | rfl <;> simp [LgH, Bf.ents]) rfl (v_field (k := 3) rfl rfl rfl) ?_
          refine d_take (i := 3) rfl rfl rfl (by decide +kernel) (by decide +kernel) (by decide +kernel) (Fz.le_refl _) (by intro e he; simp only [List.mem_cons, List.not_mem_nil, or_false] at he; rcases he with rfl | rfl <;> simp [LgH, Bf.ents]) rfl (v_load rfl rfl (cell_at (j := 0) rfl rfl)) ?_
          refine d_take (i := 4) rfl rfl rfl (by decide +kernel) (by decide +kernel) (by decide +kernel) (Fz.le_refl _) (by intro e he; simp only [List.mem_cons, List.not_mem_nil, or_false] at he; rcases he with rfl | rfl <;> simp [LgH, Bf.ents]) rfl (v_move rfl) ?_
          refine d_take (i := 5) rfl rfl rfl (by decide +kernel) (by decide +kernel) (by decide +kernel) (Fz.le_refl _) (by intro e he; simp only [List.mem_cons, List.not_mem_nil, or_false] at he; rcases he with rfl | rfl <;> simp [LgH, Bf.ents]) rfl (v_move rfl) ?_
          refine d_take (i := 6) rfl rfl rfl (by decide +kernel) (by decide +kernel) (by decide +kernel) (Fz.le_refl _) (by intro e he; simp only [List.mem_cons, List.not_mem_nil, or_false] at he; rcases he with rfl | rfl <;> simp [LgH, Bf.ents]) rfl (v_nilCheck rfl) ?_
          refine d_take (i := 7) rfl rfl rfl (by decide +kernel) (by decide +kernel) (by decide +kernel) (Fz.le_refl _) (by intro e he; simp only [List.mem_cons, List.not_mem_nil, or_false] at he; rcases he with rfl | rfl <;> simp [LgH, Bf.ents]) rfl (v_field (k := 0) rfl rfl rfl) ?_
          refine d_take (i := 8) rfl rfl rfl (by decide +kernel) (by decide +kernel) (by decide +kernel) (Fz.le_refl _) (by intro e he; simp only [List.mem_cons, List.not_mem_nil, or_false] at he; rcases he with rfl | rfl <;> simp [LgH, Bf.ents]) rfl (v_load rfl rfl (cell_at (j := 0) rfl rfl)) ?_
          refine d_take (i := 9) rfl rfl rfl (by decide +kernel) (by decide +kernel) (by decide +kernel) (Fz.le_refl _) (by intro e he; simp only [List.mem_cons, List.not_mem_nil, or_false] at he; rcases he with rfl | rfl <;> simp [LgH, Bf.ents]) rfl (v_sub rfl rfl (r := ((i - ix : Nat) : Int)) ((wrap_u64 (by omega) (by omega)).trans (by omega))) ?_
          refine d_take (i := 10) rfl rfl rfl (by decide +kernel) (by decide +kernel) (by decide +kernel) (Fz.le_refl _) (by intro e he; simp only [List.mem_cons, List.not_mem_nil, or_false] at he; rcases he with rfl | rfl <;> simp [LgH, Bf.ents]) rfl (v_sub rfl rfl (r := ((i - ix - 1 : Nat) : Int)) ((wrap_u64 (by omega) (by omega)).trans (by omega))) ?_
          refine d_take (i := 11) rfl rfl rfl (by decide +kernel) (by decide +kernel) (by decide +kernel) (Fz.le_refl _) (by intro e he; simp only [List.mem_cons, List.not_mem_nil, or_false] at he; rcases he with rfl | rfl <;> simp [LgH, Bf.ents]) rfl (v_indexN (sz := 4) rfl rfl rfl rfl hil) ?_
          refine d_take (i := 12) rfl rfl rfl (by decide +kernel) (by decide +kernel) (by decide +kernel) (Fz.le_refl _) (by intro e he; simp only [List.mem_cons, List.not_mem_nil, or_false] at he; rcases he with rfl | rfl <;> simp [LgH, Bf.ents]) rfl (v_field (k := 1) rfl rfl rfl) ?_
          refine d_take (i := 13) rfl rfl rfl (by decide +kernel) (by decide +kernel) (by decide +kernel) (Fz.le_refl _) (by intro e he; simp only [List.mem_cons, List.not_mem_nil, or_false] at he; rcases he with rfl | rfl <;> simp [LgH, Bf.ents]) rfl (v_load (v := .int .u64 l[i - ix - 1].tm) rfl rfl (cell_at (j := 1) rfl (by rw [Nat.zero_add]; exact hg))) ?_
          refine d_take (i := 14) rfl rfl rfl (by decide +kernel) (by decide +kernel) (by decide +kernel) (Fz.le_refl _) (by intro e he; simp only [List.mem_cons, List.not_mem_nil, or_false] at he; rcases he with rfl | rfl <;> simp [LgH, Bf.ents]) rfl (v_assign rfl) ?_
          refine d_take (i := 15) rfl rfl rfl (by decide +kernel) (by decide +kernel) (by decide +kernel) (Fz.le_refl _) (by intro e he; simp only [List.mem_cons, List.not_mem_nil, or_false] at he; rcases he with rfl | rfl <;> simp [LgH, Bf.ents]) rfl (v_assign rfl) ?_
          refine d_end (by decide +kernel) ?_
          rw [hr]
          exact r_ret2 Try.func26 rfl rfl rfl ⟨⟨rfl, rfl, rfl⟩, Fz.le_refl _⟩

def lgLastTerm (ix tm : Nat) (l : List En) : Nat := (lgTerm ix tm l (ix + l.length)).1
theorem lg_LastTerm0 (O : World) (F : Fz) (Fr : List Ent) : Does Try.prog O 14 #[nilP] F Fr (fun r F' H' => r = .int .u64 0 ∧ F' = F ∧ H' = Fr) := by
  refine does_of_run (args := [_]) Try.func14 rfl rfl ?_
  refine r_seq ?_
  refine r_region rfl ?_
  refine o_val rfl rfl rfl rfl (v_assign rfl) ?_
  refine o_end ?_
  refine r_seq ?_
  refine r_region rfl ?_
  refine o_val rfl rfl rfl rfl (v_move rfl) ?_
  refine o_val rfl rfl rfl rfl (v_move rfl) ?_
  refine o_call rfl rfl rfl rfl (c_call callable17 rfl) (lg_Last0 _ _ _) ?_
  rintro v' F' H' ⟨rfl, rfl, rfl⟩ _
  refine o_call rfl rfl rfl rfl (c_call callable26 rfl) (lg_Term0 _ _ 0 _) ?_
  rintro v' F' H' ⟨rfl, rfl, rfl⟩ _
  refine o_val rfl rfl rfl rfl (v_move rfl) ?_
  refine o_val rfl rfl rfl rfl (v_extract rfl rfl) ?_
  refine o_val rfl rfl rfl rfl (v_extract rfl rfl) ?_
  refine o_val rfl rfl rfl rfl (v_assign rfl) ?_
  refine o_val rfl rfl rfl rfl (v_assign rfl) ?_
  refine o_end ?_
  refine r_seq ?_
  refine r_region rfl ?_
  refine o_val rfl rfl rfl rfl (v_move rfl) ?_
  refine o_val rfl rfl rfl rfl (v_assign rfl) ?_
  refine o_end ?_
  exact r_ret1 Try.func14 rfl rfl ⟨⟨rfl, rfl, rfl⟩, Fz.le_refl _⟩
theorem lg_LastTerm (O : World) (F : Fz) (a ix tm vt : Nat) (bf : Bf) (l : List En) (Fr : List Ent) (hb : ix + l.length < 18446744073709551616) (hok : bf.ok l.length) :
    Does Try.prog O 14 #[ptrV a] F (LgH a ix tm vt bf l Fr) (fun r F' H' => r = .int .u64 (lgLastTerm ix tm l) ∧ F' = F ∧ H' = LgH a ix tm vt bf l Fr) := by
  refine does_of_run (args := [_]) Try.func14 rfl rfl ?_
  refine r_seq ?_
  refine r_region rfl ?_
  refine o_val rfl rfl rfl rfl (v_assign rfl) ?_
  refine o_end ?_
  refine r_seq ?_
  refine r_region rfl ?_
  refine o_val rfl rfl rfl rfl (v_move rfl) ?_
  refine o_val rfl rfl rfl rfl (v_move rfl) ?_
  refine o_call rfl rfl rfl rfl (c_call callable17 rfl) (lg_Last _ _ a ix tm vt bf l.length _ hb) ?_
  rintro v' F' H' ⟨rfl, rfl, rfl⟩ _
  refine o_call rfl rfl rfl rfl (c_call callable26 rfl) (lg_Term _ _ a ix tm vt bf l _ _ hb hok hb) ?_
  rintro v' F' H' ⟨rfl, rfl, rfl⟩ _
  refine o_val rfl rfl rfl rfl (v_move rfl) ?_
  refine o_val rfl rfl rfl rfl (v_extract rfl rfl) ?_
  refine o_val rfl rfl rfl rfl (v_extract rfl rfl) ?_
  refine o_val rfl rfl rfl rfl (v_assign rfl) ?_
  refine o_val rfl rfl rfl rfl (v_assign rfl) ?_
  refine o_end ?_
  refine r_seq ?_
  refine r_region rfl ?_
  refine o_val rfl rfl rfl rfl (v_move rfl) ?_
  refine o_val rfl rfl rfl rfl (v_assign rfl) ?_
  refine o_end ?_
  exact r_ret1 Try.func14 rfl rfl ⟨⟨rfl, rfl, rfl⟩, Fz.le_refl _⟩
end Go.SX
