/-
  Contracts of package disk.
-/
import Derived.Test.YtmpbgnffdpppbaaSxLaw
import Derived.Test.YtmpbgnffdpppbaaSxMore
import Derived.Test.YtmpbgnffdpppbaaFn
import Derived.Test.YtmpbgnffdpppbaaProg
namespace Go.SX
open Go Go.Proofs
set_option maxRecDepth 4000
set_option linter.unusedSimpArgs false
set_option linter.unusedVariables false

theorem sl_Clone (O : World) (F : Fz) (v : Value) (l : List UInt8) (Fr : List Ent) (hv : SlB F Fr v l) (hl : l.length ≤ 140737488355328) :
    Does Try.prog O 57 #[v] F Fr (fun r F' H' => F' = F ∧ ∃ bf : Bf, bf.ok l.length ∧ r = bf.val l.length ∧ H' = bf.ents 1 (bytesV l) ++ Fr) := by
  obtain ⟨a0, cap, rfl, hcap⟩ := Sl.shape hv
  refine does_of_run (args := [_]) Try.func57 rfl rfl ?_
  cases a0 with
  | none =>
    have hl0 : l = [] := by
      cases l with
      | nil => rfl
      | cons x r =>
        obtain ⟨a1, c1, h1, _, _, h4, h5⟩ := hv
        obtain ⟨b, off, hb, _⟩ := h5 0 (byteV x) rfl
        simp only [Value.slice.injEq] at h1
        rw [hb] at h1
        cases h1.1
    subst hl0
    refine r_seq ?_
    refine r_region rfl ?_
    refine o_val rfl rfl rfl rfl (v_assign rfl) ?_
    refine o_end ?_
    refine r_seq ?_
    refine r_seq ?_
    refine r_region rfl ?_
    refine o_val rfl rfl rfl rfl (v_move rfl) ?_
    refine o_val rfl rfl rfl rfl (v_slnil rfl rfl rfl) ?_
    refine o_end ?_
    refine r_true rfl ?_
    refine r_seq ?_
    refine r_region rfl ?_
    refine o_val rfl rfl rfl rfl (v_assign rfl) ?_
    refine o_end ?_
    exact r_ret1 Try.func57 rfl rfl ⟨⟨rfl, .nil, rfl, rfl, rfl⟩, Fz.le_refl _⟩
  | some x =>
    refine r_seq ?_
    refine r_region rfl ?_
    refine o_val rfl rfl rfl rfl (v_assign rfl) ?_
    refine o_end ?_
    refine r_seq ?_
    refine r_seq ?_
    refine r_region rfl ?_
    refine o_val rfl rfl rfl rfl (v_move rfl) ?_
    refine o_val rfl rfl rfl rfl (v_slnil rfl rfl rfl) ?_
    refine o_end ?_
    refine r_false rfl ?_
    refine r_skip ?_
    refine r_seq ?_
    refine r_region rfl ?_
    refine o_act rfl rfl rfl rfl (a_buildS0 rfl rfl) ?_
    rintro v' H' ⟨b, rfl, rfl⟩
    refine o_val rfl rfl rfl rfl (v_move rfl) ?_
    refine o_act rfl rfl rfl rfl (a_append (bf := .at b 0) (n := 0) (sz := 1) (bytes := 1) (xs := []) ⟨⟨_, _, _, rfl, rfl, rfl, rfl, rfl, rfl⟩, by decide⟩ rfl (Nat.le_refl _) rfl rfl rfl (hv.mono (Fz.le_refl _) (by simp)) (bytes_one _) (by unfold maxLen; omega) (by omega)) ?_
    rintro v' H' ⟨bf, rfl, hok, rfl⟩
    rw [Nat.zero_add] at hok ⊢
    refine o_val rfl rfl rfl rfl (v_assign rfl) ?_
    refine o_end ?_
    exact r_ret1 Try.func57 rfl rfl ⟨⟨rfl, bf, hok, rfl, rfl⟩, Fz.le_refl _⟩

/-- A disk. -/
abbrev DkE (a : Nat) (bf : Bf) (l : List UInt8) (sure ops : Nat) : Ent := .mem a [bf.val l.length, .int .i64 sure, .int .i64 ops] 3

theorem dk_New (O : World) (F : Fz) (Fr : List Ent) : Does Try.prog O 24 #[] F Fr (fun r F' H' => F' = F ∧ ∃ a, r = ptrV a ∧ H' = DkE a .nil [] 0 0 :: Fr) := by
  refine does_of_run (args := []) Try.func24 rfl rfl ?_
  refine r_seq ?_
  refine r_region rfl ?_
  refine o_val rfl rfl rfl rfl (v_assign rfl) ?_
  refine o_end ?_
  refine r_seq ?_
  refine r_region rfl ?_
  refine o_val rfl rfl rfl rfl (v_build rfl rfl) ?_
  refine o_act rfl rfl rfl rfl (a_box rfl) ?_
  rintro v' H' ⟨a, rfl, rfl⟩
  refine o_val rfl rfl rfl rfl (v_assign rfl) ?_
  refine o_end ?_
  exact r_ret1 Try.func24 rfl rfl ⟨⟨rfl, a, rfl, rfl⟩, Fz.le_refl _⟩

theorem dk_Append0 (O : World) (F : Fz) (v : Value) (Fr : List Ent) : Does Try.prog O 29 #[nilP, v] F Fr (fun r F' H' => r = .int .i64 2 ∧ F' = F ∧ H' = Fr) := by
  refine does_of_run (args := [_, _]) Try.func29 rfl rfl ?_
  refine r_seq ?_
  refine r_region rfl ?_
  refine o_val rfl rfl rfl rfl (v_assign rfl) ?_
  refine o_end ?_
  refine r_seq ?_
  refine r_seq ?_
  refine r_region rfl ?_
  refine o_val rfl rfl rfl rfl (v_move rfl) ?_
  refine o_val rfl rfl rfl rfl (v_peqnil rfl rfl rfl) ?_
  refine o_end ?_
  refine r_true rfl ?_
  refine r_seq ?_
  refine r_region rfl ?_
  refine o_val rfl rfl rfl rfl (v_assign rfl) ?_
  refine o_end ?_
  exact r_ret1 Try.func29 rfl rfl ⟨⟨rfl, rfl, rfl⟩, Fz.le_refl _⟩
theorem dk_Append (O : World) (F : Fz) (a : Nat) (bf : Bf) (l m : List UInt8) (sure ops : Nat) (v : Value) (Fr : List Ent) (hok : bf.ok l.length) (hv : SlB F Fr v m) (hl : l.length + m.length ≤ 140737488355328) (ho : ops ≤ 9223372036854775806) :
    Does Try.prog O 29 #[ptrV a, v] F (DkE a bf l sure ops :: (bf.ents 1 (bytesV l) ++ Fr))
      (fun r F' H' => r = .int .i64 0 ∧ F' = F ∧ ∃ bf' : Bf, bf'.ok (l ++ m).length ∧ H' = DkE a bf' (l ++ m) sure (ops + 1) :: (bf'.ents 1 (bytesV (l ++ m)) ++ Fr)) := by
  refine does_of_run (args := [_, _]) Try.func29 rfl rfl ?_
  refine r_seq ?_
  refine r_region rfl ?_
  refine o_val rfl rfl rfl rfl (v_assign rfl) ?_
  refine o_end ?_
  refine r_seq ?_
  refine r_seq ?_
  refine r_region rfl ?_
  refine o_val rfl rfl rfl rfl (v_move rfl) ?_
  refine o_val rfl rfl rfl rfl (v_peqnil rfl rfl rfl) ?_
  refine o_end ?_
  refine r_false rfl ?_
  refine r_skip ?_
  refine r_seq ?_
  refine r_region rfl ?_
  refine o_val rfl rfl rfl rfl (v_move rfl) ?_
  refine o_val rfl rfl rfl rfl (v_nilCheck rfl) ?_
  refine o_val rfl rfl rfl rfl (v_field (k := 2) rfl rfl rfl) ?_
  refine o_val rfl rfl rfl rfl (v_load rfl rfl (cell_at (j := 0) rfl rfl)) ?_
  refine o_val rfl rfl rfl rfl (v_add rfl rfl (wrap_i64 (by omega) (by omega))) ?_
  refine o_val rfl rfl rfl rfl (v_nilCheck rfl) ?_
  refine o_val rfl rfl rfl rfl (v_field (k := 2) rfl rfl rfl) ?_
  refine o_act0 rfl rfl rfl (a_store1 0 rfl rfl rfl rfl rfl (Nat.le_of_ble_eq_true rfl)) ?_
  refine o_end ?_
  refine r_seq ?_
  refine r_region rfl ?_
  refine o_val rfl rfl rfl rfl (v_move rfl) ?_
  refine o_val rfl rfl rfl rfl (v_move rfl) ?_
  refine o_val rfl rfl rfl rfl (v_nilCheck rfl) ?_
  refine o_val rfl rfl rfl rfl (v_field (k := 0) rfl rfl rfl) ?_
  refine o_val rfl rfl rfl rfl (v_load rfl rfl (cell_at (j := 0) rfl rfl)) ?_
  refine o_val rfl rfl rfl rfl (v_move rfl) ?_
  refine o_act rfl rfl rfl rfl (a_appendP (bf := bf) (n := l.length) (sz := 1) (bytes := 1) [.mem a [bf.val l.length, .int .i64 sure, .int .i64 ((ops : Int) + 1)] 3] ⟨⟨_, _, _, rfl, rfl, rfl, rfl, rfl, rfl⟩, by decide⟩ rfl hok (by simp) rfl rfl (hv.mono (Fz.le_refl _) (by simp)) (bytes_one _) (by unfold maxLen; omega) (by omega)) ?_
  rintro v' H' ⟨bf', rfl, hok', rfl⟩
  refine o_val rfl rfl rfl rfl (v_nilCheck rfl) ?_
  refine o_val rfl rfl rfl rfl (v_field (k := 0) rfl rfl rfl) ?_
  refine o_act0 rfl rfl rfl (a_store1 0 rfl rfl rfl rfl rfl (Nat.le_of_ble_eq_true rfl)) ?_
  refine o_end ?_
  refine r_seq ?_
  refine r_region rfl ?_
  refine o_val rfl rfl rfl rfl (v_assign rfl) ?_
  refine o_end ?_
  refine r_ret1 Try.func29 rfl rfl ⟨⟨rfl, rfl, bf', ?_, ?_⟩, Fz.le_refl _⟩
  · simpa using hok'
  · have e : (l ++ m).length = l.length + m.length := List.length_append
    rw [bytesV_append]
    show _ = Ent.mem a [bf'.val (l ++ m).length, .int .i64 sure, .int .i64 ((ops + 1 : Nat) : Int)] 3 :: _
    rw [e]
    rfl

theorem dk_Sync0 (O : World) (F : Fz) (Fr : List Ent) : Does Try.prog O 25 #[nilP] F Fr (fun r F' H' => r = .int .i64 2 ∧ F' = F ∧ H' = Fr) := by
  refine does_of_run (args := [_]) Try.func25 rfl rfl ?_
  refine r_seq ?_
  refine r_region rfl ?_
  refine o_val rfl rfl rfl rfl (v_assign rfl) ?_
  refine o_end ?_
  refine r_seq ?_
  refine r_seq ?_
  refine r_region rfl ?_
  refine o_val rfl rfl rfl rfl (v_move rfl) ?_
  refine o_val rfl rfl rfl rfl (v_peqnil rfl rfl rfl) ?_
  refine o_end ?_
  refine r_true rfl ?_
  refine r_seq ?_
  refine r_region rfl ?_
  refine o_val rfl rfl rfl rfl (v_assign rfl) ?_
  refine o_end ?_
  exact r_ret1 Try.func25 rfl rfl ⟨⟨rfl, rfl, rfl⟩, Fz.le_refl _⟩
theorem dk_Sync (O : World) (F : Fz) (a : Nat) (bf : Bf) (l : List UInt8) (sure ops : Nat) (Fr : List Ent) (ho : ops ≤ 9223372036854775806) :
    Does Try.prog O 25 #[ptrV a] F (DkE a bf l sure ops :: Fr) (fun r F' H' => r = .int .i64 0 ∧ F' = F ∧ H' = DkE a bf l l.length (ops + 1) :: Fr) := by
  refine does_of_run (args := [_]) Try.func25 rfl rfl ?_
  refine r_seq ?_
  refine r_region rfl ?_
  refine o_val rfl rfl rfl rfl (v_assign rfl) ?_
  refine o_end ?_
  refine r_seq ?_
  refine r_seq ?_
  refine r_region rfl ?_
  refine o_val rfl rfl rfl rfl (v_move rfl) ?_
  refine o_val rfl rfl rfl rfl (v_peqnil rfl rfl rfl) ?_
  refine o_end ?_
  refine r_false rfl ?_
  refine r_skip ?_
  refine r_seq ?_
  refine r_region rfl ?_
  refine o_val rfl rfl rfl rfl (v_move rfl) ?_
  refine o_val rfl rfl rfl rfl (v_nilCheck rfl) ?_
  refine o_val rfl rfl rfl rfl (v_field (k := 2) rfl rfl rfl) ?_
  refine o_val rfl rfl rfl rfl (v_load rfl rfl (cell_at (j := 0) rfl rfl)) ?_
  refine o_val rfl rfl rfl rfl (v_add rfl rfl (wrap_i64 (by omega) (by omega))) ?_
  refine o_val rfl rfl rfl rfl (v_nilCheck rfl) ?_
  refine o_val rfl rfl rfl rfl (v_field (k := 2) rfl rfl rfl) ?_
  refine o_act0 rfl rfl rfl (a_store1 0 rfl rfl rfl rfl rfl (Nat.le_of_ble_eq_true rfl)) ?_
  refine o_end ?_
  refine r_seq ?_
  refine r_region rfl ?_
  refine o_val rfl rfl rfl rfl (v_move rfl) ?_
  refine o_val rfl rfl rfl rfl (v_move rfl) ?_
  refine o_val rfl rfl rfl rfl (v_nilCheck rfl) ?_
  refine o_val rfl rfl rfl rfl (v_field (k := 0) rfl rfl rfl) ?_
  refine o_val rfl rfl rfl rfl (v_load rfl rfl (cell_at (j := 0) rfl rfl)) ?_
  refine o_val rfl rfl rfl rfl (v_len rfl rfl) ?_
  refine o_val rfl rfl rfl rfl (v_nilCheck rfl) ?_
  refine o_val rfl rfl rfl rfl (v_field (k := 1) rfl rfl rfl) ?_
  refine o_act0 rfl rfl rfl (a_store1 0 rfl rfl rfl rfl rfl (Nat.le_of_ble_eq_true rfl)) ?_
  refine o_end ?_
  refine r_seq ?_
  refine r_region rfl ?_
  refine o_val rfl rfl rfl rfl (v_assign rfl) ?_
  refine o_end ?_
  exact r_ret1 Try.func25 rfl rfl ⟨⟨rfl, rfl, rfl⟩, Fz.le_refl _⟩

theorem dk_Put0 (O : World) (F : Fz) (v : Value) (Fr : List Ent) : Does Try.prog O 43 #[nilP, v] F Fr (fun r F' H' => r = .int .i64 2 ∧ F' = F ∧ H' = Fr) := by
  refine does_of_run (args := [_, _]) Try.func43 rfl rfl ?_
  refine r_seq ?_
  refine r_region rfl ?_
  refine o_val rfl rfl rfl rfl (v_assign rfl) ?_
  refine o_end ?_
  refine r_seq ?_
  refine r_seq ?_
  refine r_region rfl ?_
  refine o_val rfl rfl rfl rfl (v_move rfl) ?_
  refine o_val rfl rfl rfl rfl (v_peqnil rfl rfl rfl) ?_
  refine o_end ?_
  refine r_true rfl ?_
  refine r_seq ?_
  refine r_region rfl ?_
  refine o_val rfl rfl rfl rfl (v_assign rfl) ?_
  refine o_end ?_
  exact r_ret1 Try.func43 rfl rfl ⟨⟨rfl, rfl, rfl⟩, Fz.le_refl _⟩
theorem dk_Put (O : World) (F : Fz) (a : Nat) (bf : Bf) (l m : List UInt8) (sure ops : Nat) (v : Value) (Fr : List Ent) (hv : SlB F Fr v m) (hl : m.length ≤ 140737488355328) (ho : ops ≤ 9223372036854775806) :
    Does Try.prog O 43 #[ptrV a, v] F (DkE a bf l sure ops :: (bf.ents 1 (bytesV l) ++ Fr))
      (fun r F' H' => r = .int .i64 0 ∧ F' = F ∧ ∃ bf' : Bf, bf'.ok m.length ∧ H' = DkE a bf' m m.length (ops + 1) :: (bf'.ents 1 (bytesV m) ++ Fr)) := by
  obtain ⟨a0, cap, rfl, hcap⟩ := Sl.shape hv
  refine does_of_run (args := [_, _]) Try.func43 rfl rfl ?_
  refine r_seq ?_
  refine r_region rfl ?_
  refine o_val rfl rfl rfl rfl (v_assign rfl) ?_
  refine o_end ?_
  refine r_seq ?_
  refine r_seq ?_
  refine r_region rfl ?_
  refine o_val rfl rfl rfl rfl (v_move rfl) ?_
  refine o_val rfl rfl rfl rfl (v_peqnil rfl rfl rfl) ?_
  refine o_end ?_
  refine r_false rfl ?_
  refine r_skip ?_
  refine r_seq ?_
  refine r_region rfl ?_
  refine o_val rfl rfl rfl rfl (v_move rfl) ?_
  refine o_val rfl rfl rfl rfl (v_nilCheck rfl) ?_
  refine o_val rfl rfl rfl rfl (v_field (k := 2) rfl rfl rfl) ?_
  refine o_val rfl rfl rfl rfl (v_load rfl rfl (cell_at (j := 0) rfl rfl)) ?_
  refine o_val rfl rfl rfl rfl (v_add rfl rfl (wrap_i64 (by omega) (by omega))) ?_
  refine o_val rfl rfl rfl rfl (v_nilCheck rfl) ?_
  refine o_val rfl rfl rfl rfl (v_field (k := 2) rfl rfl rfl) ?_
  refine o_act0 rfl rfl rfl (a_store1 0 rfl rfl rfl rfl rfl (Nat.le_of_ble_eq_true rfl)) ?_
  refine o_end ?_
  refine r_seq ?_
  refine r_region rfl ?_
  refine o_val rfl rfl rfl rfl (v_move rfl) ?_
  refine o_val rfl rfl rfl rfl (v_move rfl) ?_
  refine o_val rfl rfl rfl rfl (v_move rfl) ?_
  refine j_drop (H' := .mem a [bf.val l.length, .int .i64 sure, .int .i64 ((ops : Int) + 1)] 3 :: Fr) ((List.sublist_append_right _ _).cons_cons _) ?_
  refine o_call rfl rfl rfl rfl (c_call callable57 rfl) (sl_Clone _ _ _ m _ (hv.mono (Fz.le_refl _) (by simp)) hl) ?_
  rintro v' F' H' ⟨rfl, bf', hok', rfl, rfl⟩ _
  refine j_perm (H' := .mem a [bf.val l.length, .int .i64 sure, .int .i64 ((ops : Int) + 1)] 3 :: (bf'.ents 1 (bytesV m) ++ Fr)) List.perm_middle ?_
  refine o_val rfl rfl rfl rfl (v_move rfl) ?_
  refine o_val rfl rfl rfl rfl (v_len rfl rfl) ?_
  refine o_val rfl rfl rfl rfl (v_nilCheck rfl) ?_
  refine o_val rfl rfl rfl rfl (v_field (k := 0) rfl rfl rfl) ?_
  refine o_act0 rfl rfl rfl (a_store1 0 rfl rfl rfl rfl rfl (Nat.le_of_ble_eq_true rfl)) ?_
  refine o_val rfl rfl rfl rfl (v_nilCheck rfl) ?_
  refine o_val rfl rfl rfl rfl (v_field (k := 1) rfl rfl rfl) ?_
  refine o_act0 rfl rfl rfl (a_store1 0 rfl rfl rfl rfl rfl (Nat.le_of_ble_eq_true rfl)) ?_
  refine o_end ?_
  refine r_seq ?_
  refine r_region rfl ?_
  refine o_val rfl rfl rfl rfl (v_assign rfl) ?_
  refine o_end ?_
  exact r_ret1 Try.func43 rfl rfl ⟨⟨rfl, rfl, bf', hok', rfl⟩, Fz.le_refl _⟩

theorem dk_Read0 (O : World) (F : Fz) (Fr : List Ent) : Does Try.prog O 42 #[nilP] F Fr (fun r F' H' => r = .slice none 0 0 ∧ F' = F ∧ H' = Fr) := by
  refine does_of_run (args := [_]) Try.func42 rfl rfl ?_
  refine r_seq ?_
  refine r_region rfl ?_
  refine o_val rfl rfl rfl rfl (v_assign rfl) ?_
  refine o_end ?_
  refine r_seq ?_
  refine r_seq ?_
  refine r_region rfl ?_
  refine o_val rfl rfl rfl rfl (v_move rfl) ?_
  refine o_val rfl rfl rfl rfl (v_peqnil rfl rfl rfl) ?_
  refine o_end ?_
  refine r_true rfl ?_
  refine r_seq ?_
  refine r_region rfl ?_
  refine o_val rfl rfl rfl rfl (v_assign rfl) ?_
  refine o_end ?_
  exact r_ret1 Try.func42 rfl rfl ⟨⟨rfl, rfl, rfl⟩, Fz.le_refl _⟩
theorem dk_Read (O : World) (F : Fz) (a : Nat) (bf : Bf) (l : List UInt8) (sure ops : Nat) (Fr : List Ent) (hok : bf.ok l.length) (hl : l.length ≤ 140737488355328) :
    Does Try.prog O 42 #[ptrV a] F (DkE a bf l sure ops :: (bf.ents 1 (bytesV l) ++ Fr))
      (fun r F' H' => F' = F ∧ ∃ bf' : Bf, bf'.ok l.length ∧ r = bf'.val l.length ∧ H' = bf'.ents 1 (bytesV l) ++ DkE a bf l sure ops :: (bf.ents 1 (bytesV l) ++ Fr)) := by
  refine does_of_run (args := [_]) Try.func42 rfl rfl ?_
  refine r_seq ?_
  refine r_region rfl ?_
  refine o_val rfl rfl rfl rfl (v_assign rfl) ?_
  refine o_end ?_
  refine r_seq ?_
  refine r_seq ?_
  refine r_region rfl ?_
  refine o_val rfl rfl rfl rfl (v_move rfl) ?_
  refine o_val rfl rfl rfl rfl (v_peqnil rfl rfl rfl) ?_
  refine o_end ?_
  refine r_false rfl ?_
  refine r_skip ?_
  refine r_seq ?_
  refine r_region rfl ?_
  refine o_val rfl rfl rfl rfl (v_move rfl) ?_
  refine o_val rfl rfl rfl rfl (v_nilCheck rfl) ?_
  refine o_val rfl rfl rfl rfl (v_field (k := 0) rfl rfl rfl) ?_
  refine o_val rfl rfl rfl rfl (v_load rfl rfl (cell_at (j := 0) rfl rfl)) ?_
  refine o_call rfl rfl rfl rfl (c_call callable57 rfl) (sl_Clone _ _ _ l _ (Bf.reads (bf := bf) (sz := 1) (n := l.length) hok (by simp) (by intro e he; exact List.mem_cons_of_mem _ (List.mem_append_left _ he))) hl) ?_
  rintro v' F' H' ⟨rfl, bf', hok', rfl, rfl⟩ _
  refine o_val rfl rfl rfl rfl (v_assign rfl) ?_
  refine o_end ?_
  exact r_ret1 Try.func42 rfl rfl ⟨⟨rfl, bf', hok', rfl, rfl⟩, Fz.le_refl _⟩

theorem dk_Len0 (O : World) (F : Fz) (Fr : List Ent) : Does Try.prog O 26 #[nilP] F Fr (fun r F' H' => r = .int .i64 0 ∧ F' = F ∧ H' = Fr) := by
  refine does_of_run (args := [_]) Try.func26 rfl rfl ?_
  refine r_seq ?_
  refine r_region rfl ?_
  refine o_val rfl rfl rfl rfl (v_assign rfl) ?_
  refine o_end ?_
  refine r_seq ?_
  refine r_seq ?_
  refine r_region rfl ?_
  refine o_val rfl rfl rfl rfl (v_move rfl) ?_
  refine o_val rfl rfl rfl rfl (v_peqnil rfl rfl rfl) ?_
  refine o_end ?_
  refine r_true rfl ?_
  refine r_seq ?_
  refine r_region rfl ?_
  refine o_val rfl rfl rfl rfl (v_assign rfl) ?_
  refine o_end ?_
  exact r_ret1 Try.func26 rfl rfl ⟨⟨rfl, rfl, rfl⟩, Fz.le_refl _⟩
theorem dk_Len (O : World) (F : Fz) (a : Nat) (bf : Bf) (l : List UInt8) (sure ops : Nat) (Fr : List Ent) :
    Does Try.prog O 26 #[ptrV a] F (DkE a bf l sure ops :: Fr) (fun r F' H' => r = .int .i64 l.length ∧ F' = F ∧ H' = DkE a bf l sure ops :: Fr) := by
  refine does_of_run (args := [_]) Try.func26 rfl rfl ?_
  refine r_seq ?_
  refine r_region rfl ?_
  refine o_val rfl rfl rfl rfl (v_assign rfl) ?_
  refine o_end ?_
  refine r_seq ?_
  refine r_seq ?_
  refine r_region rfl ?_
  refine o_val rfl rfl rfl rfl (v_move rfl) ?_
  refine o_val rfl rfl rfl rfl (v_peqnil rfl rfl rfl) ?_
  refine o_end ?_
  refine r_false rfl ?_
  refine r_skip ?_
  refine r_seq ?_
  refine r_region rfl ?_
  refine o_val rfl rfl rfl rfl (v_move rfl) ?_
  refine o_val rfl rfl rfl rfl (v_nilCheck rfl) ?_
  refine o_val rfl rfl rfl rfl (v_field (k := 0) rfl rfl rfl) ?_
  refine o_val rfl rfl rfl rfl (v_load rfl rfl (cell_at (j := 0) rfl rfl)) ?_
  refine o_val rfl rfl rfl rfl (v_len rfl rfl) ?_
  refine o_val rfl rfl rfl rfl (v_assign rfl) ?_
  refine o_end ?_
  exact r_ret1 Try.func26 rfl rfl ⟨⟨rfl, rfl, rfl⟩, Fz.le_refl _⟩
theorem dk_Sure0 (O : World) (F : Fz) (Fr : List Ent) : Does Try.prog O 27 #[nilP] F Fr (fun r F' H' => r = .int .i64 0 ∧ F' = F ∧ H' = Fr) := by
  refine does_of_run (args := [_]) Try.func27 rfl rfl ?_
  refine r_seq ?_
  refine r_region rfl ?_
  refine o_val rfl rfl rfl rfl (v_assign rfl) ?_
  refine o_end ?_
  refine r_seq ?_
  refine r_seq ?_
  refine r_region rfl ?_
  refine o_val rfl rfl rfl rfl (v_move rfl) ?_
  refine o_val rfl rfl rfl rfl (v_peqnil rfl rfl rfl) ?_
  refine o_end ?_
  refine r_true rfl ?_
  refine r_seq ?_
  refine r_region rfl ?_
  refine o_val rfl rfl rfl rfl (v_assign rfl) ?_
  refine o_end ?_
  exact r_ret1 Try.func27 rfl rfl ⟨⟨rfl, rfl, rfl⟩, Fz.le_refl _⟩
theorem dk_Sure (O : World) (F : Fz) (a : Nat) (bf : Bf) (l : List UInt8) (sure ops : Nat) (Fr : List Ent) :
    Does Try.prog O 27 #[ptrV a] F (DkE a bf l sure ops :: Fr) (fun r F' H' => r = .int .i64 sure ∧ F' = F ∧ H' = DkE a bf l sure ops :: Fr) := by
  refine does_of_run (args := [_]) Try.func27 rfl rfl ?_
  refine r_seq ?_
  refine r_region rfl ?_
  refine o_val rfl rfl rfl rfl (v_assign rfl) ?_
  refine o_end ?_
  refine r_seq ?_
  refine r_seq ?_
  refine r_region rfl ?_
  refine o_val rfl rfl rfl rfl (v_move rfl) ?_
  refine o_val rfl rfl rfl rfl (v_peqnil rfl rfl rfl) ?_
  refine o_end ?_
  refine r_false rfl ?_
  refine r_skip ?_
  refine r_seq ?_
  refine r_region rfl ?_
  refine o_val rfl rfl rfl rfl (v_move rfl) ?_
  refine o_val rfl rfl rfl rfl (v_nilCheck rfl) ?_
  refine o_val rfl rfl rfl rfl (v_field (k := 1) rfl rfl rfl) ?_
  refine o_val rfl rfl rfl rfl (v_load rfl rfl (cell_at (j := 0) rfl rfl)) ?_
  refine o_val rfl rfl rfl rfl (v_assign rfl) ?_
  refine o_end ?_
  exact r_ret1 Try.func27 rfl rfl ⟨⟨rfl, rfl, rfl⟩, Fz.le_refl _⟩
theorem dk_Crash0 (O : World) (F : Fz) (keep : Int) (Fr : List Ent) : Does Try.prog O 28 #[nilP, .int .i64 keep] F Fr (fun r F' H' => r = noneV ∧ F' = F ∧ H' = Fr) := by
  refine does_of_run (args := [_, _]) Try.func28 rfl rfl ?_
  refine r_seq ?_
  refine r_seq ?_
  refine r_region rfl ?_
  refine o_val rfl rfl rfl rfl (v_move rfl) ?_
  refine o_val rfl rfl rfl rfl (v_peqnil rfl rfl rfl) ?_
  refine o_end ?_
  refine r_true rfl ?_
  exact r_ret0 Try.func28 rfl ⟨⟨rfl, rfl, rfl⟩, Fz.le_refl _⟩
theorem dk_Crash (O : World) (F : Fz) (a : Nat) (bf : Bf) (l : List UInt8) (sure ops : Nat) (keep : Int) (Fr : List Ent) (hok : bf.ok l.length) (hl : l.length ≤ 140737488355328) (hs : sure ≤ l.length) (hk0 : -9223372036854775808 ≤ keep) (hk1 : keep ≤ 9223372036854775807) :
    Does Try.prog O 28 #[ptrV a, .int .i64 keep] F (DkE a bf l sure ops :: (bf.ents 1 (bytesV l) ++ Fr))
      (fun r F' H' => r = noneV ∧ F' = F ∧ H' = DkE a bf (l.take (sure + min keep.toNat (l.length - sure))) (sure + min keep.toNat (l.length - sure)) ops :: (bf.ents 1 (bytesV (l.take (sure + min keep.toNat (l.length - sure)))) ++ Fr)) := by
  refine does_of_run (args := [_, _]) Try.func28 rfl rfl ?_
  have hle : sure + min keep.toNat (l.length - sure) ≤ l.length := by omega
  have hcr : IntKind.i64.wrap ((sure : Int) + if (if (l.length : Int) - sure < keep then (l.length : Int) - sure else keep) > 0 then (if (l.length : Int) - sure < keep then (l.length : Int) - sure else keep) else 0) = ((sure + min keep.toNat (l.length - sure) : Nat) : Int) := by
    have : ((sure : Int) + if (if (l.length : Int) - sure < keep then (l.length : Int) - sure else keep) > 0 then (if (l.length : Int) - sure < keep then (l.length : Int) - sure else keep) else 0) = ((sure + min keep.toNat (l.length - sure) : Nat) : Int) := by
      repeat' split
      all_goals omega
    rw [this]
    exact wrap_i64 (by omega) (by omega)
  generalize sure + min keep.toNat (l.length - sure) = s' at *
  refine r_seq ?_
  refine r_seq ?_
  refine r_region rfl ?_
  refine o_val rfl rfl rfl rfl (v_move rfl) ?_
  refine o_val rfl rfl rfl rfl (v_peqnil rfl rfl rfl) ?_
  refine o_end ?_
  refine r_false rfl ?_
  refine r_skip ?_
  refine r_seq ?_
  refine d_region 20 rfl ([DkE a bf l sure ops]) ?_
  refine d_take (i := 0) rfl rfl rfl (by decide +kernel) (by decide +kernel) (by decide +kernel) (Fz.le_refl _) (by simp) rfl (v_move rfl) ?_
  refine d_take (i := 1) rfl rfl rfl (by decide +kernel) (by decide +kernel) (by decide +kernel) (Fz.le_refl _) (by simp) rfl (v_nilCheck rfl) ?_
  refine d_take (i := 2) rfl rfl rfl (by decide +kernel) (by decide +kernel) (by decide +kernel) (Fz.le_refl _) (by simp) rfl (v_field (k := 1) rfl rfl rfl) ?_
  refine d_take (i := 3) rfl rfl rfl (by decide +kernel) (by decide +kernel) (by decide +kernel) (Fz.le_refl _) (by simp) rfl (v_load rfl rfl (cell_at (j := 0) rfl rfl)) ?_
  refine d_take (i := 4) rfl rfl rfl (by decide +kernel) (by decide +kernel) (by decide +kernel) (Fz.le_refl _) (by simp) rfl (v_move rfl) ?_
  refine d_take (i := 5) rfl rfl rfl (by decide +kernel) (by decide +kernel) (by decide +kernel) (Fz.le_refl _) (by simp) rfl (v_move rfl) ?_
  refine d_take (i := 6) rfl rfl rfl (by decide +kernel) (by decide +kernel) (by decide +kernel) (Fz.le_refl _) (by simp) rfl (v_nilCheck rfl) ?_
  refine d_take (i := 7) rfl rfl rfl (by decide +kernel) (by decide +kernel) (by decide +kernel) (Fz.le_refl _) (by simp) rfl (v_field (k := 0) rfl rfl rfl) ?_
  refine d_take (i := 8) rfl rfl rfl (by decide +kernel) (by decide +kernel) (by decide +kernel) (Fz.le_refl _) (by simp) rfl (v_load rfl rfl (cell_at (j := 0) rfl rfl)) ?_
  refine d_take (i := 9) rfl rfl rfl (by decide +kernel) (by decide +kernel) (by decide +kernel) (Fz.le_refl _) (by simp) rfl (v_len rfl rfl) ?_
  refine d_take (i := 10) rfl rfl rfl (by decide +kernel) (by decide +kernel) (by decide +kernel) (Fz.le_refl _) (by simp) rfl (v_move rfl) ?_
  refine d_take (i := 11) rfl rfl rfl (by decide +kernel) (by decide +kernel) (by decide +kernel) (Fz.le_refl _) (by simp) rfl (v_nilCheck rfl) ?_
  refine d_take (i := 12) rfl rfl rfl (by decide +kernel) (by decide +kernel) (by decide +kernel) (Fz.le_refl _) (by simp) rfl (v_field (k := 1) rfl rfl rfl) ?_
  refine d_take (i := 13) rfl rfl rfl (by decide +kernel) (by decide +kernel) (by decide +kernel) (Fz.le_refl _) (by simp) rfl (v_load rfl rfl (cell_at (j := 0) rfl rfl)) ?_
  refine d_take (i := 14) rfl rfl rfl (by decide +kernel) (by decide +kernel) (by decide +kernel) (Fz.le_refl _) (by simp) rfl (v_sub rfl rfl (wrap_i64 (by omega) (by omega))) ?_
  refine d_take (i := 15) rfl rfl rfl (by decide +kernel) (by decide +kernel) (by decide +kernel) (Fz.le_refl _) (by simp) rfl (v_min rfl rfl) ?_
  refine d_take (i := 16) rfl rfl rfl (by decide +kernel) (by decide +kernel) (by decide +kernel) (Fz.le_refl _) (by simp) rfl (v_max rfl rfl) ?_
  refine d_take (i := 17) rfl rfl rfl (by decide +kernel) (by decide +kernel) (by decide +kernel) (Fz.le_refl _) (by simp) rfl (v_add rfl rfl hcr) ?_
  refine d_take (i := 18) rfl rfl rfl (by decide +kernel) (by decide +kernel) (by decide +kernel) (Fz.le_refl _) (by simp) rfl (v_nilCheck rfl) ?_
  refine d_take (i := 19) rfl rfl rfl (by decide +kernel) (by decide +kernel) (by decide +kernel) (Fz.le_refl _) (by simp) rfl (v_field (k := 1) rfl rfl rfl) ?_
  refine d_one (i := 20) (by decide +kernel) ?_
  refine d1_last 1000000 ([]) rfl rfl rfl (a_store1 0 rfl rfl rfl rfl rfl (Nat.le_of_ble_eq_true rfl)) ?_
  refine d_end (by decide +kernel) ?_
  refine d_region 12 rfl ([.mem a [bf.val l.length, .int .i64 s', .int .i64 ops] 3]) ?_
  refine d_take (i := 0) rfl rfl rfl (by decide +kernel) (by decide +kernel) (by decide +kernel) (Fz.le_refl _) (by simp) rfl (v_move rfl) ?_
  refine d_take (i := 1) rfl rfl rfl (by decide +kernel) (by decide +kernel) (by decide +kernel) (Fz.le_refl _) (by simp) rfl (v_move rfl) ?_
  refine d_take (i := 2) rfl rfl rfl (by decide +kernel) (by decide +kernel) (by decide +kernel) (Fz.le_refl _) (by simp) rfl (v_nilCheck rfl) ?_
  refine d_take (i := 3) rfl rfl rfl (by decide +kernel) (by decide +kernel) (by decide +kernel) (Fz.le_refl _) (by simp) rfl (v_field (k := 0) rfl rfl rfl) ?_
  refine d_take (i := 4) rfl rfl rfl (by decide +kernel) (by decide +kernel) (by decide +kernel) (Fz.le_refl _) (by simp) rfl (v_load rfl rfl (cell_at (j := 0) rfl rfl)) ?_
  refine d_take (i := 5) rfl rfl rfl (by decide +kernel) (by decide +kernel) (by decide +kernel) (Fz.le_refl _) (by simp) rfl (v_move rfl) ?_
  refine d_take (i := 6) rfl rfl rfl (by decide +kernel) (by decide +kernel) (by decide +kernel) (Fz.le_refl _) (by simp) rfl (v_nilCheck rfl) ?_
  refine d_take (i := 7) rfl rfl rfl (by decide +kernel) (by decide +kernel) (by decide +kernel) (Fz.le_refl _) (by simp) rfl (v_field (k := 1) rfl rfl rfl) ?_
  refine d_take (i := 8) rfl rfl rfl (by decide +kernel) (by decide +kernel) (by decide +kernel) (Fz.le_refl _) (by simp) rfl (v_load rfl rfl (cell_at (j := 0) rfl rfl)) ?_
  refine d_take (i := 9) rfl rfl rfl (by decide +kernel) (by decide +kernel) (by decide +kernel) (Fz.le_refl _) (by simp) rfl (v_sliceH (sz := 1) rfl rfl rfl rfl rfl (Nat.le_trans hle (Bf.ok_cp hok))) ?_
  refine d_take (i := 10) rfl rfl rfl (by decide +kernel) (by decide +kernel) (by decide +kernel) (Fz.le_refl _) (by simp) rfl (v_nilCheck rfl) ?_
  refine d_take (i := 11) rfl rfl rfl (by decide +kernel) (by decide +kernel) (by decide +kernel) (Fz.le_refl _) (by simp) rfl (v_field (k := 0) rfl rfl rfl) ?_
  refine j_slot 35 rfl (v' := bf.val s') (Bf.cut _ _ _) ?_
  refine d_one (i := 12) (by decide +kernel) ?_
  refine d1_last 1000000 ([]) rfl rfl rfl (a_store1 0 rfl rfl rfl rfl rfl (Nat.le_of_ble_eq_true rfl)) ?_
  refine d_end (by decide +kernel) ?_
  refine j_cutBf [.mem a [bf.val s', .int .i64 s', .int .i64 ops] 3] s' ?_
  refine r_fall0 Try.func28 rfl ⟨⟨rfl, rfl, ?_⟩, Fz.le_refl _⟩
  have e : (l.take s').length = s' := by simp; omega
  show _ = Ent.mem a [bf.val (l.take s').length, .int .i64 s', .int .i64 ops] 3 :: _
  rw [e]
  simp [bytesV]
end Go.SX
