/-
  Contracts of package logs: a nil log; the law LogsNil.
-/
import Derived.Test.YthhcfpignfiabaaLogs3
namespace Go.SX
open Go Go.Proofs
set_option linter.unusedSimpArgs false
set_option linter.unusedVariables false

theorem lg_Entry0 (O : World) (F : Fz) (i : Nat) (Fr : List Ent) : Does Try.prog O 27 #[nilP, .int .u64 i] F Fr (fun r F' H' => r = .tuple #[.agg #[.int .u64 0, .int .u64 0, .int .u8 0, .slice none 0 0], .bool false] ∧ F' = F ∧ H' = Fr) := by
  refine does_of_run (args := [_, _]) Try.func27 rfl rfl ?_
  refine r_seq ?_
  refine r_region rfl ?_
  refine o_act rfl rfl rfl rfl (a_alloc rfl) ?_
  rintro v' H' ⟨x, rfl, rfl⟩
  refine o_val rfl rfl rfl rfl (v_assign rfl) ?_
  refine o_end ?_
  refine r_seq ?_
  refine r_seq ?_
  refine r_region rfl ?_
  refine o_val rfl rfl rfl rfl (v_move rfl) ?_
  refine o_val rfl rfl rfl rfl (v_peqnil rfl rfl rfl) ?_
  refine o_val rfl rfl rfl rfl (v_move rfl) ?_
  refine o_skip rfl rfl rfl rfl ?_
  refine o_skip rfl rfl rfl rfl ?_
  refine o_skip rfl rfl rfl rfl ?_
  refine o_skip rfl rfl rfl rfl ?_
  refine o_skip rfl rfl rfl rfl ?_
  refine o_skip rfl rfl rfl rfl ?_
  refine o_val rfl rfl rfl rfl (v_pick1 rfl rfl) ?_
  refine o_val rfl rfl rfl rfl (v_move rfl) ?_
  refine o_skip rfl rfl rfl rfl ?_
  refine o_skip rfl rfl rfl rfl ?_
  refine o_skip rfl rfl rfl rfl ?_
  refine o_skip rfl rfl rfl rfl ?_
  refine o_val rfl rfl rfl rfl (v_pick1 rfl rfl) ?_
  refine o_end ?_
  refine r_true rfl ?_
  refine r_seq ?_
  refine r_region rfl ?_
  refine o_val rfl rfl rfl rfl (v_build rfl rfl) ?_
  refine o_act0 rfl rfl rfl (a_store (sz := 4) 0 rfl rfl rfl rfl rfl rfl (Nat.le_of_ble_eq_true rfl)) ?_
  refine o_val rfl rfl rfl rfl (v_assign rfl) ?_
  refine o_end ?_
  exact r_retC1 (sz := 4) (cs := [.int .u64 0, .int .u64 0, .int .u8 0, .slice none 0 0]) Try.func27 rfl rfl rfl rfl rfl rfl (fun j c hc => cell_at (j := 0) rfl (by rw [Nat.zero_add]; exact hc)) (List.sublist_cons_self _ _) ⟨⟨rfl, rfl, rfl⟩, Fz.le_refl _⟩

theorem lg_Base0 (O : World) (F : Fz)  (Fr : List Ent) : Does Try.prog O 29 #[nilP] F Fr (fun r F' H' => r = .int .u64 0 ∧ F' = F ∧ H' = Fr) := by
  refine does_of_run (args := [_]) Try.func29 rfl rfl ?_
  refine r_seq ?_
  refine r_region rfl ?_
  refine o_val rfl rfl rfl rfl (v_assign rfl) ?_
  refine o_end ?_
  refine r_seq ?_
  refine r_seq ?_
  refine r_region rfl ?_
  refine o_val rfl rfl rfl rfl (v_move rfl) ?_
  refine o_val rfl rfl rfl rfl (v_peqnil rfl rfl rfl) ?_
  refine o_end ?_
  refine r_true rfl ?_
  refine r_seq ?_
  refine r_region rfl ?_
  refine o_val rfl rfl rfl rfl (v_assign rfl) ?_
  refine o_end ?_
  exact r_ret1 Try.func29 rfl rfl ⟨⟨rfl, rfl, rfl⟩, Fz.le_refl _⟩

theorem lg_VotersAt0 (O : World) (F : Fz) (i : Nat) (Fr : List Ent) : Does Try.prog O 31 #[nilP, .int .u64 i] F Fr (fun r F' H' => r = .int .u64 0 ∧ F' = F ∧ H' = Fr) := by
  refine does_of_run (args := [_, _]) Try.func31 rfl rfl ?_
  refine r_seq ?_
  refine r_region rfl ?_
  refine o_val rfl rfl rfl rfl (v_assign rfl) ?_
  refine o_end ?_
  refine r_seq ?_
  refine r_seq ?_
  refine r_region rfl ?_
  refine o_val rfl rfl rfl rfl (v_move rfl) ?_
  refine o_val rfl rfl rfl rfl (v_peqnil rfl rfl rfl) ?_
  refine o_end ?_
  refine r_true rfl ?_
  refine r_seq ?_
  refine r_region rfl ?_
  refine o_val rfl rfl rfl rfl (v_assign rfl) ?_
  refine o_end ?_
  exact r_ret1 Try.func31 rfl rfl ⟨⟨rfl, rfl, rfl⟩, Fz.le_refl _⟩

theorem lg_From0 (O : World) (F : Fz) (i : Nat) (m : Int) (Fr : List Ent) : Does Try.prog O 30 #[nilP, .int .u64 i, .int .i64 m] F Fr (fun r F' H' => r = .slice none 0 0 ∧ F' = F ∧ H' = Fr) := by
  refine does_of_run (args := [_, _, _]) Try.func30 rfl rfl ?_
  refine r_seq ?_
  refine r_region rfl ?_
  refine o_val rfl rfl rfl rfl (v_assign rfl) ?_
  refine o_end ?_
  refine r_seq ?_
  refine r_seq ?_
  refine r_region rfl ?_
  refine o_val rfl rfl rfl rfl (v_move rfl) ?_
  refine o_val rfl rfl rfl rfl (v_peqnil rfl rfl rfl) ?_
  refine o_val rfl rfl rfl rfl (v_move rfl) ?_
  refine o_skip rfl rfl rfl rfl ?_
  refine o_skip rfl rfl rfl rfl ?_
  refine o_skip rfl rfl rfl rfl ?_
  refine o_skip rfl rfl rfl rfl ?_
  refine o_skip rfl rfl rfl rfl ?_
  refine o_skip rfl rfl rfl rfl ?_
  refine o_val rfl rfl rfl rfl (v_pick1 rfl rfl) ?_
  refine o_val rfl rfl rfl rfl (v_move rfl) ?_
  refine o_skip rfl rfl rfl rfl ?_
  refine o_skip rfl rfl rfl rfl ?_
  refine o_skip rfl rfl rfl rfl ?_
  refine o_skip rfl rfl rfl rfl ?_
  refine o_val rfl rfl rfl rfl (v_pick1 rfl rfl) ?_
  refine o_val rfl rfl rfl rfl (v_move rfl) ?_
  refine o_skip rfl rfl rfl rfl ?_
  refine o_skip rfl rfl rfl rfl ?_
  refine o_val rfl rfl rfl rfl (v_pick1 rfl rfl) ?_
  refine o_end ?_
  refine r_true rfl ?_
  refine r_seq ?_
  refine r_region rfl ?_
  refine o_val rfl rfl rfl rfl (v_assign rfl) ?_
  refine o_end ?_
  exact r_ret1 Try.func30 rfl rfl ⟨⟨rfl, rfl, rfl⟩, Fz.le_refl _⟩

theorem lg_Put0 (O : World) (F : Fz) (i k : Nat) (v : Value) (Fr : List Ent) : Does Try.prog O 22 #[nilP, .int .u64 i, .int .u8 k, v] F Fr (fun r F' H' => r = .int .u64 0 ∧ F' = F ∧ H' = Fr) := by
  refine does_of_run (args := [_, _, _, _]) Try.func22 rfl rfl ?_
  refine r_seq ?_
  refine r_region rfl ?_
  refine o_val rfl rfl rfl rfl (v_assign rfl) ?_
  refine o_end ?_
  refine r_seq ?_
  refine r_seq ?_
  refine r_region rfl ?_
  refine o_val rfl rfl rfl rfl (v_move rfl) ?_
  refine o_val rfl rfl rfl rfl (v_peqnil rfl rfl rfl) ?_
  refine o_end ?_
  refine r_true rfl ?_
  refine r_seq ?_
  refine r_region rfl ?_
  refine o_val rfl rfl rfl rfl (v_assign rfl) ?_
  refine o_end ?_
  exact r_ret1 Try.func22 rfl rfl ⟨⟨rfl, rfl, rfl⟩, Fz.le_refl _⟩

theorem lg_Merge0 (O : World) (F : Fz) (v : Value) (Fr : List Ent) : Does Try.prog O 25 #[nilP, v] F Fr (fun r F' H' => r = .int .u64 0 ∧ F' = F ∧ H' = Fr) := by
  refine does_of_run (args := [_, _]) Try.func25 rfl rfl ?_
  refine r_seq ?_
  refine r_region rfl ?_
  refine o_val rfl rfl rfl rfl (v_assign rfl) ?_
  refine o_end ?_
  refine r_seq ?_
  refine r_seq ?_
  refine r_region rfl ?_
  refine o_val rfl rfl rfl rfl (v_move rfl) ?_
  refine o_val rfl rfl rfl rfl (v_peqnil rfl rfl rfl) ?_
  refine o_end ?_
  refine r_true rfl ?_
  refine r_seq ?_
  refine r_region rfl ?_
  refine o_val rfl rfl rfl rfl (v_assign rfl) ?_
  refine o_end ?_
  exact r_ret1 Try.func25 rfl rfl ⟨⟨rfl, rfl, rfl⟩, Fz.le_refl _⟩

theorem lg_Voters0 (O : World) (F : Fz)  (Fr : List Ent) : Does Try.prog O 28 #[nilP] F Fr (fun r F' H' => r = .tuple #[.int .u64 0, .int .u64 0] ∧ F' = F ∧ H' = Fr) := by
  refine does_of_run (args := [_]) Try.func28 rfl rfl ?_
  refine r_seq ?_
  refine r_region rfl ?_
  refine o_val rfl rfl rfl rfl (v_assign rfl) ?_
  refine o_val rfl rfl rfl rfl (v_assign rfl) ?_
  refine o_end ?_
  refine r_seq ?_
  refine r_seq ?_
  refine r_region rfl ?_
  refine o_val rfl rfl rfl rfl (v_move rfl) ?_
  refine o_val rfl rfl rfl rfl (v_peqnil rfl rfl rfl) ?_
  refine o_end ?_
  refine r_true rfl ?_
  refine r_seq ?_
  refine r_region rfl ?_
  refine o_val rfl rfl rfl rfl (v_assign rfl) ?_
  refine o_val rfl rfl rfl rfl (v_assign rfl) ?_
  refine o_end ?_
  exact r_ret2 Try.func28 rfl rfl rfl ⟨⟨rfl, rfl, rfl⟩, Fz.le_refl _⟩

theorem lg_Fit0 (O : World) (F : Fz) (i k : Nat) (Fr : List Ent) : Does Try.prog O 15 #[nilP, .int .u64 i, .int .u64 k] F Fr (fun r F' H' => r = .bool false ∧ F' = F ∧ H' = Fr) := by
  refine does_of_run (args := [_, _, _]) Try.func15 rfl rfl ?_
  refine r_seq ?_
  refine r_region rfl ?_
  refine o_val rfl rfl rfl rfl (v_assign rfl) ?_
  refine o_end ?_
  refine r_seq ?_
  refine r_region rfl ?_
  refine o_val rfl rfl rfl rfl (v_move rfl) ?_
  refine o_val rfl rfl rfl rfl (v_move rfl) ?_
  refine o_call rfl rfl rfl rfl (c_call callable26 rfl) (lg_Term0 _ _ i _) ?_
  rintro v' F' H' ⟨rfl, rfl, rfl⟩ _
  refine o_val rfl rfl rfl rfl (v_move rfl) ?_
  refine o_val rfl rfl rfl rfl (v_extract rfl rfl) ?_
  refine o_val rfl rfl rfl rfl (v_extract rfl rfl) ?_
  refine o_val rfl rfl rfl rfl (v_assign rfl) ?_
  refine o_val rfl rfl rfl rfl (v_assign rfl) ?_
  refine o_end ?_
  refine r_seq ?_
  refine r_region rfl ?_
  refine o_val rfl rfl rfl rfl (v_move rfl) ?_
  refine o_val rfl rfl rfl rfl (v_move rfl) ?_
  refine o_skip rfl rfl rfl rfl ?_
  refine o_skip rfl rfl rfl rfl ?_
  refine o_skip rfl rfl rfl rfl ?_
  refine o_val rfl rfl rfl rfl (v_pick0 rfl rfl) ?_
  refine o_val rfl rfl rfl rfl (v_assign rfl) ?_
  refine o_end ?_
  exact r_ret1 Try.func15 rfl rfl ⟨⟨rfl, rfl, rfl⟩, Fz.le_refl _⟩

theorem lg_Compact0 (O : World) (F : Fz) (i : Nat) (Fr : List Ent) : Does Try.prog O 23 #[nilP, .int .u64 i] F Fr (fun r F' H' => r = .int .i64 1 ∧ F' = F ∧ H' = Fr) := by
  refine does_of_run (args := [_, _]) Try.func23 rfl rfl ?_
  refine r_seq ?_
  refine r_region rfl ?_
  refine o_val rfl rfl rfl rfl (v_assign rfl) ?_
  refine o_end ?_
  refine r_seq ?_
  refine r_region rfl ?_
  refine o_val rfl rfl rfl rfl (v_move rfl) ?_
  refine o_val rfl rfl rfl rfl (v_move rfl) ?_
  refine o_call rfl rfl rfl rfl (c_call callable26 rfl) (lg_Term0 _ _ i _) ?_
  rintro v' F' H' ⟨rfl, rfl, rfl⟩ _
  refine o_val rfl rfl rfl rfl (v_move rfl) ?_
  refine o_val rfl rfl rfl rfl (v_extract rfl rfl) ?_
  refine o_val rfl rfl rfl rfl (v_extract rfl rfl) ?_
  refine o_val rfl rfl rfl rfl (v_assign rfl) ?_
  refine o_val rfl rfl rfl rfl (v_assign rfl) ?_
  refine o_end ?_
  refine r_seq ?_
  refine r_seq ?_
  refine r_region rfl ?_
  refine o_val rfl rfl rfl rfl (v_move rfl) ?_
  refine o_val rfl rfl rfl rfl (v_not rfl) ?_
  refine o_end ?_
  refine r_true rfl ?_
  refine r_seq ?_
  refine r_region rfl ?_
  refine o_val rfl rfl rfl rfl (v_assign rfl) ?_
  refine o_end ?_
  exact r_ret1 Try.func23 rfl rfl ⟨⟨rfl, rfl, rfl⟩, Fz.le_refl _⟩

theorem lg_Reset0 (O : World) (F : Fz) (cs : Array Value) (Fr : List Ent) : Does Try.prog O 24 #[nilP, .agg cs] F Fr (fun r F' H' => r = noneV ∧ F' = F ∧ H' = Fr) := by
  refine does_of_run (args := [_, _]) Try.func24 rfl rfl ?_
  refine r_seq ?_
  refine r_region rfl ?_
  refine o_act rfl rfl rfl rfl (a_box rfl) ?_
  rintro v' H' ⟨x, rfl, rfl⟩
  refine j_drop (List.sublist_cons_self _ _) ?_
  refine o_end ?_
  refine r_seq ?_
  refine r_region rfl ?_
  refine o_val rfl rfl rfl rfl (v_move rfl) ?_
  refine o_val rfl rfl rfl rfl (v_pneqnil rfl rfl rfl) ?_
  refine o_end ?_
  refine r_false rfl ?_
  refine r_skip ?_
  exact r_fall0 Try.func24 rfl ⟨⟨rfl, rfl, rfl⟩, Fz.le_refl _⟩

theorem law_LogsNil (O : World) (F : Fz) (i t : Nat) (v : Value) (l : List UInt8) (hv : SlB F [] v l) : Does Try.prog O 9 #[.int .u64 i, .int .u64 t, v] F [] (fun r _ _ => r = .bool true) := by
  obtain ⟨a0, cap, rfl, hcap⟩ := Sl.shape hv
  refine does_of_run (args := [_, _, _]) Try.func9 rfl rfl ?_
  refine r_seq ?_
  refine r_region rfl ?_
  refine o_val rfl rfl rfl rfl (v_assign rfl) ?_
  refine o_end ?_
  refine r_seq ?_
  refine r_seq ?_
  refine r_region rfl ?_
  refine o_call rfl rfl rfl rfl (c_call callable10 rfl) (law_awake _ _ _) ?_
  rintro v' F1 H' ⟨rfl, rfl⟩ hF1
  refine o_val rfl rfl rfl rfl (v_not rfl) ?_
  refine o_val rfl rfl rfl rfl (v_move rfl) ?_
  refine o_val rfl rfl rfl rfl (v_move rfl) ?_
  refine o_val rfl rfl rfl rfl (v_len rfl rfl) ?_
  refine o_val rfl rfl rfl rfl (v_gtr rfl rfl) ?_
  refine o_val rfl rfl rfl rfl (v_pick0 rfl rfl) ?_
  refine o_end ?_
  refine r_if rfl (fun h => ?_) (fun h => ?_)
  · refine r_seq ?_
    refine r_region rfl ?_
    refine o_call rfl rfl rfl rfl (c_call callable10 rfl) (law_awake _ _ _) ?_
    rintro v' F2 H' ⟨rfl, rfl⟩ hF2
    refine o_val rfl rfl rfl rfl (v_assign rfl) ?_
    refine o_end ?_
    exact r_ret1 Try.func9 rfl rfl ⟨rfl, Fz.le_trans hF1 hF2⟩
  · refine r_skip ?_
    refine r_seq ?_
    refine r_region rfl ?_
    refine o_val rfl rfl rfl rfl (v_assign rfl) ?_
    refine o_end ?_
    refine r_seq ?_
    refine r_region rfl ?_
    refine o_val rfl rfl rfl rfl (v_move rfl) ?_
    refine o_val rfl rfl rfl rfl (v_move rfl) ?_
    refine o_call rfl rfl rfl rfl (c_call callable26 rfl) (lg_Term0 _ _ i _) ?_
    rintro v' F1 H' ⟨rfl, rfl, rfl⟩ _
    refine o_val rfl rfl rfl rfl (v_move rfl) ?_
    refine o_val rfl rfl rfl rfl (v_extract rfl rfl) ?_
    refine o_val rfl rfl rfl rfl (v_extract rfl rfl) ?_
    refine o_val rfl rfl rfl rfl (v_assign rfl) ?_
    refine o_val rfl rfl rfl rfl (v_assign rfl) ?_
    refine o_end ?_
    refine r_seq ?_
    refine r_region rfl ?_
    refine o_val rfl rfl rfl rfl (v_move rfl) ?_
    refine o_val rfl rfl rfl rfl (v_move rfl) ?_
    refine o_call rfl rfl rfl rfl (c_call callable27 rfl) (lg_Entry0 _ _ i _) ?_
    rintro v' F1 H' ⟨rfl, rfl, rfl⟩ _
    refine o_val rfl rfl rfl rfl (v_move rfl) ?_
    refine o_val rfl rfl rfl rfl (v_extract rfl rfl) ?_
    refine o_val rfl rfl rfl rfl (v_extract rfl rfl) ?_
    refine o_act rfl rfl rfl rfl (a_alloc rfl) ?_
    rintro v' H' ⟨x, rfl, rfl⟩
    refine o_act0 rfl rfl rfl (a_store (sz := 4) 0 rfl rfl rfl rfl rfl rfl (Nat.le_of_ble_eq_true rfl)) ?_
    refine o_val rfl rfl rfl rfl (v_assign rfl) ?_
    refine o_end ?_
    refine r_seq ?_
    refine r_region rfl ?_
    refine o_val rfl rfl rfl rfl (v_move rfl) ?_
    refine o_call rfl rfl rfl rfl (c_call callable28 rfl) (lg_Voters0 _ _ _) ?_
    rintro v' F1 H' ⟨rfl, rfl, rfl⟩ _
    refine o_val rfl rfl rfl rfl (v_move rfl) ?_
    refine o_val rfl rfl rfl rfl (v_extract rfl rfl) ?_
    refine o_val rfl rfl rfl rfl (v_extract rfl rfl) ?_
    refine o_val rfl rfl rfl rfl (v_assign rfl) ?_
    refine o_val rfl rfl rfl rfl (v_assign rfl) ?_
    refine o_end ?_
    refine r_seq ?_
    refine r_region rfl ?_
    refine o_val rfl rfl rfl rfl (v_move rfl) ?_
    refine o_val rfl rfl rfl rfl (v_move rfl) ?_
    refine o_val rfl rfl rfl rfl (v_build rfl rfl) ?_
    refine o_call rfl rfl rfl rfl (c_call callable24 rfl) (lg_Reset0 _ _ _ _) ?_
    rintro v' F1 H' ⟨rfl, rfl, rfl⟩ _
    refine o_end ?_
    refine r_seq ?_
    refine r_region rfl ?_
    refine o_val rfl rfl rfl rfl (v_move rfl) ?_
    refine o_val rfl rfl rfl rfl (v_not rfl) ?_
    refine o_val rfl rfl rfl rfl (v_move rfl) ?_
    refine o_val rfl rfl rfl rfl (v_move rfl) ?_
    refine o_val rfl rfl rfl rfl (v_not rfl) ?_
    refine o_val rfl rfl rfl rfl (v_pick1 rfl rfl) ?_
    refine o_val rfl rfl rfl rfl (v_move rfl) ?_
    refine o_val rfl rfl rfl rfl (v_move rfl) ?_
    refine o_call rfl rfl rfl rfl (c_call callable29 rfl) (lg_Base0 _ _ _) ?_
    rintro v' F1 H' ⟨rfl, rfl, rfl⟩ _
    refine o_val rfl rfl rfl rfl (v_move rfl) ?_
    refine o_call rfl rfl rfl rfl (c_call callable17 rfl) (lg_Last0 _ _ _) ?_
    rintro v' F1 H' ⟨rfl, rfl, rfl⟩ _
    refine o_val rfl rfl rfl rfl (v_add rfl rfl (wrap_u64 (by omega) (by omega))) ?_
    refine o_val rfl rfl rfl rfl (v_move rfl) ?_
    refine o_call rfl rfl rfl rfl (c_call callable14 rfl) (lg_LastTerm0 _ _ _) ?_
    rintro v' F1 H' ⟨rfl, rfl, rfl⟩ _
    refine o_val rfl rfl rfl rfl (v_add rfl rfl (wrap_u64 (by omega) (by omega))) ?_
    refine o_val rfl rfl rfl rfl (v_eql rfl rfl) ?_
    refine o_val rfl rfl rfl rfl (v_pick1 rfl rfl) ?_
    refine o_val rfl rfl rfl rfl (v_move rfl) ?_
    refine o_val rfl rfl rfl rfl (v_move rfl) ?_
    refine o_val rfl rfl rfl rfl (v_move rfl) ?_
    refine o_call rfl rfl rfl rfl (c_call callable30 rfl) (lg_From0 _ _ i 5 _) ?_
    rintro v' F1 H' ⟨rfl, rfl, rfl⟩ _
    refine o_val rfl rfl rfl rfl (v_len rfl rfl) ?_
    refine o_val rfl rfl rfl rfl (v_eql rfl rfl) ?_
    refine o_val rfl rfl rfl rfl (v_pick1 rfl rfl) ?_
    refine o_val rfl rfl rfl rfl (v_move rfl) ?_
    refine o_val rfl rfl rfl rfl (v_move rfl) ?_
    refine o_val rfl rfl rfl rfl (v_move rfl) ?_
    refine o_val rfl rfl rfl rfl (v_move rfl) ?_
    refine o_call rfl rfl rfl rfl (c_call callable22 rfl) (lg_Put0 _ _ t 0 _ _) ?_
    rintro v' F1 H' ⟨rfl, rfl, rfl⟩ _
    refine o_val rfl rfl rfl rfl (v_eql rfl rfl) ?_
    refine o_val rfl rfl rfl rfl (v_pick1 rfl rfl) ?_
    refine o_val rfl rfl rfl rfl (v_move rfl) ?_
    refine o_val rfl rfl rfl rfl (v_move rfl) ?_
    refine o_val rfl rfl rfl rfl (v_move rfl) ?_
    refine o_val rfl rfl rfl rfl (v_move rfl) ?_
    refine o_call rfl rfl rfl rfl (c_call callable15 rfl) (lg_Fit0 _ _ i t _) ?_
    rintro v' F1 H' ⟨rfl, rfl, rfl⟩ _
    refine o_val rfl rfl rfl rfl (v_not rfl) ?_
    refine o_val rfl rfl rfl rfl (v_pick1 rfl rfl) ?_
    refine o_val rfl rfl rfl rfl (v_move rfl) ?_
    refine o_val rfl rfl rfl rfl (v_move rfl) ?_
    refine o_val rfl rfl rfl rfl (v_build rfl rfl) ?_
    refine o_act rfl rfl rfl rfl (a_buildS (sz := 4) (cs := [.int .u64 1, .int .u64 0, .int .u8 0, .slice none 0 0]) [.tmp 83] rfl rfl rfl rfl rfl rfl rfl rfl rfl rfl) ?_
    rintro v' H' ⟨y, rfl, rfl⟩
    refine o_call rfl rfl rfl rfl (c_call callable25 rfl) (lg_Merge0 _ _ _ _) ?_
    rintro v' F1 H' ⟨rfl, rfl, rfl⟩ _
    refine o_val rfl rfl rfl rfl (v_eql rfl rfl) ?_
    refine o_val rfl rfl rfl rfl (v_pick1 rfl rfl) ?_
    refine o_val rfl rfl rfl rfl (v_move rfl) ?_
    refine o_val rfl rfl rfl rfl (v_move rfl) ?_
    refine o_val rfl rfl rfl rfl (v_move rfl) ?_
    refine o_val rfl rfl rfl rfl (v_add rfl rfl (wrap_u64 (by omega) (by omega))) ?_
    refine o_val rfl rfl rfl rfl (v_move rfl) ?_
    refine o_val rfl rfl rfl rfl (v_move rfl) ?_
    refine o_call rfl rfl rfl rfl (c_call callable31 rfl) (lg_VotersAt0 _ _ i _) ?_
    rintro v' F1 H' ⟨rfl, rfl, rfl⟩ _
    refine o_val rfl rfl rfl rfl (v_add rfl rfl (wrap_u64 (by omega) (by omega))) ?_
    refine o_val rfl rfl rfl rfl (v_eql rfl rfl) ?_
    refine o_val rfl rfl rfl rfl (v_pick1 rfl rfl) ?_
    refine o_val rfl rfl rfl rfl (v_move rfl) ?_
    refine o_val rfl rfl rfl rfl (v_move rfl) ?_
    refine o_val rfl rfl rfl rfl (v_move rfl) ?_
    refine o_call rfl rfl rfl rfl (c_call callable23 rfl) (lg_Compact0 _ _ i _) ?_
    rintro v' F1 H' ⟨rfl, rfl, rfl⟩ _
    refine o_val rfl rfl rfl rfl (v_eql rfl rfl) ?_
    refine o_val rfl rfl rfl rfl (v_pick1 rfl rfl) ?_
    refine o_val rfl rfl rfl rfl (v_assign rfl) ?_
    refine o_end ?_
    exact r_ret1 Try.func9 rfl rfl ⟨rfl, hF1⟩
theorem in_LogsNil (W : World) (i : Int) (hi : (Lit.int .u64 i).wf = true) (t : Int) (ht : (Lit.int .u64 t).wf = true) (v : Value) (zs : List Int) (h : InInts .u8 W v zs) (hn : zs.length * 1 ≤ 140737488351232) :
    Calls Try.prog 9 #[.int .u64 i, .int .u64 t, v] W fun e w' => e = .returned (.bool true) ∧ Go.RowKit.Below W.heap.size W w' := by
  obtain ⟨l, hl, hv⟩ := inBytes h
  simp [Lit.wf, IntKind.min, IntKind.max, IntKind.signed, IntKind.bits] at hi ht
  obtain ⟨i, rfl⟩ := Int.eq_ofNat_of_zero_le hi.1
  obtain ⟨t, rfl⟩ := Int.eq_ofNat_of_zero_le ht.1
  exact below_of_does (law_LogsNil _ _ i t _ l hv)
end Go.SX
