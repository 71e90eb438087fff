/-
  The law WalNil: a nil disk keeps nothing.
-/
import Derived.Test.YtmpbgnffdpppbaaWal5
namespace Go.SX
open Go Go.Proofs
set_option maxRecDepth 4000
set_option linter.unusedSimpArgs false
set_option linter.unusedVariables false

theorem law_WalNil (O : World) (F : Fz) (n : Nat) : Does Try.prog O 6 #[.int .u64 n] F [] (fun r _ _ => r = .bool true) := by
  refine does_of_run (args := [_]) Try.func6 rfl rfl ?_
  refine r_seq ?_
  refine r_region rfl ?_
  refine o_val rfl rfl rfl rfl (v_assign rfl) ?_
  refine o_end ?_
  refine r_seq ?_
  refine r_region rfl ?_
  refine o_val rfl rfl rfl rfl (v_move rfl) ?_
  refine o_val rfl rfl rfl rfl (v_build rfl rfl) ?_
  refine o_val rfl rfl rfl rfl (v_build rfl rfl) ?_
  refine o_act rfl rfl rfl rfl (a_alloc rfl) ?_
  rintro v' H' ⟨s, rfl, rfl⟩
  refine o_act0 rfl rfl rfl (a_store (sz := 4) 0 rfl rfl rfl rfl rfl rfl (Nat.le_of_ble_eq_true rfl)) ?_
  refine j_heap (H' := [.mem s [.bool true, .int .u64 n, .int .i64 0, .slice none 0 0] 4]) rfl ?_
  refine o_end ?_
  refine r_seq ?_
  refine r_region rfl ?_
  refine o_call rfl rfl rfl rfl (c_call callable20 rfl) (wal_Open0 _ _ _) ?_
  rintro v' F H' ⟨rfl, rfl, rfl⟩ _
  refine o_val rfl rfl rfl rfl (v_move rfl) ?_
  refine o_val rfl rfl rfl rfl (v_extract rfl rfl) ?_
  refine o_val rfl rfl rfl rfl (v_extract rfl rfl) ?_
  refine o_act rfl rfl rfl rfl (a_alloc rfl) ?_
  rintro v' H' ⟨i, rfl, rfl⟩
  refine o_act0 rfl rfl rfl (a_store (sz := 7) 0 rfl rfl rfl rfl rfl rfl (Nat.le_of_ble_eq_true rfl)) ?_
  refine j_heap (H' := [.mem i (Im.cells ⟨0, 0, 0, 0, 0, .slice none 0 0, [], .slice none 0 0, []⟩) 7, .mem s [.bool true, .int .u64 n, .int .i64 0, .slice none 0 0] 4]) rfl ?_
  refine o_val rfl rfl rfl rfl (v_assign rfl) ?_
  refine o_end ?_
  refine r_seq ?_
  refine r_region rfl ?_
  refine o_call rfl rfl rfl rfl (c_call callable9 rfl) (law_awake _ _ _) ?_
  rintro v' F1 H' ⟨rfl, rfl⟩ hF1
  refine o_val rfl rfl rfl rfl (v_move rfl) ?_
  refine o_val rfl rfl rfl rfl (v_loadAgg (sz := 4) (cs := [.bool true, .int .u64 n, .int .i64 0, .slice none 0 0]) rfl rfl rfl rfl (cells_of (j := 1) _ _ rfl rfl)) ?_
  refine o_call rfl rfl rfl rfl (c_call callable21 rfl) (wal_Keep0 _ _ n _) ?_
  rintro v' F1 H' ⟨rfl, rfl, rfl⟩ _
  refine o_val rfl rfl rfl rfl (v_eql rfl rfl) ?_
  refine o_val rfl rfl rfl rfl (v_pick1 rfl rfl) ?_
  refine o_val rfl rfl rfl rfl (v_move rfl) ?_
  refine o_val rfl rfl rfl rfl (v_build rfl rfl) ?_
  refine o_call rfl rfl rfl rfl (c_call callable22 rfl) (wal_Compact0 _ _ _) ?_
  rintro v' F1 H' ⟨rfl, rfl, rfl⟩ _
  refine o_val rfl rfl rfl rfl (v_eql rfl rfl) ?_
  refine o_val rfl rfl rfl rfl (v_pick1 rfl rfl) ?_
  refine o_val rfl rfl rfl rfl (v_move rfl) ?_
  refine o_val rfl rfl rfl rfl (v_move rfl) ?_
  refine o_val rfl rfl rfl rfl (v_eql rfl rfl) ?_
  refine o_val rfl rfl rfl rfl (v_pick1 rfl rfl) ?_
  refine o_val rfl rfl rfl rfl (v_move rfl) ?_
  refine o_val rfl rfl rfl rfl (v_field (k := 6) rfl rfl rfl) ?_
  refine o_val rfl rfl rfl rfl (v_load (v := .slice none 0 0) rfl rfl (cell_at (j := 0) rfl rfl)) ?_
  refine o_val rfl rfl rfl rfl (v_len rfl rfl) ?_
  refine o_val rfl rfl rfl rfl (v_eql rfl rfl) ?_
  refine o_val rfl rfl rfl rfl (v_pick1 rfl rfl) ?_
  refine o_val rfl rfl rfl rfl (v_move rfl) ?_
  refine o_call rfl rfl rfl rfl (c_call callable23 rfl) (ref_Seal _ _ _ [] _ (Sl.nil _ _ _) (by simp)) ?_
  rintro v' F1 H' ⟨rfl, bf, hok, rfl, rfl⟩ _
  refine o_val rfl rfl rfl rfl (v_len rfl rfl) ?_
  refine o_val rfl rfl rfl rfl (v_eql rfl rfl) ?_
  refine o_val rfl rfl rfl rfl (v_pick1 rfl rfl) ?_
  refine o_val rfl rfl rfl rfl (v_assign rfl) ?_
  refine o_end ?_
  refine r_ret1 Try.func6 rfl rfl ⟨rfl, hF1⟩
theorem in_WalNil (W : World) (n : Int) (hw : (Lit.int .u64 n).wf = true) :
    Calls Try.prog 6 #[.int .u64 n] W fun e w' => e = .returned (.bool true) ∧ Go.RowKit.Below W.heap.size W w' := by
  simp [Lit.wf, IntKind.min, IntKind.max, IntKind.signed, IntKind.bits] at hw
  obtain ⟨n, rfl⟩ := Int.eq_ofNat_of_zero_le hw.1
  exact below_of_does (law_WalNil _ _ n)
end Go.SX
