/-
  Chapter 07: the laws of the disk.
-/
import Derived.Test.YtamkbfajhfknmaaDisk
import Derived.Test.YtamkbfajhfknmaaSxRows
namespace Go.SX
open Go Go.Proofs
set_option linter.unusedSimpArgs false
set_option linter.unusedVariables false

theorem law_awake (O : World) (F : Fz) (H : List Ent) : Does Try.prog O 6 #[] F H (fun r _ H' => r = .bool true ∧ H' = H) := by
  refine does_of_run (args := []) Try.func6 rfl rfl ?_
  refine r_seq ?_
  refine r_region rfl ?_
  refine o_val rfl rfl rfl rfl (v_assign rfl) ?_
  refine o_end ?_
  refine r_seq ?_
  refine r_region rfl ?_
  refine o_call rfl rfl rfl rfl (c_call callable7 rfl) (dk_New _ _ _) ?_
  rintro v' F' H' ⟨rfl, a, rfl, rfl⟩ _
  refine o_val rfl rfl rfl rfl (v_assign rfl) ?_
  refine o_end ?_
  refine r_seq ?_
  refine r_region rfl ?_
  refine o_val rfl rfl rfl rfl (v_move rfl) ?_
  refine o_act rfl rfl rfl rfl (a_buildS (sz := 1) (cs := bytesV [97, 98, 99]) [.const (.int .u8 97), .const (.int .u8 98), .const (.int .u8 99)] rfl rfl rfl rfl rfl rfl rfl rfl rfl rfl) ?_
  rintro v' H' ⟨b, rfl, rfl⟩
  refine o_actF rfl rfl rfl rfl (a_same 0 rfl rfl rfl rfl) ?_
  rintro v' F1 H' ⟨rfl, ⟨all, el, fz, hb, hall⟩, rfl⟩ hF1
  have hs : SlB F1 [] (.slice (some ⟨b, 0, none⟩) 3 3) [97, 98, 99] := ⟨_, _, rfl, rfl, by decide, by simp, fun i c hc => ⟨b, 0, rfl, cell_frz hb (by simpa using hall i c hc)⟩⟩
  refine o_call rfl rfl rfl rfl (c_call callable9 rfl) (dk_Append _ _ a .nil [] [97, 98, 99] 0 0 _ H rfl (hs.frz (Fz.le_refl _)) (by decide) (by decide)) ?_
  rintro v' F1 H' ⟨rfl, rfl, bf1, hok1, rfl⟩ _
  refine o_end ?_
  refine r_seq ?_
  refine r_region rfl ?_
  refine o_val rfl rfl rfl rfl (v_move rfl) ?_
  refine o_call rfl rfl rfl rfl (c_call callable11 rfl) (dk_Sync _ _ a bf1 _ _ _ _ (by decide)) ?_
  rintro v' F1 H' ⟨rfl, rfl, rfl⟩ _
  refine o_end ?_
  refine r_seq ?_
  refine r_region rfl ?_
  refine o_val rfl rfl rfl rfl (v_move rfl) ?_
  refine o_act rfl rfl rfl rfl (a_buildS (sz := 1) (cs := bytesV [100, 101]) [.const (.int .u8 100), .const (.int .u8 101)] rfl rfl rfl rfl rfl rfl rfl rfl rfl rfl) ?_
  rintro v' H' ⟨b2, rfl, rfl⟩
  refine o_actF rfl rfl rfl rfl (a_same 0 rfl rfl rfl rfl) ?_
  rintro v' F2 H' ⟨rfl, ⟨all2, el2, fz2, hb2, hall2⟩, rfl⟩ hF2
  have hs2 : SlB F2 [] (.slice (some ⟨b2, 0, none⟩) 2 2) [100, 101] := ⟨_, _, rfl, rfl, by decide, by simp, fun i c hc => ⟨b2, 0, rfl, cell_frz hb2 (by simpa using hall2 i c hc)⟩⟩
  refine o_call rfl rfl rfl rfl (c_call callable9 rfl) (dk_Append _ _ a bf1 _ [100, 101] 3 2 _ H hok1 (hs2.frz (Fz.le_refl _)) (by decide) (by decide)) ?_
  rintro v' F2 H' ⟨rfl, rfl, bf2, hok2, rfl⟩ _
  refine o_end ?_
  refine r_seq ?_
  refine r_region rfl ?_
  refine o_val rfl rfl rfl rfl (v_move rfl) ?_
  refine o_call rfl rfl rfl rfl (c_call callable12 rfl) (dk_Crash _ _ a bf2 _ 3 3 1 H hok2 (by decide) (by decide) (by decide) (by decide)) ?_
  rintro v' F2 H' ⟨rfl, rfl, rfl⟩ _
  have hok3 : bf2.ok 4 := Bf.ok_le hok2 (by decide)
  refine o_end ?_
  refine r_seq ?_
  refine r_region rfl ?_
  refine o_val rfl rfl rfl rfl (v_move rfl) ?_
  refine o_call rfl rfl rfl rfl (c_call callable10 rfl) (dk_Read _ _ a bf2 [97, 98, 99, 100] 4 3 H hok3 (by decide)) ?_
  rintro v' F2 H' ⟨rfl, bf4, hok4, rfl, rfl⟩ _
  refine o_val rfl rfl rfl rfl (v_bytesString rfl rfl rfl rfl (l := [97, 98, 99, 100]) (Bf.reads (bf := bf4) (sz := 1) (n := 4) hok4 rfl (by intro e he; exact List.mem_append_left _ he))) ?_
  refine o_val rfl rfl rfl rfl (v_seql rfl rfl) ?_
  refine o_val rfl rfl rfl rfl (v_move rfl) ?_
  refine j_slot 19 rfl (v' := .bool true) rfl ?_
  refine j_drop (List.sublist_append_right _ _) ?_
  refine o_val rfl rfl rfl rfl (v_move rfl) ?_
  refine o_call rfl rfl rfl rfl (c_call callable14 rfl) (dk_Sure _ _ a bf2 [97, 98, 99, 100] 4 3 _) ?_
  rintro v' F2 H' ⟨rfl, rfl, rfl⟩ _
  refine o_val rfl rfl rfl rfl (v_eql rfl rfl) ?_
  refine j_slot 22 rfl (v' := .bool true) rfl ?_
  refine o_val rfl rfl rfl rfl (v_pick1 rfl rfl) ?_
  refine o_val rfl rfl rfl rfl (v_move rfl) ?_
  refine o_val rfl rfl rfl rfl (v_move rfl) ?_
  refine o_call rfl rfl rfl rfl (c_call callable15 rfl) (dk_Ops _ _ a bf2 [97, 98, 99, 100] 4 3 _) ?_
  rintro v' F2 H' ⟨rfl, rfl, rfl⟩ _
  refine o_val rfl rfl rfl rfl (v_eql rfl rfl) ?_
  refine o_val rfl rfl rfl rfl (v_pick1 rfl rfl) ?_
  refine o_val rfl rfl rfl rfl (v_assign rfl) ?_
  refine o_end ?_
  refine j_drop ((List.sublist_append_right _ _).trans (List.sublist_cons_self _ _)) ?_
  exact r_ret1 Try.func6 rfl rfl ⟨⟨rfl, rfl⟩, Fz.le_trans hF1 hF2⟩

theorem law_DiskNil (O : World) (F : Fz) (v : Value) (l : List UInt8) (n : Int) (hv : SlB F [] v l) (hl : l.length ≤ 140737488351232) : Does Try.prog O 5 #[v, .int .i64 n] F [] (fun r _ _ => r = .bool true) := by
  obtain ⟨a0, cap, rfl, hcap⟩ := Sl.shape hv
  refine does_of_run (args := [_, _]) Try.func5 rfl rfl ?_
  refine r_seq ?_
  refine r_region rfl ?_
  refine o_val rfl rfl rfl rfl (v_assign rfl) ?_
  refine o_end ?_
  refine r_seq ?_
  refine r_seq ?_
  refine r_region rfl ?_
  refine o_call rfl rfl rfl rfl (c_call callable6 rfl) (law_awake _ _ _) ?_
  rintro v' F1 H' ⟨rfl, rfl⟩ hF1
  refine o_val rfl rfl rfl rfl (v_not rfl) ?_
  refine o_val rfl rfl rfl rfl (v_move rfl) ?_
  refine o_val rfl rfl rfl rfl (v_move rfl) ?_
  refine o_val rfl rfl rfl rfl (v_len rfl rfl) ?_
  refine o_val rfl rfl rfl rfl (v_gtr rfl rfl) ?_
  refine o_val rfl rfl rfl rfl (v_pick0 rfl rfl) ?_
  refine o_end ?_
  refine r_if rfl (fun h => ?_) (fun h => ?_)
  · refine r_seq ?_
    refine r_region rfl ?_
    refine o_call rfl rfl rfl rfl (c_call callable6 rfl) (law_awake _ _ _) ?_
    rintro v' F2 H' ⟨rfl, rfl⟩ hF2
    refine o_val rfl rfl rfl rfl (v_assign rfl) ?_
    refine o_end ?_
    exact r_ret1 Try.func5 rfl rfl ⟨rfl, Fz.le_trans hF1 hF2⟩
  · refine r_skip ?_
    refine r_seq ?_
    refine r_region rfl ?_
    refine o_val rfl rfl rfl rfl (v_assign rfl) ?_
    refine o_end ?_
    refine r_seq ?_
    refine r_region rfl ?_
    refine o_val rfl rfl rfl rfl (v_move rfl) ?_
    refine o_val rfl rfl rfl rfl (v_move rfl) ?_
    refine o_call rfl rfl rfl rfl (c_call callable12 rfl) (dk_Crash0 _ _ _ _) ?_
    rintro v' F' H' ⟨rfl, rfl, rfl⟩ _
    refine o_end ?_
    refine r_seq ?_
    refine r_region rfl ?_
    refine o_val rfl rfl rfl rfl (v_move rfl) ?_
    refine o_val rfl rfl rfl rfl (v_move rfl) ?_
    refine o_call rfl rfl rfl rfl (c_call callable9 rfl) (dk_Append0 _ _ _ _) ?_
    rintro v' F' H' ⟨rfl, rfl, rfl⟩ _
    refine o_val rfl rfl rfl rfl (v_eql rfl rfl) ?_
    refine o_val rfl rfl rfl rfl (v_move rfl) ?_
    refine o_val rfl rfl rfl rfl (v_move rfl) ?_
    refine o_call rfl rfl rfl rfl (c_call callable11 rfl) (dk_Sync0 _ _ _) ?_
    rintro v' F' H' ⟨rfl, rfl, rfl⟩ _
    refine o_val rfl rfl rfl rfl (v_eql rfl rfl) ?_
    refine o_val rfl rfl rfl rfl (v_pick1 rfl rfl) ?_
    refine o_val rfl rfl rfl rfl (v_move rfl) ?_
    refine o_val rfl rfl rfl rfl (v_move rfl) ?_
    refine o_val rfl rfl rfl rfl (v_move rfl) ?_
    refine o_call rfl rfl rfl rfl (c_call callable8 rfl) (dk_Put0 _ _ _ _) ?_
    rintro v' F' H' ⟨rfl, rfl, rfl⟩ _
    refine o_val rfl rfl rfl rfl (v_eql rfl rfl) ?_
    refine o_val rfl rfl rfl rfl (v_pick1 rfl rfl) ?_
    refine o_val rfl rfl rfl rfl (v_move rfl) ?_
    refine o_val rfl rfl rfl rfl (v_move rfl) ?_
    refine o_call rfl rfl rfl rfl (c_call callable10 rfl) (dk_Read0 _ _ _) ?_
    rintro v' F' H' ⟨rfl, rfl, rfl⟩ _
    refine o_val rfl rfl rfl rfl (v_len rfl rfl) ?_
    refine o_val rfl rfl rfl rfl (v_eql rfl rfl) ?_
    refine o_val rfl rfl rfl rfl (v_pick1 rfl rfl) ?_
    refine o_val rfl rfl rfl rfl (v_move rfl) ?_
    refine o_val rfl rfl rfl rfl (v_move rfl) ?_
    refine o_call rfl rfl rfl rfl (c_call callable13 rfl) (dk_Len0 _ _ _) ?_
    rintro v' F' H' ⟨rfl, rfl, rfl⟩ _
    refine o_val rfl rfl rfl rfl (v_move rfl) ?_
    refine o_call rfl rfl rfl rfl (c_call callable14 rfl) (dk_Sure0 _ _ _) ?_
    rintro v' F' H' ⟨rfl, rfl, rfl⟩ _
    refine o_val rfl rfl rfl rfl (v_add rfl rfl (wrap_i64 (by omega) (by omega))) ?_
    refine o_val rfl rfl rfl rfl (v_move rfl) ?_
    refine o_call rfl rfl rfl rfl (c_call callable15 rfl) (dk_Ops0 _ _ _) ?_
    rintro v' F' H' ⟨rfl, rfl, rfl⟩ _
    refine o_val rfl rfl rfl rfl (v_add rfl rfl (wrap_i64 (by omega) (by omega))) ?_
    refine o_val rfl rfl rfl rfl (v_eql rfl rfl) ?_
    refine o_val rfl rfl rfl rfl (v_pick1 rfl rfl) ?_
    refine o_val rfl rfl rfl rfl (v_assign rfl) ?_
    refine o_end ?_
    exact r_ret1 Try.func5 rfl rfl ⟨rfl, hF1⟩
theorem in_DiskNil (W : World) (v : Value) (zs : List Int) (h : InInts .u8 W v zs) (hn : zs.length * 1 ≤ 140737488351232) (n : Int) (hw : (Lit.int .i64 n).wf = true) :
    Calls Try.prog 5 #[v, .int .i64 n] W fun e w' => e = .returned (.bool true) ∧ Go.RowKit.Below W.heap.size W w' := by
  obtain ⟨l, hl, hv⟩ := inBytes h
  exact below_of_does (law_DiskNil _ _ _ l n hv (by omega))
end Go.SX
