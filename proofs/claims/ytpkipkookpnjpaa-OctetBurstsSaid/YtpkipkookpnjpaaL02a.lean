/-
  Chapter 02: the law OctetSums: octet.Sum and octet.Seal answer as the reference does.
-/
import Derived.Test.YtpkipkookpnjpaaOct
namespace Go.SX
open Go Go.Proofs

theorem law_awake (O : World) (F : Fz) (H : List Ent) : Does Try.prog O 9 #[] F H (fun r _ H' => r = .bool true ∧ H' = H) := by
  refine does_of_run (args := []) Try.func9 rfl rfl ?_
  refine r_seq ?_
  refine r_region rfl ?_
  refine o_val rfl rfl rfl rfl (v_assign rfl) ?_
  refine o_end ?_
  refine r_seq ?_
  refine r_region rfl ?_
  refine o_val rfl rfl rfl rfl (v_build rfl rfl) ?_
  refine o_act rfl rfl rfl rfl (a_box rfl) ?_
  rintro v' H' ⟨a, rfl, rfl⟩
  refine o_val rfl rfl rfl rfl (v_assign rfl) ?_
  refine o_end ?_
  refine r_seq ?_
  refine r_region rfl ?_
  refine o_act rfl rfl rfl rfl (a_buildS (sz := 1) (cs := bytesV [49, 50, 51, 52, 53, 54, 55, 56, 57]) [.const (.int .u8 49), .const (.int .u8 50), .const (.int .u8 51), .const (.int .u8 52), .const (.int .u8 53), .const (.int .u8 54), .const (.int .u8 55), .const (.int .u8 56), .const (.int .u8 57)] rfl rfl rfl rfl rfl rfl rfl rfl rfl rfl) ?_
  rintro v' H' ⟨b, rfl, rfl⟩
  refine o_actF rfl rfl rfl rfl (a_same 0 rfl rfl rfl rfl) ?_
  rintro v' F1 H' ⟨rfl, ⟨all, el, fz, hb, hall⟩, rfl⟩ hF1
  have hs : SlB F1 [] (.slice (some ⟨b, 0, none⟩) 9 9) [49, 50, 51, 52, 53, 54, 55, 56, 57] := ⟨_, _, rfl, rfl, by decide, by simp, fun i c hc => ⟨b, 0, rfl, cell_frz hb (by simpa using hall i c hc)⟩⟩
  refine o_call rfl rfl rfl rfl (c_call callable10 rfl) (oct_Sum _ _ _ _ _ (hs.frz (Fz.le_refl _)) (by decide)) ?_
  rintro v' F2 H' ⟨rfl, rfl, rfl⟩ _
  refine o_val rfl rfl rfl rfl (v_eql rfl rfl) ?_
  refine o_val rfl rfl rfl rfl (v_move rfl) ?_
  have hcrc : ((crc [49, 50, 51, 52, 53, 54, 55, 56, 57]).toNat : Int) = 3421780262 := by decide +kernel
  refine j_slot 8 rfl (v' := .bool true) (by rw [hcrc]; rfl) ?_
  refine o_val rfl rfl rfl rfl (v_move rfl) ?_
  refine o_call rfl rfl rfl rfl (c_call callable25 rfl) (oct_Num _ _ _ .nil [] 258 2 _ rfl (by omega) (by simp)) ?_
  rintro v' F' H' ⟨rfl, rfl, bf', hok', rfl⟩ _
  refine o_call rfl rfl rfl rfl (c_call callable30 rfl) (oct_Done _ _ _ _ _) ?_
  rintro v' F' H' ⟨rfl, rfl, rfl⟩ _
  refine o_val rfl rfl rfl rfl (v_bytesString rfl rfl rfl rfl (l := [2, 1]) (Bf.reads (bf := bf') (sz := 1) (n := 2) hok' rfl (by intro e he; exact List.mem_cons_of_mem _ (List.mem_append_left _ he)))) ?_
  refine o_val rfl rfl rfl rfl (v_seql rfl rfl) ?_
  refine o_val rfl rfl rfl rfl (v_pick1 rfl rfl) ?_
  refine o_val rfl rfl rfl rfl (v_assign rfl) ?_
  refine o_end ?_
  refine j_drop (List.Sublist.cons _ (List.sublist_append_right _ _)) ?_
  exact r_ret1 Try.func9 rfl rfl ⟨⟨rfl, rfl⟩, hF1⟩

theorem law_OctetSums (O : World) (F : Fz) (v : Value) (l : List UInt8) (hv : SlB F [] v l) (hl : l.length ≤ 140737488351232) : Does Try.prog O 3 #[v] F [] (fun r _ _ => r = .bool true) := by
  obtain ⟨a0, cap, rfl, hcap⟩ := Sl.shape hv
  refine does_of_run (args := [_]) Try.func3 rfl rfl ?_
  refine r_seq ?_
  refine r_region rfl ?_
  refine o_val rfl rfl rfl rfl (v_assign rfl) ?_
  refine o_end ?_
  refine r_seq ?_
  refine r_seq ?_
  refine r_region rfl ?_
  refine o_call rfl rfl rfl rfl (c_call callable9 rfl) (law_awake _ _ _) ?_
  rintro v' F1 H' ⟨rfl, rfl⟩ hF1
  refine o_val rfl rfl rfl rfl (v_not rfl) ?_
  refine o_val rfl rfl rfl rfl (v_move rfl) ?_
  refine o_val rfl rfl rfl rfl (v_move rfl) ?_
  refine o_val rfl rfl rfl rfl (v_len rfl rfl) ?_
  refine o_val rfl rfl rfl rfl (v_gtr rfl rfl) ?_
  refine o_val rfl rfl rfl rfl (v_pick0 rfl rfl) ?_
  refine o_end ?_
  refine r_if rfl (fun h => ?_) (fun h => ?_)
  · refine r_seq ?_
    refine r_region rfl ?_
    refine o_call rfl rfl rfl rfl (c_call callable9 rfl) (law_awake _ _ _) ?_
    rintro v' F2 H' ⟨rfl, rfl⟩ hF2
    refine o_val rfl rfl rfl rfl (v_assign rfl) ?_
    refine o_end ?_
    exact r_ret1 Try.func3 rfl rfl ⟨rfl, Fz.le_trans hF1 hF2⟩
  · have hv1 : SlB F1 [] (.slice a0 l.length cap) l := hv.frz hF1
    refine r_skip ?_
    refine r_seq ?_
    refine d_region rfl ([]) ?_
    refine d_take (i := 0) rfl rfl rfl (by decide +kernel) (by decide +kernel) (by decide +kernel) (Fz.le_refl _) (by simp) rfl (v_move rfl) ?_
    refine d_take (i := 2) rfl rfl rfl (by decide +kernel) (by decide +kernel) (by decide +kernel) (Fz.le_refl _) (by simp) rfl (v_move rfl) ?_
    refine d_one (i := 1) (by decide +kernel) ?_
    refine d1_call rfl rfl rfl rfl (c_call callable10 rfl) (oct_Sum _ _ _ _ l (hv1.mono (Fz.le_refl _) (by simp)) (by omega)) ?_
    rintro v' F2 H' ⟨rfl, rfl, rfl⟩ _
    refine ⟨fun w hw => held_of hw (Fz.le_refl _) (by simp), ?_⟩
    refine d_one (i := 3) (by decide +kernel) ?_
    refine d1_call rfl rfl rfl rfl (c_call callable11 rfl) (ref_Sum _ _ _ _ l (hv1.mono (Fz.le_refl _) (by simp)) (by omega)) ?_
    rintro v' F3 H' ⟨rfl, rfl, rfl⟩ _
    refine ⟨fun w hw => held_of hw (Fz.le_refl _) (by simp), ?_⟩
    refine d_take (i := 4) rfl rfl rfl (by decide +kernel) (by decide +kernel) (by decide +kernel) (Fz.le_refl _) (by simp) rfl (v_eql rfl rfl) ?_
    refine j_slot 15 rfl (v' := .bool true) (by rw [decide_eq_true rfl]) ?_
    refine d_take (i := 5) rfl rfl rfl (by decide +kernel) (by decide +kernel) (by decide +kernel) (Fz.le_refl _) (by simp) rfl (v_move rfl) ?_
    refine d_take (i := 6) rfl rfl rfl (by decide +kernel) (by decide +kernel) (by decide +kernel) (Fz.le_refl _) (by simp) rfl (v_move rfl) ?_
    refine d_take (i := 9) rfl rfl rfl (by decide +kernel) (by decide +kernel) (by decide +kernel) (Fz.le_refl _) (by simp) rfl (v_move rfl) ?_
    refine d_one (i := 7) (by decide +kernel) ?_
    refine d1_call rfl rfl rfl rfl (c_call callable12 rfl) (oct_Seal _ _ _ l [] (hv1.mono (Fz.le_refl _) (by simp)) (by omega)) ?_
    rintro v' F4 H' ⟨rfl, bf, hok, rfl, rfl⟩ _
    refine ⟨fun w hw => held_of hw (Fz.le_refl _) (by simp), ?_⟩
    refine j_freezeBf hok (by simp) fun F5 hF5 hs5 => ?_
    refine d_more ([]) hF5 (by simp) ?_
    refine d_take (i := 8) rfl rfl rfl (by decide +kernel) (by decide +kernel) (by decide +kernel) (Fz.le_refl _) (by simp) rfl (v_bytesString rfl rfl rfl rfl (l := sealB l) (hs5.mono (Fz.le_refl _) (by simp))) ?_
    refine d_one (i := 10) (by decide +kernel) ?_
    refine d1_call rfl rfl rfl rfl (c_call callable13 rfl) (ref_Seal _ _ _ l [] (hv1.frz hF5) (by omega)) ?_
    rintro v' F6 H' ⟨rfl, bf2, hok2, rfl, rfl⟩ _
    refine ⟨fun w hw => held_of hw (Fz.le_refl _) (by simp), ?_⟩
    refine j_freezeBf hok2 (by simp) fun F7 hF7 hs7 => ?_
    refine d_more ([]) hF7 (by simp) ?_
    refine d_take (i := 11) rfl rfl rfl (by decide +kernel) (by decide +kernel) (by decide +kernel) (Fz.le_refl _) (by simp) rfl (v_bytesString rfl rfl rfl rfl (l := sealB l) (hs7.mono (Fz.le_refl _) (by simp))) ?_
    refine d_take (i := 12) rfl rfl rfl (by decide +kernel) (by decide +kernel) (by decide +kernel) (Fz.le_refl _) (by simp) rfl (v_seql rfl rfl) ?_
    refine d_take (i := 13) rfl rfl rfl (by decide +kernel) (by decide +kernel) (by decide +kernel) (Fz.le_refl _) (by simp) rfl (v_pick1 rfl rfl) ?_
    refine d_take (i := 14) rfl rfl rfl (by decide +kernel) (by decide +kernel) (by decide +kernel) (Fz.le_refl _) (by simp) rfl (v_assign rfl) ?_
    refine d_end (by decide +kernel) ?_
    refine r_ret1 Try.func3 rfl rfl ⟨by rw [decide_eq_true rfl], ?_⟩
    exact Fz.le_trans hF1 (Fz.le_trans hF5 hF7)

theorem in_OctetSums (W : World) (v : Value) (zs : List Int) (h : InInts .u8 W v zs) (hn : zs.length * 1 ≤ 140737488351232) :
    Calls Try.prog 3 #[v] W fun e w' => e = .returned (.bool true) ∧ Go.RowKit.Below W.heap.size W w' := by
  obtain ⟨l, hl, hv⟩ := inBytes h
  exact below_of_does (law_OctetSums _ _ _ l hv (by omega))
end Go.SX
