/-
  Chapter 06: the example; the laws QueueSizes, QueueLong, QueueErrs.
-/
import Derived.Test.YtkckfmbecbleaaaQueue
namespace Go.SX
open Go Go.Proofs
set_option linter.unusedSimpArgs false
set_option linter.unusedVariables false

theorem split_ab (id : Nat) : splitE 64 [97, 98] = 0 ∧ splitR 64 id [97, 98] = [frB 64 id 0 1 [97, 98]] := by
  have h1 : splitE 64 [97, 98] = 0 := by decide
  refine ⟨h1, ?_⟩
  unfold splitR
  rw [if_pos h1]
  unfold splitL
  have h2 : partsN (64 : Int).toNat [(97 : UInt8), 98].length = 1 := by decide
  rw [h2]
  rfl

set_option maxHeartbeats 1000000 in
set_option maxRecDepth 4000 in
theorem law6_awake (O : World) (F : Fz) (Fr : List Ent) : Does Try.prog O 7 #[] F Fr (fun r _ H' => r = .bool true ∧ H' = Fr) := by
  obtain ⟨hE, hR⟩ := split_ab 5
  have hP : putE 64 4 5 ([] : List Row).length [97, 98] = 0 := by
    unfold putE
    have h1 : splitE ((64 : Nat) : Int) [97, 98] = 0 := hE
    have h2 : splitR ((64 : Nat) : Int) 5 [97, 98] = [frB 64 5 0 1 [97, 98]] := hR
    rw [if_neg (by rw [h1]; simp), h2, if_neg (by simp)]
  refine does_of_run (args := []) Try.func7 rfl rfl ?_
  refine r_seq ?_
  refine r_region rfl ?_
  refine o_val rfl rfl rfl rfl (v_assign rfl) ?_
  refine o_end ?_
  refine r_seq ?_
  refine r_region rfl ?_
  refine o_call rfl rfl rfl rfl (c_call callable8 rfl) (q_New _ _ 64 4 5 Fr) ?_
  rintro v' F H' ⟨rfl, hnew⟩ _
  rcases hnew with ⟨hbad, _⟩ | ⟨_, q, rfl, rfl⟩
  · exact absurd hbad (by decide)
  · refine o_val rfl rfl rfl rfl (v_move rfl) ?_
    refine o_val rfl rfl rfl rfl (v_extract rfl rfl) ?_
    refine o_val rfl rfl rfl rfl (v_extract rfl rfl) ?_
    refine o_val rfl rfl rfl rfl (v_assign rfl) ?_
    refine o_val rfl rfl rfl rfl (v_assign rfl) ?_
    refine o_end ?_
    refine r_seq ?_
    refine r_seq ?_
    refine r_region rfl ?_
    refine o_val rfl rfl rfl rfl (v_move rfl) ?_
    refine o_val rfl rfl rfl rfl (v_neq rfl rfl) ?_
    refine o_val rfl rfl rfl rfl (v_move rfl) ?_
    refine o_val rfl rfl rfl rfl (v_move rfl) ?_
    refine o_act rfl rfl rfl rfl (a_buildS (sz := 1) (cs := [byteV 97, byteV 98]) [.const (.int .u8 97), .const (.int .u8 98)] rfl rfl rfl rfl rfl rfl rfl rfl rfl rfl) ?_
    rintro v' H' ⟨y, rfl, rfl⟩
    refine o_actF rfl rfl rfl rfl (a_same 0 rfl rfl rfl rfl) ?_
    rintro v' F1 H' ⟨rfl, ⟨all, el, fz, hb, hall⟩, hH'⟩ hF1
    obtain rfl : H' = QH q 64 4 5 .nil [] Fr := hH'
    have hs : SlB F1 [] (.slice (some ⟨y, 0, none⟩) 2 2) [97, 98] := ⟨_, _, rfl, rfl, by decide, by simp, fun i c hc => ⟨y, 0, rfl, cell_frz hb (by simpa using hall i c hc)⟩⟩
    refine o_call rfl rfl rfl rfl (c_call callable9 rfl) (q_Put _ _ q 64 4 5 .nil [] _ [97, 98] Fr rfl hs (by decide) (by decide) (by decide) (by decide) (by decide) (by simp)) ?_
    rintro v' F2 H' ⟨hF2, rfl, hput⟩ _
    rcases hput with ⟨hne, _⟩ | ⟨_, ns, bf, hns, hfz, hok, _, rfl⟩
    · exact absurd hP hne
    · rw [hP]
      have h2 : splitR ((64 : Nat) : Int) 5 [97, 98] = [frB 64 5 0 1 [97, 98]] := hR
      rw [h2] at hns
      have hl1 : ns.length = 1 := by have := congrArg List.length hns; simpa using this
      obtain ⟨x, rfl⟩ := List.length_eq_one_iff.1 hl1
      simp only [List.map_cons, List.map_nil, List.cons.injEq, and_true] at hns
      rw [List.nil_append] at hok ⊢
      refine o_val rfl rfl rfl rfl (v_neq rfl rfl) ?_
      refine o_val rfl rfl rfl rfl (v_pick0 rfl rfl) ?_
      refine o_end ?_
      refine r_false rfl ?_
      refine r_skip ?_
      refine r_seq ?_
      refine d_region 1000000 rfl ([]) ?_
      refine d_take (i := 0) rfl rfl rfl (by decide +kernel) (by decide +kernel) (by decide +kernel) (Fz.le_refl _) (by simp) rfl (v_move rfl) ?_
      have hq1 : ∀ {F'}, F2.le F' → ∀ r ∈ [x], SlB F' [] r.1 r.2 := fun hle r hr => (hfz r hr).frz hle
      refine d_all [1, 3] (by decide +kernel) (by simp) ?_
      intro zz hzz
      simp only [List.mem_cons, List.not_mem_nil, or_false] at hzz
      rcases hzz with rfl | rfl
      · refine d1_call rfl rfl rfl rfl (c_call callable10 rfl) (q_Slot _ _ q 64 4 _ bf [x] Fr hok (by simp) (hq1 (Fz.le_refl _))) ?_
        rintro v1 F3 H' ⟨hF3, hs3, bf3, hok3, rfl⟩ _
        refine ⟨fun w hw => held_of hw (by first | exact Fz.le_refl _ | assumption) (by simp), ?_⟩
        refine d_more ([]) (by first | assumption | exact Fz.le_refl _) (by simp) ?_
        refine d_take (i := 2) rfl rfl rfl (by decide +kernel) (by decide +kernel) (by decide +kernel) (Fz.le_refl _) (by simp) rfl (v_bytesString rfl rfl rfl rfl (l := slotB 64 [x]) (hs3.frz (Fz.le_refl _))) ?_
        refine d_one (i := 3) (by decide +kernel) ?_
        refine d1_act rfl rfl rfl rfl (a_buildS (sz := 1) (cs := [byteV 97, byteV 98]) [.const (.int .u8 97), .const (.int .u8 98)] rfl rfl rfl rfl rfl rfl rfl rfl rfl rfl) ?_
        rintro v' H' ⟨y2, rfl, rfl⟩
        refine ⟨fun w hw => held_of hw (by first | exact Fz.le_refl _ | assumption) (by simp), ?_⟩
        refine d_one (i := 4) (by decide +kernel) ?_
        refine d1_actF rfl rfl rfl rfl (a_same 0 rfl rfl rfl rfl) ?_
        rintro v' F4 H' ⟨rfl, ⟨all2, el2, fz2, hb2, hall2⟩, hH'⟩ hF4
        refine ⟨fun w hw => held_of hw (by first | exact Fz.le_refl _ | assumption) (by simp), ?_⟩
        refine d_more ([]) (by first | assumption | exact Fz.le_refl _) (by simp) ?_
        obtain rfl : H' = QH q 64 4 6 bf3 [] Fr := hH'
        have hs2 : SlB F4 [] (.slice (some ⟨y2, 0, none⟩) 2 2) [97, 98] := ⟨_, _, rfl, rfl, by decide, by simp, fun i c hc => ⟨y2, 0, rfl, cell_frz hb2 (by simpa using hall2 i c hc)⟩⟩
        have hnx : frB 64 5 0 1 [97, 98] = slotB 64 [x] := hns.symm
        refine d_one (i := 5) (by decide +kernel) ?_
        refine d1_call rfl rfl rfl rfl (c_call callable15 rfl) (ref_Frame _ _ 64 5 0 1 _ [97, 98] _ (hs2.frz (by first | exact Fz.le_refl _ | assumption)) (by decide) (by decide) (by decide) (by decide)) ?_
        rintro v2 F5 H' ⟨rfl, bp, okp, rfl, rfl⟩ _
        refine ⟨fun w hw => held_of hw (by first | exact Fz.le_refl _ | assumption) (by simp), ?_⟩
        refine j_freezeBf okp (by simp) fun F6 hF6 hs6 => ?_
        refine d_more ([]) (by first | assumption | exact Fz.le_refl _) (by simp) ?_
        refine d_take (i := 6) rfl rfl rfl (by decide +kernel) (by decide +kernel) (by decide +kernel) (Fz.le_refl _) (by simp) rfl (v_bytesString rfl rfl rfl rfl (l := frB 64 5 0 1 [97, 98]) (Sl.frz hs6 (Fz.le_refl _))) ?_
        refine d_take (i := 7) rfl rfl rfl (by decide +kernel) (by decide +kernel) (by decide +kernel) (Fz.le_refl _) (by simp) rfl (v_seql rfl rfl) ?_
        refine j_slot 23 rfl (v' := .bool true) (by rw [hnx, decide_eq_true rfl]) ?_
        refine d_take (i := 8) rfl rfl rfl (by decide +kernel) (by decide +kernel) (by decide +kernel) (Fz.le_refl _) (by simp) rfl (v_move rfl) ?_
        refine d_take (i := 9) rfl rfl rfl (by decide +kernel) (by decide +kernel) (by decide +kernel) (Fz.le_refl _) (by simp) rfl (v_move rfl) ?_
        refine d_one (i := 10) (by decide +kernel) ?_
        refine d1_call rfl rfl rfl rfl (c_call callable10 rfl) (q_Slot _ _ q 64 4 _ bf3 [] Fr hok3 (by simp) (by simp)) ?_
        rintro v3 F7 H' ⟨hF7, hs7, bf7, hok7, rfl⟩ _
        refine ⟨fun w hw => held_of hw (by first | exact Fz.le_refl _ | assumption) (by simp), ?_⟩
        refine d_more ([]) (by first | assumption | exact Fz.le_refl _) (by simp) ?_
        refine d_take (i := 11) rfl rfl rfl (by decide +kernel) (by decide +kernel) (by decide +kernel) (Fz.le_refl _) (by simp) rfl (v_bytesString rfl rfl rfl rfl (l := slotB 64 []) (Sl.frz hs7 (Fz.le_refl _))) ?_
        refine d_one (i := 12) (by decide +kernel) ?_
        refine d1_call rfl rfl rfl rfl (c_call callable13 rfl) (ref_Dummy _ _ 64 _) ?_
        rintro v4 F8 H' ⟨rfl, bd, hod, rfl, rfl⟩ _
        refine ⟨fun w hw => held_of hw (by first | exact Fz.le_refl _ | assumption) (by simp), ?_⟩
        refine j_freezeBf hod (by simp) fun F9 hF9 hs9 => ?_
        refine d_more ([]) (by first | assumption | exact Fz.le_refl _) (by simp) ?_
        refine d_take (i := 13) rfl rfl rfl (by decide +kernel) (by decide +kernel) (by decide +kernel) (Fz.le_refl _) (by simp) rfl (v_bytesString rfl rfl rfl rfl (l := dummyB 64) (Sl.frz hs9 (Fz.le_refl _))) ?_
        refine d_take (i := 14) rfl rfl rfl (by decide +kernel) (by decide +kernel) (by decide +kernel) (Fz.le_refl _) (by simp) rfl (v_seql rfl rfl) ?_
        refine d_take (i := 15) rfl rfl rfl (by decide +kernel) (by decide +kernel) (by decide +kernel) (Fz.le_refl _) (by simp) rfl (v_pick1 rfl rfl) ?_
        refine d_take (i := 16) rfl rfl rfl (by decide +kernel) (by decide +kernel) (by decide +kernel) (Fz.le_refl _) (by simp) rfl (v_assign rfl) ?_
        refine d_end (by decide +kernel) ?_
        refine j_slot 0 rfl (v' := .bool true) (by show Value.bool (decide (dummyB 64 = dummyB 64)) = _; rw [decide_eq_true rfl]) ?_
        refine j_drop ((List.sublist_append_right _ _).trans (List.sublist_cons_self _ _)) ?_
        exact r_ret1 Try.func7 rfl rfl ⟨⟨rfl, rfl⟩, Fz.le_trans hF1 (Fz.le_trans hF2 (Fz.le_trans hF3 (Fz.le_trans hF4 (Fz.le_trans hF6 (Fz.le_trans hF7 hF9)))))⟩
      · refine d1_act rfl rfl rfl rfl (a_buildS (sz := 1) (cs := [byteV 97, byteV 98]) [.const (.int .u8 97), .const (.int .u8 98)] rfl rfl rfl rfl rfl rfl rfl rfl rfl rfl) ?_
        rintro v' H' ⟨y2, rfl, rfl⟩
        refine ⟨fun w hw => held_of hw (by first | exact Fz.le_refl _ | assumption) (by simp), ?_⟩
        refine d_all [1, 4] (by decide +kernel) (by simp) ?_
        intro zz hzz
        simp only [List.mem_cons, List.not_mem_nil, or_false] at hzz
        rcases hzz with rfl | rfl
        · refine d1_call rfl rfl rfl rfl (c_call callable10 rfl) (does_perm (selPerm (H' := QE q 64 4 6 bf [x].length :: (bf.ents 1 ([x].map (·.1)) ++ (.mem y2 [byteV 97, byteV 98] 2 :: (Fr)))) [[.mem y2 [byteV 97, byteV 98] 2], [QE q 64 4 6 bf [x].length], bf.ents 1 ([x].map (·.1)), Fr] [1, 2, 0, 3] rfl rfl rfl rfl) (q_Slot _ _ q 64 4 6 bf [x] (.mem y2 [byteV 97, byteV 98] 2 :: Fr) hok (by simp) (hq1 (Fz.le_refl _)))) ?_
          rintro v1 F3 H' ⟨hF3, hs3, bf3, hok3, rfl⟩ _
          refine ⟨fun w hw => held_of hw (by first | exact Fz.le_refl _ | assumption) (by simp), ?_⟩
          refine d_more ([]) (by first | assumption | exact Fz.le_refl _) (by simp) ?_
          refine d_take (i := 2) rfl rfl rfl (by decide +kernel) (by decide +kernel) (by decide +kernel) (Fz.le_refl _) (by simp) rfl (v_bytesString rfl rfl rfl rfl (l := slotB 64 [x]) (hs3.frz (Fz.le_refl _))) ?_
          refine j_sel (H' := .mem y2 [byteV 97, byteV 98] 2 :: (QE q 64 4 6 bf3 0 :: (bf3.ents 1 [] ++ (Fr)))) [[QE q 64 4 6 bf3 0], bf3.ents 1 [], [.mem y2 [byteV 97, byteV 98] 2], Fr] [2, 0, 1, 3] rfl rfl rfl ?_
          refine d_one (i := 4) (by decide +kernel) ?_
          refine d1_actF rfl rfl rfl rfl (a_same 0 rfl rfl rfl rfl) ?_
          rintro v' F4 H' ⟨rfl, ⟨all2, el2, fz2, hb2, hall2⟩, hH'⟩ hF4
          refine ⟨fun w hw => held_of hw (by first | exact Fz.le_refl _ | assumption) (by simp), ?_⟩
          refine d_more ([]) (by first | assumption | exact Fz.le_refl _) (by simp) ?_
          obtain rfl : H' = QH q 64 4 6 bf3 [] Fr := hH'
          have hs2 : SlB F4 [] (.slice (some ⟨y2, 0, none⟩) 2 2) [97, 98] := ⟨_, _, rfl, rfl, by decide, by simp, fun i c hc => ⟨y2, 0, rfl, cell_frz hb2 (by simpa using hall2 i c hc)⟩⟩
          have hnx : frB 64 5 0 1 [97, 98] = slotB 64 [x] := hns.symm
          refine d_one (i := 5) (by decide +kernel) ?_
          refine d1_call rfl rfl rfl rfl (c_call callable15 rfl) (ref_Frame _ _ 64 5 0 1 _ [97, 98] _ (hs2.frz (by first | exact Fz.le_refl _ | assumption)) (by decide) (by decide) (by decide) (by decide)) ?_
          rintro v2 F5 H' ⟨rfl, bp, okp, rfl, rfl⟩ _
          refine ⟨fun w hw => held_of hw (by first | exact Fz.le_refl _ | assumption) (by simp), ?_⟩
          refine j_freezeBf okp (by simp) fun F6 hF6 hs6 => ?_
          refine d_more ([]) (by first | assumption | exact Fz.le_refl _) (by simp) ?_
          refine d_take (i := 6) rfl rfl rfl (by decide +kernel) (by decide +kernel) (by decide +kernel) (Fz.le_refl _) (by simp) rfl (v_bytesString rfl rfl rfl rfl (l := frB 64 5 0 1 [97, 98]) (Sl.frz hs6 (Fz.le_refl _))) ?_
          refine d_take (i := 7) rfl rfl rfl (by decide +kernel) (by decide +kernel) (by decide +kernel) (Fz.le_refl _) (by simp) rfl (v_seql rfl rfl) ?_
          refine j_slot 23 rfl (v' := .bool true) (by rw [hnx, decide_eq_true rfl]) ?_
          refine d_take (i := 8) rfl rfl rfl (by decide +kernel) (by decide +kernel) (by decide +kernel) (Fz.le_refl _) (by simp) rfl (v_move rfl) ?_
          refine d_take (i := 9) rfl rfl rfl (by decide +kernel) (by decide +kernel) (by decide +kernel) (Fz.le_refl _) (by simp) rfl (v_move rfl) ?_
          refine d_one (i := 10) (by decide +kernel) ?_
          refine d1_call rfl rfl rfl rfl (c_call callable10 rfl) (q_Slot _ _ q 64 4 _ bf3 [] Fr hok3 (by simp) (by simp)) ?_
          rintro v3 F7 H' ⟨hF7, hs7, bf7, hok7, rfl⟩ _
          refine ⟨fun w hw => held_of hw (by first | exact Fz.le_refl _ | assumption) (by simp), ?_⟩
          refine d_more ([]) (by first | assumption | exact Fz.le_refl _) (by simp) ?_
          refine d_take (i := 11) rfl rfl rfl (by decide +kernel) (by decide +kernel) (by decide +kernel) (Fz.le_refl _) (by simp) rfl (v_bytesString rfl rfl rfl rfl (l := slotB 64 []) (Sl.frz hs7 (Fz.le_refl _))) ?_
          refine d_one (i := 12) (by decide +kernel) ?_
          refine d1_call rfl rfl rfl rfl (c_call callable13 rfl) (ref_Dummy _ _ 64 _) ?_
          rintro v4 F8 H' ⟨rfl, bd, hod, rfl, rfl⟩ _
          refine ⟨fun w hw => held_of hw (by first | exact Fz.le_refl _ | assumption) (by simp), ?_⟩
          refine j_freezeBf hod (by simp) fun F9 hF9 hs9 => ?_
          refine d_more ([]) (by first | assumption | exact Fz.le_refl _) (by simp) ?_
          refine d_take (i := 13) rfl rfl rfl (by decide +kernel) (by decide +kernel) (by decide +kernel) (Fz.le_refl _) (by simp) rfl (v_bytesString rfl rfl rfl rfl (l := dummyB 64) (Sl.frz hs9 (Fz.le_refl _))) ?_
          refine d_take (i := 14) rfl rfl rfl (by decide +kernel) (by decide +kernel) (by decide +kernel) (Fz.le_refl _) (by simp) rfl (v_seql rfl rfl) ?_
          refine d_take (i := 15) rfl rfl rfl (by decide +kernel) (by decide +kernel) (by decide +kernel) (Fz.le_refl _) (by simp) rfl (v_pick1 rfl rfl) ?_
          refine d_take (i := 16) rfl rfl rfl (by decide +kernel) (by decide +kernel) (by decide +kernel) (Fz.le_refl _) (by simp) rfl (v_assign rfl) ?_
          refine d_end (by decide +kernel) ?_
          refine j_slot 0 rfl (v' := .bool true) (by show Value.bool (decide (dummyB 64 = dummyB 64)) = _; rw [decide_eq_true rfl]) ?_
          refine j_drop ((List.sublist_append_right _ _).trans (List.sublist_cons_self _ _)) ?_
          exact r_ret1 Try.func7 rfl rfl ⟨⟨rfl, rfl⟩, Fz.le_trans hF1 (Fz.le_trans hF2 (Fz.le_trans hF3 (Fz.le_trans hF4 (Fz.le_trans hF6 (Fz.le_trans hF7 hF9)))))⟩
        · refine d1_actF rfl rfl rfl rfl (a_same 0 rfl rfl rfl rfl) ?_
          rintro v' F4 H' ⟨rfl, ⟨all2, el2, fz2, hb2, hall2⟩, hH'⟩ hF4
          refine ⟨fun w hw => held_of hw (by first | exact Fz.le_refl _ | assumption) (by simp), ?_⟩
          refine d_more ([]) (by first | assumption | exact Fz.le_refl _) (by simp) ?_
          obtain rfl : H' = QH q 64 4 6 bf [x] Fr := hH'
          refine d_one (i := 1) (by decide +kernel) ?_
          refine d1_call rfl rfl rfl rfl (c_call callable10 rfl) (q_Slot _ _ q 64 4 _ bf [x] Fr hok (by simp) (hq1 hF4)) ?_
          rintro v1 F3 H' ⟨hF3, hs3, bf3, hok3, rfl⟩ _
          refine ⟨fun w hw => held_of hw (by first | exact Fz.le_refl _ | assumption) (by simp), ?_⟩
          refine d_more ([]) (by first | assumption | exact Fz.le_refl _) (by simp) ?_
          refine d_take (i := 2) rfl rfl rfl (by decide +kernel) (by decide +kernel) (by decide +kernel) (Fz.le_refl _) (by simp) rfl (v_bytesString rfl rfl rfl rfl (l := slotB 64 [x]) (hs3.frz (Fz.le_refl _))) ?_
          have hs2 : SlB F4 [] (.slice (some ⟨y2, 0, none⟩) 2 2) [97, 98] := ⟨_, _, rfl, rfl, by decide, by simp, fun i c hc => ⟨y2, 0, rfl, cell_frz hb2 (by simpa using hall2 i c hc)⟩⟩
          have hnx : frB 64 5 0 1 [97, 98] = slotB 64 [x] := hns.symm
          refine d_one (i := 5) (by decide +kernel) ?_
          refine d1_call rfl rfl rfl rfl (c_call callable15 rfl) (ref_Frame _ _ 64 5 0 1 _ [97, 98] _ (hs2.frz (by first | exact Fz.le_refl _ | assumption)) (by decide) (by decide) (by decide) (by decide)) ?_
          rintro v2 F5 H' ⟨rfl, bp, okp, rfl, rfl⟩ _
          refine ⟨fun w hw => held_of hw (by first | exact Fz.le_refl _ | assumption) (by simp), ?_⟩
          refine j_freezeBf okp (by simp) fun F6 hF6 hs6 => ?_
          refine d_more ([]) (by first | assumption | exact Fz.le_refl _) (by simp) ?_
          refine d_take (i := 6) rfl rfl rfl (by decide +kernel) (by decide +kernel) (by decide +kernel) (Fz.le_refl _) (by simp) rfl (v_bytesString rfl rfl rfl rfl (l := frB 64 5 0 1 [97, 98]) (Sl.frz hs6 (Fz.le_refl _))) ?_
          refine d_take (i := 7) rfl rfl rfl (by decide +kernel) (by decide +kernel) (by decide +kernel) (Fz.le_refl _) (by simp) rfl (v_seql rfl rfl) ?_
          refine j_slot 23 rfl (v' := .bool true) (by rw [hnx, decide_eq_true rfl]) ?_
          refine d_take (i := 8) rfl rfl rfl (by decide +kernel) (by decide +kernel) (by decide +kernel) (Fz.le_refl _) (by simp) rfl (v_move rfl) ?_
          refine d_take (i := 9) rfl rfl rfl (by decide +kernel) (by decide +kernel) (by decide +kernel) (Fz.le_refl _) (by simp) rfl (v_move rfl) ?_
          refine d_one (i := 10) (by decide +kernel) ?_
          refine d1_call rfl rfl rfl rfl (c_call callable10 rfl) (q_Slot _ _ q 64 4 _ bf3 [] Fr hok3 (by simp) (by simp)) ?_
          rintro v3 F7 H' ⟨hF7, hs7, bf7, hok7, rfl⟩ _
          refine ⟨fun w hw => held_of hw (by first | exact Fz.le_refl _ | assumption) (by simp), ?_⟩
          refine d_more ([]) (by first | assumption | exact Fz.le_refl _) (by simp) ?_
          refine d_take (i := 11) rfl rfl rfl (by decide +kernel) (by decide +kernel) (by decide +kernel) (Fz.le_refl _) (by simp) rfl (v_bytesString rfl rfl rfl rfl (l := slotB 64 []) (Sl.frz hs7 (Fz.le_refl _))) ?_
          refine d_one (i := 12) (by decide +kernel) ?_
          refine d1_call rfl rfl rfl rfl (c_call callable13 rfl) (ref_Dummy _ _ 64 _) ?_
          rintro v4 F8 H' ⟨rfl, bd, hod, rfl, rfl⟩ _
          refine ⟨fun w hw => held_of hw (by first | exact Fz.le_refl _ | assumption) (by simp), ?_⟩
          refine j_freezeBf hod (by simp) fun F9 hF9 hs9 => ?_
          refine d_more ([]) (by first | assumption | exact Fz.le_refl _) (by simp) ?_
          refine d_take (i := 13) rfl rfl rfl (by decide +kernel) (by decide +kernel) (by decide +kernel) (Fz.le_refl _) (by simp) rfl (v_bytesString rfl rfl rfl rfl (l := dummyB 64) (Sl.frz hs9 (Fz.le_refl _))) ?_
          refine d_take (i := 14) rfl rfl rfl (by decide +kernel) (by decide +kernel) (by decide +kernel) (Fz.le_refl _) (by simp) rfl (v_seql rfl rfl) ?_
          refine d_take (i := 15) rfl rfl rfl (by decide +kernel) (by decide +kernel) (by decide +kernel) (Fz.le_refl _) (by simp) rfl (v_pick1 rfl rfl) ?_
          refine d_take (i := 16) rfl rfl rfl (by decide +kernel) (by decide +kernel) (by decide +kernel) (Fz.le_refl _) (by simp) rfl (v_assign rfl) ?_
          refine d_end (by decide +kernel) ?_
          refine j_slot 0 rfl (v' := .bool true) (by show Value.bool (decide (dummyB 64 = dummyB 64)) = _; rw [decide_eq_true rfl]) ?_
          refine j_drop ((List.sublist_append_right _ _).trans (List.sublist_cons_self _ _)) ?_
          exact r_ret1 Try.func7 rfl rfl ⟨⟨rfl, rfl⟩, Fz.le_trans hF1 (Fz.le_trans hF2 (Fz.le_trans hF4 (Fz.le_trans hF3 (Fz.le_trans hF6 (Fz.le_trans hF7 hF9)))))⟩
end Go.SX
