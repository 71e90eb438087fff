/-
  Contracts of package wal over a disk; the law's own: awake, image.
-/
import Derived.Test.YtmpbgnffdpppbaaWalP
namespace Go.SX
open Go Go.Proofs
set_option maxRecDepth 4000
set_option linter.unusedSimpArgs false
set_option linter.unusedVariables false

theorem law_awake (O : World) (F : Fz) (H : List Ent) : Does Try.prog O 9 #[] F H (fun r F' H' => r = .bool true ∧ H' = H) := by
  have hb : saveB true 3 1 (([] : List En).map En.pure) = recB 1 (hardP 3 2) := rfl
  have hbl : (recB 1 (hardP 3 2)).length = 19 := by simp
  have h1 : addP nilI 1 (hardP 3 2) = some ⟨3, 1, 0, 0, 0, [], []⟩ := by
    rw [addP, if_pos rfl, hardR_hardP (by decide) (by decide)]
    rfl
  have hs : scanP nilI (recB 1 (hardP 3 2) ++ (recB 1 (hardP 3 2)).take 5) = (⟨3, 1, 0, 0, 0, [], []⟩, 19) := by
    have hr := (Reaches.nil.more (d := hardP 3 2) (k := 1) (by simp) (by decide) h1).stop (rest := (recB 1 (hardP 3 2)).take 5) (takeB_lt9 (by simp))
    rw [List.nil_append, hbl] at hr
    exact hr
  refine does_of_run (args := []) Try.func9 rfl rfl ?_
  refine r_seq ?_
  refine r_region rfl ?_
  refine o_val rfl rfl rfl rfl (v_assign rfl) ?_
  refine o_end ?_
  refine r_seq ?_
  refine r_region rfl ?_
  refine o_val rfl rfl rfl rfl (v_build rfl rfl) ?_
  refine o_val rfl rfl rfl rfl (v_build rfl rfl) ?_
  refine o_call rfl rfl rfl rfl (c_call callable17 rfl) (wal_Bytes _ _ true 3 1 (.slice none 0 0) [] _ (Sl.nil _ _ _) (by simp) (by decide) (by decide) (by decide)) ?_
  rintro v' F H' ⟨rfl, bf, hok, rfl, rfl⟩ _
  rw [hb] at hok ⊢
  rw [hbl] at hok ⊢
  refine o_val rfl rfl rfl rfl (v_assign rfl) ?_
  refine o_end ?_
  refine r_seq ?_
  refine r_seq ?_
  refine r_region rfl ?_
  refine o_val rfl rfl rfl rfl (v_move rfl) ?_
  refine o_val rfl rfl rfl rfl (v_len rfl rfl) ?_
  refine o_val rfl rfl rfl rfl (v_lss rfl rfl) ?_
  refine o_end ?_
  refine r_false rfl ?_
  refine r_skip ?_
  refine r_seq ?_
  refine r_region rfl ?_
  refine o_val rfl rfl rfl rfl (v_move rfl) ?_
  refine o_val rfl rfl rfl rfl (v_move rfl) ?_
  refine o_val rfl rfl rfl rfl (v_sliceH (sz := 1) (h := 5) rfl rfl rfl rfl rfl (by have := Bf.ok_cp hok; omega)) ?_
  refine j_slot 13 rfl (v' := bf.val 5) (Bf.cut _ _ _) ?_
  have hr : Sl F (bf.ents 1 (bytesV (recB 1 (hardP 3 2))) ++ H) 1 (bf.val 5) 5 (bytesV ((recB 1 (hardP 3 2)).take 5)) := by
    cases bf with
    | nil => exact absurd (show (19 : Nat) = 0 from hok) (by decide)
    | «at» b c =>
      have hc : 19 ≤ c := hok
      exact ⟨_, c, rfl, by simp [bytesV], by omega, by simp [Bf.addr], fun i q hq => ⟨b, 0, rfl, cell_own (cs := bytesV (recB 1 (hardP 3 2))) (n := c * 1) (List.mem_append_left _ (List.mem_cons_self ..)) (by
        rw [bytesV_get] at hq ⊢
        rw [List.getElem?_take] at hq
        split at hq
        · simpa using hq
        · cases hq)⟩⟩
  refine o_act rfl rfl rfl rfl (a_append (bf := bf) (n := 19) (sz := 1) (bytes := 1) (m := 5) ⟨⟨_, _, _, rfl, rfl, rfl, rfl, rfl, rfl⟩, by decide⟩ rfl hok (by simp) rfl rfl hr (bytes_one _) (by decide) (by decide)) ?_
  rintro v' H' ⟨b2, rfl, ok2, rfl⟩
  rw [← bytesV_append]
  refine j_freezeBf (n := 24) ok2 (by simp) fun F1 hF1 hs1 => ?_
  have hs1' : SlB F1 [] (b2.val 24) (recB 1 (hardP 3 2) ++ (recB 1 (hardP 3 2)).take 5) := by
    have e : (recB 1 (hardP 3 2) ++ (recB 1 (hardP 3 2)).take 5).length = 24 := by simp
    unfold SlB
    rw [e]
    exact hs1
  refine o_call rfl rfl rfl rfl (c_call callable12 rfl) (wal_Scan _ _ _ _ _ hs1' (by simp)) ?_
  rintro v' F2 H ⟨hF2, rfl, p, hp, _, hpp, rfl⟩ _
  rw [hs] at hpp ⊢
  have hpt : p.term = 3 := congrArg PI.term hpp
  have hpv : p.vote = 1 := congrArg PI.vote hpp
  refine o_val rfl rfl rfl rfl (v_move rfl) ?_
  refine o_val rfl rfl rfl rfl (v_extract rfl rfl) ?_
  refine o_val rfl rfl rfl rfl (v_extract rfl rfl) ?_
  refine o_act rfl rfl rfl rfl (a_alloc rfl) ?_
  rintro v' H' ⟨x, rfl, rfl⟩
  refine o_act0 rfl rfl rfl (a_store (sz := 7) 0 rfl rfl rfl (by simpa [Value.cells] using hp.one) rfl rfl (Nat.le_of_ble_eq_true rfl)) ?_
  refine j_heap (H' := .mem x p.cells 7 :: H) rfl ?_
  refine o_val rfl rfl rfl rfl (v_assign rfl) ?_
  refine o_end ?_
  refine r_seq ?_
  refine r_region rfl ?_
  refine o_val rfl rfl rfl rfl (v_move rfl) ?_
  refine o_val rfl rfl rfl rfl (v_move rfl) ?_
  refine o_val rfl rfl rfl rfl (v_len rfl rfl) ?_
  refine o_val rfl rfl rfl rfl (v_eql rfl rfl) ?_
  refine o_val rfl rfl rfl rfl (v_move rfl) ?_
  refine o_val rfl rfl rfl rfl (v_field (k := 0) rfl rfl rfl) ?_
  refine o_val rfl rfl rfl rfl (v_loadAgg (sz := 2) (cs := [.int .u64 p.term, .int .i64 p.vote]) rfl rfl rfl rfl (cells_of (j := 0) _ _ rfl rfl)) ?_
  refine o_val rfl rfl rfl rfl (v_build rfl rfl) ?_
  refine o_val rfl rfl rfl rfl (v_agg2eq rfl rfl rfl (by show Try.prog.stoodInHeld _ = false; decide +kernel) (by show Try.prog.eqGuardType Try.prog.depth _ = false; decide +kernel) rfl (by decide) (by decide) rfl rfl rfl rfl rfl rfl) ?_
  refine o_val rfl rfl rfl rfl (v_pick1 rfl rfl) ?_
  refine o_val rfl rfl rfl rfl (v_assign rfl) ?_
  refine o_end ?_
  rw [hpt, hpv]
  refine j_drop (List.sublist_cons_self _ _) ?_
  exact r_ret1 Try.func9 rfl rfl ⟨⟨rfl, rfl⟩, Fz.le_trans hF1 hF2⟩

theorem wal_Open0 (O : World) (F : Fz) (Fr : List Ent) : Does Try.prog O 20 #[nilP] F Fr (fun r F' H' => r = .tuple #[.agg (Im.cells ⟨0, 0, 0, 0, 0, .slice none 0 0, [], .slice none 0 0, []⟩).toArray, .int .i64 2] ∧ F' = F ∧ H' = Fr) := by
  refine does_of_run (args := [_]) Try.func20 rfl rfl ?_
  refine r_seq ?_
  refine r_region rfl ?_
  refine o_act rfl rfl rfl rfl (a_alloc rfl) ?_
  rintro v' H' ⟨x, rfl, rfl⟩
  refine o_val rfl rfl rfl rfl (v_assign rfl) ?_
  refine o_end ?_
  refine r_seq ?_
  refine r_seq ?_
  refine r_region rfl ?_
  refine o_val rfl rfl rfl rfl (v_move rfl) ?_
  refine o_val rfl rfl rfl rfl (v_peqnil rfl rfl rfl) ?_
  refine o_end ?_
  refine r_true rfl ?_
  refine r_seq ?_
  refine r_region rfl ?_
  refine o_val rfl rfl rfl rfl (v_build rfl rfl) ?_
  refine o_act0 rfl rfl rfl (a_store (sz := 7) 0 rfl rfl rfl rfl rfl rfl (Nat.le_of_ble_eq_true rfl)) ?_
  refine j_heap (H' := .mem x (Im.cells ⟨0, 0, 0, 0, 0, .slice none 0 0, [], .slice none 0 0, []⟩) 7 :: Fr) rfl ?_
  refine o_val rfl rfl rfl rfl (v_assign rfl) ?_
  refine o_end ?_
  exact r_retC1 Try.func20 rfl rfl rfl rfl rfl rfl (cells_of (j := 0) _ _ rfl rfl) (H' := Fr) (List.sublist_cons_self _ _) ⟨⟨rfl, rfl, rfl⟩, Fz.le_refl _⟩
theorem wal_Keep0 (O : World) (F : Fz) (t : Nat) (Fr : List Ent) : Does Try.prog O 21 #[nilP, .agg #[.bool true, .int .u64 t, .int .i64 0, .slice none 0 0]] F Fr (fun r F' H' => r = .int .i64 2 ∧ F' = F ∧ H' = Fr) := by
  refine does_of_run (args := [_, _]) Try.func21 rfl rfl ?_
  refine r_seq ?_
  refine r_region rfl ?_
  refine o_act rfl rfl rfl rfl (a_box rfl) ?_
  rintro v' H' ⟨s0, rfl, rfl⟩
  refine o_val rfl rfl rfl rfl (v_assign rfl) ?_
  refine o_end ?_
  refine r_seq ?_
  refine r_region rfl ?_
  refine o_val rfl rfl rfl rfl (v_move rfl) ?_
  refine o_val rfl rfl rfl rfl (v_loadAgg (sz := 4) (cs := [.bool true, .int .u64 t, .int .i64 0, .slice none 0 0]) rfl rfl rfl rfl (cells_of (j := 0) _ _ rfl rfl)) ?_
  refine o_call rfl rfl rfl rfl (c_call callable17 rfl) (wal_Bytes _ _ true t 0 (.slice none 0 0) [] _ (Sl.nil _ _ _) (by simp) (by decide) (by decide) (by decide)) ?_
  rintro v' F H' ⟨rfl, bf, hok, rfl, rfl⟩ _
  refine o_call rfl rfl rfl rfl (c_call callable29 rfl) (dk_Append0 _ _ _ _) ?_
  rintro v' F H' ⟨rfl, rfl, rfl⟩ _
  refine o_val rfl rfl rfl rfl (v_assign rfl) ?_
  refine o_end ?_
  refine j_drop (H' := Fr) ((List.sublist_cons_self _ _).trans (List.sublist_append_right _ _)) ?_
  exact r_ret1 Try.func21 rfl rfl ⟨⟨rfl, rfl, rfl⟩, Fz.le_refl _⟩
theorem wal_Compact0 (O : World) (F : Fz) (Fr : List Ent) : Does Try.prog O 22 #[nilP, .agg (Im.cells ⟨0, 0, 0, 0, 0, .slice none 0 0, [], .slice none 0 0, []⟩).toArray] F Fr (fun r F' H' => r = .int .i64 2 ∧ F' = F ∧ H' = Fr) := by
  refine does_of_run (args := [_, _]) Try.func22 rfl rfl ?_
  refine r_seq ?_
  refine r_region rfl ?_
  refine o_act rfl rfl rfl rfl (a_box rfl) ?_
  rintro v' H' ⟨s0, rfl, rfl⟩
  refine j_heap (H' := .mem s0 (Im.cells ⟨0, 0, 0, 0, 0, .slice none 0 0, [], .slice none 0 0, []⟩) 7 :: Fr) rfl ?_
  refine o_val rfl rfl rfl rfl (v_assign rfl) ?_
  refine o_end ?_
  refine r_seq ?_
  refine r_region rfl ?_
  refine o_val rfl rfl rfl rfl (v_move rfl) ?_
  refine o_val rfl rfl rfl rfl (v_loadAgg (sz := 7) (cs := (Im.cells ⟨0, 0, 0, 0, 0, .slice none 0 0, [], .slice none 0 0, []⟩)) rfl rfl rfl rfl (cells_of (j := 0) _ _ rfl rfl)) ?_
  refine o_call rfl rfl rfl rfl (c_call callable18 rfl) (wal_Whole _ _ ⟨0, 0, 0, 0, 0, .slice none 0 0, [], .slice none 0 0, []⟩ _ ⟨by decide, by decide, by decide, by decide, by decide, by decide, Sl.nil _ _ _, by simp, Sl.nil _ _ _, by simp⟩ (by simp)) ?_
  rintro v' F H' ⟨rfl, bf, hok, rfl, rfl⟩ _
  refine o_call rfl rfl rfl rfl (c_call callable43 rfl) (dk_Put0 _ _ _ _) ?_
  rintro v' F H' ⟨rfl, rfl, rfl⟩ _
  refine o_val rfl rfl rfl rfl (v_assign rfl) ?_
  refine o_end ?_
  refine j_drop (H' := Fr) ((List.sublist_cons_self _ _).trans (List.sublist_append_right _ _)) ?_
  exact r_ret1 Try.func22 rfl rfl ⟨⟨rfl, rfl, rfl⟩, Fz.le_refl _⟩
end Go.SX
