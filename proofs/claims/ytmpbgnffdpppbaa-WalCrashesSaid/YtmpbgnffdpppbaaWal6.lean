/-
  Contracts of the reference: records; an image as records.
-/
import Derived.Test.YtmpbgnffdpppbaaWal5
namespace Go.SX
open Go Go.Proofs
set_option maxRecDepth 4000
set_option linter.unusedSimpArgs false
set_option linter.unusedVariables false

theorem ref_record (O : World) (F : Fz) (k : Nat) (v : Value) (p : List UInt8) (Fr : List Ent) (hk : k < 256) (hv : SlB F Fr v p) (hn : p.length ≤ 140737488350000) :
    Does Try.prog O 35 #[.int .u8 k, v] F Fr (fun r F' H' => F' = F ∧ ∃ bf : Bf, bf.ok (recB k p).length ∧ r = bf.val (recB k p).length ∧ H' = bf.ents 1 (bytesV (recB k p)) ++ Fr) := by
  obtain ⟨a0, cap, rfl, hcap⟩ := Sl.shape hv
  refine does_of_run (args := [_, _]) Try.func35 rfl rfl ?_
  refine r_seq ?_
  refine r_region rfl ?_
  refine o_val rfl rfl rfl rfl (v_assign rfl) ?_
  refine o_end ?_
  refine r_seq ?_
  refine r_region rfl ?_
  refine o_val rfl rfl rfl rfl (v_move rfl) ?_
  refine o_val rfl rfl rfl rfl (v_len rfl rfl) ?_
  refine o_val rfl rfl rfl rfl (v_conv rfl rfl rfl (wrap_u64 (by omega) (by omega))) ?_
  refine o_call rfl rfl rfl rfl (c_call callable36 rfl) (ref_Num _ _ _ [] p.length 4 _ (Sl.nil _ _ _) (by omega) (by simp)) ?_
  rintro v' F H' ⟨rfl, b1, ok1, rfl, rfl⟩ _
  refine o_val rfl rfl rfl rfl (v_assign rfl) ?_
  refine o_end ?_
  refine r_seq ?_
  refine r_region rfl ?_
  refine o_val rfl rfl rfl rfl (v_move rfl) ?_
  refine o_val rfl rfl rfl rfl (v_move rfl) ?_
  refine o_val rfl rfl rfl rfl (v_conv rfl rfl rfl (wrap_u64 (by omega) (by omega))) ?_
  refine o_call rfl rfl rfl rfl (c_call callable36 rfl) (ref_Num _ _ _ _ k 1 _ (bf_reads ok1 (by intro q hq; exact List.mem_append_left _ hq)) (by omega) (by simp)) ?_
  rintro v' F H' ⟨rfl, b2, ok2, rfl, rfl⟩ _
  simp only [List.nil_append] at ok2 ⊢
  refine j_sel (H' := b2.ents 1 (bytesV (leB 4 p.length ++ leB 1 k)) ++ (Fr)) [b2.ents 1 (bytesV (leB 4 p.length ++ leB 1 k)), b1.ents 1 (bytesV (leB 4 p.length)), Fr] [0, 2] rfl rfl rfl ?_
  refine o_val rfl rfl rfl rfl (v_assign rfl) ?_
  refine o_end ?_
  refine r_seq ?_
  refine r_region rfl ?_
  refine o_val rfl rfl rfl rfl (v_move rfl) ?_
  refine o_val rfl rfl rfl rfl (v_move rfl) ?_
  refine o_act rfl rfl rfl rfl (a_append (bf := b2) (sz := 1) (bytes := 1) (m := p.length) ⟨⟨_, _, _, rfl, rfl, rfl, rfl, rfl, rfl⟩, by decide⟩ rfl ok2 (by simp) rfl rfl (hv.mono (Fz.le_refl _) (by intro q hq; exact List.mem_append_right _ hq)) (bytes_one p) (by unfold maxLen; simp; omega) (by simp; omega)) ?_
  rintro v' H' ⟨b3, rfl, ok3, rfl⟩
  rw [← bytesV_append, ← List.length_append] at *
  refine o_call rfl rfl rfl rfl (c_call callable23 rfl) (ref_Seal _ _ _ (leB 4 p.length ++ leB 1 k ++ p) _ (bf_reads ok3 (by intro q hq; exact List.mem_append_left _ hq)) (by simp; omega)) ?_
  rintro v' F H' ⟨rfl, b4, ok4, rfl, rfl⟩ _
  refine j_sel (H' := b4.ents 1 (bytesV (recB k p)) ++ (Fr)) [b4.ents 1 (bytesV (recB k p)), b3.ents 1 (bytesV (leB 4 p.length ++ leB 1 k ++ p)), Fr] [0, 2] rfl rfl rfl ?_
  refine o_val rfl rfl rfl rfl (v_assign rfl) ?_
  refine o_end ?_
  exact r_ret1 Try.func35 rfl rfl ⟨⟨rfl, b4, ok4, rfl, rfl⟩, Fz.le_refl _⟩

theorem ref_Hard (O : World) (F : Fz) (t : Nat) (vo : Int) (Fr : List Ent) (h1 : -1 ≤ vo) (h2 : vo < 65535) :
    Does Try.prog O 15 #[.agg #[.int .u64 t, .int .i64 vo]] F Fr (fun r F' H' => F' = F ∧ ∃ bf : Bf, bf.ok (recB 1 (hardP t (vo + 1).toNat)).length ∧ r = bf.val (recB 1 (hardP t (vo + 1).toNat)).length ∧ H' = bf.ents 1 (bytesV (recB 1 (hardP t (vo + 1).toNat))) ++ Fr) := by
  obtain ⟨w, hw⟩ := Int.eq_ofNat_of_zero_le (show 0 ≤ vo + 1 by omega)
  rw [hw, Int.toNat_natCast]
  refine does_of_run (args := [_]) Try.func15 rfl rfl ?_
  refine r_seq ?_
  refine r_region rfl ?_
  refine o_act rfl rfl rfl rfl (a_box rfl) ?_
  rintro v' H' ⟨s0, rfl, rfl⟩
  refine j_heap (H' := .mem s0 [.int .u64 t, .int .i64 vo] 2 :: Fr) rfl ?_
  refine o_val rfl rfl rfl rfl (v_assign rfl) ?_
  refine o_end ?_
  refine r_seq ?_
  refine d_region 1000000 rfl ([.mem s0 [.int .u64 t, .int .i64 vo] 2]) ?_
  refine d_take (i := 0) rfl rfl rfl (by decide +kernel) (by decide +kernel) (by decide +kernel) (Fz.le_refl _) (by intro e he; simp only [List.mem_cons, List.not_mem_nil, or_false] at he; subst he; simp) rfl (v_field (k := 0) rfl rfl rfl) ?_
  refine d_take (i := 1) rfl rfl rfl (by decide +kernel) (by decide +kernel) (by decide +kernel) (Fz.le_refl _) (by intro e he; simp only [List.mem_cons, List.not_mem_nil, or_false] at he; subst he; simp) rfl (v_load (v := .int .u64 t) rfl rfl (cell_at (j := 0) rfl rfl)) ?_
  refine d_take (i := 3) rfl rfl rfl (by decide +kernel) (by decide +kernel) (by decide +kernel) (Fz.le_refl _) (by intro e he; simp only [List.mem_cons, List.not_mem_nil, or_false] at he; subst he; simp) rfl (v_field (k := 1) rfl rfl rfl) ?_
  refine d_take (i := 4) rfl rfl rfl (by decide +kernel) (by decide +kernel) (by decide +kernel) (Fz.le_refl _) (by intro e he; simp only [List.mem_cons, List.not_mem_nil, or_false] at he; subst he; simp) rfl (v_load (v := .int .i64 vo) rfl rfl (cell_at (j := 0) rfl rfl)) ?_
  refine d_take (i := 5) rfl rfl rfl (by decide +kernel) (by decide +kernel) (by decide +kernel) (Fz.le_refl _) (by intro e he; simp only [List.mem_cons, List.not_mem_nil, or_false] at he; subst he; simp) rfl (v_add rfl rfl (r := (w : Int)) ((wrap_i64 (by omega) (by omega)).trans (by omega))) ?_
  refine d_take (i := 6) rfl rfl rfl (by decide +kernel) (by decide +kernel) (by decide +kernel) (Fz.le_refl _) (by intro e he; simp only [List.mem_cons, List.not_mem_nil, or_false] at he; subst he; simp) rfl (v_conv rfl rfl rfl (wrap_u64 (by omega) (by omega))) ?_
  refine d_one (i := 2) (by decide +kernel) ?_
  refine d1_call rfl rfl rfl rfl (c_call callable36 rfl) (ref_Num _ _ _ [] t 8 _ (Sl.nil _ _ _) (by omega) (by simp)) ?_
  rintro v' F H' ⟨rfl, b1, ok1, rfl, rfl⟩ _
  refine ⟨fun w hw => held_of hw (by first | exact Fz.le_refl _ | assumption) (by intro e he; simp only [List.mem_cons, List.not_mem_nil, or_false] at he; subst he; simp), ?_⟩
  refine d_one (i := 7) (by decide +kernel) ?_
  refine d1_call rfl rfl rfl rfl (c_call callable36 rfl) (ref_Num _ _ _ _ w 2 _ (bf_reads ok1 (by intro q hq; exact List.mem_append_left _ hq)) (by omega) (by simp)) ?_
  rintro v' F H' ⟨rfl, b2, ok2, rfl, rfl⟩ _
  refine ⟨fun w hw => held_of hw (by first | exact Fz.le_refl _ | assumption) (by intro e he; simp only [List.mem_cons, List.not_mem_nil, or_false] at he; subst he; simp), ?_⟩
  simp only [List.nil_append] at ok2 ⊢
  have e2 : leB 8 t ++ leB 2 w = hardP t w := rfl
  rw [e2] at ok2 ⊢
  refine d_one (i := 8) (by decide +kernel) ?_
  refine d1_call rfl rfl rfl rfl (c_call callable35 rfl) (ref_record _ _ 1 _ (hardP t w) _ (by decide) (bf_reads ok2 (by intro q hq; exact List.mem_append_left _ hq)) (by simp)) ?_
  rintro v' F H' ⟨rfl, b3, ok3, rfl, rfl⟩ _
  refine ⟨fun w hw => held_of hw (by first | exact Fz.le_refl _ | assumption) (by intro e he; simp only [List.mem_cons, List.not_mem_nil, or_false] at he; subst he; simp), ?_⟩
  refine d_take (i := 9) rfl rfl rfl (by decide +kernel) (by decide +kernel) (by decide +kernel) (Fz.le_refl _) (by intro e he; simp only [List.mem_cons, List.not_mem_nil, or_false] at he; subst he; simp) rfl (v_assign rfl) ?_
  refine d_end (by decide +kernel) ?_
  refine j_sel (H' := b3.ents 1 (bytesV (recB 1 (hardP t w))) ++ (Fr)) [b3.ents 1 (bytesV (recB 1 (hardP t w))), b2.ents 1 (bytesV (hardP t w)), b1.ents 1 (bytesV (leB 8 t)), [Ent.mem s0 [.int .u64 t, .int .i64 vo] 2], Fr] [0, 4] rfl rfl rfl ?_
  exact r_ret1 Try.func15 rfl rfl ⟨⟨rfl, b3, ok3, rfl, rfl⟩, Fz.le_refl _⟩

theorem ref_Entry (O : World) (F : Fz) (e : En) (Fr : List Ent) (he : e.ok F) :
    Does Try.prog O 16 #[.agg e.cells.toArray] F Fr (fun r F' H' => F' = F ∧ ∃ bf : Bf, bf.ok (PE.bs e.pure).length ∧ r = bf.val (PE.bs e.pure).length ∧ H' = bf.ents 1 (bytesV (PE.bs e.pure)) ++ Fr) := by
  obtain ⟨h1, h2, h3, h4, h5⟩ := he
  obtain ⟨ix, tm, kd, dv, data⟩ := e
  dsimp only at *
  refine does_of_run (args := [_]) Try.func16 rfl rfl ?_
  refine r_seq ?_
  refine r_region rfl ?_
  refine o_act rfl rfl rfl rfl (a_box rfl) ?_
  rintro v' H' ⟨s0, rfl, rfl⟩
  refine j_heap (H' := .mem s0 [.int .u64 ix, .int .u64 tm, .int .u8 kd, dv] 4 :: Fr) rfl ?_
  refine o_val rfl rfl rfl rfl (v_assign rfl) ?_
  refine o_end ?_
  refine r_seq ?_
  refine d_region 1000000 rfl ([.mem s0 [.int .u64 ix, .int .u64 tm, .int .u8 kd, dv] 4]) ?_
  refine d_take (i := 0) rfl rfl rfl (by decide +kernel) (by decide +kernel) (by decide +kernel) (Fz.le_refl _) (by intro e he; simp only [List.mem_cons, List.not_mem_nil, or_false] at he; subst he; simp) rfl (v_field (k := 0) rfl rfl rfl) ?_
  refine d_take (i := 1) rfl rfl rfl (by decide +kernel) (by decide +kernel) (by decide +kernel) (Fz.le_refl _) (by intro e he; simp only [List.mem_cons, List.not_mem_nil, or_false] at he; subst he; simp) rfl (v_load (v := .int .u64 ix) rfl rfl (cell_at (j := 0) rfl rfl)) ?_
  refine d_take (i := 3) rfl rfl rfl (by decide +kernel) (by decide +kernel) (by decide +kernel) (Fz.le_refl _) (by intro e he; simp only [List.mem_cons, List.not_mem_nil, or_false] at he; subst he; simp) rfl (v_field (k := 1) rfl rfl rfl) ?_
  refine d_take (i := 4) rfl rfl rfl (by decide +kernel) (by decide +kernel) (by decide +kernel) (Fz.le_refl _) (by intro e he; simp only [List.mem_cons, List.not_mem_nil, or_false] at he; subst he; simp) rfl (v_load (v := .int .u64 tm) rfl rfl (cell_at (j := 0) rfl rfl)) ?_
  refine d_one (i := 2) (by decide +kernel) ?_
  refine d1_call rfl rfl rfl rfl (c_call callable36 rfl) (ref_Num _ _ _ [] ix 8 _ (Sl.nil _ _ _) (by omega) (by simp)) ?_
  rintro v' F H' ⟨rfl, b1, ok1, rfl, rfl⟩ _
  refine ⟨fun w hw => held_of hw (by first | exact Fz.le_refl _ | assumption) (by intro e he; simp only [List.mem_cons, List.not_mem_nil, or_false] at he; subst he; simp), ?_⟩
  refine d_one (i := 5) (by decide +kernel) ?_
  refine d1_call rfl rfl rfl rfl (c_call callable36 rfl) (ref_Num _ _ _ _ tm 8 _ (bf_reads ok1 (by intro q hq; exact List.mem_append_left _ hq)) (by omega) (by simp)) ?_
  rintro v' F H' ⟨rfl, b2, ok2, rfl, rfl⟩ _
  refine ⟨fun w hw => held_of hw (by first | exact Fz.le_refl _ | assumption) (by intro e he; simp only [List.mem_cons, List.not_mem_nil, or_false] at he; subst he; simp), ?_⟩
  simp only [List.nil_append] at ok2 ⊢
  refine j_sel (H' := b2.ents 1 (bytesV (leB 8 ix ++ leB 8 tm)) ++ (Ent.mem s0 [.int .u64 ix, .int .u64 tm, .int .u8 kd, dv] 4 :: (Fr))) [b2.ents 1 (bytesV (leB 8 ix ++ leB 8 tm)), b1.ents 1 (bytesV (leB 8 ix)), [Ent.mem s0 [.int .u64 ix, .int .u64 tm, .int .u8 kd, dv] 4], Fr] [0, 2, 3] rfl rfl rfl ?_
  refine d_take (i := 6) rfl rfl rfl (by decide +kernel) (by decide +kernel) (by decide +kernel) (Fz.le_refl _) (by intro e he; simp only [List.mem_cons, List.not_mem_nil, or_false] at he; subst he; simp) rfl (v_assign rfl) ?_
  refine d_end (by decide +kernel) ?_
  refine r_seq ?_
  refine d_region 1000000 rfl ([.mem s0 [.int .u64 ix, .int .u64 tm, .int .u8 kd, dv] 4]) ?_
  refine d_take (i := 0) rfl rfl rfl (by decide +kernel) (by decide +kernel) (by decide +kernel) (Fz.le_refl _) (by intro e he; simp only [List.mem_cons, List.not_mem_nil, or_false] at he; subst he; simp) rfl (v_move rfl) ?_
  refine d_take (i := 1) rfl rfl rfl (by decide +kernel) (by decide +kernel) (by decide +kernel) (Fz.le_refl _) (by intro e he; simp only [List.mem_cons, List.not_mem_nil, or_false] at he; subst he; simp) rfl (v_field (k := 2) rfl rfl rfl) ?_
  refine d_take (i := 2) rfl rfl rfl (by decide +kernel) (by decide +kernel) (by decide +kernel) (Fz.le_refl _) (by intro e he; simp only [List.mem_cons, List.not_mem_nil, or_false] at he; subst he; simp) rfl (v_load (v := .int .u8 kd) rfl rfl (cell_at (j := 0) rfl rfl)) ?_
  refine d_take (i := 3) rfl rfl rfl (by decide +kernel) (by decide +kernel) (by decide +kernel) (Fz.le_refl _) (by intro e he; simp only [List.mem_cons, List.not_mem_nil, or_false] at he; subst he; simp) rfl (v_conv rfl rfl rfl (wrap_u64 (by omega) (by omega))) ?_
  refine d_take (i := 5) rfl rfl rfl (by decide +kernel) (by decide +kernel) (by decide +kernel) (Fz.le_refl _) (by intro e he; simp only [List.mem_cons, List.not_mem_nil, or_false] at he; subst he; simp) rfl (v_field (k := 3) rfl rfl rfl) ?_
  refine d_take (i := 6) rfl rfl rfl (by decide +kernel) (by decide +kernel) (by decide +kernel) (Fz.le_refl _) (by intro e he; simp only [List.mem_cons, List.not_mem_nil, or_false] at he; subst he; simp) rfl (v_load (v := dv) rfl rfl (cell_at (j := 0) rfl rfl)) ?_
  refine d_one (i := 4) (by decide +kernel) ?_
  refine d1_call rfl rfl rfl rfl (c_call callable36 rfl) (ref_Num _ _ _ _ kd 1 _ (bf_reads ok2 (by intro q hq; exact List.mem_append_left _ hq)) (by omega) (by simp)) ?_
  rintro v' F H' ⟨rfl, b3, ok3, rfl, rfl⟩ _
  refine ⟨fun w hw => held_of hw (by first | exact Fz.le_refl _ | assumption) (by intro e he; simp only [List.mem_cons, List.not_mem_nil, or_false] at he; subst he; simp), ?_⟩
  refine d_one (i := 7) (by decide +kernel) ?_
  refine d1_call rfl rfl rfl rfl (c_call callable37 rfl) (ref_Bytes _ _ _ _ _ data _ (bf_reads ok3 (by intro q hq; exact List.mem_append_left _ hq)) (h4.frz (Fz.le_refl _)) (by simp; omega)) ?_
  rintro v' F H' ⟨rfl, b4, ok4, rfl, rfl⟩ _
  refine ⟨fun w hw => held_of hw (by first | exact Fz.le_refl _ | assumption) (by intro e he; simp only [List.mem_cons, List.not_mem_nil, or_false] at he; subst he; simp), ?_⟩
  have e4 : leB 8 ix ++ leB 8 tm ++ leB 1 kd ++ lenB data = entP ix tm kd data := rfl
  rw [e4] at ok4 ⊢
  refine d_one (i := 8) (by decide +kernel) ?_
  refine d1_call rfl rfl rfl rfl (c_call callable35 rfl) (ref_record _ _ 2 _ (entP ix tm kd data) _ (by decide) (bf_reads ok4 (by intro q hq; exact List.mem_append_left _ hq)) (by simp; omega)) ?_
  rintro v' F H' ⟨rfl, b5, ok5, rfl, rfl⟩ _
  refine ⟨fun w hw => held_of hw (by first | exact Fz.le_refl _ | assumption) (by intro e he; simp only [List.mem_cons, List.not_mem_nil, or_false] at he; subst he; simp), ?_⟩
  refine d_take (i := 9) rfl rfl rfl (by decide +kernel) (by decide +kernel) (by decide +kernel) (Fz.le_refl _) (by intro e he; simp only [List.mem_cons, List.not_mem_nil, or_false] at he; subst he; simp) rfl (v_assign rfl) ?_
  refine d_end (by decide +kernel) ?_
  refine j_sel (H' := b5.ents 1 (bytesV (recB 2 (entP ix tm kd data))) ++ (Fr)) [b5.ents 1 (bytesV (recB 2 (entP ix tm kd data))), b4.ents 1 (bytesV (entP ix tm kd data)), b3.ents 1 (bytesV (leB 8 ix ++ leB 8 tm ++ leB 1 kd)), b2.ents 1 (bytesV (leB 8 ix ++ leB 8 tm)), [Ent.mem s0 [.int .u64 ix, .int .u64 tm, .int .u8 kd, dv] 4], Fr] [0, 5] rfl rfl rfl ?_
  exact r_ret1 Try.func16 rfl rfl ⟨⟨rfl, b5, ok5, rfl, rfl⟩, Fz.le_refl _⟩

theorem ref_Snap (O : World) (F : Fz) (ix tm vt : Nat) (dv : Value) (data : List UInt8) (Fr : List Ent) (hd : SlB F [] dv data) (hl : data.length ≤ 1048576) :
    Does Try.prog O 31 #[.agg #[.int .u64 ix, .int .u64 tm, .int .u64 vt, dv]] F Fr (fun r F' H' => F' = F ∧ ∃ bf : Bf, bf.ok (recB 3 (snapP ix tm vt data)).length ∧ r = bf.val (recB 3 (snapP ix tm vt data)).length ∧ H' = bf.ents 1 (bytesV (recB 3 (snapP ix tm vt data))) ++ Fr) := by
  refine does_of_run (args := [_]) Try.func31 rfl rfl ?_
  refine r_seq ?_
  refine r_region rfl ?_
  refine o_act rfl rfl rfl rfl (a_box rfl) ?_
  rintro v' H' ⟨s0, rfl, rfl⟩
  refine j_heap (H' := .mem s0 [.int .u64 ix, .int .u64 tm, .int .u64 vt, dv] 4 :: Fr) rfl ?_
  refine o_val rfl rfl rfl rfl (v_assign rfl) ?_
  refine o_end ?_
  refine r_seq ?_
  refine d_region 1000000 rfl ([.mem s0 [.int .u64 ix, .int .u64 tm, .int .u64 vt, dv] 4]) ?_
  refine d_take (i := 0) rfl rfl rfl (by decide +kernel) (by decide +kernel) (by decide +kernel) (Fz.le_refl _) (by intro e he; simp only [List.mem_cons, List.not_mem_nil, or_false] at he; subst he; simp) rfl (v_field (k := 0) rfl rfl rfl) ?_
  refine d_take (i := 1) rfl rfl rfl (by decide +kernel) (by decide +kernel) (by decide +kernel) (Fz.le_refl _) (by intro e he; simp only [List.mem_cons, List.not_mem_nil, or_false] at he; subst he; simp) rfl (v_load (v := .int .u64 ix) rfl rfl (cell_at (j := 0) rfl rfl)) ?_
  refine d_take (i := 3) rfl rfl rfl (by decide +kernel) (by decide +kernel) (by decide +kernel) (Fz.le_refl _) (by intro e he; simp only [List.mem_cons, List.not_mem_nil, or_false] at he; subst he; simp) rfl (v_field (k := 1) rfl rfl rfl) ?_
  refine d_take (i := 4) rfl rfl rfl (by decide +kernel) (by decide +kernel) (by decide +kernel) (Fz.le_refl _) (by intro e he; simp only [List.mem_cons, List.not_mem_nil, or_false] at he; subst he; simp) rfl (v_load (v := .int .u64 tm) rfl rfl (cell_at (j := 0) rfl rfl)) ?_
  refine d_one (i := 2) (by decide +kernel) ?_
  refine d1_call rfl rfl rfl rfl (c_call callable36 rfl) (ref_Num _ _ _ [] ix 8 _ (Sl.nil _ _ _) (by omega) (by simp)) ?_
  rintro v' F H' ⟨rfl, b1, ok1, rfl, rfl⟩ _
  refine ⟨fun w hw => held_of hw (by first | exact Fz.le_refl _ | assumption) (by intro e he; simp only [List.mem_cons, List.not_mem_nil, or_false] at he; subst he; simp), ?_⟩
  refine d_one (i := 5) (by decide +kernel) ?_
  refine d1_call rfl rfl rfl rfl (c_call callable36 rfl) (ref_Num _ _ _ _ tm 8 _ (bf_reads ok1 (by intro q hq; exact List.mem_append_left _ hq)) (by omega) (by simp)) ?_
  rintro v' F H' ⟨rfl, b2, ok2, rfl, rfl⟩ _
  refine ⟨fun w hw => held_of hw (by first | exact Fz.le_refl _ | assumption) (by intro e he; simp only [List.mem_cons, List.not_mem_nil, or_false] at he; subst he; simp), ?_⟩
  simp only [List.nil_append] at ok2 ⊢
  refine j_sel (H' := b2.ents 1 (bytesV (leB 8 ix ++ leB 8 tm)) ++ (Ent.mem s0 [.int .u64 ix, .int .u64 tm, .int .u64 vt, dv] 4 :: (Fr))) [b2.ents 1 (bytesV (leB 8 ix ++ leB 8 tm)), b1.ents 1 (bytesV (leB 8 ix)), [Ent.mem s0 [.int .u64 ix, .int .u64 tm, .int .u64 vt, dv] 4], Fr] [0, 2, 3] rfl rfl rfl ?_
  refine d_take (i := 6) rfl rfl rfl (by decide +kernel) (by decide +kernel) (by decide +kernel) (Fz.le_refl _) (by intro e he; simp only [List.mem_cons, List.not_mem_nil, or_false] at he; subst he; simp) rfl (v_assign rfl) ?_
  refine d_end (by decide +kernel) ?_
  refine r_seq ?_
  refine d_region 1000000 rfl ([.mem s0 [.int .u64 ix, .int .u64 tm, .int .u64 vt, dv] 4]) ?_
  refine d_take (i := 0) rfl rfl rfl (by decide +kernel) (by decide +kernel) (by decide +kernel) (Fz.le_refl _) (by intro e he; simp only [List.mem_cons, List.not_mem_nil, or_false] at he; subst he; simp) rfl (v_move rfl) ?_
  refine d_take (i := 1) rfl rfl rfl (by decide +kernel) (by decide +kernel) (by decide +kernel) (Fz.le_refl _) (by intro e he; simp only [List.mem_cons, List.not_mem_nil, or_false] at he; subst he; simp) rfl (v_field (k := 2) rfl rfl rfl) ?_
  refine d_take (i := 2) rfl rfl rfl (by decide +kernel) (by decide +kernel) (by decide +kernel) (Fz.le_refl _) (by intro e he; simp only [List.mem_cons, List.not_mem_nil, or_false] at he; subst he; simp) rfl (v_load (v := .int .u64 vt) rfl rfl (cell_at (j := 0) rfl rfl)) ?_
  refine d_take (i := 4) rfl rfl rfl (by decide +kernel) (by decide +kernel) (by decide +kernel) (Fz.le_refl _) (by intro e he; simp only [List.mem_cons, List.not_mem_nil, or_false] at he; subst he; simp) rfl (v_field (k := 3) rfl rfl rfl) ?_
  refine d_take (i := 5) rfl rfl rfl (by decide +kernel) (by decide +kernel) (by decide +kernel) (Fz.le_refl _) (by intro e he; simp only [List.mem_cons, List.not_mem_nil, or_false] at he; subst he; simp) rfl (v_load (v := dv) rfl rfl (cell_at (j := 0) rfl rfl)) ?_
  refine d_one (i := 3) (by decide +kernel) ?_
  refine d1_call rfl rfl rfl rfl (c_call callable36 rfl) (ref_Num _ _ _ _ vt 8 _ (bf_reads ok2 (by intro q hq; exact List.mem_append_left _ hq)) (by omega) (by simp)) ?_
  rintro v' F H' ⟨rfl, b3, ok3, rfl, rfl⟩ _
  refine ⟨fun w hw => held_of hw (by first | exact Fz.le_refl _ | assumption) (by intro e he; simp only [List.mem_cons, List.not_mem_nil, or_false] at he; subst he; simp), ?_⟩
  refine d_one (i := 6) (by decide +kernel) ?_
  refine d1_call rfl rfl rfl rfl (c_call callable37 rfl) (ref_Bytes _ _ _ _ _ data _ (bf_reads ok3 (by intro q hq; exact List.mem_append_left _ hq)) (hd.frz (Fz.le_refl _)) (by simp; omega)) ?_
  rintro v' F H' ⟨rfl, b4, ok4, rfl, rfl⟩ _
  refine ⟨fun w hw => held_of hw (by first | exact Fz.le_refl _ | assumption) (by intro e he; simp only [List.mem_cons, List.not_mem_nil, or_false] at he; subst he; simp), ?_⟩
  have e4 : leB 8 ix ++ leB 8 tm ++ leB 8 vt ++ lenB data = snapP ix tm vt data := rfl
  rw [e4] at ok4 ⊢
  refine d_one (i := 7) (by decide +kernel) ?_
  refine d1_call rfl rfl rfl rfl (c_call callable35 rfl) (ref_record _ _ 3 _ (snapP ix tm vt data) _ (by decide) (bf_reads ok4 (by intro q hq; exact List.mem_append_left _ hq)) (by simp; omega)) ?_
  rintro v' F H' ⟨rfl, b5, ok5, rfl, rfl⟩ _
  refine ⟨fun w hw => held_of hw (by first | exact Fz.le_refl _ | assumption) (by intro e he; simp only [List.mem_cons, List.not_mem_nil, or_false] at he; subst he; simp), ?_⟩
  refine d_take (i := 8) rfl rfl rfl (by decide +kernel) (by decide +kernel) (by decide +kernel) (Fz.le_refl _) (by intro e he; simp only [List.mem_cons, List.not_mem_nil, or_false] at he; subst he; simp) rfl (v_assign rfl) ?_
  refine d_end (by decide +kernel) ?_
  refine j_sel (H' := b5.ents 1 (bytesV (recB 3 (snapP ix tm vt data))) ++ (Fr)) [b5.ents 1 (bytesV (recB 3 (snapP ix tm vt data))), b4.ents 1 (bytesV (snapP ix tm vt data)), b3.ents 1 (bytesV (leB 8 ix ++ leB 8 tm ++ leB 8 vt)), b2.ents 1 (bytesV (leB 8 ix ++ leB 8 tm)), [Ent.mem s0 [.int .u64 ix, .int .u64 tm, .int .u64 vt, dv] 4], Fr] [0, 5] rfl rfl rfl ?_
  exact r_ret1 Try.func31 rfl rfl ⟨⟨rfl, b5, ok5, rfl, rfl⟩, Fz.le_refl _⟩
end Go.SX
