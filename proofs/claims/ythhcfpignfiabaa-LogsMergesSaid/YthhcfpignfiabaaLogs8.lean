/-
  What a log tells is what the document says (dumbwaiterlaw09.told).
-/
import Derived.Test.YthhcfpignfiabaaLogs7
namespace Go.SX
open Go Go.Proofs
set_option linter.unusedSimpArgs false
set_option linter.unusedVariables false

theorem enV_drop : ∀ (l : List En) (k : Nat), (enV l).drop (k * 4) = enV (l.drop k)
  | l, 0 => by simp
  | [], k + 1 => by simp [enV]
  | e :: r, k + 1 => by
    have ih := enV_drop r k
    have h4 : e.cells.length = 4 := rfl
    show (e.cells ++ enV r).drop ((k + 1) * 4) = _
    rw [show (k + 1) * 4 = e.cells.length + k * 4 by rw [h4]; omega, ← List.drop_drop, List.drop_left, ih]
    rfl
theorem enV_mid (l : List En) (k : Nat) (hk : k < l.length) : ((enV l).drop (k * 4)).take 4 = enV [l[k]] := by
  rw [enV_drop, List.drop_eq_getElem_cons hk]
  show (l[k].cells ++ enV (l.drop (k + 1))).take 4 = l[k].cells ++ []
  rw [List.append_nil]
  exact List.take_left' rfl
theorem lgEntry_len (ix : Nat) (l : List En) (i : Nat) : (lgEntry ix l i).1.length = 4 := by
  unfold lgEntry
  split
  · rfl
  · rw [List.getElem?_eq_getElem (by omega)]
    rfl
theorem lgEntry_one {F : Fz} {ix : Nat} {l : List En} {i : Nat} (hl : ∀ e ∈ l, e.ok F) : (lgEntry ix l i).1.all oneCellB = true := by
  unfold lgEntry
  split
  · rfl
  · rw [List.getElem?_eq_getElem (by omega)]
    exact (hl _ (List.getElem_mem _)).one

theorem law_told (O : World) (F : Fz) (a ix tm vt : Nat) (bf : Bf) (l m : List En) (dv v : Value) (Fr : List Ent) (hok : bf.ok l.length) (hl : ∀ e ∈ l, e.ok F) (hm : ∀ e ∈ m, e.ok F) (hlm : Alike l m) (hn : l.length ≤ 1000000) (hix : ix ≤ 1000000)
    (hdl : ∀ e ∈ l, e.data.length ≤ 1000000) (hv : Sl F [] 4 v m.length (enV m)) (hdv : oneCellB dv = true) :
    Does Try.prog O 21 #[ptrV a, .agg #[.int .u64 ix, .int .u64 tm, .int .u64 vt, dv], v] F (LgH a ix tm vt bf l Fr) (fun r F' H' => r = .bool true ∧ H' = LgH a ix tm vt bf l Fr) := by
  obtain ⟨a1, cap1, rfl, hcap1⟩ := Sl.shape hv
  have hlen := hlm.len
  have hdm : ∀ e ∈ m, e.data.length ≤ 1000000 := fun e he => by
    obtain ⟨i, hi, rfl⟩ := List.getElem_of_mem he
    have := hlm.is i (by omega) hi
    rw [← this.data]
    exact hdl _ (List.getElem_mem _)
  have hb64 : ix + l.length < 18446744073709551616 := by omega
  refine does_of_run (args := [_, _, _]) Try.func21 rfl rfl ?_
  refine r_seq ?_
  refine r_region rfl ?_
  refine o_act rfl rfl rfl rfl (a_box rfl) ?_
  rintro v' H' ⟨s, rfl, rfl⟩
  obtain ⟨S, hS⟩ : ∃ S, S = Ent.mem s [.int .u64 ix, .int .u64 tm, .int .u64 vt, dv] 4 := ⟨_, rfl⟩
  have hcs : ∀ F H j c, S ∈ H → [Value.int .u64 ix, .int .u64 tm, .int .u64 vt, dv][j]? = some c → Cell F H s (0 + j) c := fun F H j c hm hc => by
    rw [hS] at hm
    rw [Nat.zero_add]
    exact cell_own hm hc
  refine j_heap (H' := S :: LgH a ix tm vt bf l Fr) (by rw [hS]; rfl) ?_
  refine j_perm (H' := LgH a ix tm vt bf l (S :: Fr)) (perm_in _ _ _ _) ?_
  have hSm : S ∈ LgH a ix tm vt bf l (S :: Fr) := by simp [LgH]
  refine o_val rfl rfl rfl rfl (v_assign rfl) ?_
  refine o_end ?_
  refine r_seq ?_
  refine r_region rfl ?_
  refine o_val rfl rfl rfl rfl (v_field (k := 0) rfl rfl rfl) ?_
  refine o_val rfl rfl rfl rfl (v_load (v := .int .u64 ix) rfl rfl (hcs _ _ 0 _ hSm rfl)) ?_
  refine o_val rfl rfl rfl rfl (v_move rfl) ?_
  refine o_val rfl rfl rfl rfl (v_len rfl rfl) ?_
  refine o_val rfl rfl rfl rfl (v_conv rfl rfl rfl (wrap_u64 (by omega) (by omega))) ?_
  refine o_val rfl rfl rfl rfl (v_add rfl rfl (r := ((ix + m.length : Nat) : Int)) (wrap_u64 (by omega) (by omega))) ?_
  refine o_val rfl rfl rfl rfl (v_assign rfl) ?_
  refine o_end ?_
  refine r_seq ?_
  refine r_region rfl ?_
  refine o_val rfl rfl rfl rfl (v_field (k := 1) rfl rfl rfl) ?_
  refine o_val rfl rfl rfl rfl (v_load (v := .int .u64 tm) rfl rfl (hcs _ _ 1 _ hSm rfl)) ?_
  refine o_val rfl rfl rfl rfl (v_assign rfl) ?_
  refine o_end ?_
  refine r_seq ?_
  refine r_region rfl ?_
  refine o_val rfl rfl rfl rfl (v_field (k := 2) rfl rfl rfl) ?_
  refine o_val rfl rfl rfl rfl (v_load (v := .int .u64 vt) rfl rfl (hcs _ _ 2 _ hSm rfl)) ?_
  refine o_val rfl rfl rfl rfl (v_assign rfl) ?_
  refine o_end ?_
  refine r_seq ?_
  refine r_region rfl ?_
  refine o_val rfl rfl rfl rfl (v_field (k := 0) rfl rfl rfl) ?_
  refine o_val rfl rfl rfl rfl (v_load (v := .int .u64 ix) rfl rfl (hcs _ _ 0 _ hSm rfl)) ?_
  refine o_val rfl rfl rfl rfl (v_assign rfl) ?_
  refine o_end ?_
  refine r_seq ?_
  refine r_seq ?_
  refine r_region rfl ?_
  refine o_val rfl rfl rfl rfl (v_assign rfl) ?_
  refine o_end ?_
  refine r_block ?_
  refine r_loop (fun k : Nat => k ≤ m.length) (fun k => [(0, ptrV a), (2, .slice a1 m.length cap1), (4, ptrV s), (7, .int .u64 (ix + m.length : Nat)), (8, .int .u64 (lgLastTerm ix tm (m.take k))), (9, .int .u64 (lgVoters ix vt (m.take k)).1), (10, .int .u64 (lgVoters ix vt (m.take k)).2), (11, .int .i64 k)]) (fun _ => F) (fun _ => LgH a ix tm vt bf l (S :: Fr)) (fun k => m.length - k)
    0 (Nat.zero_le _) ⟨rfl, rfl, rfl, rfl, by rw [List.take_zero, lgLastTerm_nil]; rfl, rfl, rfl, rfl, trivial⟩ rfl rfl ?_
  intro k hk IH
  refine r_seq ?_
  refine r_seq ?_
  refine r_region rfl ?_
  refine o_val rfl rfl rfl rfl (v_move rfl) ?_
  refine o_val rfl rfl rfl rfl (v_move rfl) ?_
  refine o_val rfl rfl rfl rfl (v_len rfl rfl) ?_
  refine o_val rfl rfl rfl rfl (v_lss rfl rfl) ?_
  refine o_end ?_
  refine r_if rfl (fun h => ?_) (fun h => ?_)
  · have hil : k < m.length := by omega
    obtain ⟨b1, off1, c1, hab, hc1⟩ := sl_cells (hv.frz (H := LgH a ix tm vt bf l (S :: Fr)) (Fz.le_refl _)) hil
    simp only [Value.slice.injEq] at hab
    obtain ⟨rfl, _, rfl⟩ := hab
    have he := hm m[k] (List.getElem_mem _)
    have hd := hdm m[k] (List.getElem_mem _)
    have hlt : lgLastTerm ix tm (m.take (k + 1)) = m[k].tm := by
      have hl1 : (m.take (k + 1)).length = k + 1 := by simp; omega
      rw [lgLastTerm_pos _ _ _ (by omega), List.getElem_take]
      simp only [hl1, Nat.add_sub_cancel]
    have hs : lgVoters ix vt (m.take (k + 1)) = if m[k].kd = 1 then (maskB m[k].data, m[k].ix) else lgVoters ix vt (m.take k) := by
      unfold lgVoters
      rw [List.take_succ_eq_append_getElem hil, List.foldl_append]
      rfl
    have IH' := IH (k + 1) hil (by omega)
    rw [hs, hlt] at IH'
    generalize m[k] = e at *
    refine r_skip ?_
    refine r_seq ?_
    refine r_block ?_
    refine r_seq ?_
    refine r_region rfl ?_
    refine o_val rfl rfl rfl rfl (v_move rfl) ?_
    refine o_val rfl rfl rfl rfl (v_move rfl) ?_
    refine o_val rfl rfl rfl rfl (v_indexN (sz := 4) rfl rfl rfl rfl hil) ?_
    refine o_val rfl rfl rfl rfl (v_field (k := 1) rfl rfl rfl) ?_
    refine o_val rfl rfl rfl rfl (v_load (v := .int .u64 e.tm) rfl rfl (hc1 1 _ rfl)) ?_
    refine o_val rfl rfl rfl rfl (v_assign rfl) ?_
    refine o_end ?_
    refine r_seq ?_
    refine r_region rfl ?_
    refine o_val rfl rfl rfl rfl (v_move rfl) ?_
    refine o_val rfl rfl rfl rfl (v_move rfl) ?_
    refine o_val rfl rfl rfl rfl (v_indexN (sz := 4) rfl rfl rfl rfl hil) ?_
    refine o_val rfl rfl rfl rfl (v_field (k := 2) rfl rfl rfl) ?_
    refine o_val rfl rfl rfl rfl (v_load (v := .int .u8 e.kd) rfl rfl (hc1 2 _ rfl)) ?_
    refine o_val rfl rfl rfl rfl (v_eql rfl rfl) ?_
    refine o_end ?_
    refine r_if rfl (fun h2 => ?_) (fun h2 => ?_)
    · rw [if_pos (by omega)] at IH'
      refine r_seq ?_
      refine r_region rfl ?_
      refine o_val rfl rfl rfl rfl (v_move rfl) ?_
      refine o_val rfl rfl rfl rfl (v_move rfl) ?_
      refine o_val rfl rfl rfl rfl (v_indexN (sz := 4) rfl rfl rfl rfl hil) ?_
      refine o_val rfl rfl rfl rfl (v_field (k := 3) rfl rfl rfl) ?_
      refine o_val rfl rfl rfl rfl (v_load (v := e.dv) rfl rfl (hc1 3 _ rfl)) ?_
      refine o_call rfl rfl rfl rfl (c_call callable20 rfl) (ref_Mask _ _ e.dv e.data _ (he.dv.frz (Fz.le_refl _)) (by omega)) ?_
      rintro v' F H' ⟨rfl, rfl, rfl⟩ _
      refine o_val rfl rfl rfl rfl (v_assign rfl) ?_
      refine o_end ?_
      refine r_region rfl ?_
      refine o_val rfl rfl rfl rfl (v_move rfl) ?_
      refine o_val rfl rfl rfl rfl (v_move rfl) ?_
      refine o_val rfl rfl rfl rfl (v_indexN (sz := 4) rfl rfl rfl rfl hil) ?_
      refine o_val rfl rfl rfl rfl (v_field (k := 0) rfl rfl rfl) ?_
      refine o_val rfl rfl rfl rfl (v_load (v := .int .u64 e.ix) rfl rfl (hc1 0 _ rfl)) ?_
      refine o_val rfl rfl rfl rfl (v_assign rfl) ?_
      refine o_end ?_
      refine r_inBlock ?_
      refine r_region rfl ?_
      refine o_val rfl rfl rfl rfl (v_move rfl) ?_
      refine o_val rfl rfl rfl rfl (v_add rfl rfl (wrap_i64 (by omega) (by omega))) ?_
      refine o_val rfl rfl rfl rfl (v_assign rfl) ?_
      refine o_end ?_
      refine j_keep ?_ IH'
      exact ⟨rfl, rfl, rfl, rfl, rfl, rfl, rfl, rfl, trivial⟩
    · rw [if_neg (by omega)] at IH'
      refine r_skip ?_
      refine r_inBlock ?_
      refine r_region rfl ?_
      refine o_val rfl rfl rfl rfl (v_move rfl) ?_
      refine o_val rfl rfl rfl rfl (v_add rfl rfl (wrap_i64 (by omega) (by omega))) ?_
      refine o_val rfl rfl rfl rfl (v_assign rfl) ?_
      refine o_end ?_
      refine j_keep ?_ IH'
      exact ⟨rfl, rfl, rfl, rfl, rfl, rfl, rfl, rfl, trivial⟩
  · obtain rfl : k = m.length := by omega
    rw [List.take_length]
    clear IH
    refine r_exit rfl ?_
    refine r_seq ?_
    refine r_region rfl ?_
    refine o_val rfl rfl rfl rfl (v_move rfl) ?_
    refine o_call rfl rfl rfl rfl (c_call callable28 rfl) (lg_Voters _ _ a ix tm vt bf l _ hn hok hl hdl) ?_
    rintro v' F H' ⟨rfl, rfl, rfl⟩ _
    rw [lgVoters_like hlm]
    refine o_val rfl rfl rfl rfl (v_move rfl) ?_
    refine o_val rfl rfl rfl rfl (v_extract rfl rfl) ?_
    refine o_val rfl rfl rfl rfl (v_extract rfl rfl) ?_
    refine o_val rfl rfl rfl rfl (v_assign rfl) ?_
    refine o_val rfl rfl rfl rfl (v_assign rfl) ?_
    refine o_end ?_
    refine r_seq ?_
    refine r_seq ?_
    refine d_region 1000000 rfl ([S]) ?_
    refine d_take (i := 0) rfl rfl rfl (by decide +kernel) (by decide +kernel) (by decide +kernel) (Fz.le_refl _) (by simp [LgH]) rfl (v_move rfl) ?_
    refine d_take (i := 2) rfl rfl rfl (by decide +kernel) (by decide +kernel) (by decide +kernel) (Fz.le_refl _) (by simp [LgH]) rfl (v_field (k := 0) rfl rfl rfl) ?_
    refine d_take (i := 3) rfl rfl rfl (by decide +kernel) (by decide +kernel) (by decide +kernel) (Fz.le_refl _) (by simp [LgH]) rfl (v_load (v := .int .u64 ix) rfl rfl (hcs _ _ 0 _ (by simp) rfl)) ?_
    refine d_one (i := 1) (by decide +kernel) ?_
    refine d1_call rfl rfl rfl rfl (c_call callable29 rfl) (lg_Base _ _ a ix tm vt bf l.length _) ?_
    rintro v' F H' ⟨rfl, rfl, rfl⟩ _
    refine ⟨fun w hw => held_of hw (Fz.le_refl _) (by simp [LgH]), ?_⟩
    refine d_take (i := 4) rfl rfl rfl (by decide +kernel) (by decide +kernel) (by decide +kernel) (Fz.le_refl _) (by simp [LgH]) rfl (v_neq rfl rfl) ?_
    refine j_slot 70 rfl (v' := .bool false) (by simp) ?_
    refine d_take (i := 5) rfl rfl rfl (by decide +kernel) (by decide +kernel) (by decide +kernel) (Fz.le_refl _) (by simp [LgH]) rfl (v_move rfl) ?_
    refine d_take (i := 6) rfl rfl rfl (by decide +kernel) (by decide +kernel) (by decide +kernel) (Fz.le_refl _) (by simp [LgH]) rfl (v_move rfl) ?_
    refine d_take (i := 8) rfl rfl rfl (by decide +kernel) (by decide +kernel) (by decide +kernel) (Fz.le_refl _) (by simp [LgH]) rfl (v_move rfl) ?_
    refine d_one (i := 7) (by decide +kernel) ?_
    refine d1_call rfl rfl rfl rfl (c_call callable17 rfl) (lg_Last _ _ a ix tm vt bf l.length _ hb64) ?_
    rintro v' F H' ⟨rfl, rfl, rfl⟩ _
    refine ⟨fun w hw => held_of hw (Fz.le_refl _) (by simp [LgH]), ?_⟩
    refine d_take (i := 9) rfl rfl rfl (by decide +kernel) (by decide +kernel) (by decide +kernel) (Fz.le_refl _) (by simp [LgH]) rfl (v_neq rfl rfl) ?_
    refine j_slot 75 rfl (v' := .bool false) (by rw [hlen]; simp) ?_
    refine d_take (i := 10) rfl rfl rfl (by decide +kernel) (by decide +kernel) (by decide +kernel) (Fz.le_refl _) (by simp [LgH]) rfl (v_pick0 rfl rfl) ?_
    refine d_take (i := 11) rfl rfl rfl (by decide +kernel) (by decide +kernel) (by decide +kernel) (Fz.le_refl _) (by simp [LgH]) rfl (v_move rfl) ?_
    refine d_take (i := 12) rfl rfl rfl (by decide +kernel) (by decide +kernel) (by decide +kernel) (Fz.le_refl _) (by simp [LgH]) rfl (v_move rfl) ?_
    refine d_take (i := 14) rfl rfl rfl (by decide +kernel) (by decide +kernel) (by decide +kernel) (Fz.le_refl _) (by simp [LgH]) rfl (v_move rfl) ?_
    refine d_one (i := 13) (by decide +kernel) ?_
    refine d1_call rfl rfl rfl rfl (c_call callable14 rfl) (lg_LastTerm _ _ a ix tm vt bf l _ hb64 hok) ?_
    rintro v' F H' ⟨rfl, rfl, rfl⟩ _
    refine ⟨fun w hw => held_of hw (Fz.le_refl _) (by simp [LgH]), ?_⟩
    refine d_take (i := 15) rfl rfl rfl (by decide +kernel) (by decide +kernel) (by decide +kernel) (Fz.le_refl _) (by simp [LgH]) rfl (v_neq rfl rfl) ?_
    refine j_slot 81 rfl (v' := .bool false) (by unfold lgLastTerm; rw [lgTerm_like hlm, hlen]; simp) ?_
    refine d_take (i := 16) rfl rfl rfl (by decide +kernel) (by decide +kernel) (by decide +kernel) (Fz.le_refl _) (by simp [LgH]) rfl (v_pick0 rfl rfl) ?_
    refine d_take (i := 17) rfl rfl rfl (by decide +kernel) (by decide +kernel) (by decide +kernel) (Fz.le_refl _) (by simp [LgH]) rfl (v_move rfl) ?_
    refine d_take (i := 18) rfl rfl rfl (by decide +kernel) (by decide +kernel) (by decide +kernel) (Fz.le_refl _) (by simp [LgH]) rfl (v_move rfl) ?_
    refine d_take (i := 19) rfl rfl rfl (by decide +kernel) (by decide +kernel) (by decide +kernel) (Fz.le_refl _) (by simp [LgH]) rfl (v_move rfl) ?_
    refine d_take (i := 20) rfl rfl rfl (by decide +kernel) (by decide +kernel) (by decide +kernel) (Fz.le_refl _) (by simp [LgH]) rfl (v_neq rfl rfl) ?_
    refine j_slot 86 rfl (v' := .bool false) (by simp) ?_
    refine d_take (i := 21) rfl rfl rfl (by decide +kernel) (by decide +kernel) (by decide +kernel) (Fz.le_refl _) (by simp [LgH]) rfl (v_pick0 rfl rfl) ?_
    refine d_take (i := 22) rfl rfl rfl (by decide +kernel) (by decide +kernel) (by decide +kernel) (Fz.le_refl _) (by simp [LgH]) rfl (v_move rfl) ?_
    refine d_take (i := 23) rfl rfl rfl (by decide +kernel) (by decide +kernel) (by decide +kernel) (Fz.le_refl _) (by simp [LgH]) rfl (v_move rfl) ?_
    refine d_take (i := 24) rfl rfl rfl (by decide +kernel) (by decide +kernel) (by decide +kernel) (Fz.le_refl _) (by simp [LgH]) rfl (v_move rfl) ?_
    refine d_take (i := 25) rfl rfl rfl (by decide +kernel) (by decide +kernel) (by decide +kernel) (Fz.le_refl _) (by simp [LgH]) rfl (v_neq rfl rfl) ?_
    refine j_slot 91 rfl (v' := .bool false) (by simp) ?_
    refine d_take (i := 26) rfl rfl rfl (by decide +kernel) (by decide +kernel) (by decide +kernel) (Fz.le_refl _) (by simp [LgH]) rfl (v_pick0 rfl rfl) ?_
    refine d_end (by decide +kernel) ?_
    refine r_false rfl ?_
    refine r_skip ?_
    refine r_seq ?_
    refine r_seq ?_
    refine r_region rfl ?_
    refine o_val rfl rfl rfl rfl (v_assign rfl) ?_
    refine o_end ?_
    refine r_block ?_
    refine r_loop (fun i : Nat => i ≤ ix + m.length + 3) (fun i => [(0, ptrV a), (2, .slice a1 m.length cap1), (4, ptrV s), (7, .int .u64 (ix + m.length : Nat)), (14, .int .u64 i)]) (fun _ => F) (fun _ => LgH a ix tm vt bf l (S :: Fr)) (fun i => ix + m.length + 3 - i) 0 (Nat.zero_le _) ⟨rfl, rfl, rfl, rfl, rfl, trivial⟩ rfl rfl ?_
    intro i hi IH
    refine r_seq ?_
    refine r_seq ?_
    refine r_region rfl ?_
    refine o_val rfl rfl rfl rfl (v_move rfl) ?_
    refine o_val rfl rfl rfl rfl (v_move rfl) ?_
    refine o_val rfl rfl rfl rfl (v_add rfl rfl (wrap_u64 (by omega) (by omega))) ?_
    refine o_val rfl rfl rfl rfl (v_leq rfl rfl) ?_
    refine o_end ?_
    refine r_if rfl (fun h1 => ?_) (fun h1 => ?_)
    · have hil : i ≤ ix + m.length + 2 := by omega
      refine r_skip ?_
      refine r_seq ?_
      refine r_block ?_
      refine r_seq ?_
      refine r_region rfl ?_
      refine o_val rfl rfl rfl rfl (v_move rfl) ?_
      refine o_val rfl rfl rfl rfl (v_move rfl) ?_
      refine o_call rfl rfl rfl rfl (c_call callable26 rfl) (lg_Term _ _ a ix tm vt bf l i _ hb64 hok (by omega)) ?_
      rintro v' F H' ⟨rfl, rfl, rfl⟩ _
      refine o_val rfl rfl rfl rfl (v_move rfl) ?_
      refine o_val rfl rfl rfl rfl (v_extract rfl rfl) ?_
      refine o_val rfl rfl rfl rfl (v_extract rfl rfl) ?_
      refine o_val rfl rfl rfl rfl (v_assign rfl) ?_
      refine o_val rfl rfl rfl rfl (v_assign rfl) ?_
      refine o_end ?_
      refine r_seq ?_
      refine r_region rfl ?_
      refine o_val rfl rfl rfl rfl (v_move rfl) ?_
      refine o_val rfl rfl rfl rfl (v_move rfl) ?_
      refine o_call rfl rfl rfl rfl (c_call callable27 rfl) (lg_Entry _ _ a ix tm vt bf l i _ hb64 hok (by omega) hl) ?_
      rintro v' F H' ⟨rfl, rfl, rfl⟩ _
      have hE4 := lgEntry_len ix l i
      have hE1 := lgEntry_one (ix := ix) (i := i) hl
      refine o_val rfl rfl rfl rfl (v_move rfl) ?_
      refine o_val rfl rfl rfl rfl (v_extract rfl rfl) ?_
      refine o_val rfl rfl rfl rfl (v_extract rfl rfl) ?_
      refine o_act rfl rfl rfl rfl (a_alloc rfl) ?_
      rintro v' H' ⟨x, rfl, rfl⟩
      refine o_act0 rfl rfl rfl (a_store (sz := 4) 0 rfl rfl (by simpa [Value.cells] using hE4) (by simpa [Value.cells] using hE1) rfl rfl (by simp [Value.cells, hE4])) ?_
      refine j_heap (H' := .mem x (lgEntry ix l i).1 4 :: LgH a ix tm vt bf l (S :: Fr)) (by simp [putAt, Value.cells, hE4]) ?_
      have hSx : ∀ cs : List Value, S ∈ Ent.mem x cs 4 :: LgH a ix tm vt bf l (S :: Fr) := fun cs => List.mem_cons_of_mem _ hSm
      refine o_val rfl rfl rfl rfl (v_assign rfl) ?_
      refine o_end ?_
      refine r_seq ?_
      refine r_join (fun _ : Unit => True) (fun _ => [(0, ptrV a), (2, .slice a1 m.length cap1), (4, ptrV s), (7, .int .u64 (ix + m.length : Nat)), (14, .int .u64 i), (15, .int .u64 (lgTerm ix tm l i).1), (16, .bool (lgTerm ix tm l i).2), (17, ptrV x), (18, .bool (lgEntry ix l i).2)]) (fun _ => F) (fun _ => .mem x (lgEntry ix l i).1 4 :: LgH a ix tm vt bf l (S :: Fr)) ?_ ?_
      · intro J
        have hSx := hSx (lgEntry ix l i).1
        by_cases c1 : i < ix
        · have hT : (lgTerm ix tm l i).2 = false := by unfold lgTerm; rw [if_pos (.inl c1)]
          have hE : (lgEntry ix l i).2 = false := by unfold lgEntry; rw [if_pos (.inl (by omega))]
          rw [hT, hE] at J ⊢
          refine r_seq ?_
          refine r_region rfl ?_
          refine o_val rfl rfl rfl rfl (v_move rfl) ?_
          refine o_val rfl rfl rfl rfl (v_move rfl) ?_
          refine o_val rfl rfl rfl rfl (v_field (k := 0) rfl rfl rfl) ?_
          refine o_val rfl rfl rfl rfl (v_load (v := .int .u64 ix) rfl rfl (hcs _ _ 0 _ hSx rfl)) ?_
          refine o_val rfl rfl rfl rfl (v_geq rfl rfl) ?_
          refine j_slot 115 rfl (v' := .bool false) (by rw [decide_eq_false (by omega)]) ?_
          refine o_val rfl rfl rfl rfl (v_move rfl) ?_
          refine o_skip rfl rfl rfl rfl ?_
          refine o_skip rfl rfl rfl rfl ?_
          refine o_skip rfl rfl rfl rfl ?_
          refine o_val rfl rfl rfl rfl (v_pick0 rfl rfl) ?_
          refine o_val rfl rfl rfl rfl (v_bneq rfl rfl rfl) ?_
          refine j_slot 121 rfl (v' := .bool false) rfl ?_
          refine o_val rfl rfl rfl rfl (v_move rfl) ?_
          refine o_val rfl rfl rfl rfl (v_move rfl) ?_
          refine o_val rfl rfl rfl rfl (v_move rfl) ?_
          refine o_val rfl rfl rfl rfl (v_field (k := 0) rfl rfl rfl) ?_
          refine o_val rfl rfl rfl rfl (v_load (v := .int .u64 ix) rfl rfl (hcs _ _ 0 _ hSx rfl)) ?_
          refine o_val rfl rfl rfl rfl (v_gtr rfl rfl) ?_
          refine j_slot 127 rfl (v' := .bool false) (by rw [decide_eq_false (by omega)]) ?_
          refine o_val rfl rfl rfl rfl (v_move rfl) ?_
          refine o_skip rfl rfl rfl rfl ?_
          refine o_skip rfl rfl rfl rfl ?_
          refine o_skip rfl rfl rfl rfl ?_
          refine o_val rfl rfl rfl rfl (v_pick0 rfl rfl) ?_
          refine o_val rfl rfl rfl rfl (v_bneq rfl rfl rfl) ?_
          refine j_slot 133 rfl (v' := .bool false) rfl ?_
          refine o_val rfl rfl rfl rfl (v_pick0 rfl rfl) ?_
          refine o_end ?_
          refine r_false rfl ?_
          refine r_skip ?_
          refine j_keep ?_ (J () trivial)
          exact ⟨rfl, rfl, rfl, rfl, rfl, rfl, rfl, rfl, rfl, trivial⟩
        · by_cases c2 : i = ix
          · have hT : (lgTerm ix tm l i).2 = true := by unfold lgTerm; rw [if_neg (by omega), if_pos c2]
            have hE : (lgEntry ix l i).2 = false := by unfold lgEntry; rw [if_pos (.inl (by omega))]
            rw [hT, hE] at J ⊢
            refine r_seq ?_
            refine r_region rfl ?_
            refine o_val rfl rfl rfl rfl (v_move rfl) ?_
            refine o_val rfl rfl rfl rfl (v_move rfl) ?_
            refine o_val rfl rfl rfl rfl (v_field (k := 0) rfl rfl rfl) ?_
            refine o_val rfl rfl rfl rfl (v_load (v := .int .u64 ix) rfl rfl (hcs _ _ 0 _ hSx rfl)) ?_
            refine o_val rfl rfl rfl rfl (v_geq rfl rfl) ?_
            refine j_slot 115 rfl (v' := .bool true) (by rw [decide_eq_true (by omega)]) ?_
            refine o_val rfl rfl rfl rfl (v_move rfl) ?_
            refine o_val rfl rfl rfl rfl (v_move rfl) ?_
            refine o_val rfl rfl rfl rfl (v_move rfl) ?_
            refine o_val rfl rfl rfl rfl (v_leq rfl rfl) ?_
            refine j_slot 119 rfl (v' := .bool true) (by rw [decide_eq_true (by omega)]) ?_
            refine o_val rfl rfl rfl rfl (v_pick1 rfl rfl) ?_
            refine o_val rfl rfl rfl rfl (v_bneq rfl rfl rfl) ?_
            refine j_slot 121 rfl (v' := .bool false) rfl ?_
            refine o_val rfl rfl rfl rfl (v_move rfl) ?_
            refine o_val rfl rfl rfl rfl (v_move rfl) ?_
            refine o_val rfl rfl rfl rfl (v_move rfl) ?_
            refine o_val rfl rfl rfl rfl (v_field (k := 0) rfl rfl rfl) ?_
            refine o_val rfl rfl rfl rfl (v_load (v := .int .u64 ix) rfl rfl (hcs _ _ 0 _ hSx rfl)) ?_
            refine o_val rfl rfl rfl rfl (v_gtr rfl rfl) ?_
            refine j_slot 127 rfl (v' := .bool false) (by rw [decide_eq_false (by omega)]) ?_
            refine o_val rfl rfl rfl rfl (v_move rfl) ?_
            refine o_skip rfl rfl rfl rfl ?_
            refine o_skip rfl rfl rfl rfl ?_
            refine o_skip rfl rfl rfl rfl ?_
            refine o_val rfl rfl rfl rfl (v_pick0 rfl rfl) ?_
            refine o_val rfl rfl rfl rfl (v_bneq rfl rfl rfl) ?_
            refine j_slot 133 rfl (v' := .bool false) rfl ?_
            refine o_val rfl rfl rfl rfl (v_pick0 rfl rfl) ?_
            refine o_end ?_
            refine r_false rfl ?_
            refine r_skip ?_
            refine j_keep ?_ (J () trivial)
            exact ⟨rfl, rfl, rfl, rfl, rfl, rfl, rfl, rfl, rfl, trivial⟩
          · by_cases c3 : i ≤ ix + m.length
            · have hT : (lgTerm ix tm l i).2 = true := by unfold lgTerm; rw [if_neg (by omega), if_neg c2]
              have hE : (lgEntry ix l i).2 = true := by unfold lgEntry; rw [if_neg (by omega)]
              rw [hT, hE] at J ⊢
              refine r_seq ?_
              refine r_region rfl ?_
              refine o_val rfl rfl rfl rfl (v_move rfl) ?_
              refine o_val rfl rfl rfl rfl (v_move rfl) ?_
              refine o_val rfl rfl rfl rfl (v_field (k := 0) rfl rfl rfl) ?_
              refine o_val rfl rfl rfl rfl (v_load (v := .int .u64 ix) rfl rfl (hcs _ _ 0 _ hSx rfl)) ?_
              refine o_val rfl rfl rfl rfl (v_geq rfl rfl) ?_
              refine j_slot 115 rfl (v' := .bool true) (by rw [decide_eq_true (by omega)]) ?_
              refine o_val rfl rfl rfl rfl (v_move rfl) ?_
              refine o_val rfl rfl rfl rfl (v_move rfl) ?_
              refine o_val rfl rfl rfl rfl (v_move rfl) ?_
              refine o_val rfl rfl rfl rfl (v_leq rfl rfl) ?_
              refine j_slot 119 rfl (v' := .bool true) (by rw [decide_eq_true (by omega)]) ?_
              refine o_val rfl rfl rfl rfl (v_pick1 rfl rfl) ?_
              refine o_val rfl rfl rfl rfl (v_bneq rfl rfl rfl) ?_
              refine j_slot 121 rfl (v' := .bool false) rfl ?_
              refine o_val rfl rfl rfl rfl (v_move rfl) ?_
              refine o_val rfl rfl rfl rfl (v_move rfl) ?_
              refine o_val rfl rfl rfl rfl (v_move rfl) ?_
              refine o_val rfl rfl rfl rfl (v_field (k := 0) rfl rfl rfl) ?_
              refine o_val rfl rfl rfl rfl (v_load (v := .int .u64 ix) rfl rfl (hcs _ _ 0 _ hSx rfl)) ?_
              refine o_val rfl rfl rfl rfl (v_gtr rfl rfl) ?_
              refine j_slot 127 rfl (v' := .bool true) (by rw [decide_eq_true (by omega)]) ?_
              refine o_val rfl rfl rfl rfl (v_move rfl) ?_
              refine o_val rfl rfl rfl rfl (v_move rfl) ?_
              refine o_val rfl rfl rfl rfl (v_move rfl) ?_
              refine o_val rfl rfl rfl rfl (v_leq rfl rfl) ?_
              refine j_slot 131 rfl (v' := .bool true) (by rw [decide_eq_true (by omega)]) ?_
              refine o_val rfl rfl rfl rfl (v_pick1 rfl rfl) ?_
              refine o_val rfl rfl rfl rfl (v_bneq rfl rfl rfl) ?_
              refine j_slot 133 rfl (v' := .bool false) rfl ?_
              refine o_val rfl rfl rfl rfl (v_pick0 rfl rfl) ?_
              refine o_end ?_
              refine r_false rfl ?_
              refine r_skip ?_
              refine j_keep ?_ (J () trivial)
              exact ⟨rfl, rfl, rfl, rfl, rfl, rfl, rfl, rfl, rfl, trivial⟩
            · have hT : (lgTerm ix tm l i).2 = false := by unfold lgTerm; rw [if_pos (.inr (by omega))]
              have hE : (lgEntry ix l i).2 = false := by unfold lgEntry; rw [if_pos (.inr (by omega))]
              rw [hT, hE] at J ⊢
              refine r_seq ?_
              refine r_region rfl ?_
              refine o_val rfl rfl rfl rfl (v_move rfl) ?_
              refine o_val rfl rfl rfl rfl (v_move rfl) ?_
              refine o_val rfl rfl rfl rfl (v_field (k := 0) rfl rfl rfl) ?_
              refine o_val rfl rfl rfl rfl (v_load (v := .int .u64 ix) rfl rfl (hcs _ _ 0 _ hSx rfl)) ?_
              refine o_val rfl rfl rfl rfl (v_geq rfl rfl) ?_
              refine j_slot 115 rfl (v' := .bool true) (by rw [decide_eq_true (by omega)]) ?_
              refine o_val rfl rfl rfl rfl (v_move rfl) ?_
              refine o_val rfl rfl rfl rfl (v_move rfl) ?_
              refine o_val rfl rfl rfl rfl (v_move rfl) ?_
              refine o_val rfl rfl rfl rfl (v_leq rfl rfl) ?_
              refine j_slot 119 rfl (v' := .bool false) (by rw [decide_eq_false (by omega)]) ?_
              refine o_val rfl rfl rfl rfl (v_pick1 rfl rfl) ?_
              refine o_val rfl rfl rfl rfl (v_bneq rfl rfl rfl) ?_
              refine j_slot 121 rfl (v' := .bool false) rfl ?_
              refine o_val rfl rfl rfl rfl (v_move rfl) ?_
              refine o_val rfl rfl rfl rfl (v_move rfl) ?_
              refine o_val rfl rfl rfl rfl (v_move rfl) ?_
              refine o_val rfl rfl rfl rfl (v_field (k := 0) rfl rfl rfl) ?_
              refine o_val rfl rfl rfl rfl (v_load (v := .int .u64 ix) rfl rfl (hcs _ _ 0 _ hSx rfl)) ?_
              refine o_val rfl rfl rfl rfl (v_gtr rfl rfl) ?_
              refine j_slot 127 rfl (v' := .bool true) (by rw [decide_eq_true (by omega)]) ?_
              refine o_val rfl rfl rfl rfl (v_move rfl) ?_
              refine o_val rfl rfl rfl rfl (v_move rfl) ?_
              refine o_val rfl rfl rfl rfl (v_move rfl) ?_
              refine o_val rfl rfl rfl rfl (v_leq rfl rfl) ?_
              refine j_slot 131 rfl (v' := .bool false) (by rw [decide_eq_false (by omega)]) ?_
              refine o_val rfl rfl rfl rfl (v_pick1 rfl rfl) ?_
              refine o_val rfl rfl rfl rfl (v_bneq rfl rfl rfl) ?_
              refine j_slot 133 rfl (v' := .bool false) rfl ?_
              refine o_val rfl rfl rfl rfl (v_pick0 rfl rfl) ?_
              refine o_end ?_
              refine r_false rfl ?_
              refine r_skip ?_
              refine j_keep ?_ (J () trivial)
              exact ⟨rfl, rfl, rfl, rfl, rfl, rfl, rfl, rfl, rfl, trivial⟩
      · rintro _ _
        refine r_seq ?_
        refine r_join (fun _ : Unit => True) (fun _ => [(0, ptrV a), (2, .slice a1 m.length cap1), (4, ptrV s), (7, .int .u64 (ix + m.length : Nat)), (14, .int .u64 i), (15, .int .u64 (lgTerm ix tm l i).1), (17, ptrV x), (18, .bool (lgEntry ix l i).2)]) (fun _ => F) (fun _ => .mem x (lgEntry ix l i).1 4 :: LgH a ix tm vt bf l (S :: Fr)) ?_ ?_
        · intro J
          have hSx := hSx (lgEntry ix l i).1
          refine r_seq ?_
          refine r_region rfl ?_
          refine o_val rfl rfl rfl rfl (v_move rfl) ?_
          refine o_val rfl rfl rfl rfl (v_field (k := 0) rfl rfl rfl) ?_
          refine o_val rfl rfl rfl rfl (v_load (v := .int .u64 ix) rfl rfl (hcs _ _ 0 _ hSx rfl)) ?_
          refine o_val rfl rfl rfl rfl (v_eql rfl rfl) ?_
          refine j_prop 138 rfl (fun c1 => ?_) (fun c1 => ?_)
          · have hT : (lgTerm ix tm l i).1 = tm := by unfold lgTerm; rw [if_neg (by omega), if_pos (by omega)]
            refine o_val rfl rfl rfl rfl (v_move rfl) ?_
            refine o_val rfl rfl rfl rfl (v_move rfl) ?_
            refine o_val rfl rfl rfl rfl (v_field (k := 1) rfl rfl rfl) ?_
            refine o_val rfl rfl rfl rfl (v_load (v := .int .u64 tm) rfl rfl (hcs _ _ 1 _ hSx rfl)) ?_
            refine o_val rfl rfl rfl rfl (v_neq rfl rfl) ?_
            refine j_slot 143 rfl (v' := .bool false) (by rw [hT]; simp) ?_
            refine o_val rfl rfl rfl rfl (v_pick1 rfl rfl) ?_
            refine o_end ?_
            refine r_false rfl ?_
            refine r_skip ?_
            refine j_keep ?_ (J () trivial)
            exact ⟨rfl, rfl, rfl, rfl, rfl, rfl, rfl, rfl, trivial⟩
          · refine o_val rfl rfl rfl rfl (v_move rfl) ?_
            refine o_skip rfl rfl rfl rfl ?_
            refine o_skip rfl rfl rfl rfl ?_
            refine o_skip rfl rfl rfl rfl ?_
            refine o_skip rfl rfl rfl rfl ?_
            refine o_val rfl rfl rfl rfl (v_pick0 rfl rfl) ?_
            refine o_end ?_
            refine r_false rfl ?_
            refine r_skip ?_
            refine j_keep ?_ (J () trivial)
            exact ⟨rfl, rfl, rfl, rfl, rfl, rfl, rfl, rfl, trivial⟩
        · rintro _ _
          refine r_seq ?_
          refine r_join (fun _ : Unit => True) (fun _ => [(0, ptrV a), (2, .slice a1 m.length cap1), (4, ptrV s), (7, .int .u64 (ix + m.length : Nat)), (14, .int .u64 i)]) (fun _ => F) (fun _ => LgH a ix tm vt bf l (S :: Fr)) ?_ ?_
          · intro J
            have hSx := hSx (lgEntry ix l i).1
            by_cases c3 : ix < i ∧ i ≤ ix + m.length
            · have hkl : i - ix - 1 < l.length := by omega
              have hkm : i - ix - 1 < m.length := by omega
              have hE : lgEntry ix l i = (l[i - ix - 1].cells, true) := by
                unfold lgEntry
                rw [if_neg (by omega), List.getElem?_eq_getElem hkl]
                rfl
              have hT : (lgTerm ix tm l i).1 = l[i - ix - 1].tm := by
                unfold lgTerm
                rw [if_neg (by omega), if_neg (by omega), List.getElem?_eq_getElem hkl]
                rfl
              have hlk := hlm.is _ hkl hkm
              have hel := hl l[i - ix - 1] (List.getElem_mem _)
              have hem := hm m[i - ix - 1] (List.getElem_mem _)
              obtain ⟨b1, off1, c1, hab, hc1⟩ := sl_cells (hv.frz (H := []) (Fz.le_refl _)) hkm
              simp only [Value.slice.injEq] at hab
              obtain ⟨rfl, _, rfl⟩ := hab
              have hmid := enV_mid m _ hkm
              have hsl := Sl.sliced (l := i - ix - 1) (h := i - ix) (hv.frz (H := []) (Fz.le_refl F)) (by omega) (by omega)
              have h11 : i - ix - (i - ix - 1) = 1 := by omega
              rw [h11, Nat.one_mul, hmid] at hsl
              rw [hE, hT]
              generalize l[i - ix - 1] = e at *
              generalize m[i - ix - 1] = e' at *
              have hal : Alike [e] [e'] := ⟨rfl, fun i h h' => by
                obtain rfl : i = 0 := by simpa using h
                exact hlk⟩
              refine r_seq ?_
              refine d_region 1000000 rfl ([.mem x e.cells 4, S]) ?_
              refine d_take (i := 0) rfl rfl rfl (by decide +kernel) (by decide +kernel) (by decide +kernel) (Fz.le_refl _) (by simp [LgH]) rfl (v_move rfl) ?_
              refine d_take (i := 1) rfl rfl rfl (by decide +kernel) (by decide +kernel) (by decide +kernel) (Fz.le_refl _) (by simp [LgH]) rfl (v_move rfl) ?_
              refine d_take (i := 2) rfl rfl rfl (by decide +kernel) (by decide +kernel) (by decide +kernel) (Fz.le_refl _) (by simp [LgH]) rfl (v_move rfl) ?_
              refine d_take (i := 3) rfl rfl rfl (by decide +kernel) (by decide +kernel) (by decide +kernel) (Fz.le_refl _) (by simp [LgH]) rfl (v_move rfl) ?_
              refine d_take (i := 4) rfl rfl rfl (by decide +kernel) (by decide +kernel) (by decide +kernel) (Fz.le_refl _) (by simp [LgH]) rfl (v_move rfl) ?_
              refine d_take (i := 5) rfl rfl rfl (by decide +kernel) (by decide +kernel) (by decide +kernel) (Fz.le_refl _) (by simp [LgH]) rfl (v_field (k := 0) rfl rfl rfl) ?_
              refine d_take (i := 6) rfl rfl rfl (by decide +kernel) (by decide +kernel) (by decide +kernel) (Fz.le_refl _) (by simp [LgH]) rfl (v_load (v := .int .u64 ix) rfl rfl (hcs _ _ 0 _ (by simp) rfl)) ?_
              refine d_take (i := 7) rfl rfl rfl (by decide +kernel) (by decide +kernel) (by decide +kernel) (Fz.le_refl _) (by simp [LgH]) rfl (v_sub rfl rfl (r := ((i - ix : Nat) : Int)) ((wrap_u64 (by omega) (by omega)).trans (by omega))) ?_
              refine d_take (i := 8) rfl rfl rfl (by decide +kernel) (by decide +kernel) (by decide +kernel) (Fz.le_refl _) (by simp [LgH]) rfl (v_sub rfl rfl (r := ((i - ix - 1 : Nat) : Int)) ((wrap_u64 (by omega) (by omega)).trans (by omega))) ?_
              refine d_take (i := 9) rfl rfl rfl (by decide +kernel) (by decide +kernel) (by decide +kernel) (Fz.le_refl _) (by simp [LgH]) rfl (v_indexN (sz := 4) rfl rfl rfl rfl hkm) ?_
              refine d_take (i := 10) rfl rfl rfl (by decide +kernel) (by decide +kernel) (by decide +kernel) (Fz.le_refl _) (by simp [LgH]) rfl (v_field (k := 1) rfl rfl rfl) ?_
              refine d_take (i := 11) rfl rfl rfl (by decide +kernel) (by decide +kernel) (by decide +kernel) (Fz.le_refl _) (by simp [LgH]) rfl (v_load (v := .int .u64 e'.tm) rfl rfl ((hc1 1 _ rfl).mono (Fz.le_refl _) (by simp))) ?_
              refine d_take (i := 12) rfl rfl rfl (by decide +kernel) (by decide +kernel) (by decide +kernel) (Fz.le_refl _) (by simp [LgH]) rfl (v_neq rfl rfl) ?_
              refine j_slot 157 rfl (v' := .bool false) (by rw [hlk.tm]; simp) ?_
              refine d_take (i := 13) rfl rfl rfl (by decide +kernel) (by decide +kernel) (by decide +kernel) (Fz.le_refl _) (by simp [LgH]) rfl (v_move rfl) ?_
              refine d_take (i := 14) rfl rfl rfl (by decide +kernel) (by decide +kernel) (by decide +kernel) (Fz.le_refl _) (by simp [LgH]) rfl (v_loadAgg (sz := 4) (cs := e.cells) rfl rfl rfl rfl (fun j c hc => cell_at (j := 0) rfl (by simpa using hc))) ?_
              refine d_take (i := 16) rfl rfl rfl (by decide +kernel) (by decide +kernel) (by decide +kernel) (Fz.le_refl _) (by simp [LgH]) rfl (v_move rfl) ?_
              refine d_take (i := 17) rfl rfl rfl (by decide +kernel) (by decide +kernel) (by decide +kernel) (Fz.le_refl _) (by simp [LgH]) rfl (v_move rfl) ?_
              refine d_take (i := 18) rfl rfl rfl (by decide +kernel) (by decide +kernel) (by decide +kernel) (Fz.le_refl _) (by simp [LgH]) rfl (v_field (k := 0) rfl rfl rfl) ?_
              refine d_take (i := 19) rfl rfl rfl (by decide +kernel) (by decide +kernel) (by decide +kernel) (Fz.le_refl _) (by simp [LgH]) rfl (v_load (v := .int .u64 ix) rfl rfl (hcs _ _ 0 _ (by simp) rfl)) ?_
              refine d_take (i := 20) rfl rfl rfl (by decide +kernel) (by decide +kernel) (by decide +kernel) (Fz.le_refl _) (by simp [LgH]) rfl (v_sub rfl rfl (r := ((i - ix : Nat) : Int)) ((wrap_u64 (by omega) (by omega)).trans (by omega))) ?_
              refine d_take (i := 21) rfl rfl rfl (by decide +kernel) (by decide +kernel) (by decide +kernel) (Fz.le_refl _) (by simp [LgH]) rfl (v_sub rfl rfl (r := ((i - ix - 1 : Nat) : Int)) ((wrap_u64 (by omega) (by omega)).trans (by omega))) ?_
              refine d_take (i := 22) rfl rfl rfl (by decide +kernel) (by decide +kernel) (by decide +kernel) (Fz.le_refl _) (by simp [LgH]) rfl (v_move rfl) ?_
              refine d_take (i := 23) rfl rfl rfl (by decide +kernel) (by decide +kernel) (by decide +kernel) (Fz.le_refl _) (by simp [LgH]) rfl (v_field (k := 0) rfl rfl rfl) ?_
              refine d_take (i := 24) rfl rfl rfl (by decide +kernel) (by decide +kernel) (by decide +kernel) (Fz.le_refl _) (by simp [LgH]) rfl (v_load (v := .int .u64 ix) rfl rfl (hcs _ _ 0 _ (by simp) rfl)) ?_
              refine d_take (i := 25) rfl rfl rfl (by decide +kernel) (by decide +kernel) (by decide +kernel) (Fz.le_refl _) (by simp [LgH]) rfl (v_sub rfl rfl (r := ((i - ix : Nat) : Int)) ((wrap_u64 (by omega) (by omega)).trans (by omega))) ?_
              refine d_take (i := 26) rfl rfl rfl (by decide +kernel) (by decide +kernel) (by decide +kernel) (Fz.le_refl _) (by simp [LgH]) rfl (v_slice2 (sz := 4) rfl rfl rfl rfl rfl rfl rfl (by omega) (by omega)) ?_
              refine d_one (i := 15) (by decide +kernel) ?_
              refine d1_act rfl rfl rfl rfl (a_buildS (sz := 4) (cs := e.cells) [.tmp 159] rfl rfl rfl rfl rfl rfl rfl rfl rfl rfl) ?_
              rintro v' H' ⟨y, rfl, rfl⟩
              refine ⟨fun w hw => held_of hw (Fz.le_refl _) (by simp [LgH]), ?_⟩
              refine d_one (i := 27) (by decide +kernel) ?_
              refine d1_call rfl rfl rfl rfl (c_call callable32 rfl) (ref_Same _ _ _ _ [e] [e'] _ (sl_lit (e := e) (List.mem_cons_self ..)) (hsl.frz (Fz.le_refl _)) (by simpa using hel) (by simpa using hem) hal (by simp)) ?_
              rintro v' F H' ⟨rfl, rfl, rfl⟩ _
              refine ⟨fun w hw => held_of hw (Fz.le_refl _) (by simp [LgH]), ?_⟩
              refine d_take (i := 28) rfl rfl rfl (by decide +kernel) (by decide +kernel) (by decide +kernel) (Fz.le_refl _) (by simp [LgH]) rfl (v_not rfl) ?_
              refine d_take (i := 29) rfl rfl rfl (by decide +kernel) (by decide +kernel) (by decide +kernel) (Fz.le_refl _) (by simp [LgH]) rfl (v_pick0 rfl rfl) ?_
              refine d_take (i := 30) rfl rfl rfl (by decide +kernel) (by decide +kernel) (by decide +kernel) (Fz.le_refl _) (by simp [LgH]) rfl (v_pick1 rfl rfl) ?_
              refine d_end (by decide +kernel) ?_
              refine r_false rfl ?_
              refine j_drop ((List.sublist_cons_self _ _).trans (List.sublist_cons_self _ _)) ?_
              refine r_skip ?_
              refine j_keep ?_ (J () trivial)
              exact ⟨rfl, rfl, rfl, rfl, rfl, trivial⟩
            · have hE : (lgEntry ix l i).2 = false := by unfold lgEntry; rw [if_pos (by omega)]
              rw [hE]
              refine r_seq ?_
              refine d_region 1000000 rfl ([]) ?_
              refine d_take (i := 0) rfl rfl rfl (by decide +kernel) (by decide +kernel) (by decide +kernel) (Fz.le_refl _) (by simp) rfl (v_move rfl) ?_
              refine d_take (i := 1) rfl rfl rfl (by decide +kernel) (by decide +kernel) (by decide +kernel) (Fz.le_refl _) (by simp) rfl (v_move rfl) ?_
              refine d_skip (i := 2) rfl rfl rfl (by decide +kernel) (by decide +kernel) (by decide +kernel) (Fz.le_refl _) (by simp) rfl ?_
              refine d_skip (i := 3) rfl rfl rfl (by decide +kernel) (by decide +kernel) (by decide +kernel) (Fz.le_refl _) (by simp) rfl ?_
              refine d_skip (i := 4) rfl rfl rfl (by decide +kernel) (by decide +kernel) (by decide +kernel) (Fz.le_refl _) (by simp) rfl ?_
              refine d_skip (i := 5) rfl rfl rfl (by decide +kernel) (by decide +kernel) (by decide +kernel) (Fz.le_refl _) (by simp) rfl ?_
              refine d_skip (i := 6) rfl rfl rfl (by decide +kernel) (by decide +kernel) (by decide +kernel) (Fz.le_refl _) (by simp) rfl ?_
              refine d_skip (i := 7) rfl rfl rfl (by decide +kernel) (by decide +kernel) (by decide +kernel) (Fz.le_refl _) (by simp) rfl ?_
              refine d_skip (i := 8) rfl rfl rfl (by decide +kernel) (by decide +kernel) (by decide +kernel) (Fz.le_refl _) (by simp) rfl ?_
              refine d_skip (i := 9) rfl rfl rfl (by decide +kernel) (by decide +kernel) (by decide +kernel) (Fz.le_refl _) (by simp) rfl ?_
              refine d_skip (i := 10) rfl rfl rfl (by decide +kernel) (by decide +kernel) (by decide +kernel) (Fz.le_refl _) (by simp) rfl ?_
              refine d_skip (i := 11) rfl rfl rfl (by decide +kernel) (by decide +kernel) (by decide +kernel) (Fz.le_refl _) (by simp) rfl ?_
              refine d_skip (i := 12) rfl rfl rfl (by decide +kernel) (by decide +kernel) (by decide +kernel) (Fz.le_refl _) (by simp) rfl ?_
              refine d_skip (i := 13) rfl rfl rfl (by decide +kernel) (by decide +kernel) (by decide +kernel) (Fz.le_refl _) (by simp) rfl ?_
              refine d_skip (i := 14) rfl rfl rfl (by decide +kernel) (by decide +kernel) (by decide +kernel) (Fz.le_refl _) (by simp) rfl ?_
              refine d_skip (i := 15) rfl rfl rfl (by decide +kernel) (by decide +kernel) (by decide +kernel) (Fz.le_refl _) (by simp) rfl ?_
              refine d_skip (i := 16) rfl rfl rfl (by decide +kernel) (by decide +kernel) (by decide +kernel) (Fz.le_refl _) (by simp) rfl ?_
              refine d_skip (i := 17) rfl rfl rfl (by decide +kernel) (by decide +kernel) (by decide +kernel) (Fz.le_refl _) (by simp) rfl ?_
              refine d_skip (i := 18) rfl rfl rfl (by decide +kernel) (by decide +kernel) (by decide +kernel) (Fz.le_refl _) (by simp) rfl ?_
              refine d_skip (i := 19) rfl rfl rfl (by decide +kernel) (by decide +kernel) (by decide +kernel) (Fz.le_refl _) (by simp) rfl ?_
              refine d_skip (i := 20) rfl rfl rfl (by decide +kernel) (by decide +kernel) (by decide +kernel) (Fz.le_refl _) (by simp) rfl ?_
              refine d_skip (i := 21) rfl rfl rfl (by decide +kernel) (by decide +kernel) (by decide +kernel) (Fz.le_refl _) (by simp) rfl ?_
              refine d_skip (i := 22) rfl rfl rfl (by decide +kernel) (by decide +kernel) (by decide +kernel) (Fz.le_refl _) (by simp) rfl ?_
              refine d_skip (i := 23) rfl rfl rfl (by decide +kernel) (by decide +kernel) (by decide +kernel) (Fz.le_refl _) (by simp) rfl ?_
              refine d_skip (i := 24) rfl rfl rfl (by decide +kernel) (by decide +kernel) (by decide +kernel) (Fz.le_refl _) (by simp) rfl ?_
              refine d_skip (i := 25) rfl rfl rfl (by decide +kernel) (by decide +kernel) (by decide +kernel) (Fz.le_refl _) (by simp) rfl ?_
              refine d_skip (i := 26) rfl rfl rfl (by decide +kernel) (by decide +kernel) (by decide +kernel) (Fz.le_refl _) (by simp) rfl ?_
              refine d_skip (i := 27) rfl rfl rfl (by decide +kernel) (by decide +kernel) (by decide +kernel) (Fz.le_refl _) (by simp) rfl ?_
              refine d_skip (i := 28) rfl rfl rfl (by decide +kernel) (by decide +kernel) (by decide +kernel) (Fz.le_refl _) (by simp) rfl ?_
              refine d_skip (i := 29) rfl rfl rfl (by decide +kernel) (by decide +kernel) (by decide +kernel) (Fz.le_refl _) (by simp) rfl ?_
              refine d_take (i := 30) rfl rfl rfl (by decide +kernel) (by decide +kernel) (by decide +kernel) (Fz.le_refl _) (by simp) rfl (v_pick0 rfl rfl) ?_
              refine d_end (by decide +kernel) ?_
              refine r_false rfl ?_
              refine j_drop (List.sublist_cons_self _ _) ?_
              refine r_skip ?_
              refine j_keep ?_ (J () trivial)
              exact ⟨rfl, rfl, rfl, rfl, rfl, trivial⟩
          · rintro _ _
            refine r_seq ?_
            refine r_region rfl ?_
            refine o_val rfl rfl rfl rfl (v_field (k := 2) rfl rfl rfl) ?_
            refine o_val rfl rfl rfl rfl (v_load (v := .int .u64 vt) rfl rfl (hcs _ _ 2 _ hSm rfl)) ?_
            refine o_val rfl rfl rfl rfl (v_assign rfl) ?_
            refine o_end ?_
            refine r_seq ?_
            refine r_seq ?_
            refine r_region rfl ?_
            refine o_val rfl rfl rfl rfl (v_assign rfl) ?_
            refine o_end ?_
            refine r_block ?_
            refine r_loop (fun j : Nat => j ≤ m.length) (fun j => [(0, ptrV a), (2, .slice a1 m.length cap1), (4, ptrV s), (7, .int .u64 (ix + m.length : Nat)), (14, .int .u64 i), (19, .int .u64 (lgVotersAt vt (m.take j) i)), (20, .int .i64 j)]) (fun _ => F) (fun _ => LgH a ix tm vt bf l (S :: Fr)) (fun j => m.length - j) 0 (Nat.zero_le _) ⟨rfl, rfl, rfl, rfl, rfl, rfl, rfl, trivial⟩ rfl rfl ?_
            intro j hj IHj
            refine r_seq ?_
            refine r_seq ?_
            refine r_region rfl ?_
            refine o_val rfl rfl rfl rfl (v_move rfl) ?_
            refine o_val rfl rfl rfl rfl (v_move rfl) ?_
            refine o_val rfl rfl rfl rfl (v_len rfl rfl) ?_
            refine o_val rfl rfl rfl rfl (v_lss rfl rfl) ?_
            refine o_end ?_
            refine r_if rfl (fun h4 => ?_) (fun h4 => ?_)
            · have hjl : j < m.length := by omega
              obtain ⟨b1, off1, c1, hab, hc1⟩ := sl_cells (hv.frz (H := LgH a ix tm vt bf l (S :: Fr)) (Fz.le_refl _)) hjl
              simp only [Value.slice.injEq] at hab
              obtain ⟨rfl, _, rfl⟩ := hab
              have he := hm m[j] (List.getElem_mem _)
              have hd := hdm m[j] (List.getElem_mem _)
              have hs : lgVotersAt vt (m.take (j + 1)) i = if m[j].ix ≤ i ∧ m[j].kd = 1 then maskB m[j].data else lgVotersAt vt (m.take j) i := by
                unfold lgVotersAt
                rw [List.take_succ_eq_append_getElem hjl, List.foldl_append]
                rfl
              have IH' := IHj (j + 1) hjl (by omega)
              rw [hs] at IH'
              generalize m[j] = e at *
              refine r_skip ?_
              refine r_seq ?_
              refine r_block ?_
              refine r_seq ?_
              refine r_region rfl ?_
              refine o_val rfl rfl rfl rfl (v_move rfl) ?_
              refine o_val rfl rfl rfl rfl (v_move rfl) ?_
              refine o_val rfl rfl rfl rfl (v_indexN (sz := 4) rfl rfl rfl rfl hjl) ?_
              refine o_val rfl rfl rfl rfl (v_field (k := 0) rfl rfl rfl) ?_
              refine o_val rfl rfl rfl rfl (v_load (v := .int .u64 e.ix) rfl rfl (hc1 0 _ rfl)) ?_
              refine o_val rfl rfl rfl rfl (v_move rfl) ?_
              refine o_val rfl rfl rfl rfl (v_leq rfl rfl) ?_
              refine o_val rfl rfl rfl rfl (v_move rfl) ?_
              refine j_prop 191 rfl (fun h5 => ?_) (fun h5 => ?_)
              · refine o_val rfl rfl rfl rfl (v_move rfl) ?_
                refine o_val rfl rfl rfl rfl (v_move rfl) ?_
                refine o_val rfl rfl rfl rfl (v_indexN (sz := 4) rfl rfl rfl rfl hjl) ?_
                refine o_val rfl rfl rfl rfl (v_field (k := 2) rfl rfl rfl) ?_
                refine o_val rfl rfl rfl rfl (v_load (v := .int .u8 e.kd) rfl rfl (hc1 2 _ rfl)) ?_
                refine o_val rfl rfl rfl rfl (v_eql rfl rfl) ?_
                refine o_val rfl rfl rfl rfl (v_pick1 rfl rfl) ?_
                refine o_end ?_
                refine r_if rfl (fun h6 => ?_) (fun h6 => ?_)
                · rw [if_pos ⟨by omega, by omega⟩] at IH'
                  refine r_region rfl ?_
                  refine o_val rfl rfl rfl rfl (v_move rfl) ?_
                  refine o_val rfl rfl rfl rfl (v_move rfl) ?_
                  refine o_val rfl rfl rfl rfl (v_indexN (sz := 4) rfl rfl rfl rfl hjl) ?_
                  refine o_val rfl rfl rfl rfl (v_field (k := 3) rfl rfl rfl) ?_
                  refine o_val rfl rfl rfl rfl (v_load (v := e.dv) rfl rfl (hc1 3 _ rfl)) ?_
                  refine o_call rfl rfl rfl rfl (c_call callable20 rfl) (ref_Mask _ _ e.dv e.data _ (he.dv.frz (Fz.le_refl _)) (by omega)) ?_
                  rintro v' F H' ⟨rfl, rfl, rfl⟩ _
                  refine o_val rfl rfl rfl rfl (v_assign rfl) ?_
                  refine o_end ?_
                  refine r_inBlock ?_
                  refine r_region rfl ?_
                  refine o_val rfl rfl rfl rfl (v_move rfl) ?_
                  refine o_val rfl rfl rfl rfl (v_add rfl rfl (wrap_i64 (by omega) (by omega))) ?_
                  refine o_val rfl rfl rfl rfl (v_assign rfl) ?_
                  refine o_end ?_
                  refine j_keep ?_ IH'
                  exact ⟨rfl, rfl, rfl, rfl, rfl, rfl, rfl, trivial⟩
                · rw [if_neg (by omega)] at IH'
                  refine r_skip ?_
                  refine r_inBlock ?_
                  refine r_region rfl ?_
                  refine o_val rfl rfl rfl rfl (v_move rfl) ?_
                  refine o_val rfl rfl rfl rfl (v_add rfl rfl (wrap_i64 (by omega) (by omega))) ?_
                  refine o_val rfl rfl rfl rfl (v_assign rfl) ?_
                  refine o_end ?_
                  refine j_keep ?_ IH'
                  exact ⟨rfl, rfl, rfl, rfl, rfl, rfl, rfl, trivial⟩
              · rw [if_neg (by omega)] at IH'
                refine o_skip rfl rfl rfl rfl ?_
                refine o_skip rfl rfl rfl rfl ?_
                refine o_skip rfl rfl rfl rfl ?_
                refine o_skip rfl rfl rfl rfl ?_
                refine o_skip rfl rfl rfl rfl ?_
                refine o_skip rfl rfl rfl rfl ?_
                refine o_val rfl rfl rfl rfl (v_pick0 rfl rfl) ?_
                refine o_end ?_
                refine r_false rfl ?_
                refine r_skip ?_
                refine r_inBlock ?_
                refine r_region rfl ?_
                refine o_val rfl rfl rfl rfl (v_move rfl) ?_
                refine o_val rfl rfl rfl rfl (v_add rfl rfl (wrap_i64 (by omega) (by omega))) ?_
                refine o_val rfl rfl rfl rfl (v_assign rfl) ?_
                refine o_end ?_
                refine j_keep ?_ IH'
                exact ⟨rfl, rfl, rfl, rfl, rfl, rfl, rfl, trivial⟩
            · obtain rfl : j = m.length := by omega
              rw [List.take_length]
              refine r_exit rfl ?_
              refine r_seq ?_
              refine r_region rfl ?_
              refine o_val rfl rfl rfl rfl (v_move rfl) ?_
              refine o_val rfl rfl rfl rfl (v_move rfl) ?_
              refine o_call rfl rfl rfl rfl (c_call callable31 rfl) (lg_VotersAt _ _ a ix tm vt bf l i _ hn hok hl hdl) ?_
              rintro v' F H' ⟨rfl, rfl, rfl⟩ _
              rw [lgVotersAt_like hlm]
              refine o_val rfl rfl rfl rfl (v_move rfl) ?_
              refine o_val rfl rfl rfl rfl (v_neq rfl rfl) ?_
              refine o_end ?_
              refine j_slot 209 rfl (v' := .bool false) (by simp) ?_
              refine r_false rfl ?_
              refine r_skip ?_
              refine r_inBlock ?_
              refine r_region rfl ?_
              refine o_val rfl rfl rfl rfl (v_move rfl) ?_
              refine o_val rfl rfl rfl rfl (v_add rfl rfl (wrap_u64 (by omega) (by omega))) ?_
              refine o_val rfl rfl rfl rfl (v_assign rfl) ?_
              refine o_end ?_
              refine j_keep ?_ (IH (i + 1) (by omega) (by omega))
              exact ⟨rfl, rfl, rfl, rfl, rfl, trivial⟩
    · refine j_drop (H' := LgH a ix tm vt bf l Fr) (drop_in _ _ _ _) ?_
      refine r_exit rfl ?_
      refine r_seq ?_
      refine r_region rfl ?_
      refine o_val rfl rfl rfl rfl (v_assign rfl) ?_
      refine o_end ?_
      exact r_ret1 Try.func21 rfl rfl ⟨⟨rfl, rfl⟩, Fz.le_refl _⟩
end Go.SX
