/-
  The law's own: image, short; the reference's sameness.
-/
import Derived.Test.YtmpbgnffdpppbaaWal6
import Derived.Test.YtmpbgnffdpppbaaSxRec
namespace Go.SX
open Go Go.Proofs
set_option maxRecDepth 4000
set_option linter.unusedSimpArgs false
set_option linter.unusedVariables false

theorem law_image (O : World) (F : Fz) (p : Im) (Fr : List Ent) (hp : p.ok F) :
    Does Try.prog O 14 #[.agg p.cells.toArray] F Fr (fun r F' H' => r = .agg p.cells.toArray ∧ F' = F ∧ H' = Fr) := by
  have h1 := hp.one
  obtain ⟨term, vote, ix, tm, vt, dv, data, lv, l⟩ := p
  obtain ⟨a1, c1, hdv, _⟩ := Sl.shape hp.dv
  obtain ⟨a2, c2, hlv, _⟩ := Sl.shape hp.lv
  dsimp only at hdv hlv
  subst hdv hlv
  refine does_of_run (args := [_]) Try.func14 rfl rfl ?_
  refine r_seq ?_
  refine r_region rfl ?_
  refine o_act rfl rfl rfl rfl (a_box rfl) ?_
  rintro v' H' ⟨s, rfl, rfl⟩
  refine o_act rfl rfl rfl rfl (a_alloc rfl) ?_
  rintro v' H' ⟨x, rfl, rfl⟩
  refine o_end ?_
  refine r_seq ?_
  refine r_region rfl ?_
  refine o_val rfl rfl rfl rfl (v_field (k := 0) rfl rfl rfl) ?_
  refine o_val rfl rfl rfl rfl (v_loadAgg (sz := 2) (cs := [.int .u64 term, .int .i64 vote]) rfl rfl rfl rfl (cells_of (j := 1) _ _ rfl rfl)) ?_
  refine o_val rfl rfl rfl rfl (v_field (k := 2) rfl rfl rfl) ?_
  refine o_val rfl rfl rfl rfl (v_loadAgg (sz := 4) (cs := [.int .u64 ix, .int .u64 tm, .int .u64 vt, .slice a1 data.length c1]) rfl rfl rfl rfl (cells_of (j := 1) _ _ rfl rfl)) ?_
  refine o_val rfl rfl rfl rfl (v_field (k := 6) rfl rfl rfl) ?_
  refine o_val rfl rfl rfl rfl (v_load (v := .slice a2 l.length c2) rfl rfl (cell_at (j := 1) rfl rfl)) ?_
  refine o_val rfl rfl rfl rfl (v_build rfl rfl) ?_
  refine o_act0 rfl rfl rfl (a_store (sz := 7) 0 rfl rfl rfl rfl rfl rfl (Nat.le_of_ble_eq_true rfl)) ?_
  refine j_heap (H' := .mem x (Im.cells ⟨term, vote, ix, tm, vt, .slice a1 data.length c1, data, .slice a2 l.length c2, l⟩) 7 :: .mem s (Im.cells ⟨term, vote, ix, tm, vt, .slice a1 data.length c1, data, .slice a2 l.length c2, l⟩) 7 :: Fr) rfl ?_
  refine o_end ?_
  exact r_retC Try.func14 rfl rfl rfl rfl rfl (cells_of (j := 0) _ _ rfl rfl) (H' := Fr) ((List.sublist_cons_self _ _).trans (List.sublist_cons_self _ _)) ⟨⟨rfl, rfl, rfl⟩, Fz.le_refl _⟩

theorem ref_SameE (O : World) (F : Fz) (va vb : Value) (l m : List En) (H : List Ent) (ha : Sl F H 4 va l.length (enV l)) (hb : Sl F H 4 vb m.length (enV m)) (hl : ∀ e ∈ l, e.ok F) (hm : ∀ e ∈ m, e.ok F) (hlm : l.map En.pure = m.map En.pure) (hn : l.length ≤ 1000000) :
    Does Try.prog O 34 #[va, vb] F H (fun r F' H' => r = .bool true ∧ F' = F ∧ H' = H) := by
  obtain ⟨a0, cap, rfl, hcap⟩ := Sl.shape ha
  obtain ⟨a1, cap1, rfl, hcap1⟩ := Sl.shape hb
  have hlen : l.length = m.length := by have := congrArg List.length hlm; simpa using this
  refine does_of_run (args := [_, _]) Try.func34 rfl rfl ?_
  refine r_seq ?_
  refine r_region rfl ?_
  refine o_val rfl rfl rfl rfl (v_assign rfl) ?_
  refine o_end ?_
  refine r_seq ?_
  refine r_seq ?_
  refine r_region rfl ?_
  refine o_val rfl rfl rfl rfl (v_move rfl) ?_
  refine o_val rfl rfl rfl rfl (v_len rfl rfl) ?_
  refine o_val rfl rfl rfl rfl (v_move rfl) ?_
  refine o_val rfl rfl rfl rfl (v_len rfl rfl) ?_
  refine o_val rfl rfl rfl rfl (v_neq rfl rfl) ?_
  refine o_end ?_
  refine j_slot 10 rfl (v' := .bool false) (by rw [decide_eq_false (by omega)]) ?_
  refine r_false rfl ?_
  refine r_skip ?_
  refine r_seq ?_
  refine r_seq ?_
  refine r_region rfl ?_
  refine o_val rfl rfl rfl rfl (v_assign rfl) ?_
  refine o_end ?_
  refine r_block ?_
  refine r_loop (fun i : Nat => i ≤ l.length) (fun i => [(0, .slice a0 l.length cap), (1, .slice a1 m.length cap1), (5, .int .i64 i)]) (fun _ => F) (fun _ => H) (fun i => l.length - i) 0 (Nat.zero_le _) ⟨rfl, rfl, rfl, trivial⟩ rfl rfl ?_
  intro i hi IH
  refine r_seq ?_
  refine r_seq ?_
  refine r_region rfl ?_
  refine o_val rfl rfl rfl rfl (v_move rfl) ?_
  refine o_val rfl rfl rfl rfl (v_move rfl) ?_
  refine o_val rfl rfl rfl rfl (v_len rfl rfl) ?_
  refine o_val rfl rfl rfl rfl (v_lss rfl rfl) ?_
  refine o_end ?_
  refine r_if rfl (fun h => ?_) (fun h => ?_)
  · have hil : i < l.length := by omega
    have him : i < m.length := by omega
    obtain ⟨b0, off0, c0, hab, hc0⟩ := sl_cells ha hil
    simp only [Value.slice.injEq] at hab
    obtain ⟨rfl, _, rfl⟩ := hab
    obtain ⟨b1, off1, c1, hab, hc1⟩ := sl_cells hb him
    simp only [Value.slice.injEq] at hab
    obtain ⟨rfl, _, rfl⟩ := hab
    have he := hl l[i] (List.getElem_mem _)
    have he' := hm m[i] (List.getElem_mem _)
    have hlk : l[i].pure = m[i].pure := by
      have h1 : (l.map En.pure)[i]? = some l[i].pure := by simp [hil]
      have h2 : (m.map En.pure)[i]? = some m[i].pure := by simp [him]
      rw [hlm, h2] at h1
      exact (Option.some.inj h1).symm
    have hk1 : l[i].ix = m[i].ix := congrArg PE.ix hlk
    have hk2 : l[i].tm = m[i].tm := congrArg PE.tm hlk
    have hk3 : l[i].kd = m[i].kd := congrArg PE.kd hlk
    have hk4 : l[i].data = m[i].data := congrArg PE.data hlk
    generalize l[i] = e at *
    generalize m[i] = e' at *
    refine r_skip ?_
    refine r_seq ?_
    refine r_block ?_
    refine r_seq ?_
    refine d_region 1000000 rfl (H) ?_
    refine d_take (i := 0) rfl rfl rfl (by decide +kernel) (by decide +kernel) (by decide +kernel) (Fz.le_refl _) (fun e he => he) rfl (v_move rfl) ?_
    refine d_take (i := 1) rfl rfl rfl (by decide +kernel) (by decide +kernel) (by decide +kernel) (Fz.le_refl _) (fun e he => he) rfl (v_move rfl) ?_
    refine d_take (i := 2) rfl rfl rfl (by decide +kernel) (by decide +kernel) (by decide +kernel) (Fz.le_refl _) (fun e he => he) rfl (v_indexN (sz := 4) rfl rfl rfl rfl hil) ?_
    refine d_take (i := 3) rfl rfl rfl (by decide +kernel) (by decide +kernel) (by decide +kernel) (Fz.le_refl _) (fun e he => he) rfl (v_field (k := 0) rfl rfl rfl) ?_
    refine d_take (i := 4) rfl rfl rfl (by decide +kernel) (by decide +kernel) (by decide +kernel) (Fz.le_refl _) (fun e he => he) rfl (v_load (v := .int .u64 e.ix) rfl rfl (hc0 0 _ rfl)) ?_
    refine d_take (i := 5) rfl rfl rfl (by decide +kernel) (by decide +kernel) (by decide +kernel) (Fz.le_refl _) (fun e he => he) rfl (v_move rfl) ?_
    refine d_take (i := 6) rfl rfl rfl (by decide +kernel) (by decide +kernel) (by decide +kernel) (Fz.le_refl _) (fun e he => he) rfl (v_move rfl) ?_
    refine d_take (i := 7) rfl rfl rfl (by decide +kernel) (by decide +kernel) (by decide +kernel) (Fz.le_refl _) (fun e he => he) rfl (v_indexN (sz := 4) rfl rfl rfl rfl him) ?_
    refine d_take (i := 8) rfl rfl rfl (by decide +kernel) (by decide +kernel) (by decide +kernel) (Fz.le_refl _) (fun e he => he) rfl (v_field (k := 0) rfl rfl rfl) ?_
    refine d_take (i := 9) rfl rfl rfl (by decide +kernel) (by decide +kernel) (by decide +kernel) (Fz.le_refl _) (fun e he => he) rfl (v_load (v := .int .u64 e'.ix) rfl rfl (hc1 0 _ rfl)) ?_
    refine d_take (i := 10) rfl rfl rfl (by decide +kernel) (by decide +kernel) (by decide +kernel) (Fz.le_refl _) (fun e he => he) rfl (v_neq rfl rfl) ?_
    refine j_slot 27 rfl (v' := .bool false) (by rw [hk1]; simp) ?_
    refine d_take (i := 11) rfl rfl rfl (by decide +kernel) (by decide +kernel) (by decide +kernel) (Fz.le_refl _) (fun e he => he) rfl (v_move rfl) ?_
    refine d_take (i := 12) rfl rfl rfl (by decide +kernel) (by decide +kernel) (by decide +kernel) (Fz.le_refl _) (fun e he => he) rfl (v_move rfl) ?_
    refine d_take (i := 13) rfl rfl rfl (by decide +kernel) (by decide +kernel) (by decide +kernel) (Fz.le_refl _) (fun e he => he) rfl (v_move rfl) ?_
    refine d_take (i := 14) rfl rfl rfl (by decide +kernel) (by decide +kernel) (by decide +kernel) (Fz.le_refl _) (fun e he => he) rfl (v_indexN (sz := 4) rfl rfl rfl rfl hil) ?_
    refine d_take (i := 15) rfl rfl rfl (by decide +kernel) (by decide +kernel) (by decide +kernel) (Fz.le_refl _) (fun e he => he) rfl (v_field (k := 1) rfl rfl rfl) ?_
    refine d_take (i := 16) rfl rfl rfl (by decide +kernel) (by decide +kernel) (by decide +kernel) (Fz.le_refl _) (fun e he => he) rfl (v_load (v := .int .u64 e.tm) rfl rfl (hc0 1 _ rfl)) ?_
    refine d_take (i := 17) rfl rfl rfl (by decide +kernel) (by decide +kernel) (by decide +kernel) (Fz.le_refl _) (fun e he => he) rfl (v_move rfl) ?_
    refine d_take (i := 18) rfl rfl rfl (by decide +kernel) (by decide +kernel) (by decide +kernel) (Fz.le_refl _) (fun e he => he) rfl (v_move rfl) ?_
    refine d_take (i := 19) rfl rfl rfl (by decide +kernel) (by decide +kernel) (by decide +kernel) (Fz.le_refl _) (fun e he => he) rfl (v_indexN (sz := 4) rfl rfl rfl rfl him) ?_
    refine d_take (i := 20) rfl rfl rfl (by decide +kernel) (by decide +kernel) (by decide +kernel) (Fz.le_refl _) (fun e he => he) rfl (v_field (k := 1) rfl rfl rfl) ?_
    refine d_take (i := 21) rfl rfl rfl (by decide +kernel) (by decide +kernel) (by decide +kernel) (Fz.le_refl _) (fun e he => he) rfl (v_load (v := .int .u64 e'.tm) rfl rfl (hc1 1 _ rfl)) ?_
    refine d_take (i := 22) rfl rfl rfl (by decide +kernel) (by decide +kernel) (by decide +kernel) (Fz.le_refl _) (fun e he => he) rfl (v_neq rfl rfl) ?_
    refine j_slot 39 rfl (v' := .bool false) (by rw [hk2]; simp) ?_
    refine d_take (i := 23) rfl rfl rfl (by decide +kernel) (by decide +kernel) (by decide +kernel) (Fz.le_refl _) (fun e he => he) rfl (v_pick0 rfl rfl) ?_
    refine d_take (i := 24) rfl rfl rfl (by decide +kernel) (by decide +kernel) (by decide +kernel) (Fz.le_refl _) (fun e he => he) rfl (v_move rfl) ?_
    refine d_take (i := 25) rfl rfl rfl (by decide +kernel) (by decide +kernel) (by decide +kernel) (Fz.le_refl _) (fun e he => he) rfl (v_move rfl) ?_
    refine d_take (i := 26) rfl rfl rfl (by decide +kernel) (by decide +kernel) (by decide +kernel) (Fz.le_refl _) (fun e he => he) rfl (v_move rfl) ?_
    refine d_take (i := 27) rfl rfl rfl (by decide +kernel) (by decide +kernel) (by decide +kernel) (Fz.le_refl _) (fun e he => he) rfl (v_indexN (sz := 4) rfl rfl rfl rfl hil) ?_
    refine d_take (i := 28) rfl rfl rfl (by decide +kernel) (by decide +kernel) (by decide +kernel) (Fz.le_refl _) (fun e he => he) rfl (v_field (k := 2) rfl rfl rfl) ?_
    refine d_take (i := 29) rfl rfl rfl (by decide +kernel) (by decide +kernel) (by decide +kernel) (Fz.le_refl _) (fun e he => he) rfl (v_load (v := .int .u8 e.kd) rfl rfl (hc0 2 _ rfl)) ?_
    refine d_take (i := 30) rfl rfl rfl (by decide +kernel) (by decide +kernel) (by decide +kernel) (Fz.le_refl _) (fun e he => he) rfl (v_move rfl) ?_
    refine d_take (i := 31) rfl rfl rfl (by decide +kernel) (by decide +kernel) (by decide +kernel) (Fz.le_refl _) (fun e he => he) rfl (v_move rfl) ?_
    refine d_take (i := 32) rfl rfl rfl (by decide +kernel) (by decide +kernel) (by decide +kernel) (Fz.le_refl _) (fun e he => he) rfl (v_indexN (sz := 4) rfl rfl rfl rfl him) ?_
    refine d_take (i := 33) rfl rfl rfl (by decide +kernel) (by decide +kernel) (by decide +kernel) (Fz.le_refl _) (fun e he => he) rfl (v_field (k := 2) rfl rfl rfl) ?_
    refine d_take (i := 34) rfl rfl rfl (by decide +kernel) (by decide +kernel) (by decide +kernel) (Fz.le_refl _) (fun e he => he) rfl (v_load (v := .int .u8 e'.kd) rfl rfl (hc1 2 _ rfl)) ?_
    refine d_take (i := 35) rfl rfl rfl (by decide +kernel) (by decide +kernel) (by decide +kernel) (Fz.le_refl _) (fun e he => he) rfl (v_neq rfl rfl) ?_
    refine j_slot 52 rfl (v' := .bool false) (by rw [hk3]; simp) ?_
    refine d_take (i := 36) rfl rfl rfl (by decide +kernel) (by decide +kernel) (by decide +kernel) (Fz.le_refl _) (fun e he => he) rfl (v_pick0 rfl rfl) ?_
    refine d_take (i := 37) rfl rfl rfl (by decide +kernel) (by decide +kernel) (by decide +kernel) (Fz.le_refl _) (fun e he => he) rfl (v_move rfl) ?_
    refine d_take (i := 38) rfl rfl rfl (by decide +kernel) (by decide +kernel) (by decide +kernel) (Fz.le_refl _) (fun e he => he) rfl (v_move rfl) ?_
    refine d_take (i := 39) rfl rfl rfl (by decide +kernel) (by decide +kernel) (by decide +kernel) (Fz.le_refl _) (fun e he => he) rfl (v_move rfl) ?_
    refine d_take (i := 40) rfl rfl rfl (by decide +kernel) (by decide +kernel) (by decide +kernel) (Fz.le_refl _) (fun e he => he) rfl (v_indexN (sz := 4) rfl rfl rfl rfl hil) ?_
    refine d_take (i := 41) rfl rfl rfl (by decide +kernel) (by decide +kernel) (by decide +kernel) (Fz.le_refl _) (fun e he => he) rfl (v_field (k := 3) rfl rfl rfl) ?_
    refine d_take (i := 42) rfl rfl rfl (by decide +kernel) (by decide +kernel) (by decide +kernel) (Fz.le_refl _) (fun e he => he) rfl (v_load (v := e.dv) rfl rfl (hc0 3 _ rfl)) ?_
    refine d_take (i := 43) rfl rfl rfl (by decide +kernel) (by decide +kernel) (by decide +kernel) (Fz.le_refl _) (fun e he => he) rfl (v_bytesString rfl rfl rfl rfl (l := e.data) (he.dv.frz (Fz.le_refl _))) ?_
    refine d_take (i := 44) rfl rfl rfl (by decide +kernel) (by decide +kernel) (by decide +kernel) (Fz.le_refl _) (fun e he => he) rfl (v_move rfl) ?_
    refine d_take (i := 45) rfl rfl rfl (by decide +kernel) (by decide +kernel) (by decide +kernel) (Fz.le_refl _) (fun e he => he) rfl (v_move rfl) ?_
    refine d_take (i := 46) rfl rfl rfl (by decide +kernel) (by decide +kernel) (by decide +kernel) (Fz.le_refl _) (fun e he => he) rfl (v_indexN (sz := 4) rfl rfl rfl rfl him) ?_
    refine d_take (i := 47) rfl rfl rfl (by decide +kernel) (by decide +kernel) (by decide +kernel) (Fz.le_refl _) (fun e he => he) rfl (v_field (k := 3) rfl rfl rfl) ?_
    refine d_take (i := 48) rfl rfl rfl (by decide +kernel) (by decide +kernel) (by decide +kernel) (Fz.le_refl _) (fun e he => he) rfl (v_load (v := e'.dv) rfl rfl (hc1 3 _ rfl)) ?_
    refine d_take (i := 49) rfl rfl rfl (by decide +kernel) (by decide +kernel) (by decide +kernel) (Fz.le_refl _) (fun e he => he) rfl (v_bytesString rfl rfl rfl rfl (l := e'.data) (he'.dv.frz (Fz.le_refl _))) ?_
    refine d_take (i := 50) rfl rfl rfl (by decide +kernel) (by decide +kernel) (by decide +kernel) (Fz.le_refl _) (fun e he => he) rfl (v_sneq rfl rfl) ?_
    refine j_slot 67 rfl (v' := .bool false) (by rw [hk4]; simp) ?_
    refine d_take (i := 51) rfl rfl rfl (by decide +kernel) (by decide +kernel) (by decide +kernel) (Fz.le_refl _) (fun e he => he) rfl (v_pick0 rfl rfl) ?_
    refine d_end (by decide +kernel) ?_
    refine r_false rfl ?_
    refine r_skip ?_
    refine r_inBlock ?_
    refine r_region rfl ?_
    refine o_val rfl rfl rfl rfl (v_move rfl) ?_
    refine o_val rfl rfl rfl rfl (v_add rfl rfl (wrap_i64 (by omega) (by omega))) ?_
    refine o_val rfl rfl rfl rfl (v_assign rfl) ?_
    refine o_end ?_
    refine j_keep ?_ (IH (i + 1) hil (by omega))
    exact ⟨rfl, rfl, rfl, trivial⟩
  · refine r_exit rfl ?_
    refine r_seq ?_
    refine r_region rfl ?_
    refine o_val rfl rfl rfl rfl (v_assign rfl) ?_
    refine o_end ?_
    exact r_ret1 Try.func34 rfl rfl ⟨⟨rfl, rfl, rfl⟩, Fz.le_refl _⟩

theorem ref_Same (O : World) (F : Fz) (p q : Im) (Fr : List Ent) (hp : p.ok F) (hq : q.ok F) (hpq : p.pure = q.pure) (hn : p.l.length ≤ 1000000) :
    Does Try.prog O 13 #[.agg p.cells.toArray, .agg q.cells.toArray] F Fr (fun r F' H' => r = .bool true ∧ F' = F ∧ H' = Fr) := by
  obtain ⟨term, vote, ix, tm, vt, dv, data, lv, l⟩ := p
  obtain ⟨term', vote', ix', tm', vt', dv', data', lv', l'⟩ := q
  simp only [Im.pure, PI.mk.injEq] at hpq
  obtain ⟨rfl, rfl, rfl, rfl, rfl, rfl, hl⟩ := hpq
  obtain ⟨a1, c1, hdv, _⟩ := Sl.shape hp.dv
  obtain ⟨a2, c2, hlv, _⟩ := Sl.shape hp.lv
  obtain ⟨a3, c3, hdv', _⟩ := Sl.shape hq.dv
  obtain ⟨a4, c4, hlv', _⟩ := Sl.shape hq.lv
  dsimp only at hdv hlv hdv' hlv'
  subst hdv hlv hdv' hlv'
  refine does_of_run (args := [_, _]) Try.func13 rfl rfl ?_
  refine r_seq ?_
  refine r_region rfl ?_
  refine o_act rfl rfl rfl rfl (a_box rfl) ?_
  rintro v' H' ⟨s, rfl, rfl⟩
  refine o_act rfl rfl rfl rfl (a_box rfl) ?_
  rintro v' H' ⟨s', rfl, rfl⟩
  refine o_val rfl rfl rfl rfl (v_assign rfl) ?_
  refine o_end ?_
  refine r_seq ?_
  refine r_region rfl ?_
  refine o_val rfl rfl rfl rfl (v_field (k := 0) rfl rfl rfl) ?_
  refine o_val rfl rfl rfl rfl (v_loadAgg (sz := 2) (cs := [.int .u64 term, .int .i64 vote]) rfl rfl rfl rfl (cells_of (j := 1) _ _ rfl rfl)) ?_
  refine o_val rfl rfl rfl rfl (v_field (k := 0) rfl rfl rfl) ?_
  refine o_val rfl rfl rfl rfl (v_loadAgg (sz := 2) (cs := [.int .u64 term, .int .i64 vote]) rfl rfl rfl rfl (cells_of (j := 0) _ _ rfl rfl)) ?_
  refine o_val rfl rfl rfl rfl (v_agg2eq rfl rfl rfl (by show Try.prog.stoodInHeld _ = false; decide +kernel) (by show Try.prog.eqGuardType Try.prog.depth _ = false; decide +kernel) rfl (by decide) (by decide) rfl rfl rfl rfl rfl rfl) ?_
  refine j_slot 9 rfl (v' := .bool true) (by simp) ?_
  refine o_val rfl rfl rfl rfl (v_move rfl) ?_
  refine o_val rfl rfl rfl rfl (v_field (k := 2) rfl rfl rfl) ?_
  refine o_val rfl rfl rfl rfl (v_field (k := 0) rfl rfl rfl) ?_
  refine o_val rfl rfl rfl rfl (v_load (v := .int .u64 ix) rfl rfl (cell_at (j := 1) rfl rfl)) ?_
  refine o_val rfl rfl rfl rfl (v_field (k := 2) rfl rfl rfl) ?_
  refine o_val rfl rfl rfl rfl (v_field (k := 0) rfl rfl rfl) ?_
  refine o_val rfl rfl rfl rfl (v_load (v := .int .u64 ix) rfl rfl (cell_at (j := 0) rfl rfl)) ?_
  refine o_val rfl rfl rfl rfl (v_eql rfl rfl) ?_
  refine j_slot 17 rfl (v' := .bool true) (by simp) ?_
  refine o_val rfl rfl rfl rfl (v_pick1 rfl rfl) ?_
  refine o_val rfl rfl rfl rfl (v_move rfl) ?_
  refine o_val rfl rfl rfl rfl (v_field (k := 2) rfl rfl rfl) ?_
  refine o_val rfl rfl rfl rfl (v_field (k := 1) rfl rfl rfl) ?_
  refine o_val rfl rfl rfl rfl (v_load (v := .int .u64 tm) rfl rfl (cell_at (j := 1) rfl rfl)) ?_
  refine o_val rfl rfl rfl rfl (v_field (k := 2) rfl rfl rfl) ?_
  refine o_val rfl rfl rfl rfl (v_field (k := 1) rfl rfl rfl) ?_
  refine o_val rfl rfl rfl rfl (v_load (v := .int .u64 tm) rfl rfl (cell_at (j := 0) rfl rfl)) ?_
  refine o_val rfl rfl rfl rfl (v_eql rfl rfl) ?_
  refine j_slot 26 rfl (v' := .bool true) (by simp) ?_
  refine o_val rfl rfl rfl rfl (v_pick1 rfl rfl) ?_
  refine o_val rfl rfl rfl rfl (v_move rfl) ?_
  refine o_val rfl rfl rfl rfl (v_field (k := 2) rfl rfl rfl) ?_
  refine o_val rfl rfl rfl rfl (v_field (k := 2) rfl rfl rfl) ?_
  refine o_val rfl rfl rfl rfl (v_load (v := .int .u64 vt) rfl rfl (cell_at (j := 1) rfl rfl)) ?_
  refine o_val rfl rfl rfl rfl (v_field (k := 2) rfl rfl rfl) ?_
  refine o_val rfl rfl rfl rfl (v_field (k := 2) rfl rfl rfl) ?_
  refine o_val rfl rfl rfl rfl (v_load (v := .int .u64 vt) rfl rfl (cell_at (j := 0) rfl rfl)) ?_
  refine o_val rfl rfl rfl rfl (v_eql rfl rfl) ?_
  refine j_slot 35 rfl (v' := .bool true) (by simp) ?_
  refine o_val rfl rfl rfl rfl (v_pick1 rfl rfl) ?_
  refine o_val rfl rfl rfl rfl (v_move rfl) ?_
  refine o_val rfl rfl rfl rfl (v_field (k := 2) rfl rfl rfl) ?_
  refine o_val rfl rfl rfl rfl (v_field (k := 3) rfl rfl rfl) ?_
  refine o_val rfl rfl rfl rfl (v_load (v := .slice a1 data.length c1) rfl rfl (cell_at (j := 1) rfl rfl)) ?_
  refine o_val rfl rfl rfl rfl (v_bytesString rfl rfl rfl rfl (l := data) (hp.dv.frz (Fz.le_refl _))) ?_
  refine o_val rfl rfl rfl rfl (v_field (k := 2) rfl rfl rfl) ?_
  refine o_val rfl rfl rfl rfl (v_field (k := 3) rfl rfl rfl) ?_
  refine o_val rfl rfl rfl rfl (v_load (v := .slice a3 data.length c3) rfl rfl (cell_at (j := 0) rfl rfl)) ?_
  refine o_val rfl rfl rfl rfl (v_bytesString rfl rfl rfl rfl (l := data) (hq.dv.frz (Fz.le_refl _))) ?_
  refine o_val rfl rfl rfl rfl (v_seql rfl rfl) ?_
  refine j_slot 46 rfl (v' := .bool true) (by simp) ?_
  refine o_val rfl rfl rfl rfl (v_pick1 rfl rfl) ?_
  refine o_val rfl rfl rfl rfl (v_move rfl) ?_
  refine o_val rfl rfl rfl rfl (v_field (k := 6) rfl rfl rfl) ?_
  refine o_val rfl rfl rfl rfl (v_load (v := .slice a2 l.length c2) rfl rfl (cell_at (j := 1) rfl rfl)) ?_
  refine o_val rfl rfl rfl rfl (v_field (k := 6) rfl rfl rfl) ?_
  refine o_val rfl rfl rfl rfl (v_load (v := .slice a4 l'.length c4) rfl rfl (cell_at (j := 0) rfl rfl)) ?_
  refine o_call rfl rfl rfl rfl (c_call callable34 rfl) (ref_SameE _ _ _ _ l l' _ (hp.lv.frz (Fz.le_refl _)) (hq.lv.frz (Fz.le_refl _)) hp.l hq.l hl hn) ?_
  rintro v' F H' ⟨rfl, rfl, rfl⟩ _
  refine o_val rfl rfl rfl rfl (v_pick1 rfl rfl) ?_
  refine o_val rfl rfl rfl rfl (v_assign rfl) ?_
  refine o_end ?_
  refine j_drop (H' := Fr) ((List.sublist_cons_self _ _).trans (List.sublist_cons_self _ _)) ?_
  exact r_ret1 Try.func13 rfl rfl ⟨⟨rfl, rfl, rfl⟩, Fz.le_refl _⟩

theorem rec_cells {F : Fz} {H : List Ent} {v : Value} {l : List RecI} {i : Nat} (hv : Sl F H 5 v l.length (l.flatMap RecI.cells)) (hi : i < l.length) :
    ∃ b off cap, v = .slice (some ⟨b, off, none⟩) l.length cap ∧ ∀ j c, l[i].cells[j]? = some c → Cell F H b (off + i * 5 + j) c := by
  obtain ⟨b, off, cap, hab, _, hcell⟩ := Sl.view hv (by omega)
  refine ⟨b, off, cap, hab, fun j c hj => ?_⟩
  have hj4 : j < 5 := by
    rcases Nat.lt_or_ge j 5 with h | h
    · exact h
    · rw [List.getElem?_eq_none (by rw [RecI.cl]; exact h)] at hj; cases hj
  have := hcell (i * 5 + j) c (by rw [vec_get (c := RecI.cells) RecI.cl l i hi j hj4]; exact hj)
  rw [← Nat.add_assoc] at this
  exact this
theorem law_short (O : World) (F : Fz) (v : Value) (l : List RecI) (H : List Ent) (hv : Sl F [] 5 v l.length (l.flatMap RecI.cells)) (hd : ∀ r ∈ l, SlB F [] r.dv r.d) (hn : l.length ≤ 9223372036854775807) :
    Does Try.prog O 10 #[v] F H (fun r F' H' => F' = F ∧ H' = H ∧ (r = .bool false ∨ r = .bool true ∧ l.length ≤ 60 ∧ ∀ r ∈ l, r.d.length ≤ 200)) := by
  obtain ⟨a0, cap, rfl, hcap⟩ := Sl.shape hv
  refine does_of_run (args := [_]) Try.func10 rfl rfl ?_
  refine r_seq ?_
  refine r_region rfl ?_
  refine o_val rfl rfl rfl rfl (v_assign rfl) ?_
  refine o_end ?_
  refine r_seq ?_
  refine r_seq ?_
  refine r_region rfl ?_
  refine o_val rfl rfl rfl rfl (v_assign rfl) ?_
  refine o_end ?_
  refine r_block ?_
  refine r_loop (fun i : Nat => i ≤ l.length ∧ ∀ (j : Nat) (h : j < l.length), j < i → l[j].d.length ≤ 200) (fun i => [(0, .slice a0 l.length cap), (3, .int .i64 i)]) (fun _ => F) (fun _ => H) (fun i => l.length - i) 0 ⟨Nat.zero_le _, fun j _ h => by cases h⟩ ⟨rfl, rfl, trivial⟩ rfl rfl ?_
  intro i ⟨hi, hold⟩ IH
  refine r_seq ?_
  refine r_seq ?_
  refine r_region rfl ?_
  refine o_val rfl rfl rfl rfl (v_move rfl) ?_
  refine o_val rfl rfl rfl rfl (v_move rfl) ?_
  refine o_val rfl rfl rfl rfl (v_len rfl rfl) ?_
  refine o_val rfl rfl rfl rfl (v_lss rfl rfl) ?_
  refine o_end ?_
  refine r_if rfl (fun h => ?_) (fun h => ?_)
  · have hil : i < l.length := by omega
    obtain ⟨b0, off0, c0, hab, hc0⟩ := rec_cells hv hil
    simp only [Value.slice.injEq] at hab
    obtain ⟨rfl, _, rfl⟩ := hab
    have hri := hd l[i] (List.getElem_mem _)
    have hold' : l[i].d.length ≤ 200 → ∀ (j : Nat) (h : j < l.length), j < i + 1 → l[j].d.length ≤ 200 := fun h j hj hji => by
      by_cases hje : j = i
      · subst hje; exact h
      · exact hold j hj (by omega)
    generalize l[i] = r at *
    obtain ⟨a1, c1, hdv, _⟩ := Sl.shape hri
    refine r_skip ?_
    refine r_seq ?_
    refine r_block ?_
    refine r_seq ?_
    refine r_region rfl ?_
    refine o_val rfl rfl rfl rfl (v_move rfl) ?_
    refine o_val rfl rfl rfl rfl (v_move rfl) ?_
    refine o_val rfl rfl rfl rfl (v_indexN (sz := 5) rfl rfl rfl rfl hil) ?_
    refine o_val rfl rfl rfl rfl (v_field (k := 4) rfl rfl rfl) ?_
    refine o_val rfl rfl rfl rfl (v_load (v := .slice a1 r.d.length c1) rfl rfl ((hc0 4 _ (by show some r.dv = _; rw [hdv])).mono (Fz.le_refl _) (by simp))) ?_
    refine o_val rfl rfl rfl rfl (v_len rfl rfl) ?_
    refine o_val rfl rfl rfl rfl (v_gtr rfl rfl) ?_
    refine o_end ?_
    refine r_if rfl (fun h2 => ?_) (fun h2 => ?_)
    · refine r_seq ?_
      refine r_region rfl ?_
      refine o_val rfl rfl rfl rfl (v_assign rfl) ?_
      refine o_end ?_
      exact r_ret1 Try.func10 rfl rfl ⟨⟨rfl, rfl, .inl rfl⟩, Fz.le_refl _⟩
    · refine r_skip ?_
      refine r_inBlock ?_
      refine r_region rfl ?_
      refine o_val rfl rfl rfl rfl (v_move rfl) ?_
      refine o_val rfl rfl rfl rfl (v_add rfl rfl (wrap_i64 (by omega) (by omega))) ?_
      refine o_val rfl rfl rfl rfl (v_assign rfl) ?_
      refine o_end ?_
      refine j_keep ?_ (IH (i + 1) ⟨hil, hold' (by omega)⟩ (by omega))
      exact ⟨rfl, rfl, trivial⟩
  · obtain rfl : i = l.length := by omega
    refine r_exit rfl ?_
    refine r_seq ?_
    refine r_region rfl ?_
    refine o_val rfl rfl rfl rfl (v_move rfl) ?_
    refine o_val rfl rfl rfl rfl (v_len rfl rfl) ?_
    refine o_val rfl rfl rfl rfl (v_leq rfl rfl) ?_
    refine o_val rfl rfl rfl rfl (v_assign rfl) ?_
    refine o_end ?_
    by_cases h6 : l.length ≤ 60
    · refine j_slot 2 rfl (v' := .bool true) (by rw [decide_eq_true (by omega)]) ?_
      refine r_ret1 Try.func10 rfl rfl ⟨⟨rfl, rfl, .inr ⟨rfl, h6, fun r hr => ?_⟩⟩, Fz.le_refl _⟩
      obtain ⟨j, hj, rfl⟩ := List.getElem_of_mem hr
      exact hold j hj hj
    · refine j_slot 2 rfl (v' := .bool false) (by rw [decide_eq_false (by omega)]) ?_
      exact r_ret1 Try.func10 rfl rfl ⟨⟨rfl, rfl, .inl rfl⟩, Fz.le_refl _⟩
end Go.SX
