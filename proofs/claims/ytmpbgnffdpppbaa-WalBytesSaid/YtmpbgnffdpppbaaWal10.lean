/-
  Contract of the reference: an image as records.
-/
import Derived.Test.YtmpbgnffdpppbaaWal9
namespace Go.SX
open Go Go.Proofs
set_option maxRecDepth 4000
set_option linter.unusedSimpArgs false
set_option linter.unusedVariables false

set_option maxHeartbeats 1600000 in
theorem ref_Whole (O : World) (F : Fz) (p : Im) (Fr : List Ent) (hp : p.ok F) (hn : p.l.length ≤ 1000) :
    Does Try.prog O 19 #[.agg p.cells.toArray] F Fr (fun r F' H' => F' = F ∧ ∃ bf : Bf, bf.ok p.pure.whole.length ∧ r = bf.val p.pure.whole.length ∧ H' = bf.ents 1 (bytesV p.pure.whole) ++ Fr) := by
  obtain ⟨q1, q2, q3, q4, q5, q6, hd, hdl, hv, hl⟩ := hp
  obtain ⟨term, vote, ix, tm, vt, dv, data, lv, l⟩ := p
  dsimp only at *
  have hw : (⟨term, vote, ix, tm, vt, dv, data, lv, l⟩ : Im).pure.whole = (snB ix tm vt data ++ recB 1 (hardP term (vote + 1).toNat)) ++ entsB (l.map En.pure) := (List.append_assoc _ _ _).symm
  rw [hw]
  obtain ⟨a0, cap, rfl, hcap⟩ := Sl.shape hv
  have hsn : (snB ix tm vt data).length ≤ 1048700 := by unfold snB; split <;> simp; omega
  have hle : ∀ i, (entsB ((l.take i).map En.pure)).length ≤ 1048700000 := fun i => by
    have := entsB_le (l.take i) fun e he => hl e (List.mem_of_mem_take he)
    have h3 : (l.take i).length ≤ 1000 := by simp; omega
    have := Nat.mul_le_mul_right 1048700 h3
    omega
  obtain ⟨cs, hcs⟩ : ∃ cs : List Value, cs = [Value.int .u64 term, .int .i64 vote, .int .u64 ix, .int .u64 tm, .int .u64 vt, dv, .slice a0 l.length cap] := ⟨_, rfl⟩
  refine does_of_run (args := [_]) Try.func19 rfl rfl ?_
  refine r_seq ?_
  refine r_region rfl ?_
  refine o_act rfl rfl rfl rfl (a_box rfl) ?_
  rintro v' H' ⟨s0, rfl, rfl⟩
  refine j_heap (H' := .mem s0 cs 7 :: Fr) (by rw [hcs]; rfl) ?_
  have c2 : cs[2]? = some (.int .u64 ix) := by rw [hcs]; rfl
  have c4 : cs[4]? = some (.int .u64 vt) := by rw [hcs]; rfl
  have c6 : cs[6]? = some (.slice a0 l.length cap) := by rw [hcs]; rfl
  refine o_val rfl rfl rfl rfl (v_assign rfl) ?_
  refine o_end ?_
  refine r_seq ?_
  refine r_region rfl ?_
  refine o_val rfl rfl rfl rfl (v_assign rfl) ?_
  refine o_end ?_
  refine r_seq ?_
  refine r_join (fun bf : Bf => bf.ok (snB ix tm vt data).length) (fun bf => [(1, ptrV s0), (3, bf.val (snB ix tm vt data).length)]) (fun _ => F) (fun bf => .mem s0 cs 7 :: (bf.ents 1 (bytesV (snB ix tm vt data)) ++ Fr)) ?_ ?_
  · intro J
    refine r_seq ?_
    refine r_region rfl ?_
    refine o_val rfl rfl rfl rfl (v_field (k := 2) rfl rfl rfl) ?_
    refine o_val rfl rfl rfl rfl (v_field (k := 0) rfl rfl rfl) ?_
    refine o_val rfl rfl rfl rfl (v_load (v := .int .u64 ix) rfl rfl (cell_at (j := 0) rfl c2)) ?_
    refine o_val rfl rfl rfl rfl (v_gtr rfl rfl) ?_
    have some_ : (0 < ix ∨ vt ≠ 0) → snB ix tm vt data = recB 3 (snapP ix tm vt data) := fun h => by simp only [snB, if_pos h]
    have none_ : ¬ (0 < ix ∨ vt ≠ 0) → snB ix tm vt data = [] := fun h => by simp only [snB, if_neg h]
    refine j_prop 8 rfl (fun g1 => ?_) (fun g1 => ?_)
    · have hh : 0 < ix ∨ vt ≠ 0 := .inl (by omega)
      refine o_val rfl rfl rfl rfl (v_move rfl) ?_
      refine o_skip rfl rfl rfl rfl ?_
      refine o_skip rfl rfl rfl rfl ?_
      refine o_skip rfl rfl rfl rfl ?_
      refine o_skip rfl rfl rfl rfl ?_
      refine o_val rfl rfl rfl rfl (v_pick1 rfl rfl) ?_
      refine o_end ?_
      refine r_true rfl ?_
      refine r_region rfl ?_
      refine o_val rfl rfl rfl rfl (v_move rfl) ?_
      refine o_val rfl rfl rfl rfl (v_field (k := 2) rfl rfl rfl) ?_
      refine o_val rfl rfl rfl rfl (v_loadAgg (sz := 4) (cs := [.int .u64 ix, .int .u64 tm, .int .u64 vt, dv]) rfl rfl rfl rfl (cells_of (j := 0) _ _ rfl (by rw [hcs]; rfl))) ?_
      refine o_call rfl rfl rfl rfl (c_call callable31 rfl) (ref_Snap _ _ ix tm vt dv data _ hd (by omega)) ?_
      rintro v' F H' ⟨rfl, b1, ok1, rfl, rfl⟩ _
      rw [← some_ hh] at ok1 ⊢
      refine j_sel (H' := Ent.mem s0 cs 7 :: (b1.ents 1 (bytesV (snB ix tm vt data)) ++ (Fr))) [b1.ents 1 (bytesV (snB ix tm vt data)), [Ent.mem s0 cs 7], Fr] [1, 0, 2] rfl rfl rfl ?_
      have r2 : SlB F (b1.ents 1 (bytesV (snB ix tm vt data)) ++ Fr) (b1.val (snB ix tm vt data).length) (snB ix tm vt data) := bf_reads ok1 (by intro q hq; exact List.mem_append_left _ hq)
      refine o_act rfl rfl rfl rfl (a_appendP (bf := .nil) (n := 0) (xs := []) (sz := 1) (bytes := 1) (m := (snB ix tm vt data).length) (H1 := b1.ents 1 (bytesV (snB ix tm vt data)) ++ Fr) [_] ⟨⟨_, _, _, rfl, rfl, rfl, rfl, rfl, rfl⟩, by decide⟩ rfl rfl rfl rfl rfl (r2.mono (Fz.le_refl _) (by intro q hq; exact List.mem_cons_of_mem _ hq)) (bytes_one _) (by unfold maxLen; omega) (by omega)) ?_
      rintro v' H' ⟨b3, rfl, ok3, rfl⟩
      rw [List.nil_append]
      rw [Nat.zero_add] at ok3 ⊢
      refine j_sel (H' := Ent.mem s0 cs 7 :: (b3.ents 1 (bytesV (snB ix tm vt data)) ++ (Fr))) [[Ent.mem s0 cs 7], b3.ents 1 (bytesV (snB ix tm vt data)), b1.ents 1 (bytesV (snB ix tm vt data)), Fr] [0, 1, 3] rfl rfl rfl ?_
      refine o_val rfl rfl rfl rfl (v_assign rfl) ?_
      refine o_end ?_
      refine j_keep ?_ (J b3 ok3)
      exact ⟨rfl, rfl, trivial⟩
    · refine o_val rfl rfl rfl rfl (v_move rfl) ?_
      refine o_val rfl rfl rfl rfl (v_field (k := 2) rfl rfl rfl) ?_
      refine o_val rfl rfl rfl rfl (v_field (k := 2) rfl rfl rfl) ?_
      refine o_val rfl rfl rfl rfl (v_load (v := .int .u64 vt) rfl rfl (cell_at (j := 0) rfl c4)) ?_
      refine o_val rfl rfl rfl rfl (v_neq rfl rfl) ?_
      refine o_val rfl rfl rfl rfl (v_pick0 rfl rfl) ?_
      refine o_end ?_
      refine j_prop 14 rfl (fun g2 => ?_) (fun g2 => ?_)
      · have hh : 0 < ix ∨ vt ≠ 0 := .inr (by omega)
        refine r_true rfl ?_
        refine r_region rfl ?_
        refine o_val rfl rfl rfl rfl (v_move rfl) ?_
        refine o_val rfl rfl rfl rfl (v_field (k := 2) rfl rfl rfl) ?_
        refine o_val rfl rfl rfl rfl (v_loadAgg (sz := 4) (cs := [.int .u64 ix, .int .u64 tm, .int .u64 vt, dv]) rfl rfl rfl rfl (cells_of (j := 0) _ _ rfl (by rw [hcs]; rfl))) ?_
        refine o_call rfl rfl rfl rfl (c_call callable31 rfl) (ref_Snap _ _ ix tm vt dv data _ hd (by omega)) ?_
        rintro v' F H' ⟨rfl, b1, ok1, rfl, rfl⟩ _
        rw [← some_ hh] at ok1 ⊢
        refine j_sel (H' := Ent.mem s0 cs 7 :: (b1.ents 1 (bytesV (snB ix tm vt data)) ++ (Fr))) [b1.ents 1 (bytesV (snB ix tm vt data)), [Ent.mem s0 cs 7], Fr] [1, 0, 2] rfl rfl rfl ?_
        have r2 : SlB F (b1.ents 1 (bytesV (snB ix tm vt data)) ++ Fr) (b1.val (snB ix tm vt data).length) (snB ix tm vt data) := bf_reads ok1 (by intro q hq; exact List.mem_append_left _ hq)
        refine o_act rfl rfl rfl rfl (a_appendP (bf := .nil) (n := 0) (xs := []) (sz := 1) (bytes := 1) (m := (snB ix tm vt data).length) (H1 := b1.ents 1 (bytesV (snB ix tm vt data)) ++ Fr) [_] ⟨⟨_, _, _, rfl, rfl, rfl, rfl, rfl, rfl⟩, by decide⟩ rfl rfl rfl rfl rfl (r2.mono (Fz.le_refl _) (by intro q hq; exact List.mem_cons_of_mem _ hq)) (bytes_one _) (by unfold maxLen; omega) (by omega)) ?_
        rintro v' H' ⟨b3, rfl, ok3, rfl⟩
        rw [List.nil_append]
        rw [Nat.zero_add] at ok3 ⊢
        refine j_sel (H' := Ent.mem s0 cs 7 :: (b3.ents 1 (bytesV (snB ix tm vt data)) ++ (Fr))) [[Ent.mem s0 cs 7], b3.ents 1 (bytesV (snB ix tm vt data)), b1.ents 1 (bytesV (snB ix tm vt data)), Fr] [0, 1, 3] rfl rfl rfl ?_
        refine o_val rfl rfl rfl rfl (v_assign rfl) ?_
        refine o_end ?_
        refine j_keep ?_ (J b3 ok3)
        exact ⟨rfl, rfl, trivial⟩
      · have hh := none_ (by omega)
        refine r_false rfl ?_
        refine r_skip ?_
        refine j_keep ?_ (J .nil (by rw [hh]; rfl))
        exact ⟨rfl, by rw [hh]; rfl, trivial⟩
  · rintro bf hbf
    refine r_seq ?_
    refine r_region rfl ?_
    refine o_val rfl rfl rfl rfl (v_move rfl) ?_
    refine o_val rfl rfl rfl rfl (v_field (k := 0) rfl rfl rfl) ?_
    refine o_val rfl rfl rfl rfl (v_loadAgg (sz := 2) (cs := [.int .u64 term, .int .i64 vote]) rfl rfl rfl rfl (cells_of (j := 0) _ _ rfl (by rw [hcs]; rfl))) ?_
    refine o_call rfl rfl rfl rfl (c_call callable15 rfl) (ref_Hard _ _ term vote _ q2 q3) ?_
    rintro v' F H' ⟨rfl, b2, ok2, rfl, rfl⟩ _
    refine j_sel (H' := Ent.mem s0 cs 7 :: (bf.ents 1 (bytesV (snB ix tm vt data)) ++ (b2.ents 1 (bytesV (recB 1 (hardP term (vote + 1).toNat))) ++ (Fr)))) [b2.ents 1 (bytesV (recB 1 (hardP term (vote + 1).toNat))), [Ent.mem s0 cs 7], bf.ents 1 (bytesV (snB ix tm vt data)), Fr] [1, 2, 0, 3] rfl rfl rfl ?_
    have hrl : (recB 1 (hardP term (vote + 1).toNat)).length = 19 := by simp
    have r2 : SlB F (b2.ents 1 (bytesV (recB 1 (hardP term (vote + 1).toNat))) ++ Fr) (b2.val (recB 1 (hardP term (vote + 1).toNat)).length) (recB 1 (hardP term (vote + 1).toNat)) := bf_reads ok2 (by intro q hq; exact List.mem_append_left _ hq)
    refine o_act rfl rfl rfl rfl (a_appendP (bf := bf) (sz := 1) (bytes := 1) (m := (recB 1 (hardP term (vote + 1).toNat)).length) [_] ⟨⟨_, _, _, rfl, rfl, rfl, rfl, rfl, rfl⟩, by decide⟩ rfl hbf (by simp) rfl rfl (r2.mono (Fz.le_refl _) (by intro q hq; exact List.mem_cons_of_mem _ (List.mem_append_right _ hq))) (bytes_one _) (by unfold maxLen; omega) (by omega)) ?_
    rintro v' H' ⟨b3, rfl, ok3, rfl⟩
    rw [← List.length_append] at ok3 ⊢
    rw [← bytesV_append]
    have hP0 : (snB ix tm vt data ++ recB 1 (hardP term (vote + 1).toNat)).length ≤ 1048800 := by rw [List.length_append]; omega
    generalize snB ix tm vt data ++ recB 1 (hardP term (vote + 1).toNat) = P0 at *
    refine j_sel (H' := Ent.mem s0 cs 7 :: (b3.ents 1 (bytesV P0) ++ (Fr))) [[Ent.mem s0 cs 7], b3.ents 1 (bytesV P0), b2.ents 1 (bytesV (recB 1 (hardP term (vote + 1).toNat))), Fr] [0, 1, 3] rfl rfl rfl ?_
    refine o_val rfl rfl rfl rfl (v_assign rfl) ?_
    refine o_end ?_
    refine r_seq ?_
    refine r_seq ?_
    refine r_region rfl ?_
    refine o_val rfl rfl rfl rfl (v_assign rfl) ?_
    refine o_end ?_
    refine r_block ?_
    have hz : P0 ++ entsB ((l.take 0).map En.pure) = P0 := by simp
    refine r_loop (fun g : Nat × Bf => g.1 ≤ l.length ∧ g.2.ok (P0 ++ entsB ((l.take g.1).map En.pure)).length) (fun g => [(1, ptrV s0), (3, g.2.val (P0 ++ entsB ((l.take g.1).map En.pure)).length), (4, .int .i64 g.1)]) (fun _ => F) (fun g => .mem s0 cs 7 :: (g.2.ents 1 (bytesV (P0 ++ entsB ((l.take g.1).map En.pure))) ++ Fr)) (fun g => l.length - g.1) (0, b3) ⟨Nat.zero_le _, by dsimp only; rw [hz]; exact ok3⟩ ⟨rfl, by dsimp only; rw [hz]; rfl, rfl, trivial⟩ rfl (by dsimp only; rw [hz]) ?_
    rintro ⟨i, bg⟩ ⟨hi, hok⟩ IH
    dsimp only at hi hok ⊢
    have hll : (P0 ++ entsB ((l.take i).map En.pure)).length ≤ 1049748800 := by
      have := hle i
      simp only [List.length_append]
      omega
    refine r_seq ?_
    refine r_seq ?_
    refine r_region rfl ?_
    refine o_val rfl rfl rfl rfl (v_move rfl) ?_
    refine o_val rfl rfl rfl rfl (v_field (k := 6) rfl rfl rfl) ?_
    refine o_val rfl rfl rfl rfl (v_load (v := .slice a0 l.length cap) rfl rfl (cell_at (j := 0) rfl c6)) ?_
    refine o_val rfl rfl rfl rfl (v_len rfl rfl) ?_
    refine o_val rfl rfl rfl rfl (v_lss rfl rfl) ?_
    refine o_end ?_
    refine r_if rfl (fun g => ?_) (fun g => ?_)
    · have hil : i < l.length := by omega
      obtain ⟨b0, off0, c0, hab, hc⟩ := sl_cells hv hil
      simp only [Value.slice.injEq] at hab
      obtain ⟨rfl, _, rfl⟩ := hab
      have he := hl l[i] (List.getElem_mem _)
      have htk : P0 ++ entsB ((l.take (i + 1)).map En.pure) = (P0 ++ entsB ((l.take i).map En.pure)) ++ (PE.bs l[i].pure) := by
        rw [List.take_succ_eq_append_getElem hil]
        simp only [List.map_append, List.map_cons, List.map_nil, entsB, List.flatMap_append, List.flatMap_cons, List.flatMap_nil, List.append_nil, List.append_assoc]
      have hpl : (PE.bs l[i].pure).length = l[i].data.length + 30 := by simp [PE.bs, En.pure]; omega
      have hdl := he.len
      generalize P0 ++ entsB ((l.take i).map En.pure) = pre at *
      generalize l[i] = e at *
      refine r_skip ?_
      refine r_seq ?_
      refine r_block ?_
      refine r_region rfl ?_
      refine o_val rfl rfl rfl rfl (v_move rfl) ?_
      refine o_val rfl rfl rfl rfl (v_field (k := 6) rfl rfl rfl) ?_
      refine o_val rfl rfl rfl rfl (v_load (v := .slice (some ⟨b0, off0, none⟩) l.length cap) rfl rfl (cell_at (j := 0) rfl c6)) ?_
      refine o_val rfl rfl rfl rfl (v_move rfl) ?_
      refine o_val rfl rfl rfl rfl (v_indexN (sz := 4) rfl rfl rfl rfl hil) ?_
      refine o_val rfl rfl rfl rfl (v_loadAgg (sz := 4) (cs := e.cells) rfl rfl rfl rfl (fun j c hj => (hc j c hj).mono (Fz.le_refl _) (by simp))) ?_
      refine o_call rfl rfl rfl rfl (c_call callable16 rfl) (ref_Entry _ _ e _ he) ?_
      rintro v' F H' ⟨rfl, b2', ok2', rfl, rfl⟩ _
      refine j_sel (H' := Ent.mem s0 cs 7 :: (bg.ents 1 (bytesV pre) ++ (b2'.ents 1 (bytesV (PE.bs e.pure)) ++ (Fr)))) [b2'.ents 1 (bytesV (PE.bs e.pure)), [Ent.mem s0 cs 7], bg.ents 1 (bytesV pre), Fr] [1, 2, 0, 3] rfl rfl rfl ?_
      have r2 : SlB F (b2'.ents 1 (bytesV (PE.bs e.pure)) ++ Fr) (b2'.val (PE.bs e.pure).length) (PE.bs e.pure) := bf_reads ok2' (by intro q hq; exact List.mem_append_left _ hq)
      refine o_act rfl rfl rfl rfl (a_appendP (bf := bg) (sz := 1) (bytes := 1) (m := (PE.bs e.pure).length) [_] ⟨⟨_, _, _, rfl, rfl, rfl, rfl, rfl, rfl⟩, by decide⟩ rfl hok (by simp) rfl rfl (r2.mono (Fz.le_refl _) (by intro q hq; exact List.mem_cons_of_mem _ (List.mem_append_right _ hq))) (bytes_one _) (by unfold maxLen; omega) (by omega)) ?_
      rintro v' H' ⟨b3', rfl, ok3', rfl⟩
      rw [← List.length_append, ← htk] at ok3' ⊢
      rw [← bytesV_append, ← htk]
      refine j_sel (H' := Ent.mem s0 cs 7 :: (b3'.ents 1 (bytesV (P0 ++ entsB ((l.take (i + 1)).map En.pure))) ++ (Fr))) [[Ent.mem s0 cs 7], b3'.ents 1 (bytesV (P0 ++ entsB ((l.take (i + 1)).map En.pure))), b2'.ents 1 (bytesV (PE.bs e.pure)), Fr] [0, 1, 3] rfl rfl rfl ?_
      refine o_val rfl rfl rfl rfl (v_assign rfl) ?_
      refine o_end ?_
      refine r_inBlock ?_
      refine r_region rfl ?_
      refine o_val rfl rfl rfl rfl (v_move rfl) ?_
      refine o_val rfl rfl rfl rfl (v_add rfl rfl (wrap_i64 (by omega) (by omega))) ?_
      refine o_val rfl rfl rfl rfl (v_assign rfl) ?_
      refine o_end ?_
      refine j_keep ?_ (IH (i + 1, b3') ⟨by dsimp only; omega, ok3'⟩ (by dsimp only; omega))
      exact ⟨rfl, rfl, rfl, trivial⟩
    · obtain rfl : i = l.length := by omega
      rw [List.take_length] at hok ⊢
      refine j_drop (List.sublist_cons_self _ _) ?_
      refine r_exit rfl ?_
      refine r_seq ?_
      refine r_region rfl ?_
      refine o_val rfl rfl rfl rfl (v_move rfl) ?_
      refine o_val rfl rfl rfl rfl (v_assign rfl) ?_
      refine o_end ?_
      exact r_ret1 Try.func19 rfl rfl ⟨⟨rfl, bg, hok, rfl, rfl⟩, Fz.le_refl _⟩
end Go.SX
