/-
  Contracts of package logs: what a log tells; the reference's likeness of entries.
-/
import Derived.Test.YthhcfpignfiabaaLogs5
namespace Go.SX
open Go Go.Proofs
set_option linter.unusedSimpArgs false
set_option linter.unusedVariables false

theorem lg_Base (O : World) (F : Fz) (a ix tm vt : Nat) (bf : Bf) (n : Nat) (Fr : List Ent) :
    Does Try.prog O 29 #[ptrV a] F (LgE a ix tm vt bf n :: Fr) (fun r F' H' => r = .int .u64 ix ∧ F' = F ∧ H' = LgE a ix tm vt bf n :: Fr) := by
  refine does_of_run (args := [_]) Try.func29 rfl rfl ?_
  refine r_seq ?_
  refine r_region rfl ?_
  refine o_val rfl rfl rfl rfl (v_assign rfl) ?_
  refine o_end ?_
  refine r_seq ?_
  refine r_seq ?_
  refine r_region rfl ?_
  refine o_val rfl rfl rfl rfl (v_move rfl) ?_
  refine o_val rfl rfl rfl rfl (v_peqnil rfl rfl rfl) ?_
  refine o_end ?_
  refine r_false rfl ?_
  refine r_skip ?_
  refine r_seq ?_
  refine r_region rfl ?_
  refine o_val rfl rfl rfl rfl (v_move rfl) ?_
  refine o_val rfl rfl rfl rfl (v_nilCheck rfl) ?_
  refine o_val rfl rfl rfl rfl (v_field (k := 0) rfl rfl rfl) ?_
  refine o_val rfl rfl rfl rfl (v_load rfl rfl (cell_at (j := 0) rfl rfl)) ?_
  refine o_val rfl rfl rfl rfl (v_assign rfl) ?_
  refine o_end ?_
  exact r_ret1 Try.func29 rfl rfl ⟨⟨rfl, rfl, rfl⟩, Fz.le_refl _⟩

/-- The cells of an entry of an index, and whether it is there. -/
def lgEntry (ix : Nat) (l : List En) (i : Nat) : List Value × Bool :=
  if i ≤ ix ∨ ix + l.length < i then ([.int .u64 0, .int .u64 0, .int .u8 0, .slice none 0 0], false) else (((l[i - ix - 1]?).map En.cells).getD [], true)
theorem lg_Entry (O : World) (F : Fz) (a ix tm vt : Nat) (bf : Bf) (l : List En) (i : Nat) (Fr : List Ent) (hb : ix + l.length < 18446744073709551616) (hok : bf.ok l.length) (hi : i < 18446744073709551616) (hl : ∀ e ∈ l, e.ok F) :
    Does Try.prog O 27 #[ptrV a, .int .u64 i] F (LgH a ix tm vt bf l Fr)
      (fun r F' H' => r = .tuple #[.agg (lgEntry ix l i).1.toArray, .bool (lgEntry ix l i).2] ∧ F' = F ∧ H' = LgH a ix tm vt bf l Fr) := by
  refine does_of_run (args := [_, _]) Try.func27 rfl rfl ?_
  refine r_seq ?_
  refine r_region rfl ?_
  refine o_act rfl rfl rfl rfl (a_alloc rfl) ?_
  rintro v' H' ⟨x, rfl, rfl⟩
  refine j_heap (H' := .mem x [.int .u64 0, .int .u64 0, .int .u8 0, .slice none 0 0] 4 :: LgE a ix tm vt bf l.length :: (bf.ents 4 (enV l) ++ Fr)) rfl ?_
  refine j_perm (perm_in _ _ _ _) ?_
  refine j_heap (H' := LgH a ix tm vt bf l (.mem x [.int .u64 0, .int .u64 0, .int .u8 0, .slice none 0 0] 4 :: Fr)) rfl ?_
  refine o_val rfl rfl rfl rfl (v_assign rfl) ?_
  refine o_end ?_
  refine r_seq ?_
  refine r_seq ?_
  refine r_region rfl ?_
  refine o_val rfl rfl rfl rfl (v_move rfl) ?_
  refine o_val rfl rfl rfl rfl (v_peqnil rfl rfl rfl) ?_
  refine o_val rfl rfl rfl rfl (v_move rfl) ?_
  refine o_val rfl rfl rfl rfl (v_move rfl) ?_
  refine o_val rfl rfl rfl rfl (v_move rfl) ?_
  refine o_val rfl rfl rfl rfl (v_nilCheck rfl) ?_
  refine o_val rfl rfl rfl rfl (v_field (k := 0) rfl rfl rfl) ?_
  refine o_val rfl rfl rfl rfl (v_load rfl rfl (cell_at (j := 0) rfl rfl)) ?_
  refine o_val rfl rfl rfl rfl (v_leq rfl rfl) ?_
  refine o_val rfl rfl rfl rfl (v_pick0 rfl rfl) ?_
  refine o_val rfl rfl rfl rfl (v_move rfl) ?_
  refine j_prop 16 rfl (fun h1 => ?_) (fun h1 => ?_)
  · have hr : lgEntry ix l i = ([.int .u64 0, .int .u64 0, .int .u8 0, .slice none 0 0], false) := by unfold lgEntry; rw [if_pos (.inl (by omega))]
    refine o_skip rfl rfl rfl rfl ?_
    refine o_skip rfl rfl rfl rfl ?_
    refine o_skip rfl rfl rfl rfl ?_
    refine o_skip rfl rfl rfl rfl ?_
    refine o_val rfl rfl rfl rfl (v_pick1 rfl rfl) ?_
    refine o_end ?_
    refine r_true rfl ?_
    refine j_perm (perm_in _ _ _ _).symm ?_
    refine r_seq ?_
    refine r_region rfl ?_
    refine o_val rfl rfl rfl rfl (v_build rfl rfl) ?_
    refine o_act0 rfl rfl rfl (a_store (sz := 4) 0 rfl rfl rfl rfl rfl rfl (Nat.le_of_ble_eq_true rfl)) ?_
    refine o_val rfl rfl rfl rfl (v_assign rfl) ?_
    refine o_end ?_
    rw [hr]
    exact r_retC1 (sz := 4) (cs := [.int .u64 0, .int .u64 0, .int .u8 0, .slice none 0 0]) Try.func27 rfl rfl rfl rfl rfl rfl (fun j c hc => cell_at (j := 0) rfl (by rw [Nat.zero_add]; exact hc)) (List.sublist_cons_self _ _) ⟨⟨rfl, rfl, rfl⟩, Fz.le_refl _⟩
  · refine o_val rfl rfl rfl rfl (v_move rfl) ?_
    refine o_val rfl rfl rfl rfl (v_move rfl) ?_
    refine o_call rfl rfl rfl rfl (c_call callable17 rfl) (lg_Last _ _ a ix tm vt bf l.length _ hb) ?_
    rintro v' F H' ⟨rfl, rfl, rfl⟩ _
    refine o_val rfl rfl rfl rfl (v_gtr rfl rfl) ?_
    refine o_val rfl rfl rfl rfl (v_pick0 rfl rfl) ?_
    refine o_end ?_
    refine r_if rfl (fun h2 => ?_) (fun h2 => ?_)
    · have hr : lgEntry ix l i = ([.int .u64 0, .int .u64 0, .int .u8 0, .slice none 0 0], false) := by unfold lgEntry; rw [if_pos (.inr (by omega))]
      refine j_perm (perm_in _ _ _ _).symm ?_
      refine r_seq ?_
      refine r_region rfl ?_
      refine o_val rfl rfl rfl rfl (v_build rfl rfl) ?_
      refine o_act0 rfl rfl rfl (a_store (sz := 4) 0 rfl rfl rfl rfl rfl rfl (Nat.le_of_ble_eq_true rfl)) ?_
      refine o_val rfl rfl rfl rfl (v_assign rfl) ?_
      refine o_end ?_
      rw [hr]
      exact r_retC1 (sz := 4) (cs := [.int .u64 0, .int .u64 0, .int .u8 0, .slice none 0 0]) Try.func27 rfl rfl rfl rfl rfl rfl (fun j c hc => cell_at (j := 0) rfl (by rw [Nat.zero_add]; exact hc)) (List.sublist_cons_self _ _) ⟨⟨rfl, rfl, rfl⟩, Fz.le_refl _⟩
    · have hil : i - ix - 1 < l.length := by omega
      have he := hl l[i - ix - 1] (List.getElem_mem _)
      have hg : ∀ j c, l[i - ix - 1].cells[j]? = some c → (enV l)[(i - ix - 1) * 4 + j]? = some c := fun j c hj => by
        have hj4 : j < 4 := by
          rcases Nat.lt_or_ge j 4 with h | h
          · exact h
          · rw [List.getElem?_eq_none (by simp [En.cells]; exact h)] at hj; cases hj
        rw [enV_get l _ hil j hj4]; exact hj
      have hr : lgEntry ix l i = (l[i - ix - 1].cells, true) := by
        unfold lgEntry
        rw [if_neg (by omega), List.getElem?_eq_getElem hil]
        rfl
      rw [hr]
      generalize l[i - ix - 1] = e at *
      cases bf with
      | nil =>
        have : l.length = 0 := hok
        omega
      | «at» b c =>
        refine j_perm (perm_in _ _ _ _).symm ?_
        refine r_skip ?_
        refine r_seq ?_
        refine d_region 13 rfl ([LgE a ix tm vt (.at b c) l.length, .mem b (enV l) (c * 4)]) ?_
        refine d_take (i := 0) rfl rfl rfl (by decide +kernel) (by decide +kernel) (by decide +kernel) (Fz.le_refl _) (by intro q hq; simp only [List.mem_cons, List.not_mem_nil, or_false] at hq; rcases hq with rfl | rfl <;> simp [Bf.ents]) rfl (v_move rfl) ?_
        refine d_take (i := 1) rfl rfl rfl (by decide +kernel) (by decide +kernel) (by decide +kernel) (Fz.le_refl _) (by intro q hq; simp only [List.mem_cons, List.not_mem_nil, or_false] at hq; rcases hq with rfl | rfl <;> simp [Bf.ents]) rfl (v_nilCheck rfl) ?_
        refine d_take (i := 2) rfl rfl rfl (by decide +kernel) (by decide +kernel) (by decide +kernel) (Fz.le_refl _) (by intro q hq; simp only [List.mem_cons, List.not_mem_nil, or_false] at hq; rcases hq with rfl | rfl <;> simp [Bf.ents]) rfl (v_field (k := 3) rfl rfl rfl) ?_
        refine d_take (i := 3) rfl rfl rfl (by decide +kernel) (by decide +kernel) (by decide +kernel) (Fz.le_refl _) (by intro q hq; simp only [List.mem_cons, List.not_mem_nil, or_false] at hq; rcases hq with rfl | rfl <;> simp [Bf.ents]) rfl (v_load rfl rfl (cell_at (j := 0) rfl rfl)) ?_
        refine d_take (i := 4) rfl rfl rfl (by decide +kernel) (by decide +kernel) (by decide +kernel) (Fz.le_refl _) (by intro q hq; simp only [List.mem_cons, List.not_mem_nil, or_false] at hq; rcases hq with rfl | rfl <;> simp [Bf.ents]) rfl (v_move rfl) ?_
        refine d_take (i := 5) rfl rfl rfl (by decide +kernel) (by decide +kernel) (by decide +kernel) (Fz.le_refl _) (by intro q hq; simp only [List.mem_cons, List.not_mem_nil, or_false] at hq; rcases hq with rfl | rfl <;> simp [Bf.ents]) rfl (v_move rfl) ?_
        refine d_take (i := 6) rfl rfl rfl (by decide +kernel) (by decide +kernel) (by decide +kernel) (Fz.le_refl _) (by intro q hq; simp only [List.mem_cons, List.not_mem_nil, or_false] at hq; rcases hq with rfl | rfl <;> simp [Bf.ents]) rfl (v_nilCheck rfl) ?_
        refine d_take (i := 7) rfl rfl rfl (by decide +kernel) (by decide +kernel) (by decide +kernel) (Fz.le_refl _) (by intro q hq; simp only [List.mem_cons, List.not_mem_nil, or_false] at hq; rcases hq with rfl | rfl <;> simp [Bf.ents]) rfl (v_field (k := 0) rfl rfl rfl) ?_
        refine d_take (i := 8) rfl rfl rfl (by decide +kernel) (by decide +kernel) (by decide +kernel) (Fz.le_refl _) (by intro q hq; simp only [List.mem_cons, List.not_mem_nil, or_false] at hq; rcases hq with rfl | rfl <;> simp [Bf.ents]) rfl (v_load rfl rfl (cell_at (j := 0) rfl rfl)) ?_
        refine d_take (i := 9) rfl rfl rfl (by decide +kernel) (by decide +kernel) (by decide +kernel) (Fz.le_refl _) (by intro q hq; simp only [List.mem_cons, List.not_mem_nil, or_false] at hq; rcases hq with rfl | rfl <;> simp [Bf.ents]) rfl (v_sub rfl rfl (r := ((i - ix : Nat) : Int)) ((wrap_u64 (by omega) (by omega)).trans (by omega))) ?_
        refine d_take (i := 10) rfl rfl rfl (by decide +kernel) (by decide +kernel) (by decide +kernel) (Fz.le_refl _) (by intro q hq; simp only [List.mem_cons, List.not_mem_nil, or_false] at hq; rcases hq with rfl | rfl <;> simp [Bf.ents]) rfl (v_sub rfl rfl (r := ((i - ix - 1 : Nat) : Int)) ((wrap_u64 (by omega) (by omega)).trans (by omega))) ?_
        refine d_take (i := 11) rfl rfl rfl (by decide +kernel) (by decide +kernel) (by decide +kernel) (Fz.le_refl _) (by intro q hq; simp only [List.mem_cons, List.not_mem_nil, or_false] at hq; rcases hq with rfl | rfl <;> simp [Bf.ents]) rfl (v_indexN (sz := 4) rfl rfl rfl rfl hil) ?_
        refine d_take (i := 12) rfl rfl rfl (by decide +kernel) (by decide +kernel) (by decide +kernel) (Fz.le_refl _) (by intro q hq; simp only [List.mem_cons, List.not_mem_nil, or_false] at hq; rcases hq with rfl | rfl <;> simp [Bf.ents]) rfl (v_loadAgg (sz := 4) (cs := e.cells) rfl rfl rfl rfl (fun j c hc => cell_at (j := 1) rfl (by rw [Nat.zero_add]; exact hg j c hc))) ?_
        refine d_one (i := 13) (by decide +kernel) ?_
        refine d1_last 1000000 ([]) rfl rfl rfl (a_store (sz := 4) 0 rfl rfl rfl (by obtain ⟨ad, cd, hd, _⟩ := Sl.shape he.dv; simp [Value.cells, En.cells, hd, oneCellB]) rfl rfl (Nat.le_of_ble_eq_true rfl)) ?_
        refine j_heap (H' := .mem x e.cells 4 :: LgE a ix tm vt (.at b c) l.length :: ((Bf.at b c).ents 4 (enV l) ++ Fr)) rfl ?_
        refine d_take (i := 14) rfl rfl rfl (by decide +kernel) (by decide +kernel) (by decide +kernel) (Fz.le_refl _) (by simp) rfl (v_assign rfl) ?_
        refine d_end (by decide +kernel) ?_
        exact r_retC1 (sz := 4) (cs := e.cells) Try.func27 rfl rfl rfl rfl rfl rfl (fun j c hc => cell_at (j := 0) rfl (by rw [Nat.zero_add]; exact hc)) (List.sublist_cons_self _ _) ⟨⟨rfl, rfl, rfl⟩, Fz.le_refl _⟩

def lgVotersAt (vt : Nat) (l : List En) (i : Nat) : Nat := l.foldl (fun v e => if e.ix ≤ i ∧ e.kd = 1 then maskB e.data else v) vt
theorem lg_VotersAt (O : World) (F : Fz) (a ix tm vt : Nat) (bf : Bf) (l : List En) (i : Nat) (Fr : List Ent) (hn : l.length ≤ 1000000) (hok : bf.ok l.length) (hl : ∀ e ∈ l, e.ok F) (hdl : ∀ e ∈ l, e.data.length ≤ 1000000) :
    Does Try.prog O 31 #[ptrV a, .int .u64 i] F (LgH a ix tm vt bf l Fr) (fun r F' H' => r = .int .u64 (lgVotersAt vt l i) ∧ F' = F ∧ H' = LgH a ix tm vt bf l Fr) := by
  refine does_of_run (args := [_, _]) Try.func31 rfl rfl ?_
  refine r_seq ?_
  refine r_region rfl ?_
  refine o_val rfl rfl rfl rfl (v_assign rfl) ?_
  refine o_end ?_
  refine r_seq ?_
  refine r_seq ?_
  refine r_region rfl ?_
  refine o_val rfl rfl rfl rfl (v_move rfl) ?_
  refine o_val rfl rfl rfl rfl (v_peqnil rfl rfl rfl) ?_
  refine o_end ?_
  refine r_false rfl ?_
  refine r_skip ?_
  refine r_seq ?_
  refine r_region rfl ?_
  refine o_val rfl rfl rfl rfl (v_move rfl) ?_
  refine o_val rfl rfl rfl rfl (v_nilCheck rfl) ?_
  refine o_val rfl rfl rfl rfl (v_field (k := 2) rfl rfl rfl) ?_
  refine o_val rfl rfl rfl rfl (v_load rfl rfl (cell_at (j := 0) rfl rfl)) ?_
  refine o_val rfl rfl rfl rfl (v_assign rfl) ?_
  refine o_end ?_
  refine r_seq ?_
  refine r_seq ?_
  refine r_region rfl ?_
  refine o_val rfl rfl rfl rfl (v_move rfl) ?_
  refine o_val rfl rfl rfl rfl (v_nilCheck rfl) ?_
  refine o_val rfl rfl rfl rfl (v_field (k := 3) rfl rfl rfl) ?_
  refine o_val rfl rfl rfl rfl (v_load rfl rfl (cell_at (j := 0) rfl rfl)) ?_
  refine o_val rfl rfl rfl rfl (v_len rfl rfl) ?_
  refine o_val rfl rfl rfl rfl (v_move rfl) ?_
  refine o_end ?_
  refine r_block ?_
  refine r_loop (fun k : Nat => k ≤ l.length) (fun k => [(1, .int .u64 i), (5, .int .u64 (lgVotersAt vt (l.take k) i)), (17, bf.val l.length), (18, .int .i64 l.length), (19, .int .i64 k)]) (fun _ => F) (fun _ => LgH a ix tm vt bf l Fr) (fun k => l.length - k) 0 (Nat.zero_le _) ⟨rfl, rfl, rfl, rfl, rfl, trivial⟩ rfl rfl ?_
  intro k hk IH
  refine r_seq ?_
  refine r_region rfl ?_
  refine o_val rfl rfl rfl rfl (v_lss rfl rfl) ?_
  refine o_end ?_
  refine r_seq ?_
  refine r_if rfl (fun h => ?_) (fun h => ?_)
  · have hil : k < l.length := by omega
    have he := hl l[k] (List.getElem_mem _)
    have hd := hdl l[k] (List.getElem_mem _)
    have hg : ∀ j c, l[k].cells[j]? = some c → (enV l)[k * 4 + j]? = some c := fun j c hj => by
      have hj4 : j < 4 := by
        rcases Nat.lt_or_ge j 4 with h | h
        · exact h
        · rw [List.getElem?_eq_none (by simp [En.cells]; exact h)] at hj; cases hj
      rw [enV_get l _ hil j hj4]; exact hj
    have hs : lgVotersAt vt (l.take (k + 1)) i = if l[k].ix ≤ i ∧ l[k].kd = 1 then maskB l[k].data else lgVotersAt vt (l.take k) i := by
      unfold lgVotersAt
      rw [List.take_succ_eq_append_getElem hil, List.foldl_append]
      rfl
    have IH' := IH (k + 1) hil (by omega)
    rw [hs] at IH'
    generalize l[k] = e at *
    cases bf with
    | nil =>
      have : l.length = 0 := hok
      omega
    | «at» b c =>
      refine r_skip ?_
      refine r_seq ?_
      refine r_block ?_
      refine r_seq ?_
      refine r_region rfl ?_
      refine o_val rfl rfl rfl rfl (v_indexN (sz := 4) rfl rfl rfl rfl hil) ?_
      refine o_val rfl rfl rfl rfl (v_loadAgg (sz := 4) (cs := e.cells) rfl rfl rfl rfl (fun j c hc => cell_at (j := 1) rfl (by rw [Nat.zero_add]; exact hg j c hc))) ?_
      refine o_act rfl rfl rfl rfl (a_alloc rfl) ?_
      rintro v' H' ⟨x, rfl, rfl⟩
      refine o_act0 rfl rfl rfl (a_store (sz := 4) 0 rfl rfl rfl (by obtain ⟨ad, cd, hd, _⟩ := Sl.shape he.dv; simp [Value.cells, En.cells, hd, oneCellB]) rfl rfl (Nat.le_of_ble_eq_true rfl)) ?_
      refine j_heap (H' := .mem x e.cells 4 :: LgH a ix tm vt (.at b c) l Fr) rfl ?_
      refine o_end ?_
      refine r_seq ?_
      refine r_region rfl ?_
      refine o_val rfl rfl rfl rfl (v_field (k := 0) rfl rfl rfl) ?_
      refine o_val rfl rfl rfl rfl (v_load (v := .int .u64 e.ix) rfl rfl (cell_at (j := 0) rfl rfl)) ?_
      refine o_val rfl rfl rfl rfl (v_move rfl) ?_
      refine o_val rfl rfl rfl rfl (v_leq rfl rfl) ?_
      refine o_val rfl rfl rfl rfl (v_move rfl) ?_
      refine j_prop 27 rfl (fun h1 => ?_) (fun h1 => ?_)
      · refine o_val rfl rfl rfl rfl (v_field (k := 2) rfl rfl rfl) ?_
        refine o_val rfl rfl rfl rfl (v_load (v := .int .u8 e.kd) rfl rfl (cell_at (j := 0) rfl rfl)) ?_
        refine o_val rfl rfl rfl rfl (v_eql rfl rfl) ?_
        refine o_val rfl rfl rfl rfl (v_pick1 rfl rfl) ?_
        refine o_end ?_
        refine r_if rfl (fun h2 => ?_) (fun h2 => ?_)
        · rw [if_pos ⟨by omega, by omega⟩] at IH'
          refine r_region rfl ?_
          refine o_val rfl rfl rfl rfl (v_field (k := 3) rfl rfl rfl) ?_
          refine o_val rfl rfl rfl rfl (v_load (v := e.dv) rfl rfl (cell_at (j := 0) rfl rfl)) ?_
          refine o_call rfl rfl rfl rfl (c_call callable18 rfl) (lg_Mask _ _ e.dv e.data _ (he.dv.frz (Fz.le_refl _)) (by omega)) ?_
          rintro v' F H' ⟨rfl, rfl, rfl⟩ _
          refine j_drop (List.sublist_cons_self _ _) ?_
          refine o_val rfl rfl rfl rfl (v_assign rfl) ?_
          refine o_end ?_
          refine r_inBlock ?_
          refine r_region rfl ?_
          refine o_val rfl rfl rfl rfl (v_add rfl rfl (wrap_i64 (by omega) (by omega))) ?_
          refine o_val rfl rfl rfl rfl (v_move rfl) ?_
          refine o_end ?_
          refine j_keep ?_ IH'
          exact ⟨rfl, rfl, rfl, rfl, rfl, trivial⟩
        · rw [if_neg (by omega)] at IH'
          refine j_drop (List.sublist_cons_self _ _) ?_
          refine r_skip ?_
          refine r_inBlock ?_
          refine r_region rfl ?_
          refine o_val rfl rfl rfl rfl (v_add rfl rfl (wrap_i64 (by omega) (by omega))) ?_
          refine o_val rfl rfl rfl rfl (v_move rfl) ?_
          refine o_end ?_
          refine j_keep ?_ IH'
          exact ⟨rfl, rfl, rfl, rfl, rfl, trivial⟩
      · rw [if_neg (by omega)] at IH'
        refine o_skip rfl rfl rfl rfl ?_
        refine o_skip rfl rfl rfl rfl ?_
        refine o_skip rfl rfl rfl rfl ?_
        refine o_val rfl rfl rfl rfl (v_pick0 rfl rfl) ?_
        refine o_end ?_
        refine r_false rfl ?_
        refine j_drop (List.sublist_cons_self _ _) ?_
        refine r_skip ?_
        refine r_inBlock ?_
        refine r_region rfl ?_
        refine o_val rfl rfl rfl rfl (v_add rfl rfl (wrap_i64 (by omega) (by omega))) ?_
        refine o_val rfl rfl rfl rfl (v_move rfl) ?_
        refine o_end ?_
        refine j_keep ?_ IH'
        exact ⟨rfl, rfl, rfl, rfl, rfl, trivial⟩
  · obtain rfl : k = l.length := by omega
    rw [List.take_length]
    refine r_exit rfl ?_
    refine r_seq ?_
    refine r_region rfl ?_
    refine o_val rfl rfl rfl rfl (v_move rfl) ?_
    refine o_val rfl rfl rfl rfl (v_assign rfl) ?_
    refine o_end ?_
    exact r_ret1 Try.func31 rfl rfl ⟨⟨rfl, rfl, rfl⟩, Fz.le_refl _⟩

def lgVoters (ix vt : Nat) (l : List En) : Nat × Nat := l.foldl (fun p e => if e.kd = 1 then (maskB e.data, e.ix) else p) (vt, ix)
theorem lg_Voters (O : World) (F : Fz) (a ix tm vt : Nat) (bf : Bf) (l : List En) (Fr : List Ent) (hn : l.length ≤ 1000000) (hok : bf.ok l.length) (hl : ∀ e ∈ l, e.ok F) (hdl : ∀ e ∈ l, e.data.length ≤ 1000000) :
    Does Try.prog O 28 #[ptrV a] F (LgH a ix tm vt bf l Fr) (fun r F' H' => r = .tuple #[.int .u64 (lgVoters ix vt l).1, .int .u64 (lgVoters ix vt l).2] ∧ F' = F ∧ H' = LgH a ix tm vt bf l Fr) := by
  refine does_of_run (args := [_]) Try.func28 rfl rfl ?_
  refine r_seq ?_
  refine r_region rfl ?_
  refine o_val rfl rfl rfl rfl (v_assign rfl) ?_
  refine o_val rfl rfl rfl rfl (v_assign rfl) ?_
  refine o_end ?_
  refine r_seq ?_
  refine r_seq ?_
  refine r_region rfl ?_
  refine o_val rfl rfl rfl rfl (v_move rfl) ?_
  refine o_val rfl rfl rfl rfl (v_peqnil rfl rfl rfl) ?_
  refine o_end ?_
  refine r_false rfl ?_
  refine r_skip ?_
  refine r_seq ?_
  refine r_seq ?_
  refine r_region rfl ?_
  refine o_val rfl rfl rfl rfl (v_move rfl) ?_
  refine o_val rfl rfl rfl rfl (v_nilCheck rfl) ?_
  refine o_val rfl rfl rfl rfl (v_field (k := 3) rfl rfl rfl) ?_
  refine o_val rfl rfl rfl rfl (v_load rfl rfl (cell_at (j := 0) rfl rfl)) ?_
  refine o_val rfl rfl rfl rfl (v_len rfl rfl) ?_
  refine o_val rfl rfl rfl rfl (v_sub rfl rfl (wrap_i64 (by omega) (by omega))) ?_
  refine o_val rfl rfl rfl rfl (v_assign rfl) ?_
  refine o_end ?_
  refine r_block ?_
  refine r_loop (fun k : Nat => k ≤ l.length ∧ lgVoters ix vt l = lgVoters ix vt (l.take k)) (fun k => [(0, ptrV a), (4, .int .i64 ((k : Int) - 1))]) (fun _ => F) (fun _ => LgH a ix tm vt bf l Fr) (fun k => k) l.length ⟨Nat.le_refl _, by rw [List.take_length]⟩ ⟨rfl, rfl, trivial⟩ rfl rfl ?_
  rintro k ⟨hk, hkv⟩ IH
  refine r_seq ?_
  refine r_seq ?_
  refine r_region rfl ?_
  refine o_val rfl rfl rfl rfl (v_move rfl) ?_
  refine o_val rfl rfl rfl rfl (v_geq rfl rfl) ?_
  refine o_end ?_
  refine r_if rfl (fun h => ?_) (fun h => ?_)
  · obtain ⟨k, rfl⟩ : ∃ m, k = m + 1 := ⟨k - 1, by omega⟩
    have hil : k < l.length := by omega
    have e8 : ((k + 1 : Nat) : Int) - 1 = k := by omega
    rw [e8]
    have he := hl l[k] (List.getElem_mem _)
    have hd := hdl l[k] (List.getElem_mem _)
    have hg : ∀ j, j < 4 → (enV l)[k * 4 + j]? = l[k].cells[j]? := fun j hj4 => enV_get l _ hil j hj4
    have hs : lgVoters ix vt (l.take (k + 1)) = if l[k].kd = 1 then (maskB l[k].data, l[k].ix) else lgVoters ix vt (l.take k) := by
      unfold lgVoters
      rw [List.take_succ_eq_append_getElem hil, List.foldl_append]
      rfl
    rw [hs] at hkv
    generalize l[k] = e at *
    cases bf with
    | nil =>
      have : l.length = 0 := hok
      omega
    | «at» b c =>
      refine r_skip ?_
      refine r_seq ?_
      refine r_block ?_
      refine r_seq ?_
      refine r_region rfl ?_
      refine o_val rfl rfl rfl rfl (v_move rfl) ?_
      refine o_val rfl rfl rfl rfl (v_nilCheck rfl) ?_
      refine o_val rfl rfl rfl rfl (v_field (k := 3) rfl rfl rfl) ?_
      refine o_val rfl rfl rfl rfl (v_load rfl rfl (cell_at (j := 0) rfl rfl)) ?_
      refine o_val rfl rfl rfl rfl (v_move rfl) ?_
      refine o_val rfl rfl rfl rfl (v_indexN (sz := 4) rfl rfl rfl rfl hil) ?_
      refine o_val rfl rfl rfl rfl (v_field (k := 2) rfl rfl rfl) ?_
      refine o_val rfl rfl rfl rfl (v_load (v := .int .u8 e.kd) rfl rfl (cell_at (j := 1) rfl (by rw [Nat.zero_add]; exact hg 2 (by decide)))) ?_
      refine o_val rfl rfl rfl rfl (v_eql rfl rfl) ?_
      refine o_end ?_
      refine r_if rfl (fun h2 => ?_) (fun h2 => ?_)
      · rw [if_pos (by omega)] at hkv
        refine r_seq ?_
        refine d_region 1000000 rfl ([LgE a ix tm vt (.at b c) l.length, .mem b (enV l) (c * 4)]) ?_
        refine d_take (i := 0) rfl rfl rfl (by decide +kernel) (by decide +kernel) (by decide +kernel) (Fz.le_refl _) (by intro q hq; simp only [List.mem_cons, List.not_mem_nil, or_false] at hq; rcases hq with rfl | rfl <;> simp [LgH, Bf.ents]) rfl (v_move rfl) ?_
        refine d_take (i := 1) rfl rfl rfl (by decide +kernel) (by decide +kernel) (by decide +kernel) (Fz.le_refl _) (by intro q hq; simp only [List.mem_cons, List.not_mem_nil, or_false] at hq; rcases hq with rfl | rfl <;> simp [LgH, Bf.ents]) rfl (v_nilCheck rfl) ?_
        refine d_take (i := 2) rfl rfl rfl (by decide +kernel) (by decide +kernel) (by decide +kernel) (Fz.le_refl _) (by intro q hq; simp only [List.mem_cons, List.not_mem_nil, or_false] at hq; rcases hq with rfl | rfl <;> simp [LgH, Bf.ents]) rfl (v_field (k := 3) rfl rfl rfl) ?_
        refine d_take (i := 3) rfl rfl rfl (by decide +kernel) (by decide +kernel) (by decide +kernel) (Fz.le_refl _) (by intro q hq; simp only [List.mem_cons, List.not_mem_nil, or_false] at hq; rcases hq with rfl | rfl <;> simp [LgH, Bf.ents]) rfl (v_load rfl rfl (cell_at (j := 0) rfl rfl)) ?_
        refine d_take (i := 4) rfl rfl rfl (by decide +kernel) (by decide +kernel) (by decide +kernel) (Fz.le_refl _) (by intro q hq; simp only [List.mem_cons, List.not_mem_nil, or_false] at hq; rcases hq with rfl | rfl <;> simp [LgH, Bf.ents]) rfl (v_move rfl) ?_
        refine d_take (i := 5) rfl rfl rfl (by decide +kernel) (by decide +kernel) (by decide +kernel) (Fz.le_refl _) (by intro q hq; simp only [List.mem_cons, List.not_mem_nil, or_false] at hq; rcases hq with rfl | rfl <;> simp [LgH, Bf.ents]) rfl (v_indexN (sz := 4) rfl rfl rfl rfl hil) ?_
        refine d_take (i := 6) rfl rfl rfl (by decide +kernel) (by decide +kernel) (by decide +kernel) (Fz.le_refl _) (by intro q hq; simp only [List.mem_cons, List.not_mem_nil, or_false] at hq; rcases hq with rfl | rfl <;> simp [LgH, Bf.ents]) rfl (v_field (k := 3) rfl rfl rfl) ?_
        refine d_take (i := 7) rfl rfl rfl (by decide +kernel) (by decide +kernel) (by decide +kernel) (Fz.le_refl _) (by intro q hq; simp only [List.mem_cons, List.not_mem_nil, or_false] at hq; rcases hq with rfl | rfl <;> simp [LgH, Bf.ents]) rfl (v_load (v := e.dv) rfl rfl (cell_at (j := 1) rfl (by rw [Nat.zero_add]; exact hg 3 (by decide)))) ?_
        refine d_take (i := 9) rfl rfl rfl (by decide +kernel) (by decide +kernel) (by decide +kernel) (Fz.le_refl _) (by intro q hq; simp only [List.mem_cons, List.not_mem_nil, or_false] at hq; rcases hq with rfl | rfl <;> simp [LgH, Bf.ents]) rfl (v_move rfl) ?_
        refine d_take (i := 10) rfl rfl rfl (by decide +kernel) (by decide +kernel) (by decide +kernel) (Fz.le_refl _) (by intro q hq; simp only [List.mem_cons, List.not_mem_nil, or_false] at hq; rcases hq with rfl | rfl <;> simp [LgH, Bf.ents]) rfl (v_nilCheck rfl) ?_
        refine d_take (i := 11) rfl rfl rfl (by decide +kernel) (by decide +kernel) (by decide +kernel) (Fz.le_refl _) (by intro q hq; simp only [List.mem_cons, List.not_mem_nil, or_false] at hq; rcases hq with rfl | rfl <;> simp [LgH, Bf.ents]) rfl (v_field (k := 3) rfl rfl rfl) ?_
        refine d_take (i := 12) rfl rfl rfl (by decide +kernel) (by decide +kernel) (by decide +kernel) (Fz.le_refl _) (by intro q hq; simp only [List.mem_cons, List.not_mem_nil, or_false] at hq; rcases hq with rfl | rfl <;> simp [LgH, Bf.ents]) rfl (v_load rfl rfl (cell_at (j := 0) rfl rfl)) ?_
        refine d_take (i := 13) rfl rfl rfl (by decide +kernel) (by decide +kernel) (by decide +kernel) (Fz.le_refl _) (by intro q hq; simp only [List.mem_cons, List.not_mem_nil, or_false] at hq; rcases hq with rfl | rfl <;> simp [LgH, Bf.ents]) rfl (v_move rfl) ?_
        refine d_take (i := 14) rfl rfl rfl (by decide +kernel) (by decide +kernel) (by decide +kernel) (Fz.le_refl _) (by intro q hq; simp only [List.mem_cons, List.not_mem_nil, or_false] at hq; rcases hq with rfl | rfl <;> simp [LgH, Bf.ents]) rfl (v_indexN (sz := 4) rfl rfl rfl rfl hil) ?_
        refine d_take (i := 15) rfl rfl rfl (by decide +kernel) (by decide +kernel) (by decide +kernel) (Fz.le_refl _) (by intro q hq; simp only [List.mem_cons, List.not_mem_nil, or_false] at hq; rcases hq with rfl | rfl <;> simp [LgH, Bf.ents]) rfl (v_field (k := 0) rfl rfl rfl) ?_
        refine d_take (i := 16) rfl rfl rfl (by decide +kernel) (by decide +kernel) (by decide +kernel) (Fz.le_refl _) (by intro q hq; simp only [List.mem_cons, List.not_mem_nil, or_false] at hq; rcases hq with rfl | rfl <;> simp [LgH, Bf.ents]) rfl (v_load (v := .int .u64 e.ix) rfl rfl (cell_at (j := 1) rfl (by rw [Nat.zero_add]; exact hg 0 (by decide)))) ?_
        refine d_one (i := 8) (by decide +kernel) ?_
        refine d1_call rfl rfl rfl rfl (c_call callable18 rfl) (lg_Mask _ _ e.dv e.data _ (he.dv.frz (Fz.le_refl _)) (by omega)) ?_
        rintro v' F H' ⟨rfl, rfl, rfl⟩ _
        refine ⟨fun w hw => held_of hw (Fz.le_refl _) (by intro q hq; simp only [List.mem_cons, List.not_mem_nil, or_false] at hq; rcases hq with rfl | rfl <;> simp [LgH, Bf.ents]), ?_⟩
        refine d_take (i := 17) rfl rfl rfl (by decide +kernel) (by decide +kernel) (by decide +kernel) (Fz.le_refl _) (by intro q hq; simp only [List.mem_cons, List.not_mem_nil, or_false] at hq; rcases hq with rfl | rfl <;> simp [LgH, Bf.ents]) rfl (v_assign rfl) ?_
        refine d_take (i := 18) rfl rfl rfl (by decide +kernel) (by decide +kernel) (by decide +kernel) (Fz.le_refl _) (by intro q hq; simp only [List.mem_cons, List.not_mem_nil, or_false] at hq; rcases hq with rfl | rfl <;> simp [LgH, Bf.ents]) rfl (v_assign rfl) ?_
        refine d_end (by decide +kernel) ?_
        rw [hkv]
        exact r_ret2 Try.func28 rfl rfl rfl ⟨⟨rfl, rfl, rfl⟩, Fz.le_refl _⟩
      · rw [if_neg (by omega)] at hkv
        refine r_skip ?_
        refine r_inBlock ?_
        refine r_region rfl ?_
        refine o_val rfl rfl rfl rfl (v_move rfl) ?_
        refine o_val rfl rfl rfl rfl (v_sub rfl rfl (wrap_i64 (by omega) (by omega))) ?_
        refine o_val rfl rfl rfl rfl (v_assign rfl) ?_
        refine o_end ?_
        refine j_keep ?_ (IH k ⟨by omega, hkv⟩ (by omega))
        exact ⟨rfl, rfl, trivial⟩
  · obtain rfl : k = 0 := by omega
    refine r_exit rfl ?_
    refine r_seq ?_
    refine d_region 1000000 rfl ([LgE a ix tm vt bf l.length]) ?_
    refine d_take (i := 0) rfl rfl rfl (by decide +kernel) (by decide +kernel) (by decide +kernel) (Fz.le_refl _) (by simp) rfl (v_move rfl) ?_
    refine d_take (i := 1) rfl rfl rfl (by decide +kernel) (by decide +kernel) (by decide +kernel) (Fz.le_refl _) (by simp) rfl (v_nilCheck rfl) ?_
    refine d_take (i := 2) rfl rfl rfl (by decide +kernel) (by decide +kernel) (by decide +kernel) (Fz.le_refl _) (by simp) rfl (v_field (k := 2) rfl rfl rfl) ?_
    refine d_take (i := 3) rfl rfl rfl (by decide +kernel) (by decide +kernel) (by decide +kernel) (Fz.le_refl _) (by simp) rfl (v_load rfl rfl (cell_at (j := 0) rfl rfl)) ?_
    refine d_take (i := 4) rfl rfl rfl (by decide +kernel) (by decide +kernel) (by decide +kernel) (Fz.le_refl _) (by simp) rfl (v_move rfl) ?_
    refine d_take (i := 5) rfl rfl rfl (by decide +kernel) (by decide +kernel) (by decide +kernel) (Fz.le_refl _) (by simp) rfl (v_nilCheck rfl) ?_
    refine d_take (i := 6) rfl rfl rfl (by decide +kernel) (by decide +kernel) (by decide +kernel) (Fz.le_refl _) (by simp) rfl (v_field (k := 0) rfl rfl rfl) ?_
    refine d_take (i := 7) rfl rfl rfl (by decide +kernel) (by decide +kernel) (by decide +kernel) (Fz.le_refl _) (by simp) rfl (v_load rfl rfl (cell_at (j := 0) rfl rfl)) ?_
    refine d_take (i := 8) rfl rfl rfl (by decide +kernel) (by decide +kernel) (by decide +kernel) (Fz.le_refl _) (by simp) rfl (v_assign rfl) ?_
    refine d_take (i := 9) rfl rfl rfl (by decide +kernel) (by decide +kernel) (by decide +kernel) (Fz.le_refl _) (by simp) rfl (v_assign rfl) ?_
    refine d_end (by decide +kernel) ?_
    rw [hkv, List.take_zero]
    exact r_ret2 Try.func28 rfl rfl rfl ⟨⟨rfl, rfl, rfl⟩, Fz.le_refl _⟩
end Go.SX
