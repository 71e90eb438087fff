/-
  Chapter 09: Compact, Reset; the law LogsCompacts.
-/
import Derived.Test.YthhcfpignfiabaaLogs10
namespace Go.SX
open Go Go.Proofs
set_option linter.unusedSimpArgs false
set_option linter.unusedVariables false

theorem enV_one {F : Fz} {l : List En} (h : ∀ e ∈ l, e.ok F) : (enV l).all oneCellB = true := by
  rw [List.all_eq_true]
  intro c hc
  obtain ⟨e, he, hce⟩ := List.mem_flatMap.1 hc
  exact List.all_eq_true.1 (h e he).one c hce
theorem sl_CloneE (O : World) (F : Fz) (v : Value) (l : List En) (Fr : List Ent) (hv : Sl F Fr 4 v l.length (enV l)) (hok : ∀ e ∈ l, e.ok F) (hl : l.length ≤ 1000000) :
    Does Try.prog O 34 #[v] F Fr (fun r F' H' => F' = F ∧ ∃ bf : Bf, bf.ok l.length ∧ r = bf.val l.length ∧ H' = bf.ents 4 (enV l) ++ Fr) := by
  obtain ⟨a0, cap, rfl, hcap⟩ := Sl.shape hv
  refine does_of_run (args := [_]) Try.func34 rfl rfl ?_
  cases a0 with
  | none =>
    have hl0 : l = [] := by
      cases l with
      | nil => rfl
      | cons x r =>
        obtain ⟨a1, c1, h1, _, _, h4, h5⟩ := hv
        obtain ⟨b, off, hb, _⟩ := h5 0 (.int .u64 x.ix) rfl
        simp only [Value.slice.injEq] at h1
        rw [hb] at h1
        cases h1.1
    subst hl0
    refine r_seq ?_
    refine r_region rfl ?_
    refine o_val rfl rfl rfl rfl (v_assign rfl) ?_
    refine o_end ?_
    refine r_seq ?_
    refine r_seq ?_
    refine r_region rfl ?_
    refine o_val rfl rfl rfl rfl (v_move rfl) ?_
    refine o_val rfl rfl rfl rfl (v_slnil rfl rfl rfl) ?_
    refine o_end ?_
    refine r_true rfl ?_
    refine r_seq ?_
    refine r_region rfl ?_
    refine o_val rfl rfl rfl rfl (v_assign rfl) ?_
    refine o_end ?_
    exact r_ret1 Try.func34 rfl rfl ⟨⟨rfl, .nil, rfl, rfl, rfl⟩, Fz.le_refl _⟩
  | some x =>
    refine r_seq ?_
    refine r_region rfl ?_
    refine o_val rfl rfl rfl rfl (v_assign rfl) ?_
    refine o_end ?_
    refine r_seq ?_
    refine r_seq ?_
    refine r_region rfl ?_
    refine o_val rfl rfl rfl rfl (v_move rfl) ?_
    refine o_val rfl rfl rfl rfl (v_slnil rfl rfl rfl) ?_
    refine o_end ?_
    refine r_false rfl ?_
    refine r_skip ?_
    refine r_seq ?_
    refine r_region rfl ?_
    refine o_act rfl rfl rfl rfl (a_buildS0 rfl rfl) ?_
    rintro v' H' ⟨b, rfl, rfl⟩
    refine o_val rfl rfl rfl rfl (v_move rfl) ?_
    refine o_act rfl rfl rfl rfl (a_append (bf := .at b 0) (n := 0) (sz := 4) (bytes := 48) (xs := []) ⟨⟨_, _, _, rfl, rfl, rfl, rfl, rfl, rfl⟩, by decide⟩ rfl (Nat.le_refl _) rfl rfl rfl (hv.mono (Fz.le_refl _) (by simp)) (enV_one hok) (by unfold maxLen; omega) (by omega)) ?_
    rintro v' H' ⟨bf, rfl, hok, rfl⟩
    rw [Nat.zero_add] at hok ⊢
    refine o_val rfl rfl rfl rfl (v_assign rfl) ?_
    refine o_end ?_
    exact r_ret1 Try.func34 rfl rfl ⟨⟨rfl, bf, hok, rfl, rfl⟩, Fz.le_refl _⟩

theorem lg_CompactN (O : World) (F : Fz) (a ix tm vt : Nat) (bf : Bf) (l : List En) (i : Nat) (Fr : List Ent) (hb : ix + l.length < 18446744073709551616) (hok : bf.ok l.length) (hi : i < 18446744073709551616) (hf : (lgTerm ix tm l i).2 = false) :
    Does Try.prog O 23 #[ptrV a, .int .u64 i] F (LgH a ix tm vt bf l Fr) (fun r F' H' => r = .int .i64 1 ∧ F' = F ∧ H' = LgH a ix tm vt bf l Fr) := by
  refine does_of_run (args := [_, _]) Try.func23 rfl rfl ?_
  refine r_seq ?_
  refine r_region rfl ?_
  refine o_val rfl rfl rfl rfl (v_assign rfl) ?_
  refine o_end ?_
  refine r_seq ?_
  refine r_region rfl ?_
  refine o_val rfl rfl rfl rfl (v_move rfl) ?_
  refine o_val rfl rfl rfl rfl (v_move rfl) ?_
  refine o_call rfl rfl rfl rfl (c_call callable26 rfl) (lg_Term _ _ a ix tm vt bf l i _ hb hok hi) ?_
  rintro v' F H' ⟨rfl, rfl, rfl⟩ _
  rw [hf]
  refine o_val rfl rfl rfl rfl (v_move rfl) ?_
  refine o_val rfl rfl rfl rfl (v_extract rfl rfl) ?_
  refine o_val rfl rfl rfl rfl (v_extract rfl rfl) ?_
  refine o_val rfl rfl rfl rfl (v_assign rfl) ?_
  refine o_val rfl rfl rfl rfl (v_assign rfl) ?_
  refine o_end ?_
  refine r_seq ?_
  refine r_seq ?_
  refine r_region rfl ?_
  refine o_val rfl rfl rfl rfl (v_move rfl) ?_
  refine o_val rfl rfl rfl rfl (v_not rfl) ?_
  refine o_end ?_
  refine r_true rfl ?_
  refine r_seq ?_
  refine r_region rfl ?_
  refine o_val rfl rfl rfl rfl (v_assign rfl) ?_
  refine o_end ?_
  exact r_ret1 Try.func23 rfl rfl ⟨⟨rfl, rfl, rfl⟩, Fz.le_refl _⟩
theorem lg_Compact (O : World) (F : Fz) (a ix tm vt : Nat) (bf : Bf) (l : List En) (i : Nat) (Fr : List Ent) (hb : ix + l.length < 18446744073709551616) (hok : bf.ok l.length) (hi : i < 18446744073709551616) (hle : ∀ e ∈ l, e.ok F) (hn : l.length ≤ 1000000)
    (hdl : ∀ e ∈ l, e.data.length ≤ 1000000) (h1 : ix ≤ i) (h2 : i ≤ ix + l.length) :
    Does Try.prog O 23 #[ptrV a, .int .u64 i] F (LgH a ix tm vt bf l Fr)
      (fun r F' H' => r = .int .i64 0 ∧ F' = F ∧ ∃ bf' : Bf, bf'.ok (l.drop (i - ix)).length ∧ H' = LgH a i (lgTerm ix tm l i).1 (lgVotersAt vt l i) bf' (l.drop (i - ix)) Fr) := by
  have hT : (lgTerm ix tm l i).2 = true := by
    unfold lgTerm
    rw [if_neg (by omega)]
    split <;> rfl
  refine does_of_run (args := [_, _]) Try.func23 rfl rfl ?_
  refine r_seq ?_
  refine r_region rfl ?_
  refine o_val rfl rfl rfl rfl (v_assign rfl) ?_
  refine o_end ?_
  refine r_seq ?_
  refine r_region rfl ?_
  refine o_val rfl rfl rfl rfl (v_move rfl) ?_
  refine o_val rfl rfl rfl rfl (v_move rfl) ?_
  refine o_call rfl rfl rfl rfl (c_call callable26 rfl) (lg_Term _ _ a ix tm vt bf l i _ hb hok hi) ?_
  rintro v' F H' ⟨rfl, rfl, rfl⟩ _
  rw [hT]
  refine o_val rfl rfl rfl rfl (v_move rfl) ?_
  refine o_val rfl rfl rfl rfl (v_extract rfl rfl) ?_
  refine o_val rfl rfl rfl rfl (v_extract rfl rfl) ?_
  refine o_val rfl rfl rfl rfl (v_assign rfl) ?_
  refine o_val rfl rfl rfl rfl (v_assign rfl) ?_
  refine o_end ?_
  refine r_seq ?_
  refine r_seq ?_
  refine r_region rfl ?_
  refine o_val rfl rfl rfl rfl (v_move rfl) ?_
  refine o_val rfl rfl rfl rfl (v_not rfl) ?_
  refine o_end ?_
  refine r_false rfl ?_
  refine r_skip ?_
  refine r_seq ?_
  refine r_region rfl ?_
  refine o_val rfl rfl rfl rfl (v_move rfl) ?_
  refine o_val rfl rfl rfl rfl (v_move rfl) ?_
  refine o_call rfl rfl rfl rfl (c_call callable31 rfl) (lg_VotersAt _ _ a ix tm vt bf l i _ hn hok hle hdl) ?_
  rintro v' F H' ⟨rfl, rfl, rfl⟩ _
  generalize (lgTerm ix tm l i).1 = T
  generalize lgVotersAt vt l i = V
  have hsl : ∀ H, bf.ents 4 (enV l) ⊆ H → Sl F H 4 (Go.sliced bf.addr (i - ix) l.length bf.cp 4) (l.drop (i - ix)).length (enV (l.drop (i - ix))) := fun H hH => by
    have := Sl.sliced (l := i - ix) (h := l.length) (Bf.reads (bf := bf) (sz := 4) (n := l.length) (F := F) (H := H) hok (by rw [enV_length]) hH) (by omega) (Nat.le_refl _)
    rw [enV_drop, List.take_of_length_le (by rw [enV_length, List.length_drop]; omega)] at this
    rw [List.length_drop]
    exact this
  refine j_heap (H' := LgE a ix tm vt bf l.length :: (bf.ents 4 (enV l) ++ Fr)) rfl ?_
  refine o_val rfl rfl rfl rfl (v_assign rfl) ?_
  refine o_end ?_
  refine r_seq ?_
  refine d_region 15 rfl ([LgE a ix tm vt bf l.length]) ?_
  refine d_take (i := 0) rfl rfl rfl (by decide +kernel) (by decide +kernel) (by decide +kernel) (Fz.le_refl _) (by simp) rfl (v_move rfl) ?_
  refine d_take (i := 1) rfl rfl rfl (by decide +kernel) (by decide +kernel) (by decide +kernel) (Fz.le_refl _) (by simp) rfl (v_move rfl) ?_
  refine d_take (i := 2) rfl rfl rfl (by decide +kernel) (by decide +kernel) (by decide +kernel) (Fz.le_refl _) (by simp) rfl (v_nilCheck rfl) ?_
  refine d_take (i := 3) rfl rfl rfl (by decide +kernel) (by decide +kernel) (by decide +kernel) (Fz.le_refl _) (by simp) rfl (v_field (k := 3) rfl rfl rfl) ?_
  refine d_take (i := 4) rfl rfl rfl (by decide +kernel) (by decide +kernel) (by decide +kernel) (Fz.le_refl _) (by simp) rfl (v_load rfl rfl (cell_at (j := 0) rfl rfl)) ?_
  refine d_take (i := 5) rfl rfl rfl (by decide +kernel) (by decide +kernel) (by decide +kernel) (Fz.le_refl _) (by simp) rfl (v_move rfl) ?_
  refine d_take (i := 6) rfl rfl rfl (by decide +kernel) (by decide +kernel) (by decide +kernel) (Fz.le_refl _) (by simp) rfl (v_move rfl) ?_
  refine d_take (i := 7) rfl rfl rfl (by decide +kernel) (by decide +kernel) (by decide +kernel) (Fz.le_refl _) (by simp) rfl (v_nilCheck rfl) ?_
  refine d_take (i := 8) rfl rfl rfl (by decide +kernel) (by decide +kernel) (by decide +kernel) (Fz.le_refl _) (by simp) rfl (v_field (k := 0) rfl rfl rfl) ?_
  refine d_take (i := 9) rfl rfl rfl (by decide +kernel) (by decide +kernel) (by decide +kernel) (Fz.le_refl _) (by simp) rfl (v_load rfl rfl (cell_at (j := 0) rfl rfl)) ?_
  refine d_take (i := 10) rfl rfl rfl (by decide +kernel) (by decide +kernel) (by decide +kernel) (Fz.le_refl _) (by simp) rfl (v_sub rfl rfl (r := ((i - ix : Nat) : Int)) ((wrap_u64 (by omega) (by omega)).trans (by omega))) ?_
  refine d_take (i := 11) rfl rfl rfl (by decide +kernel) (by decide +kernel) (by decide +kernel) (Fz.le_refl _) (by simp) rfl (v_sliceL (sz := 4) rfl rfl rfl rfl rfl (by omega)) ?_
  refine d_one (i := 12) (by decide +kernel) ?_
  refine d1_call rfl rfl rfl rfl (c_call callable34 rfl) (sl_CloneE _ _ _ (l.drop (i - ix)) _ (hsl _ (by intro q hq; exact List.mem_cons_of_mem _ (List.mem_append_left _ hq))) (fun e he => hle e (List.mem_of_mem_drop he)) (by simp; omega)) ?_
  rintro v' F H' ⟨rfl, bf2, hok2, rfl, rfl⟩ _
  refine ⟨fun w hw => held_of hw (Fz.le_refl _) (by simp), ?_⟩
  refine j_sel (H' := LgE a ix tm vt bf l.length :: (bf2.ents 4 (enV (l.drop (i - ix))) ++ (Fr))) [bf2.ents 4 (enV (l.drop (i - ix))), [LgE a ix tm vt bf l.length], bf.ents 4 (enV l), Fr] [1, 0, 3] rfl rfl rfl ?_
  refine d_take (i := 13) rfl rfl rfl (by decide +kernel) (by decide +kernel) (by decide +kernel) (Fz.le_refl _) (by simp) rfl (v_nilCheck rfl) ?_
  refine d_take (i := 14) rfl rfl rfl (by decide +kernel) (by decide +kernel) (by decide +kernel) (Fz.le_refl _) (by simp) rfl (v_field (k := 3) rfl rfl rfl) ?_
  refine d_one (i := 15) (by decide +kernel) ?_
  refine d1_last 1000000 ([]) rfl rfl rfl (a_store1 0 rfl rfl rfl rfl rfl (Nat.le_of_ble_eq_true rfl)) ?_
  refine d_end (by decide +kernel) ?_
  refine r_seq ?_
  refine r_region rfl ?_
  refine o_val rfl rfl rfl rfl (v_move rfl) ?_
  refine o_val rfl rfl rfl rfl (v_move rfl) ?_
  refine o_val rfl rfl rfl rfl (v_move rfl) ?_
  refine o_val rfl rfl rfl rfl (v_move rfl) ?_
  refine o_val rfl rfl rfl rfl (v_move rfl) ?_
  refine o_val rfl rfl rfl rfl (v_move rfl) ?_
  refine o_val rfl rfl rfl rfl (v_nilCheck rfl) ?_
  refine o_val rfl rfl rfl rfl (v_field (k := 0) rfl rfl rfl) ?_
  refine o_act0 rfl rfl rfl (a_store1 0 rfl rfl rfl rfl rfl (Nat.le_of_ble_eq_true rfl)) ?_
  refine o_val rfl rfl rfl rfl (v_nilCheck rfl) ?_
  refine o_val rfl rfl rfl rfl (v_field (k := 1) rfl rfl rfl) ?_
  refine o_act0 rfl rfl rfl (a_store1 0 rfl rfl rfl rfl rfl (Nat.le_of_ble_eq_true rfl)) ?_
  refine o_val rfl rfl rfl rfl (v_nilCheck rfl) ?_
  refine o_val rfl rfl rfl rfl (v_field (k := 2) rfl rfl rfl) ?_
  refine o_act0 rfl rfl rfl (a_store1 0 rfl rfl rfl rfl rfl (Nat.le_of_ble_eq_true rfl)) ?_
  refine j_heap (H' := LgH a i T V bf2 (l.drop (i - ix)) Fr) rfl ?_
  refine o_end ?_
  refine r_seq ?_
  refine r_region rfl ?_
  refine o_val rfl rfl rfl rfl (v_assign rfl) ?_
  refine o_end ?_
  exact r_ret1 Try.func23 rfl rfl ⟨⟨rfl, rfl, bf2, hok2, rfl⟩, Fz.le_refl _⟩

theorem lg_Reset (O : World) (F : Fz) (a ix tm vt : Nat) (bf : Bf) (l : List En) (Fr : List Ent) (ix' tm' vt' : Nat) (dv : Value) :
    Does Try.prog O 24 #[ptrV a, .agg #[.int .u64 ix', .int .u64 tm', .int .u64 vt', dv]] F (LgH a ix tm vt bf l Fr) (fun r F' H' => F' = F ∧ H' = LgH a ix' tm' vt' .nil [] Fr) := by
  refine does_of_run (args := [_, _]) Try.func24 rfl rfl ?_
  refine r_seq ?_
  refine r_region rfl ?_
  refine o_act rfl rfl rfl rfl (a_box rfl) ?_
  rintro v' H' ⟨x, rfl, rfl⟩
  refine o_end ?_
  refine r_seq ?_
  refine r_region rfl ?_
  refine o_val rfl rfl rfl rfl (v_move rfl) ?_
  refine o_val rfl rfl rfl rfl (v_pneqnil rfl rfl rfl) ?_
  refine o_end ?_
  refine r_true rfl ?_
  refine j_heap (H' := Ent.mem x [.int .u64 ix', .int .u64 tm', .int .u64 vt', dv] 4 :: LgE a ix tm vt bf l.length :: (bf.ents 4 (enV l) ++ Fr)) rfl ?_
  refine r_region rfl ?_
  refine o_val rfl rfl rfl rfl (v_move rfl) ?_
  refine o_val rfl rfl rfl rfl (v_field (k := 0) rfl rfl rfl) ?_
  refine o_val rfl rfl rfl rfl (v_load rfl rfl (cell_at (j := 0) rfl rfl)) ?_
  refine o_val rfl rfl rfl rfl (v_field (k := 1) rfl rfl rfl) ?_
  refine o_val rfl rfl rfl rfl (v_load rfl rfl (cell_at (j := 0) rfl rfl)) ?_
  refine o_val rfl rfl rfl rfl (v_field (k := 2) rfl rfl rfl) ?_
  refine o_val rfl rfl rfl rfl (v_load rfl rfl (cell_at (j := 0) rfl rfl)) ?_
  refine o_val rfl rfl rfl rfl (v_build rfl rfl) ?_
  refine o_val rfl rfl rfl rfl (v_nilCheck rfl) ?_
  refine o_act0 rfl rfl rfl (a_store (sz := 4) 1 rfl rfl rfl rfl rfl rfl (Nat.le_of_ble_eq_true rfl)) ?_
  refine j_heap (H' := Ent.mem x [.int .u64 ix', .int .u64 tm', .int .u64 vt', dv] 4 :: LgE a ix' tm' vt' .nil 0 :: (bf.ents 4 (enV l) ++ Fr)) rfl ?_
  refine j_sel (H' := LgE a ix' tm' vt' .nil 0 :: (Fr)) [[Ent.mem x [.int .u64 ix', .int .u64 tm', .int .u64 vt', dv] 4], [LgE a ix' tm' vt' .nil 0], bf.ents 4 (enV l), Fr] [1, 3] rfl rfl rfl ?_
  refine o_end ?_
  exact r_fall0 Try.func24 rfl ⟨⟨rfl, rfl⟩, Fz.le_refl _⟩

/-- The last of the first entries up to an index. -/
theorem lgVotersAt_succ {vt : Nat} {l : List En} {k i : Nat} (hk : k < l.length) : lgVotersAt vt (l.take (k + 1)) i = if l[k].ix ≤ i ∧ l[k].kd = 1 then maskB l[k].data else lgVotersAt vt (l.take k) i := by
  unfold lgVotersAt
  rw [List.take_succ_eq_append_getElem hk, List.foldl_append]
  rfl
theorem maskB_lt (l : List UInt8) : maskB l < 18446744073709551616 := by
  have h := leN_lt (l.take 8)
  have h2 : (l.take 8).length ≤ 8 := by simp; omega
  have h3 : (256 : Nat) ^ (l.take 8).length ≤ 256 ^ 8 := Nat.pow_le_pow_right (by decide) h2
  unfold maskB
  omega
theorem lgTerm_step (ix tm : Nat) (l : List En) (k to : Nat) (hto : ix ≤ to) (hl : to ≤ ix + l.length) (hk : k < l.length) : (lgTerm ix tm (l.take (min (k + 1) (to - ix))) (ix + min (k + 1) (to - ix))).1 = if ix + k + 1 ≤ to then l[k].tm else (lgTerm ix tm (l.take (min k (to - ix))) (ix + min k (to - ix))).1 := by
  split
  · have e1 : min (k + 1) (to - ix) = k + 1 := by omega
    rw [e1]
    unfold lgTerm
    rw [if_neg (by simp; omega), if_neg (by omega), List.getElem?_eq_getElem (by simp; omega), List.getElem_take]
    have e2 : ix + (k + 1) - ix - 1 = k := by omega
    simp only [e2, Option.map_some, Option.getD_some]
  · have e1 : min (k + 1) (to - ix) = min k (to - ix) := by omega
    rw [e1]

set_option maxHeartbeats 1000000 in
theorem law_LogsCompacts (O : World) (F : Fz) (n : Nat) (v u : Value) (terms kinds : List UInt8) (to0 again : Nat) (hn : n < 256) (hto0 : to0 < 18446744073709551616) (hag : again < 256) (hv : SlB F [] v terms) (hu : SlB F [] u kinds) :
    Does Try.prog O 7 #[.int .u8 n, v, u, .int .u64 to0, .int .u8 again] F [] (fun r _ _ => r = .bool true) := by
  obtain ⟨a0, cap, rfl, hcap⟩ := Sl.shape hv
  obtain ⟨a1, cap1, rfl, hcap1⟩ := Sl.shape hu
  refine does_of_run (args := [_, _, _, _, _]) Try.func7 rfl rfl ?_
  refine r_seq ?_
  refine r_region rfl ?_
  refine o_val rfl rfl rfl rfl (v_assign rfl) ?_
  refine o_end ?_
  refine r_seq ?_
  refine r_seq ?_
  refine r_region rfl ?_
  refine o_call rfl rfl rfl rfl (c_call callable10 rfl) (law_awake _ _ _) ?_
  rintro v' F1 H' ⟨rfl, rfl⟩ hF1
  refine o_val rfl rfl rfl rfl (v_not rfl) ?_
  refine o_end ?_
  refine r_false rfl ?_
  refine r_skip ?_
  refine r_seq ?_
  refine r_region rfl ?_
  refine o_val rfl rfl rfl rfl (v_move rfl) ?_
  refine o_call rfl rfl rfl rfl (c_call callable11 rfl) (law_snap _ _ n _ hn) ?_
  rintro v' F1 H' ⟨rfl, rfl, rfl⟩ _
  refine o_act rfl rfl rfl rfl (a_alloc rfl) ?_
  rintro v' H' ⟨s, rfl, rfl⟩
  refine o_act0 rfl rfl rfl (a_store (sz := 4) 0 rfl rfl rfl rfl rfl rfl (Nat.le_of_ble_eq_true rfl)) ?_
  obtain ⟨ix, hix⟩ : ∃ ix, ix = n % 7 := ⟨_, rfl⟩
  obtain ⟨tm, htm⟩ : ∃ tm, tm = n % 2 := ⟨_, rfl⟩
  have hcs : ∀ F H (tm vt : Nat) j c, Ent.mem s [.int .u64 ix, .int .u64 tm, .int .u64 vt, .slice none 0 0] 4 ∈ H → [Value.int .u64 ix, .int .u64 tm, .int .u64 vt, .slice none 0 0][j]? = some c → Cell F H s (0 + j) c := fun F H tm vt j c hm hc => by
    rw [Nat.zero_add]
    exact cell_own hm hc
  refine j_heap (H' := [Ent.mem s [.int .u64 ix, .int .u64 tm, .int .u64 n, .slice none 0 0] 4]) (by rw [hix, htm]; rfl) ?_
  refine o_end ?_
  refine r_seq ?_
  refine r_region rfl ?_
  refine o_val rfl rfl rfl rfl (v_field (k := 0) rfl rfl rfl) ?_
  refine o_val rfl rfl rfl rfl (v_load (v := .int .u64 ix) rfl rfl (cell_at (j := 0) rfl rfl)) ?_
  refine o_val rfl rfl rfl rfl (v_move rfl) ?_
  refine o_val rfl rfl rfl rfl (v_move rfl) ?_
  refine o_call rfl rfl rfl rfl (c_call callable12 rfl) (law_entries _ _ ix _ _ terms kinds _ (hv.frz hF1) (hu.frz hF1) (by omega)) ?_
  rintro v' F2 H' ⟨hF2, es, bfe, hes, hens, hoke, rfl, rfl⟩ _
  have hesl : es.length ≤ 30 := by omega
  refine o_val rfl rfl rfl rfl (v_assign rfl) ?_
  refine o_end ?_
  refine r_seq ?_
  refine r_region rfl ?_
  refine o_val rfl rfl rfl rfl (v_loadAgg (sz := 4) (cs := [.int .u64 ix, .int .u64 tm, .int .u64 n, .slice none 0 0]) rfl rfl rfl rfl (fun j c hc => hcs _ _ _ _ j c (by simp) hc)) ?_
  refine o_val rfl rfl rfl rfl (v_move rfl) ?_
  refine o_call rfl rfl rfl rfl (c_call callable13 rfl) (lg_New _ _ ix tm n (.slice none 0 0) _ es _ (Bf.reads (bf := bfe) (sz := 4) (n := es.length) hoke (by rw [enV_length]) (by intro q hq; exact List.mem_append_left _ hq)) hens.ok (by omega) (by omega)) ?_
  rintro v' F2 H' ⟨rfl, hnew⟩ _
  have hnw : lgNew ix tm es := hens.new (by omega)
  have htm45 : (to0 : Int).tmod 45 = ((to0 % 45 : Nat) : Int) := rfl
  obtain ⟨to, hto⟩ : ∃ to, to = to0 % 45 := ⟨_, rfl⟩
  rw [← hto] at htm45
  have hto2 : to < 45 := by omega
  rcases hnew with ⟨_, a, bf, hok, rfl, rfl⟩ | ⟨hbad, _⟩
  · refine j_heap (H' := LgE a ix tm n bf es.length :: (bf.ents 4 (enV es) ++ (bfe.ents 4 (enV es) ++ [Ent.mem s [.int .u64 ix, .int .u64 tm, .int .u64 n, .slice none 0 0] 4]))) rfl ?_
    refine j_sel (H' := bfe.ents 4 (enV es) ++ (LgE a ix tm n bf es.length :: (bf.ents 4 (enV es) ++ ([Ent.mem s [.int .u64 ix, .int .u64 tm, .int .u64 n, .slice none 0 0] 4])))) [[LgE a ix tm n bf es.length], bf.ents 4 (enV es), bfe.ents 4 (enV es), [Ent.mem s [.int .u64 ix, .int .u64 tm, .int .u64 n, .slice none 0 0] 4]] [2, 0, 1, 3] rfl rfl rfl ?_
    refine j_freezeBf hoke (by rw [enV_length]) fun F3 hF3 hs3 => ?_
    have heok : ∀ e ∈ es, e.ok F3 := fun e he => (hens.ok e he).frz hF3
    have hix9 : ∀ (i : Nat) (h : i < es.length), es[i].ix = ix + i + 1 := fun i h => (hens.is i h).1
    refine j_heap (H' := LgH a ix tm n bf es [Ent.mem s [.int .u64 ix, .int .u64 tm, .int .u64 n, .slice none 0 0] 4]) rfl ?_
    have hFF := Fz.le_trans hF1 (Fz.le_trans hF2 hF3)
    refine o_val rfl rfl rfl rfl (v_move rfl) ?_
    refine o_val rfl rfl rfl rfl (v_extract rfl rfl) ?_
    refine o_val rfl rfl rfl rfl (v_extract rfl rfl) ?_
    refine o_val rfl rfl rfl rfl (v_assign rfl) ?_
    refine o_val rfl rfl rfl rfl (v_assign rfl) ?_
    refine o_end ?_
    refine r_seq ?_
    refine r_region rfl ?_
    refine o_val rfl rfl rfl rfl (v_move rfl) ?_
    refine o_val rfl rfl rfl rfl (v_rem rfl rfl (by decide) htm45) ?_
    refine o_val rfl rfl rfl rfl (v_assign rfl) ?_
    refine o_end ?_
    refine r_seq ?_
    refine r_region rfl ?_
    refine o_val rfl rfl rfl rfl (v_move rfl) ?_
    refine o_val rfl rfl rfl rfl (v_move rfl) ?_
    by_cases hin : ix ≤ to ∧ to ≤ ix + es.length
    · skip
      refine o_call rfl rfl rfl rfl (c_call callable23 rfl) (lg_Compact _ _ a ix tm n bf es to _ (by omega) hok (by omega) heok (by omega) hens.data hin.1 hin.2) ?_
      rintro v' F3 H' ⟨rfl, rfl, bf2, hok2, rfl⟩ _
      refine j_heap (H' := LgE a to (lgTerm ix tm es to).1 (lgVotersAt n es to) bf2 (es.drop (to - ix)).length :: (bf2.ents 4 (enV (es.drop (to - ix))) ++ [Ent.mem s [.int .u64 ix, .int .u64 tm, .int .u64 n, .slice none 0 0] 4])) rfl ?_
      refine j_sel (H' := Ent.mem s [.int .u64 ix, .int .u64 tm, .int .u64 n, .slice none 0 0] 4 :: (LgE a to (lgTerm ix tm es to).1 (lgVotersAt n es to) bf2 (es.drop (to - ix)).length :: (bf2.ents 4 (enV (es.drop (to - ix)))))) [[LgE a to (lgTerm ix tm es to).1 (lgVotersAt n es to) bf2 (es.drop (to - ix)).length], bf2.ents 4 (enV (es.drop (to - ix))), [Ent.mem s [.int .u64 ix, .int .u64 tm, .int .u64 n, .slice none 0 0] 4]] [2, 0, 1] rfl rfl rfl ?_
      refine o_val rfl rfl rfl rfl (v_assign rfl) ?_
      refine o_end ?_
      refine r_seq ?_
      refine r_seq ?_
      refine r_region rfl ?_
      refine o_val rfl rfl rfl rfl (v_move rfl) ?_
      refine o_val rfl rfl rfl rfl (v_field (k := 0) rfl rfl rfl) ?_
      refine o_val rfl rfl rfl rfl (v_load rfl rfl (cell_at (j := 0) rfl rfl)) ?_
      refine o_val rfl rfl rfl rfl (v_lss rfl rfl) ?_
      refine j_slot 41 rfl (v' := .bool false) (by rw [decide_eq_false (by omega)]) ?_
      refine o_val rfl rfl rfl rfl (v_move rfl) ?_
      refine o_val rfl rfl rfl rfl (v_move rfl) ?_
      refine o_val rfl rfl rfl rfl (v_field (k := 0) rfl rfl rfl) ?_
      refine o_val rfl rfl rfl rfl (v_load rfl rfl (cell_at (j := 0) rfl rfl)) ?_
      refine o_val rfl rfl rfl rfl (v_move rfl) ?_
      refine o_val rfl rfl rfl rfl (v_len rfl rfl) ?_
      refine o_val rfl rfl rfl rfl (v_conv rfl rfl rfl (wrap_u64 (by omega) (by omega))) ?_
      refine o_val rfl rfl rfl rfl (v_add rfl rfl (r := ((ix + es.length : Nat) : Int)) (wrap_u64 (by omega) (by omega))) ?_
      refine o_val rfl rfl rfl rfl (v_gtr rfl rfl) ?_
      refine j_slot 50 rfl (v' := .bool false) (by rw [decide_eq_false (by omega)]) ?_
      refine o_val rfl rfl rfl rfl (v_pick0 rfl rfl) ?_
      refine o_end ?_
      refine r_false rfl ?_
      refine r_skip ?_
      refine r_seq ?_
      refine r_seq ?_
      refine r_region rfl ?_
      refine o_val rfl rfl rfl rfl (v_assign rfl) ?_
      refine o_end ?_
      refine r_block ?_
      refine r_loop (fun k : Nat => k ≤ es.length) (fun k => [(4, .int .u8 again), (11, ptrV s), (12, bfe.val es.length), (13, ptrV a), (3, .int .u64 to), (15, .int .i64 0), (16, .int .i64 k)]) (fun _ => F3)
        (fun k => Ent.mem s [.int .u64 ix, .int .u64 (lgTerm ix tm (es.take (min k (to - ix))) (ix + min k (to - ix))).1, .int .u64 (lgVotersAt n (es.take k) to), .slice none 0 0] 4 :: LgH a to (lgTerm ix tm es to).1 (lgVotersAt n es to) bf2 (es.drop (to - ix)) []) (fun k => es.length - k)
        0 (Nat.zero_le _) ⟨rfl, rfl, rfl, rfl, rfl, rfl, rfl, trivial⟩ rfl (by simp [lgTerm, lgVotersAt, LgH]) ?_
      intro k hk IH
      refine r_seq ?_
      refine r_seq ?_
      refine r_region rfl ?_
      refine o_val rfl rfl rfl rfl (v_move rfl) ?_
      refine o_val rfl rfl rfl rfl (v_move rfl) ?_
      refine o_val rfl rfl rfl rfl (v_len rfl rfl) ?_
      refine o_val rfl rfl rfl rfl (v_lss rfl rfl) ?_
      refine o_end ?_
      refine r_if rfl (fun h => ?_) (fun h => ?_)
      · have hkl : k < es.length := by omega
        obtain ⟨b0, off0, c0, hab, hc0⟩ := sl_cells (hs3.frz (H := []) (Fz.le_refl _)) hkl
        have hxk := hix9 k hkl
        have hst := lgTerm_step ix tm es k to hin.1 hin.2 hkl
        have hsv := lgVotersAt_succ (vt := n) (i := to) hkl
        have hek := heok es[k] (List.getElem_mem _)
        have hdk := hens.data es[k] (List.getElem_mem _)
        have IH' := IH (k + 1) hkl (by omega)
        rw [hst, hsv, hxk] at IH'
        generalize (lgTerm ix tm (es.take (min k (to - ix))) (ix + min k (to - ix))).1 = T at *
        generalize lgVotersAt n (es.take k) to = V at *
        generalize es[k] = e at *
        rw [hab]
        rw [hab] at IH'
        refine r_skip ?_
        refine r_seq ?_
        refine r_block ?_
        refine r_seq ?_
        refine r_region rfl ?_
        refine o_val rfl rfl rfl rfl (v_move rfl) ?_
        refine o_val rfl rfl rfl rfl (v_move rfl) ?_
        refine o_val rfl rfl rfl rfl (v_indexN (sz := 4) rfl rfl rfl rfl hkl) ?_
        refine o_val rfl rfl rfl rfl (v_field (k := 0) rfl rfl rfl) ?_
        refine o_val rfl rfl rfl rfl (v_load (v := .int .u64 e.ix) rfl rfl ((hc0 0 _ rfl).mono (Fz.le_refl _) (by simp))) ?_
        refine o_val rfl rfl rfl rfl (v_move rfl) ?_
        refine o_val rfl rfl rfl rfl (v_leq rfl rfl) ?_
        refine o_end ?_
        refine r_if rfl (fun h2 => ?_) (fun h2 => ?_)
        · rw [if_pos (by omega)] at IH'
          refine r_seq ?_
          refine r_region rfl ?_
          refine o_val rfl rfl rfl rfl (v_move rfl) ?_
          refine o_val rfl rfl rfl rfl (v_move rfl) ?_
          refine o_val rfl rfl rfl rfl (v_indexN (sz := 4) rfl rfl rfl rfl hkl) ?_
          refine o_val rfl rfl rfl rfl (v_field (k := 1) rfl rfl rfl) ?_
          refine o_val rfl rfl rfl rfl (v_load (v := .int .u64 e.tm) rfl rfl ((hc0 1 _ rfl).mono (Fz.le_refl _) (by simp))) ?_
          refine o_val rfl rfl rfl rfl (v_field (k := 1) rfl rfl rfl) ?_
          refine o_act0 rfl rfl rfl (a_store1 0 rfl rfl rfl rfl rfl (Nat.le_of_ble_eq_true rfl)) ?_
          refine j_heap (H' := Ent.mem s [.int .u64 ix, .int .u64 e.tm, .int .u64 V, .slice none 0 0] 4 :: LgH a to (lgTerm ix tm es to).1 (lgVotersAt n es to) bf2 (es.drop (to - ix)) []) rfl ?_
          refine o_end ?_
          refine r_seq ?_
          refine r_region rfl ?_
          refine o_val rfl rfl rfl rfl (v_move rfl) ?_
          refine o_val rfl rfl rfl rfl (v_move rfl) ?_
          refine o_val rfl rfl rfl rfl (v_indexN (sz := 4) rfl rfl rfl rfl hkl) ?_
          refine o_val rfl rfl rfl rfl (v_field (k := 2) rfl rfl rfl) ?_
          refine o_val rfl rfl rfl rfl (v_load (v := .int .u8 e.kd) rfl rfl ((hc0 2 _ rfl).mono (Fz.le_refl _) (by simp))) ?_
          refine o_val rfl rfl rfl rfl (v_eql rfl rfl) ?_
          refine o_end ?_
          refine r_if rfl (fun h3 => ?_) (fun h3 => ?_)
          · rw [if_pos ⟨by omega, by omega⟩] at IH'
            refine r_region rfl ?_
            refine o_val rfl rfl rfl rfl (v_move rfl) ?_
            refine o_val rfl rfl rfl rfl (v_move rfl) ?_
            refine o_val rfl rfl rfl rfl (v_indexN (sz := 4) rfl rfl rfl rfl hkl) ?_
            refine o_val rfl rfl rfl rfl (v_field (k := 3) rfl rfl rfl) ?_
            refine o_val rfl rfl rfl rfl (v_load (v := e.dv) rfl rfl ((hc0 3 _ rfl).mono (Fz.le_refl _) (by simp))) ?_
            refine o_call rfl rfl rfl rfl (c_call callable20 rfl) (ref_Mask _ _ e.dv e.data _ (hek.dv.frz (Fz.le_refl _)) (by omega)) ?_
            rintro v' F3 H' ⟨rfl, rfl, rfl⟩ _
            refine o_val rfl rfl rfl rfl (v_field (k := 2) rfl rfl rfl) ?_
            refine o_act0 rfl rfl rfl (a_store1 0 rfl rfl rfl rfl rfl (Nat.le_of_ble_eq_true rfl)) ?_
            refine j_heap (H' := Ent.mem s [.int .u64 ix, .int .u64 e.tm, .int .u64 (maskB e.data), .slice none 0 0] 4 :: LgH a to (lgTerm ix tm es to).1 (lgVotersAt n es to) bf2 (es.drop (to - ix)) []) rfl ?_
            refine o_end ?_
            refine r_inBlock ?_
            refine r_region rfl ?_
            refine o_val rfl rfl rfl rfl (v_move rfl) ?_
            refine o_val rfl rfl rfl rfl (v_add rfl rfl (wrap_i64 (by omega) (by omega))) ?_
            refine o_val rfl rfl rfl rfl (v_assign rfl) ?_
            refine o_end ?_
            refine j_keep ?_ IH'
            exact ⟨rfl, rfl, rfl, rfl, rfl, rfl, rfl, trivial⟩
          · rw [if_neg (by omega)] at IH'
            refine r_skip ?_
            refine r_inBlock ?_
            refine r_region rfl ?_
            refine o_val rfl rfl rfl rfl (v_move rfl) ?_
            refine o_val rfl rfl rfl rfl (v_add rfl rfl (wrap_i64 (by omega) (by omega))) ?_
            refine o_val rfl rfl rfl rfl (v_assign rfl) ?_
            refine o_end ?_
            refine j_keep ?_ IH'
            exact ⟨rfl, rfl, rfl, rfl, rfl, rfl, rfl, trivial⟩
        · rw [if_neg (by omega), if_neg (by omega)] at IH'
          refine r_skip ?_
          refine r_inBlock ?_
          refine r_region rfl ?_
          refine o_val rfl rfl rfl rfl (v_move rfl) ?_
          refine o_val rfl rfl rfl rfl (v_add rfl rfl (wrap_i64 (by omega) (by omega))) ?_
          refine o_val rfl rfl rfl rfl (v_assign rfl) ?_
          refine o_end ?_
          refine j_keep ?_ IH'
          exact ⟨rfl, rfl, rfl, rfl, rfl, rfl, rfl, trivial⟩
      · obtain rfl : k = es.length := by omega
        clear IH
        have e1 : min es.length (to - ix) = to - ix := by omega
        have e2 : (lgTerm ix tm (es.take (to - ix)) (ix + (to - ix))).1 = (lgTerm ix tm es to).1 := by
          have e3 : ix + (to - ix) = to := by omega
          rw [e3]
          unfold lgTerm
          have q1 : ¬ (to < ix ∨ ix + (es.take (to - ix)).length < to) := by simp; omega
          have q2 : ¬ (to < ix ∨ ix + es.length < to) := by omega
          rw [if_neg q1, if_neg q2]
          split
          · rfl
          · rw [List.getElem?_take, if_pos (by omega)]
        rw [e1, e2, List.take_length]
        generalize (lgTerm ix tm es to).1 = T
        generalize lgVotersAt n es to = V
        have hsl := Sl.sliced (l := to - ix) (h := es.length) (a := bfe.addr) (cap := bfe.cp) (hs3.frz (H := []) (Fz.le_refl _)) (by omega) (Nat.le_refl _)
        rw [enV_drop, List.take_of_length_le (by rw [enV_length, List.length_drop]; omega), ← List.length_drop] at hsl
        have hes2 : ∀ e ∈ es.drop (to - ix), e ∈ es := fun e he => List.mem_of_mem_drop he
        have hln : (es.drop (to - ix)).length ≤ 30 := by simp; omega
        generalize es.drop (to - ix) = es2 at *
        refine r_exit rfl ?_
        refine r_seq ?_
        refine r_region rfl ?_
        refine o_val rfl rfl rfl rfl (v_move rfl) ?_
        refine o_val rfl rfl rfl rfl (v_move rfl) ?_
        refine o_val rfl rfl rfl rfl (v_field (k := 0) rfl rfl rfl) ?_
        refine o_val rfl rfl rfl rfl (v_load rfl rfl (cell_at (j := 0) rfl rfl)) ?_
        refine o_val rfl rfl rfl rfl (v_sub rfl rfl (r := ((to - ix : Nat) : Int)) ((wrap_u64 (by omega) (by omega)).trans (by omega))) ?_
        refine o_val rfl rfl rfl rfl (v_sliceL (sz := 4) rfl rfl rfl rfl rfl (by omega)) ?_
        refine o_val rfl rfl rfl rfl (v_assign rfl) ?_
        refine o_end ?_
        refine r_seq ?_
        refine r_region rfl ?_
        refine o_val rfl rfl rfl rfl (v_move rfl) ?_
        refine o_val rfl rfl rfl rfl (v_field (k := 0) rfl rfl rfl) ?_
        refine o_act0 rfl rfl rfl (a_store1 0 rfl rfl rfl rfl rfl (Nat.le_of_ble_eq_true rfl)) ?_
        refine j_heap (H' := Ent.mem s [.int .u64 to, .int .u64 T, .int .u64 V, .slice none 0 0] 4 :: LgE a to T V bf2 es2.length :: (bf2.ents 4 (enV es2) ++ [])) rfl ?_
        refine j_sel (H' := LgE a to T V bf2 es2.length :: (bf2.ents 4 (enV es2) ++ ([Ent.mem s [.int .u64 to, .int .u64 T, .int .u64 V, .slice none 0 0] 4]))) [[Ent.mem s [.int .u64 to, .int .u64 T, .int .u64 V, .slice none 0 0] 4], [LgE a to T V bf2 es2.length], bf2.ents 4 (enV es2), []] [1, 2, 0] rfl rfl rfl ?_
        refine j_heap (H' := LgH a to T V bf2 es2 [Ent.mem s [.int .u64 to, .int .u64 T, .int .u64 V, .slice none 0 0] 4]) rfl ?_
        refine o_end ?_
        refine r_seq ?_
        refine r_seq ?_
        refine r_region rfl ?_
        refine o_val rfl rfl rfl rfl (v_move rfl) ?_
        refine o_val rfl rfl rfl rfl (v_neq rfl rfl) ?_
        refine o_val rfl rfl rfl rfl (v_move rfl) ?_
        refine o_val rfl rfl rfl rfl (v_move rfl) ?_
        refine o_val rfl rfl rfl rfl (v_loadAgg (sz := 4) (cs := [.int .u64 to, .int .u64 T, .int .u64 V, .slice none 0 0]) rfl rfl rfl rfl (fun j c hc => by rw [Nat.zero_add]; exact cell_own (n := 4) (cs := [.int .u64 to, .int .u64 T, .int .u64 V, .slice none 0 0]) (by simp [LgH]) hc)) ?_
        refine o_val rfl rfl rfl rfl (v_move rfl) ?_
        refine o_call rfl rfl rfl rfl (c_call callable21 rfl) (law_told _ _ a to T V bf2 es2 es2 (.slice none 0 0) _ [Ent.mem s [.int .u64 to, .int .u64 T, .int .u64 V, .slice none 0 0] 4] hok2 (fun e he => heok e (hes2 e he)) (fun e he => heok e (hes2 e he)) (Alike.refl _) (by omega) (by omega) (fun e he => hens.data e (hes2 e he)) hsl rfl) ?_
        rintro v' F4 H' ⟨rfl, rfl⟩ hF4
        refine o_val rfl rfl rfl rfl (v_not rfl) ?_
        refine o_val rfl rfl rfl rfl (v_pick0 rfl rfl) ?_
        refine o_end ?_
        refine r_false rfl ?_
        refine r_skip ?_
        refine r_seq ?_
        refine r_region rfl ?_
        refine o_val rfl rfl rfl rfl (v_move rfl) ?_
        refine o_call rfl rfl rfl rfl (c_call callable11 rfl) (law_snap _ _ again _ hag) ?_
        rintro v' F4 H' ⟨rfl, rfl, rfl⟩ _
        refine o_act rfl rfl rfl rfl (a_alloc rfl) ?_
        rintro v' H' ⟨s2, rfl, rfl⟩
        refine o_act0 rfl rfl rfl (a_store (sz := 4) 0 rfl rfl rfl rfl rfl rfl (Nat.le_of_ble_eq_true rfl)) ?_
        refine j_heap (H' := Ent.mem s2 [.int .u64 (again % 7 : Nat), .int .u64 (again % 2 : Nat), .int .u64 again, .slice none 0 0] 4 :: LgE a to T V bf2 es2.length :: (bf2.ents 4 (enV es2) ++ [Ent.mem s [.int .u64 to, .int .u64 T, .int .u64 V, .slice none 0 0] 4])) rfl ?_
        refine j_sel (H' := LgE a to T V bf2 es2.length :: (bf2.ents 4 (enV es2) ++ ([Ent.mem s2 [.int .u64 (again % 7 : Nat), .int .u64 (again % 2 : Nat), .int .u64 again, .slice none 0 0] 4]))) [[Ent.mem s2 [.int .u64 (again % 7 : Nat), .int .u64 (again % 2 : Nat), .int .u64 again, .slice none 0 0] 4], [LgE a to T V bf2 es2.length], bf2.ents 4 (enV es2), [Ent.mem s [.int .u64 to, .int .u64 T, .int .u64 V, .slice none 0 0] 4]] [1, 2, 0] rfl rfl rfl ?_
        refine j_heap (H' := LgH a to T V bf2 es2 [Ent.mem s2 [.int .u64 (again % 7 : Nat), .int .u64 (again % 2 : Nat), .int .u64 again, .slice none 0 0] 4]) rfl ?_
        refine o_end ?_
        refine r_seq ?_
        refine r_region rfl ?_
        refine o_val rfl rfl rfl rfl (v_move rfl) ?_
        refine o_val rfl rfl rfl rfl (v_loadAgg (sz := 4) (cs := [.int .u64 (again % 7 : Nat), .int .u64 (again % 2 : Nat), .int .u64 again, .slice none 0 0]) rfl rfl rfl rfl (fun j c hc => by rw [Nat.zero_add]; exact cell_own (n := 4) (cs := [.int .u64 (again % 7 : Nat), .int .u64 (again % 2 : Nat), .int .u64 again, .slice none 0 0]) (by simp [LgH]) hc)) ?_
        refine o_call rfl rfl rfl rfl (c_call callable24 rfl) (lg_Reset _ _ a to T V bf2 es2 _ (again % 7) (again % 2) again (.slice none 0 0)) ?_
        rintro v' F4 H' ⟨rfl, rfl⟩ _
        refine o_end ?_
        refine r_seq ?_
        refine r_region rfl ?_
        refine o_val rfl rfl rfl rfl (v_move rfl) ?_
        refine o_val rfl rfl rfl rfl (v_loadAgg (sz := 4) (cs := [.int .u64 (again % 7 : Nat), .int .u64 (again % 2 : Nat), .int .u64 again, .slice none 0 0]) rfl rfl rfl rfl (fun j c hc => by rw [Nat.zero_add]; exact cell_own (n := 4) (cs := [.int .u64 (again % 7 : Nat), .int .u64 (again % 2 : Nat), .int .u64 again, .slice none 0 0]) (by simp [LgH]) hc)) ?_
        refine o_call rfl rfl rfl rfl (c_call callable21 rfl) (law_told _ _ a (again % 7) (again % 2) again .nil [] [] (.slice none 0 0) _ _ rfl (by simp) (by simp) (Alike.refl _) (by simp) (by omega) (by simp) (Sl.nil _ _ _) rfl) ?_
        rintro v' F5 H' ⟨rfl, rfl⟩ hF5
        refine o_val rfl rfl rfl rfl (v_assign rfl) ?_
        refine o_end ?_
        exact r_ret1 Try.func7 rfl rfl ⟨rfl, Fz.le_trans hFF (Fz.le_trans hF4 hF5)⟩
    · skip
      have hT : (lgTerm ix tm es to).2 = false := by unfold lgTerm; rw [if_pos (by omega)]
      refine o_call rfl rfl rfl rfl (c_call callable23 rfl) (lg_CompactN _ _ a ix tm n bf es to _ (by omega) hok (by omega) hT) ?_
      rintro v' F3 H' ⟨rfl, rfl, rfl⟩ _
      refine o_val rfl rfl rfl rfl (v_assign rfl) ?_
      refine o_end ?_
      refine r_seq ?_
      refine r_seq ?_
      refine r_join (fun _ : Unit => True) (fun _ => [(11, ptrV s), (12, bfe.val es.length), (13, ptrV a), (15, .int .i64 1), (51, .bool true)]) (fun _ => F3) (fun _ => LgH a ix tm n bf es [Ent.mem s [.int .u64 ix, .int .u64 tm, .int .u64 n, .slice none 0 0] 4]) ?_ ?_
      · intro J
        refine r_region rfl ?_
        refine o_val rfl rfl rfl rfl (v_move rfl) ?_
        refine o_val rfl rfl rfl rfl (v_field (k := 0) rfl rfl rfl) ?_
        refine o_val rfl rfl rfl rfl (v_load (v := .int .u64 ix) rfl rfl (hcs _ _ tm n 0 _ (by simp [LgH]) rfl)) ?_
        refine o_val rfl rfl rfl rfl (v_lss rfl rfl) ?_
        refine j_prop 41 rfl (fun c => ?_) (fun c => ?_)
        · refine o_val rfl rfl rfl rfl (v_move rfl) ?_
          refine o_skip rfl rfl rfl rfl ?_
          refine o_skip rfl rfl rfl rfl ?_
          refine o_skip rfl rfl rfl rfl ?_
          refine o_skip rfl rfl rfl rfl ?_
          refine o_skip rfl rfl rfl rfl ?_
          refine o_skip rfl rfl rfl rfl ?_
          refine o_skip rfl rfl rfl rfl ?_
          refine o_skip rfl rfl rfl rfl ?_
          refine o_val rfl rfl rfl rfl (v_pick1 rfl rfl) ?_
          refine o_end ?_
          refine j_keep ?_ (J () trivial)
          exact ⟨rfl, rfl, rfl, rfl, rfl, trivial⟩
        · refine o_val rfl rfl rfl rfl (v_move rfl) ?_
          refine o_val rfl rfl rfl rfl (v_move rfl) ?_
          refine o_val rfl rfl rfl rfl (v_field (k := 0) rfl rfl rfl) ?_
          refine o_val rfl rfl rfl rfl (v_load (v := .int .u64 ix) rfl rfl (hcs _ _ tm n 0 _ (by simp [LgH]) rfl)) ?_
          refine o_val rfl rfl rfl rfl (v_move rfl) ?_
          refine o_val rfl rfl rfl rfl (v_len rfl rfl) ?_
          refine o_val rfl rfl rfl rfl (v_conv rfl rfl rfl (wrap_u64 (by omega) (by omega))) ?_
          refine o_val rfl rfl rfl rfl (v_add rfl rfl (r := ((ix + es.length : Nat) : Int)) (wrap_u64 (by omega) (by omega))) ?_
          refine o_val rfl rfl rfl rfl (v_gtr rfl rfl) ?_
          refine j_slot 50 rfl (v' := .bool true) (by rw [decide_eq_true (by omega)]) ?_
          refine o_val rfl rfl rfl rfl (v_pick0 rfl rfl) ?_
          refine o_end ?_
          refine j_keep ?_ (J () trivial)
          exact ⟨rfl, rfl, rfl, rfl, rfl, trivial⟩
      · rintro _ _
        refine r_true rfl ?_
        refine r_seq ?_
        refine r_region rfl ?_
        refine o_val rfl rfl rfl rfl (v_move rfl) ?_
        refine o_val rfl rfl rfl rfl (v_eql rfl rfl) ?_
        refine o_val rfl rfl rfl rfl (v_move rfl) ?_
        refine o_val rfl rfl rfl rfl (v_move rfl) ?_
        refine o_val rfl rfl rfl rfl (v_loadAgg (sz := 4) (cs := [.int .u64 ix, .int .u64 tm, .int .u64 n, .slice none 0 0]) rfl rfl rfl rfl (fun j c hc => hcs _ _ _ _ j c (by simp [LgH]) hc)) ?_
        refine o_val rfl rfl rfl rfl (v_move rfl) ?_
        refine o_call rfl rfl rfl rfl (c_call callable21 rfl) (law_told _ _ a ix tm n bf es es (.slice none 0 0) _ _ hok heok heok (Alike.refl _) (by omega) (by omega) hens.data hs3 rfl) ?_
        rintro v' F4 H' ⟨rfl, rfl⟩ hF4
        refine o_val rfl rfl rfl rfl (v_pick1 rfl rfl) ?_
        refine o_val rfl rfl rfl rfl (v_assign rfl) ?_
        refine o_end ?_
        exact r_ret1 Try.func7 rfl rfl ⟨rfl, Fz.le_trans hFF hF4⟩
  · exact absurd hnw hbad
theorem in_LogsCompacts (W : World) (n : Int) (hn : (Lit.int .u8 n).wf = true) (v : Value) (z0 : List Int) (h0 : InInts .u8 W v z0) (y0 : z0.length * 1 ≤ 140737488351232) (u : Value) (z1 : List Int) (h1 : InInts .u8 W u z1) (y1 : z1.length * 1 ≤ 140737488351232)
    (i : Int) (hi : (Lit.int .u64 i).wf = true) (t : Int) (ht : (Lit.int .u8 t).wf = true) :
    Calls Try.prog 7 #[.int .u8 n, v, u, .int .u64 i, .int .u8 t] W fun e w' => e = .returned (.bool true) ∧ Go.RowKit.Below W.heap.size W w' := by
  obtain ⟨l0, hl0, hv⟩ := inBytes h0
  obtain ⟨l1, hl1, hu⟩ := inBytes h1
  obtain ⟨n, rfl, hn'⟩ := inU8 hn
  obtain ⟨i, rfl, hi'⟩ := inU64 hi
  obtain ⟨t, rfl, ht'⟩ := inU8 ht
  exact below_of_does (law_LogsCompacts _ _ n _ _ l0 l1 i t hn' hi' ht' hv hu)
end Go.SX
