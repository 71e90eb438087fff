/-
  Contracts of package logs: a new log, one more entry.
-/
import Derived.Test.YthhcfpignfiabaaLogs2
namespace Go.SX
open Go Go.Proofs
set_option linter.unusedSimpArgs false
set_option linter.unusedVariables false

theorem perm_in {α : Type} (x y : α) (l m : List α) : (x :: y :: (l ++ m)).Perm (y :: (l ++ x :: m)) := (List.Perm.swap _ _ _).trans (List.perm_middle.symm.cons _)
theorem drop_in {α : Type} (x y : α) (l m : List α) : (y :: (l ++ m)).Sublist (y :: (l ++ x :: m)) := ((List.Sublist.refl l).append (List.sublist_cons_self x m)).cons_cons y

theorem lgH_eq {a ix tm vt n : Nat} {bf : Bf} {l : List En} {Fr : List Ent} (h : l.length = n) : LgE a ix tm vt bf n :: (bf.ents 4 (enV l) ++ Fr) = LgH a ix tm vt bf l Fr := by subst h; rfl
/-- Entries stand one behind the other. -/
def lgNew (ix tm : Nat) (l : List En) : Prop := ∀ (i : Nat) (h : i < l.length), l[i].ix = ix + i + 1 ∧ lgLastTerm ix tm (l.take i) ≤ l[i].tm

theorem sl_lit {F : Fz} {H : List Ent} {b : Nat} {e : En} (hm : Ent.mem b e.cells 4 ∈ H) : Sl F H 4 (.slice (some ⟨b, 0, none⟩) 1 1) 1 (enV [e]) :=
  ⟨_, 1, rfl, by simp, Nat.le_refl _, by simp, fun j c hj => ⟨b, 0, rfl, cell_own (cs := e.cells) (n := 4) hm (by simpa [enV] using hj)⟩⟩

theorem lg_New (O : World) (F : Fz) (ix tm vt : Nat) (dv v : Value) (l : List En) (Fr : List Ent) (hv : Sl F Fr 4 v l.length (enV l)) (hl : ∀ e ∈ l, e.ok F) (hn : l.length ≤ 1000000) (hb : ix + l.length + 1 < 18446744073709551616) :
    Does Try.prog O 13 #[.agg #[.int .u64 ix, .int .u64 tm, .int .u64 vt, dv], v] F Fr
      (fun r F' H' => F' = F ∧ ((lgNew ix tm l ∧ ∃ a bf, bf.ok l.length ∧ r = .tuple #[ptrV a, .int .i64 0] ∧ H' = LgH a ix tm vt bf l Fr) ∨ (¬ lgNew ix tm l ∧ r = .tuple #[nilP, .int .i64 1] ∧ H' = Fr))) := by
  obtain ⟨a0, cap, rfl, hcap⟩ := Sl.shape hv
  refine does_of_run (args := [_, _]) Try.func13 rfl rfl ?_
  refine r_seq ?_
  refine r_region rfl ?_
  refine o_act rfl rfl rfl rfl (a_box rfl) ?_
  rintro v' H' ⟨s0, rfl, rfl⟩
  refine o_val rfl rfl rfl rfl (v_assign rfl) ?_
  refine o_val rfl rfl rfl rfl (v_assign rfl) ?_
  refine o_end ?_
  refine r_seq ?_
  refine r_region rfl ?_
  refine o_val rfl rfl rfl rfl (v_field (k := 0) rfl rfl rfl) ?_
  refine o_val rfl rfl rfl rfl (v_load rfl rfl (cell_at (j := 0) rfl rfl)) ?_
  refine o_val rfl rfl rfl rfl (v_field (k := 1) rfl rfl rfl) ?_
  refine o_val rfl rfl rfl rfl (v_load rfl rfl (cell_at (j := 0) rfl rfl)) ?_
  refine o_val rfl rfl rfl rfl (v_field (k := 2) rfl rfl rfl) ?_
  refine o_val rfl rfl rfl rfl (v_load rfl rfl (cell_at (j := 0) rfl rfl)) ?_
  refine o_val rfl rfl rfl rfl (v_build rfl rfl) ?_
  refine o_act rfl rfl rfl rfl (a_box rfl) ?_
  rintro v' H' ⟨a, rfl, rfl⟩
  refine j_drop (H' := LgE a ix tm vt .nil 0 :: Fr) ((List.sublist_cons_self _ _).cons_cons _) ?_
  refine o_val rfl rfl rfl rfl (v_assign rfl) ?_
  refine o_end ?_
  refine r_seq ?_
  refine r_seq ?_
  refine r_region rfl ?_
  refine o_val rfl rfl rfl rfl (v_move rfl) ?_
  refine o_val rfl rfl rfl rfl (v_len rfl rfl) ?_
  refine o_val rfl rfl rfl rfl (v_move rfl) ?_
  refine o_end ?_
  refine r_block ?_
  refine r_loop (fun g : Nat × Bf => g.1 ≤ l.length ∧ g.2.ok g.1 ∧ ∀ (i : Nat) (h : i < l.length), i < g.1 → l[i].ix = ix + i + 1 ∧ lgLastTerm ix tm (l.take i) ≤ l[i].tm) (fun g => [(6, ptrV a), (17, .slice a0 l.length cap), (18, .int .i64 l.length), (19, .int .i64 g.1)]) (fun _ => F) (fun g => LgE a ix tm vt g.2 g.1 :: (g.2.ents 4 (enV (l.take g.1)) ++ Fr)) (fun g => l.length - g.1)
    (0, .nil) ⟨Nat.zero_le _, rfl, fun i _ h => by cases h⟩ ⟨rfl, rfl, rfl, rfl, trivial⟩ rfl rfl ?_
  rintro ⟨i, bf⟩ ⟨hi, hok, hold⟩ IH
  dsimp only at hi hok hold ⊢
  refine r_seq ?_
  refine r_region rfl ?_
  refine o_val rfl rfl rfl rfl (v_lss rfl rfl) ?_
  refine o_end ?_
  refine r_seq ?_
  refine r_if rfl (fun h => ?_) (fun h => ?_)
  · have hil : i < l.length := by omega
    obtain ⟨b0, off0, c0, hab, _, hcell⟩ := Sl.view hv (by omega)
    simp only [Value.slice.injEq] at hab
    obtain ⟨rfl, _, rfl⟩ := hab
    have he := hl l[i] (List.getElem_mem _)
    have hlt : (l.take i).length = i := by simp; omega
    have htk : l.take (i + 1) = l.take i ++ [l[i]] := List.take_succ_eq_append_getElem hil
    have hc : ∀ H, Fr ⊆ H → ∀ j c, l[i].cells[j]? = some c → Cell F H b0 (off0 + i * 4 + j) c := fun H hH j c hj => by
      have hj4 : j < 4 := by
        rcases Nat.lt_or_ge j 4 with h | h
        · exact h
        · rw [List.getElem?_eq_none (by simp [En.cells]; exact h)] at hj; cases hj
      have := hcell (i * 4 + j) c (by rw [enV_get l i hil j hj4]; exact hj)
      rw [← Nat.add_assoc] at this
      exact this.mono (Fz.le_refl _) hH
    have hnew : lgNew ix tm l → l[i].ix = ix + i + 1 ∧ lgLastTerm ix tm (l.take i) ≤ l[i].tm := fun h => h i hil
    have hold' : (l[i].ix = ix + i + 1 ∧ lgLastTerm ix tm (l.take i) ≤ l[i].tm) → ∀ (j : Nat) (h : j < l.length), j < i + 1 → l[j].ix = ix + j + 1 ∧ lgLastTerm ix tm (l.take j) ≤ l[j].tm := fun h j hj hji => by
      by_cases hje : j = i
      · subst hje; exact h
      · exact hold j hj (by omega)
    generalize l[i] = e at *
    refine r_skip ?_
    refine r_seq ?_
    refine r_block ?_
    refine r_seq ?_
    refine r_region rfl ?_
    refine o_val rfl rfl rfl rfl (v_indexN (sz := 4) rfl rfl rfl rfl hil) ?_
    refine o_val rfl rfl rfl rfl (v_loadAgg (sz := 4) (cs := e.cells) rfl rfl rfl rfl (hc _ (fun q hq => List.mem_cons_of_mem _ (List.mem_append_right _ hq)))) ?_
    refine o_act rfl rfl rfl rfl (a_alloc rfl) ?_
    rintro v' H' ⟨x, rfl, rfl⟩
    refine o_act0 rfl rfl rfl (a_store (sz := 4) 0 rfl rfl rfl (by obtain ⟨ad, cd, hd, _⟩ := Sl.shape he.dv; simp [Value.cells, En.cells, hd, oneCellB]) rfl rfl (Nat.le_of_ble_eq_true rfl)) ?_
    refine j_heap (H' := .mem x e.cells 4 :: LgE a ix tm vt bf i :: (bf.ents 4 (enV (l.take i)) ++ Fr)) rfl ?_
    refine j_perm (perm_in _ _ _ _) ?_
    refine o_end ?_
    refine r_seq ?_
    refine r_seq ?_
    refine d_region 1000000 rfl ([.mem x e.cells 4]) ?_
    refine d_take (i := 0) rfl rfl rfl (by decide +kernel) (by decide +kernel) (by decide +kernel) (Fz.le_refl _) (by simp) rfl (v_field (k := 0) rfl rfl rfl) ?_
    refine d_take (i := 1) rfl rfl rfl (by decide +kernel) (by decide +kernel) (by decide +kernel) (Fz.le_refl _) (by simp) rfl (v_load (v := .int .u64 e.ix) rfl rfl (cell_at (j := 0) rfl rfl)) ?_
    refine d_take (i := 2) rfl rfl rfl (by decide +kernel) (by decide +kernel) (by decide +kernel) (Fz.le_refl _) (by simp) rfl (v_move rfl) ?_
    refine d_one (i := 3) (by decide +kernel) ?_
    refine d1_call rfl rfl rfl rfl (c_call callable17 rfl) (lg_Last _ _ a ix tm vt bf i _ (by omega)) ?_
    rintro v' F' H' ⟨rfl, rfl, rfl⟩ _
    refine ⟨fun w hw => held_of hw (Fz.le_refl _) (by simp), ?_⟩
    refine d_take (i := 4) rfl rfl rfl (by decide +kernel) (by decide +kernel) (by decide +kernel) (Fz.le_refl _) (by simp) rfl (v_add rfl rfl (wrap_u64 (by omega) (by omega))) ?_
    refine d_take (i := 5) rfl rfl rfl (by decide +kernel) (by decide +kernel) (by decide +kernel) (Fz.le_refl _) (by simp) rfl (v_neq rfl rfl) ?_
    refine d_take (i := 6) rfl rfl rfl (by decide +kernel) (by decide +kernel) (by decide +kernel) (Fz.le_refl _) (by simp) rfl (v_move rfl) ?_
    have hdrop : Fr.Sublist (LgE a ix tm vt bf i :: (bf.ents 4 (enV (l.take i)) ++ .mem x e.cells 4 :: Fr)) := ((List.sublist_cons_self _ _).trans (List.sublist_append_right _ _)).trans (List.sublist_cons_self _ _)
    refine j_prop 29 rfl (fun h2 => ?_) (fun h2 => ?_)
    · refine d_skip (i := 7) rfl rfl rfl (by decide +kernel) (by decide +kernel) (by decide +kernel) (Fz.le_refl _) (by simp) rfl ?_
      refine d_skip (i := 8) rfl rfl rfl (by decide +kernel) (by decide +kernel) (by decide +kernel) (Fz.le_refl _) (by simp) rfl ?_
      refine d_skip (i := 9) rfl rfl rfl (by decide +kernel) (by decide +kernel) (by decide +kernel) (Fz.le_refl _) (by simp) rfl ?_
      refine d_skip (i := 10) rfl rfl rfl (by decide +kernel) (by decide +kernel) (by decide +kernel) (Fz.le_refl _) (by simp) rfl ?_
      refine d_skip (i := 11) rfl rfl rfl (by decide +kernel) (by decide +kernel) (by decide +kernel) (Fz.le_refl _) (by simp) rfl ?_
      refine d_take (i := 12) rfl rfl rfl (by decide +kernel) (by decide +kernel) (by decide +kernel) (Fz.le_refl _) (by simp) rfl (v_pick1 rfl rfl) ?_
      refine d_end (by decide +kernel) ?_
      refine r_true rfl ?_
      refine r_seq ?_
      refine r_region rfl ?_
      refine o_val rfl rfl rfl rfl (v_assign rfl) ?_
      refine o_val rfl rfl rfl rfl (v_assign rfl) ?_
      refine o_end ?_
      refine j_drop hdrop ?_
      exact r_ret2 Try.func13 rfl rfl rfl ⟨⟨rfl, .inr ⟨fun hh => h2 (by have := (hnew hh).1; omega), rfl, rfl⟩⟩, Fz.le_refl _⟩
    · refine d_take (i := 7) rfl rfl rfl (by decide +kernel) (by decide +kernel) (by decide +kernel) (Fz.le_refl _) (by simp) rfl (v_field (k := 1) rfl rfl rfl) ?_
      refine d_take (i := 8) rfl rfl rfl (by decide +kernel) (by decide +kernel) (by decide +kernel) (Fz.le_refl _) (by simp) rfl (v_load (v := .int .u64 e.tm) rfl rfl (cell_at (j := 0) rfl rfl)) ?_
      refine d_take (i := 9) rfl rfl rfl (by decide +kernel) (by decide +kernel) (by decide +kernel) (Fz.le_refl _) (by simp) rfl (v_move rfl) ?_
      refine j_heap (lgH_eq hlt) ?_
      refine d_one (i := 10) (by decide +kernel) ?_
      refine d1_call rfl rfl rfl rfl (c_call callable14 rfl) (lg_LastTerm _ _ a ix tm vt bf (l.take i) _ (by omega) (by rw [hlt]; exact hok)) ?_
      rintro v' F' H' ⟨rfl, rfl, rfl⟩ _
      refine ⟨fun w hw => held_of hw (Fz.le_refl _) (by simp), ?_⟩
      refine j_heap (lgH_eq hlt).symm ?_
      refine d_take (i := 11) rfl rfl rfl (by decide +kernel) (by decide +kernel) (by decide +kernel) (Fz.le_refl _) (by simp) rfl (v_lss rfl rfl) ?_
      refine d_take (i := 12) rfl rfl rfl (by decide +kernel) (by decide +kernel) (by decide +kernel) (Fz.le_refl _) (by simp) rfl (v_pick0 rfl rfl) ?_
      refine d_end (by decide +kernel) ?_
      refine r_if rfl (fun h3 => ?_) (fun h3 => ?_)
      · refine r_seq ?_
        refine r_region rfl ?_
        refine o_val rfl rfl rfl rfl (v_assign rfl) ?_
        refine o_val rfl rfl rfl rfl (v_assign rfl) ?_
        refine o_end ?_
        refine j_drop hdrop ?_
        exact r_ret2 Try.func13 rfl rfl rfl ⟨⟨rfl, .inr ⟨fun hh => by have := (hnew hh).2; omega, rfl, rfl⟩⟩, Fz.le_refl _⟩
      · refine r_skip ?_
        refine d_region 10 rfl ([LgE a ix tm vt bf i, .mem x e.cells 4]) ?_
        refine d_take (i := 0) rfl rfl rfl (by decide +kernel) (by decide +kernel) (by decide +kernel) (Fz.le_refl _) (by simp) rfl (v_move rfl) ?_
        refine d_take (i := 1) rfl rfl rfl (by decide +kernel) (by decide +kernel) (by decide +kernel) (Fz.le_refl _) (by simp) rfl (v_move rfl) ?_
        refine d_take (i := 2) rfl rfl rfl (by decide +kernel) (by decide +kernel) (by decide +kernel) (Fz.le_refl _) (by simp) rfl (v_nilCheck rfl) ?_
        refine d_take (i := 3) rfl rfl rfl (by decide +kernel) (by decide +kernel) (by decide +kernel) (Fz.le_refl _) (by simp) rfl (v_field (k := 3) rfl rfl rfl) ?_
        refine d_take (i := 4) rfl rfl rfl (by decide +kernel) (by decide +kernel) (by decide +kernel) (Fz.le_refl _) (by simp) rfl (v_load rfl rfl (cell_at (j := 0) rfl rfl)) ?_
        refine d_take (i := 5) rfl rfl rfl (by decide +kernel) (by decide +kernel) (by decide +kernel) (Fz.le_refl _) (by simp) rfl (v_loadAgg (sz := 4) (cs := e.cells) rfl rfl rfl rfl (fun j c hc => cell_at (j := 1) rfl (by simpa using hc))) ?_
        refine d_one (i := 6) (by decide +kernel) ?_
        refine d1_act rfl rfl rfl rfl (a_buildS (sz := 4) (cs := e.cells) [.tmp 41] rfl rfl rfl rfl rfl rfl rfl rfl rfl rfl) ?_
        rintro v' H' ⟨y, rfl, rfl⟩
        refine ⟨fun w hw => held_of hw (Fz.le_refl _) (by simp), ?_⟩
        refine d_one (i := 7) (by decide +kernel) ?_
        refine d1_act rfl rfl rfl rfl (a_appendP (bf := bf) (n := i) (sz := 4) (bytes := 48) [.mem y e.cells 4, LgE a ix tm vt bf i] ⟨⟨_, _, _, rfl, rfl, rfl, rfl, rfl, rfl⟩, by decide⟩ rfl hok (by rw [enV_length, hlt]) rfl rfl (sl_lit (e := e) (List.mem_cons_self ..)) (by simpa [enV] using he.one) (by unfold maxLen; omega) (by omega)) ?_
        rintro v' H' ⟨bf2, rfl, hok2, rfl⟩
        refine ⟨fun w hw => held_of hw (Fz.le_refl _) (by simp), ?_⟩
        refine d_take (i := 8) rfl rfl rfl (by decide +kernel) (by decide +kernel) (by decide +kernel) (Fz.le_refl _) (by simp) rfl (v_nilCheck rfl) ?_
        refine d_take (i := 9) rfl rfl rfl (by decide +kernel) (by decide +kernel) (by decide +kernel) (Fz.le_refl _) (by simp) rfl (v_field (k := 3) rfl rfl rfl) ?_
        refine d_one (i := 10) (by decide +kernel) ?_
        refine d1_last 1000000 ([]) rfl rfl rfl (a_store1 1 rfl rfl rfl rfl rfl (Nat.le_of_ble_eq_true rfl)) ?_
        refine j_drop (H' := LgE a ix tm vt bf2 (i + 1) :: (bf2.ents 4 (enV (l.take i) ++ enV [e]) ++ Fr)) ((drop_in _ _ _ _).trans (List.sublist_cons_self _ _)) ?_
        rw [← enV_append, ← htk]
        refine d_end (by decide +kernel) ?_
        refine r_inBlock ?_
        refine r_region rfl ?_
        refine o_val rfl rfl rfl rfl (v_add rfl rfl (wrap_i64 (by omega) (by omega))) ?_
        refine o_val rfl rfl rfl rfl (v_move rfl) ?_
        refine o_end ?_
        refine j_keep ?_ (IH (i + 1, bf2) ⟨hil, hok2, hold' ⟨by omega, by omega⟩⟩ (by dsimp only; omega))
        exact ⟨rfl, rfl, rfl, rfl, trivial⟩
  · obtain rfl : i = l.length := by omega
    have hnw : lgNew ix tm l := fun j hj => hold j hj hj
    rw [List.take_length]
    refine r_exit rfl ?_
    refine r_seq ?_
    refine r_region rfl ?_
    refine o_val rfl rfl rfl rfl (v_move rfl) ?_
    refine o_val rfl rfl rfl rfl (v_assign rfl) ?_
    refine o_val rfl rfl rfl rfl (v_assign rfl) ?_
    refine o_end ?_
    exact r_ret2 Try.func13 rfl rfl rfl ⟨⟨rfl, .inl ⟨hnw, a, bf, hok, rfl, rfl⟩⟩, Fz.le_refl _⟩

theorem lg_Put (O : World) (F : Fz) (a ix tm vt : Nat) (bf : Bf) (l : List En) (t k : Nat) (dv : Value) (data : List UInt8) (Fr : List Ent) (hok : bf.ok l.length) (hn : l.length ≤ 1000000) (hb : ix + l.length + 1 < 18446744073709551616)
    (ht : t < 18446744073709551616) (hk : k < 256) (hd : SlB F [] dv data) (hdl : data.length ≤ 140737488355328) :
    Does Try.prog O 22 #[ptrV a, .int .u64 t, .int .u8 k, dv] F (LgH a ix tm vt bf l Fr)
      (fun r F' H' => r = .int .u64 (ix + l.length + 1 : Nat) ∧ ∃ e bf', e.ok F' ∧ e.ix = ix + l.length + 1 ∧ e.tm = t ∧ e.kd = k ∧ e.data = data ∧ bf'.ok (l ++ [e]).length ∧ H' = LgH a ix tm vt bf' (l ++ [e]) Fr) := by
  refine does_of_run (args := [_, _, _, _]) Try.func22 rfl rfl ?_
  refine r_seq ?_
  refine r_region rfl ?_
  refine o_val rfl rfl rfl rfl (v_assign rfl) ?_
  refine o_end ?_
  refine r_seq ?_
  refine r_seq ?_
  refine r_region rfl ?_
  refine o_val rfl rfl rfl rfl (v_move rfl) ?_
  refine o_val rfl rfl rfl rfl (v_peqnil rfl rfl rfl) ?_
  refine o_end ?_
  refine r_false rfl ?_
  refine r_skip ?_
  refine r_seq ?_
  refine r_region rfl ?_
  refine o_val rfl rfl rfl rfl (v_move rfl) ?_
  refine o_call rfl rfl rfl rfl (c_call callable17 rfl) (lg_Last _ _ a ix tm vt bf l.length _ (by omega)) ?_
  rintro v' F H' ⟨rfl, rfl, rfl⟩ _
  refine o_val rfl rfl rfl rfl (v_add rfl rfl (r := ((ix + l.length + 1 : Nat) : Int)) (wrap_u64 (by omega) (by omega))) ?_
  refine o_val rfl rfl rfl rfl (v_move rfl) ?_
  refine o_val rfl rfl rfl rfl (v_move rfl) ?_
  refine o_val rfl rfl rfl rfl (v_move rfl) ?_
  refine o_call rfl rfl rfl rfl (c_call callable33 rfl) (sl_Clone _ _ _ data _ (hd.frz (Fz.le_refl _)) hdl) ?_
  rintro v' F H' ⟨rfl, bfc, hokc, rfl, rfl⟩ _
  refine j_freezeBf hokc (by simp) fun F1 hF1 hs1 => ?_
  obtain ⟨e, he⟩ : ∃ e : En, e = ⟨ix + l.length + 1, t, k, bfc.val data.length, data⟩ := ⟨_, rfl⟩
  have heok : e.ok F1 := by rw [he]; exact ⟨hb, ht, hk, hs1⟩
  have hec : e.cells = [.int .u64 (ix + l.length + 1 : Nat), .int .u64 t, .int .u8 k, bfc.val data.length] := by rw [he]; rfl
  refine o_val rfl rfl rfl rfl (v_build rfl rfl) ?_
  refine o_act rfl rfl rfl rfl (a_alloc rfl) ?_
  rintro v' H' ⟨x, rfl, rfl⟩
  refine o_act0 rfl rfl rfl (a_store (sz := 4) 0 rfl rfl rfl rfl rfl rfl (Nat.le_of_ble_eq_true rfl)) ?_
  refine j_heap (H' := .mem x e.cells 4 :: LgE a ix tm vt bf l.length :: (bf.ents 4 (enV l) ++ Fr)) (by rw [hec]; rfl) ?_
  refine o_end ?_
  refine r_seq ?_
  refine d_region 10 rfl ([LgE a ix tm vt bf l.length, .mem x e.cells 4]) ?_
  refine d_take (i := 0) rfl rfl rfl (by decide +kernel) (by decide +kernel) (by decide +kernel) (Fz.le_refl _) (by simp) rfl (v_move rfl) ?_
  refine d_take (i := 1) rfl rfl rfl (by decide +kernel) (by decide +kernel) (by decide +kernel) (Fz.le_refl _) (by simp) rfl (v_move rfl) ?_
  refine d_take (i := 2) rfl rfl rfl (by decide +kernel) (by decide +kernel) (by decide +kernel) (Fz.le_refl _) (by simp) rfl (v_nilCheck rfl) ?_
  refine d_take (i := 3) rfl rfl rfl (by decide +kernel) (by decide +kernel) (by decide +kernel) (Fz.le_refl _) (by simp) rfl (v_field (k := 3) rfl rfl rfl) ?_
  refine d_take (i := 4) rfl rfl rfl (by decide +kernel) (by decide +kernel) (by decide +kernel) (Fz.le_refl _) (by simp) rfl (v_load rfl rfl (cell_at (j := 0) rfl rfl)) ?_
  refine d_take (i := 5) rfl rfl rfl (by decide +kernel) (by decide +kernel) (by decide +kernel) (Fz.le_refl _) (by simp) rfl (v_loadAgg (sz := 4) (cs := e.cells) rfl rfl rfl rfl (fun j c hc => cell_at (j := 1) rfl (by simpa using hc))) ?_
  refine d_one (i := 6) (by decide +kernel) ?_
  refine d1_act rfl rfl rfl rfl (a_buildS (sz := 4) (cs := e.cells) [.tmp 25] rfl rfl rfl rfl rfl rfl rfl rfl rfl rfl) ?_
  rintro v' H' ⟨y, rfl, rfl⟩
  refine ⟨fun w hw => held_of hw (Fz.le_refl _) (by simp), ?_⟩
  refine d_one (i := 7) (by decide +kernel) ?_
  refine d1_act rfl rfl rfl rfl (a_appendP (bf := bf) (n := l.length) (sz := 4) (bytes := 48) [.mem y e.cells 4, .mem x e.cells 4, LgE a ix tm vt bf l.length] ⟨⟨_, _, _, rfl, rfl, rfl, rfl, rfl, rfl⟩, by decide⟩ rfl hok (by rw [enV_length]) rfl rfl (sl_lit (e := e) (List.mem_cons_self ..)) (by simpa [enV] using heok.one) (by unfold maxLen; omega) (by omega)) ?_
  rintro v' H' ⟨bf2, rfl, hok2, rfl⟩
  refine ⟨fun w hw => held_of hw (Fz.le_refl _) (by simp), ?_⟩
  refine d_take (i := 8) rfl rfl rfl (by decide +kernel) (by decide +kernel) (by decide +kernel) (Fz.le_refl _) (by simp) rfl (v_nilCheck rfl) ?_
  refine d_take (i := 9) rfl rfl rfl (by decide +kernel) (by decide +kernel) (by decide +kernel) (Fz.le_refl _) (by simp) rfl (v_field (k := 3) rfl rfl rfl) ?_
  refine d_one (i := 10) (by decide +kernel) ?_
  refine d1_last 1000000 ([]) rfl rfl rfl (a_store1 2 rfl rfl rfl rfl rfl (Nat.le_of_ble_eq_true rfl)) ?_
  refine d_end (by decide +kernel) ?_
  refine r_seq ?_
  refine r_region rfl ?_
  refine o_val rfl rfl rfl rfl (v_field (k := 0) rfl rfl rfl) ?_
  refine o_val rfl rfl rfl rfl (v_load (v := .int .u64 (ix + l.length + 1 : Nat)) rfl rfl (cell_at (j := 1) rfl (by rw [hec]; rfl))) ?_
  refine o_val rfl rfl rfl rfl (v_assign rfl) ?_
  refine o_end ?_
  refine j_drop (H' := LgE a ix tm vt bf2 (l.length + 1) :: (bf2.ents 4 (enV l ++ enV [e]) ++ Fr)) ((List.sublist_cons_self _ _).trans (List.sublist_cons_self _ _)) ?_
  rw [← enV_append]
  refine j_heap (lgH_eq (l := l ++ [e]) (by simp)) ?_
  refine r_ret1 Try.func22 rfl rfl ⟨⟨rfl, e, bf2, heok, by rw [he], by rw [he], by rw [he], by rw [he], by simpa using hok2, rfl⟩, hF1⟩

theorem law_awake (O : World) (F : Fz) (H : List Ent) : Does Try.prog O 10 #[] F H (fun r _ H' => r = .bool true ∧ H' = H) := by
  refine does_of_run (args := []) Try.func10 rfl rfl ?_
  refine r_seq ?_
  refine r_region rfl ?_
  refine o_val rfl rfl rfl rfl (v_assign rfl) ?_
  refine o_end ?_
  refine r_seq ?_
  refine r_region rfl ?_
  refine o_val rfl rfl rfl rfl (v_build rfl rfl) ?_
  refine o_call rfl rfl rfl rfl (c_call callable13 rfl) (lg_New _ _ 5 2 0 (.slice none 0 0) (.slice none 0 0) [] H (Sl.nil _ _ _) (by simp) (by decide) (by decide)) ?_
  rintro v' F' H' ⟨rfl, h1⟩ _
  rcases h1 with ⟨_, a, bf, hok, rfl, rfl⟩ | ⟨h2, _⟩
  · refine o_val rfl rfl rfl rfl (v_move rfl) ?_
    refine o_val rfl rfl rfl rfl (v_extract rfl rfl) ?_
    refine o_val rfl rfl rfl rfl (v_extract rfl rfl) ?_
    refine o_val rfl rfl rfl rfl (v_assign rfl) ?_
    refine o_val rfl rfl rfl rfl (v_assign rfl) ?_
    refine o_end ?_
    refine r_seq ?_
    refine r_region rfl ?_
    refine o_val rfl rfl rfl rfl (v_move rfl) ?_
    refine o_val rfl rfl rfl rfl (v_eql rfl rfl) ?_
    refine o_val rfl rfl rfl rfl (v_move rfl) ?_
    refine o_val rfl rfl rfl rfl (v_move rfl) ?_
    refine o_act rfl rfl rfl rfl (a_buildS (sz := 1) (cs := [byteV 120]) [.const (.int .u8 120)] rfl rfl rfl rfl rfl rfl rfl rfl rfl rfl) ?_
    rintro v' H' ⟨y, rfl, rfl⟩
    refine o_actF rfl rfl rfl rfl (a_same 0 rfl rfl rfl rfl) ?_
    rintro v' F1 H' ⟨rfl, ⟨all, el, fz, hb, hall⟩, rfl⟩ hF1
    have hs : SlB F1 [] (.slice (some ⟨y, 0, none⟩) 1 1) [120] := ⟨_, _, rfl, rfl, by decide, by simp, fun i c hc => ⟨y, 0, rfl, cell_frz hb (by simpa using hall i c hc)⟩⟩
    refine o_call rfl rfl rfl rfl (c_call callable22 rfl) (lg_Put _ _ a 5 2 0 bf [] 2 0 _ [120] H hok (by decide) (by decide) (by decide) (by decide) hs (by decide)) ?_
    rintro v' F2 H' ⟨rfl, e, bf2, heok, hei, het, hek, hed, hok2, rfl⟩ hF2
    refine o_val rfl rfl rfl rfl (v_eql rfl rfl) ?_
    refine o_val rfl rfl rfl rfl (v_pick1 rfl rfl) ?_
    refine o_val rfl rfl rfl rfl (v_move rfl) ?_
    refine o_val rfl rfl rfl rfl (v_move rfl) ?_
    refine o_call rfl rfl rfl rfl (c_call callable17 rfl) (lg_Last _ _ a 5 2 0 bf2 1 _ (by decide)) ?_
    rintro v' F2 H' ⟨rfl, rfl, rfl⟩ _
    refine o_val rfl rfl rfl rfl (v_eql rfl rfl) ?_
    refine o_val rfl rfl rfl rfl (v_pick1 rfl rfl) ?_
    refine o_val rfl rfl rfl rfl (v_move rfl) ?_
    refine o_val rfl rfl rfl rfl (v_move rfl) ?_
    refine o_call rfl rfl rfl rfl (c_call callable14 rfl) (lg_LastTerm _ _ a 5 2 0 bf2 [e] _ (by simp) hok2) ?_
    rintro v' F2 H' ⟨rfl, rfl, rfl⟩ _
    have ht2 : lgLastTerm 5 2 [e] = 2 := by simp [lgLastTerm, lgTerm, het]
    rw [ht2]
    refine o_val rfl rfl rfl rfl (v_eql rfl rfl) ?_
    refine o_val rfl rfl rfl rfl (v_pick1 rfl rfl) ?_
    refine o_val rfl rfl rfl rfl (v_assign rfl) ?_
    refine o_end ?_
    refine j_drop ((List.sublist_append_right _ _).trans (List.sublist_cons_self _ _)) ?_
    exact r_ret1 Try.func10 rfl rfl ⟨⟨rfl, rfl⟩, Fz.le_trans hF1 hF2⟩
  · exact absurd (fun i h => by cases h) h2

theorem law_LogsMasks (O : World) (F : Fz) (n : Nat) (v : Value) (l : List UInt8) (hn : n < 18446744073709551616) (hv : SlB F [] v l) : Does Try.prog O 4 #[.int .u64 n, v] F [] (fun r _ _ => r = .bool true) := by
  obtain ⟨a0, cap, rfl, hcap⟩ := Sl.shape hv
  refine does_of_run (args := [_, _]) Try.func4 rfl rfl ?_
  refine r_seq ?_
  refine r_region rfl ?_
  refine o_val rfl rfl rfl rfl (v_assign rfl) ?_
  refine o_end ?_
  refine r_seq ?_
  refine r_seq ?_
  refine r_region rfl ?_
  refine o_call rfl rfl rfl rfl (c_call callable10 rfl) (law_awake _ _ _) ?_
  rintro v' F1 H' ⟨rfl, rfl⟩ hF1
  refine o_val rfl rfl rfl rfl (v_not rfl) ?_
  refine o_val rfl rfl rfl rfl (v_move rfl) ?_
  refine o_val rfl rfl rfl rfl (v_move rfl) ?_
  refine o_val rfl rfl rfl rfl (v_len rfl rfl) ?_
  refine o_val rfl rfl rfl rfl (v_gtr rfl rfl) ?_
  refine o_val rfl rfl rfl rfl (v_pick0 rfl rfl) ?_
  refine o_end ?_
  refine r_if rfl (fun h => ?_) (fun h => ?_)
  · refine r_seq ?_
    refine r_region rfl ?_
    refine o_call rfl rfl rfl rfl (c_call callable10 rfl) (law_awake _ _ _) ?_
    rintro v' F2 H' ⟨rfl, rfl⟩ hF2
    refine o_val rfl rfl rfl rfl (v_assign rfl) ?_
    refine o_end ?_
    exact r_ret1 Try.func4 rfl rfl ⟨rfl, Fz.le_trans hF1 hF2⟩
  · have hm : maskB (leB 8 n) = n := by
      unfold maskB
      rw [List.take_of_length_le (by simp)]
      exact leN_leB 8 n hn
    refine r_skip ?_
    refine r_seq ?_
    refine r_region rfl ?_
    refine o_val rfl rfl rfl rfl (v_move rfl) ?_
    refine o_call rfl rfl rfl rfl (c_call callable19 rfl) (lg_Bytes _ _ n _) ?_
    rintro v' F1 H' ⟨rfl, bf, hok, rfl, rfl⟩ _
    refine o_call rfl rfl rfl rfl (c_call callable18 rfl) (lg_Mask _ _ _ (leB 8 n) _ (Bf.reads (bf := bf) (sz := 1) (n := 8) hok (by simp) (by intro e he; exact List.mem_append_left _ he)) (by simp)) ?_
    rintro v' F1 H' ⟨rfl, rfl, rfl⟩ _
    rw [hm]
    refine j_drop (List.sublist_append_right _ _) ?_
    refine o_val rfl rfl rfl rfl (v_move rfl) ?_
    refine o_val rfl rfl rfl rfl (v_eql rfl rfl) ?_
    refine j_slot 17 rfl (v' := .bool true) (by rw [decide_eq_true rfl]) ?_
    refine o_val rfl rfl rfl rfl (v_move rfl) ?_
    refine o_val rfl rfl rfl rfl (v_move rfl) ?_
    refine o_call rfl rfl rfl rfl (c_call callable19 rfl) (lg_Bytes _ _ n _) ?_
    rintro v' F1 H' ⟨rfl, bf, hok, rfl, rfl⟩ _
    refine j_drop (List.sublist_append_right _ _) ?_
    refine o_val rfl rfl rfl rfl (v_len rfl rfl) ?_
    refine o_val rfl rfl rfl rfl (v_eql rfl rfl) ?_
    refine o_val rfl rfl rfl rfl (v_pick1 rfl rfl) ?_
    refine o_val rfl rfl rfl rfl (v_move rfl) ?_
    refine o_val rfl rfl rfl rfl (v_move rfl) ?_
    refine o_call rfl rfl rfl rfl (c_call callable18 rfl) (lg_Mask _ _ _ l _ (hv.frz hF1) (by omega)) ?_
    rintro v' F1 H' ⟨rfl, rfl, rfl⟩ _
    refine o_val rfl rfl rfl rfl (v_move rfl) ?_
    refine o_call rfl rfl rfl rfl (c_call callable20 rfl) (ref_Mask _ _ _ l _ (hv.frz hF1) (by omega)) ?_
    rintro v' F1 H' ⟨rfl, rfl, rfl⟩ _
    refine o_val rfl rfl rfl rfl (v_eql rfl rfl) ?_
    refine o_val rfl rfl rfl rfl (v_pick1 rfl rfl) ?_
    refine o_val rfl rfl rfl rfl (v_assign rfl) ?_
    refine o_end ?_
    refine r_ret1 Try.func4 rfl rfl ⟨by rw [decide_eq_true rfl], hF1⟩
theorem in_LogsMasks (W : World) (n : Int) (hw : (Lit.int .u64 n).wf = true) (v : Value) (zs : List Int) (h : InInts .u8 W v zs) (hn : zs.length * 1 ≤ 140737488351232) :
    Calls Try.prog 4 #[.int .u64 n, v] W fun e w' => e = .returned (.bool true) ∧ Go.RowKit.Below W.heap.size W w' := by
  obtain ⟨l, hl, hv⟩ := inBytes h
  simp [Lit.wf, IntKind.min, IntKind.max, IntKind.signed, IntKind.bits] at hw
  obtain ⟨n, rfl⟩ := Int.eq_ofNat_of_zero_le hw.1
  exact below_of_does (law_LogsMasks _ _ n _ l (by omega) hv)
end Go.SX
