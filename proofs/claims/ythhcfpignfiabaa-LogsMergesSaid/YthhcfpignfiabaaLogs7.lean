/-
  The reference's likeness of entries; what a log tells.
-/
import Derived.Test.YthhcfpignfiabaaLogs6
namespace Go.SX
open Go Go.Proofs
set_option linter.unusedSimpArgs false
set_option linter.unusedVariables false

structure En.like (e e' : En) : Prop where
  ix : e.ix = e'.ix
  tm : e.tm = e'.tm
  kd : e.kd = e'.kd
  data : e.data = e'.data
structure Alike (l m : List En) : Prop where
  len : l.length = m.length
  is : ∀ (i : Nat) (h : i < l.length) (h' : i < m.length), l[i].like m[i]

theorem sl_cells {F : Fz} {H : List Ent} {v : Value} {l : List En} {i : Nat} (hv : Sl F H 4 v l.length (enV l)) (hi : i < l.length) :
    ∃ b off cap, v = .slice (some ⟨b, off, none⟩) l.length cap ∧ ∀ j c, l[i].cells[j]? = some c → Cell F H b (off + i * 4 + j) c := by
  obtain ⟨b, off, cap, hab, _, hcell⟩ := Sl.view hv (by omega)
  refine ⟨b, off, cap, hab, fun j c hj => ?_⟩
  have hj4 : j < 4 := by
    rcases Nat.lt_or_ge j 4 with h | h
    · exact h
    · rw [List.getElem?_eq_none (by simp [En.cells]; exact h)] at hj; cases hj
  have := hcell (i * 4 + j) c (by rw [enV_get l i hi j hj4]; exact hj)
  rw [← Nat.add_assoc] at this
  exact this

theorem ref_Same (O : World) (F : Fz) (va vb : Value) (l m : List En) (H : List Ent) (ha : Sl F H 4 va l.length (enV l)) (hb : Sl F H 4 vb m.length (enV m)) (hl : ∀ e ∈ l, e.ok F) (hm : ∀ e ∈ m, e.ok F) (hlm : Alike l m) (hn : l.length ≤ 1000000) :
    Does Try.prog O 32 #[va, vb] F H (fun r F' H' => r = .bool true ∧ F' = F ∧ H' = H) := by
  obtain ⟨a0, cap, rfl, hcap⟩ := Sl.shape ha
  obtain ⟨a1, cap1, rfl, hcap1⟩ := Sl.shape hb
  have hlen := hlm.len
  refine does_of_run (args := [_, _]) Try.func32 rfl rfl ?_
  refine r_seq ?_
  refine r_region rfl ?_
  refine o_val rfl rfl rfl rfl (v_assign rfl) ?_
  refine o_end ?_
  refine r_seq ?_
  refine r_seq ?_
  refine r_region rfl ?_
  refine o_val rfl rfl rfl rfl (v_move rfl) ?_
  refine o_val rfl rfl rfl rfl (v_len rfl rfl) ?_
  refine o_val rfl rfl rfl rfl (v_move rfl) ?_
  refine o_val rfl rfl rfl rfl (v_len rfl rfl) ?_
  refine o_val rfl rfl rfl rfl (v_neq rfl rfl) ?_
  refine o_end ?_
  refine j_slot 10 rfl (v' := .bool false) (by rw [decide_eq_false (by omega)]) ?_
  refine r_false rfl ?_
  refine r_skip ?_
  refine r_seq ?_
  refine r_seq ?_
  refine r_region rfl ?_
  refine o_val rfl rfl rfl rfl (v_assign rfl) ?_
  refine o_end ?_
  refine r_block ?_
  refine r_loop (fun i : Nat => i ≤ l.length) (fun i => [(0, .slice a0 l.length cap), (1, .slice a1 m.length cap1), (5, .int .i64 i)]) (fun _ => F) (fun _ => H) (fun i => l.length - i) 0 (Nat.zero_le _) ⟨rfl, rfl, rfl, trivial⟩ rfl rfl ?_
  intro i hi IH
  refine r_seq ?_
  refine r_seq ?_
  refine r_region rfl ?_
  refine o_val rfl rfl rfl rfl (v_move rfl) ?_
  refine o_val rfl rfl rfl rfl (v_move rfl) ?_
  refine o_val rfl rfl rfl rfl (v_len rfl rfl) ?_
  refine o_val rfl rfl rfl rfl (v_lss rfl rfl) ?_
  refine o_end ?_
  refine r_if rfl (fun h => ?_) (fun h => ?_)
  · have hil : i < l.length := by omega
    have him : i < m.length := by omega
    obtain ⟨b0, off0, c0, hab, hc0⟩ := sl_cells ha hil
    simp only [Value.slice.injEq] at hab
    obtain ⟨rfl, _, rfl⟩ := hab
    obtain ⟨b1, off1, c1, hab, hc1⟩ := sl_cells hb him
    simp only [Value.slice.injEq] at hab
    obtain ⟨rfl, _, rfl⟩ := hab
    have he := hl l[i] (List.getElem_mem _)
    have he' := hm m[i] (List.getElem_mem _)
    have hlk := hlm.is i hil him
    generalize l[i] = e at *
    generalize m[i] = e' at *
    refine r_skip ?_
    refine r_seq ?_
    refine r_block ?_
    refine r_seq ?_
    refine d_region 1000000 rfl (H) ?_
    refine d_take (i := 0) rfl rfl rfl (by decide +kernel) (by decide +kernel) (by decide +kernel) (Fz.le_refl _) (fun e he => he) rfl (v_move rfl) ?_
    refine d_take (i := 1) rfl rfl rfl (by decide +kernel) (by decide +kernel) (by decide +kernel) (Fz.le_refl _) (fun e he => he) rfl (v_move rfl) ?_
    refine d_take (i := 2) rfl rfl rfl (by decide +kernel) (by decide +kernel) (by decide +kernel) (Fz.le_refl _) (fun e he => he) rfl (v_indexN (sz := 4) rfl rfl rfl rfl hil) ?_
    refine d_take (i := 3) rfl rfl rfl (by decide +kernel) (by decide +kernel) (by decide +kernel) (Fz.le_refl _) (fun e he => he) rfl (v_field (k := 0) rfl rfl rfl) ?_
    refine d_take (i := 4) rfl rfl rfl (by decide +kernel) (by decide +kernel) (by decide +kernel) (Fz.le_refl _) (fun e he => he) rfl (v_load (v := .int .u64 e.ix) rfl rfl (hc0 0 _ rfl)) ?_
    refine d_take (i := 5) rfl rfl rfl (by decide +kernel) (by decide +kernel) (by decide +kernel) (Fz.le_refl _) (fun e he => he) rfl (v_move rfl) ?_
    refine d_take (i := 6) rfl rfl rfl (by decide +kernel) (by decide +kernel) (by decide +kernel) (Fz.le_refl _) (fun e he => he) rfl (v_move rfl) ?_
    refine d_take (i := 7) rfl rfl rfl (by decide +kernel) (by decide +kernel) (by decide +kernel) (Fz.le_refl _) (fun e he => he) rfl (v_indexN (sz := 4) rfl rfl rfl rfl him) ?_
    refine d_take (i := 8) rfl rfl rfl (by decide +kernel) (by decide +kernel) (by decide +kernel) (Fz.le_refl _) (fun e he => he) rfl (v_field (k := 0) rfl rfl rfl) ?_
    refine d_take (i := 9) rfl rfl rfl (by decide +kernel) (by decide +kernel) (by decide +kernel) (Fz.le_refl _) (fun e he => he) rfl (v_load (v := .int .u64 e'.ix) rfl rfl (hc1 0 _ rfl)) ?_
    refine d_take (i := 10) rfl rfl rfl (by decide +kernel) (by decide +kernel) (by decide +kernel) (Fz.le_refl _) (fun e he => he) rfl (v_neq rfl rfl) ?_
    refine j_slot 27 rfl (v' := .bool false) (by rw [hlk.ix]; simp) ?_
    refine d_take (i := 11) rfl rfl rfl (by decide +kernel) (by decide +kernel) (by decide +kernel) (Fz.le_refl _) (fun e he => he) rfl (v_move rfl) ?_
    refine d_take (i := 12) rfl rfl rfl (by decide +kernel) (by decide +kernel) (by decide +kernel) (Fz.le_refl _) (fun e he => he) rfl (v_move rfl) ?_
    refine d_take (i := 13) rfl rfl rfl (by decide +kernel) (by decide +kernel) (by decide +kernel) (Fz.le_refl _) (fun e he => he) rfl (v_move rfl) ?_
    refine d_take (i := 14) rfl rfl rfl (by decide +kernel) (by decide +kernel) (by decide +kernel) (Fz.le_refl _) (fun e he => he) rfl (v_indexN (sz := 4) rfl rfl rfl rfl hil) ?_
    refine d_take (i := 15) rfl rfl rfl (by decide +kernel) (by decide +kernel) (by decide +kernel) (Fz.le_refl _) (fun e he => he) rfl (v_field (k := 1) rfl rfl rfl) ?_
    refine d_take (i := 16) rfl rfl rfl (by decide +kernel) (by decide +kernel) (by decide +kernel) (Fz.le_refl _) (fun e he => he) rfl (v_load (v := .int .u64 e.tm) rfl rfl (hc0 1 _ rfl)) ?_
    refine d_take (i := 17) rfl rfl rfl (by decide +kernel) (by decide +kernel) (by decide +kernel) (Fz.le_refl _) (fun e he => he) rfl (v_move rfl) ?_
    refine d_take (i := 18) rfl rfl rfl (by decide +kernel) (by decide +kernel) (by decide +kernel) (Fz.le_refl _) (fun e he => he) rfl (v_move rfl) ?_
    refine d_take (i := 19) rfl rfl rfl (by decide +kernel) (by decide +kernel) (by decide +kernel) (Fz.le_refl _) (fun e he => he) rfl (v_indexN (sz := 4) rfl rfl rfl rfl him) ?_
    refine d_take (i := 20) rfl rfl rfl (by decide +kernel) (by decide +kernel) (by decide +kernel) (Fz.le_refl _) (fun e he => he) rfl (v_field (k := 1) rfl rfl rfl) ?_
    refine d_take (i := 21) rfl rfl rfl (by decide +kernel) (by decide +kernel) (by decide +kernel) (Fz.le_refl _) (fun e he => he) rfl (v_load (v := .int .u64 e'.tm) rfl rfl (hc1 1 _ rfl)) ?_
    refine d_take (i := 22) rfl rfl rfl (by decide +kernel) (by decide +kernel) (by decide +kernel) (Fz.le_refl _) (fun e he => he) rfl (v_neq rfl rfl) ?_
    refine j_slot 39 rfl (v' := .bool false) (by rw [hlk.tm]; simp) ?_
    refine d_take (i := 23) rfl rfl rfl (by decide +kernel) (by decide +kernel) (by decide +kernel) (Fz.le_refl _) (fun e he => he) rfl (v_pick0 rfl rfl) ?_
    refine d_take (i := 24) rfl rfl rfl (by decide +kernel) (by decide +kernel) (by decide +kernel) (Fz.le_refl _) (fun e he => he) rfl (v_move rfl) ?_
    refine d_take (i := 25) rfl rfl rfl (by decide +kernel) (by decide +kernel) (by decide +kernel) (Fz.le_refl _) (fun e he => he) rfl (v_move rfl) ?_
    refine d_take (i := 26) rfl rfl rfl (by decide +kernel) (by decide +kernel) (by decide +kernel) (Fz.le_refl _) (fun e he => he) rfl (v_move rfl) ?_
    refine d_take (i := 27) rfl rfl rfl (by decide +kernel) (by decide +kernel) (by decide +kernel) (Fz.le_refl _) (fun e he => he) rfl (v_indexN (sz := 4) rfl rfl rfl rfl hil) ?_
    refine d_take (i := 28) rfl rfl rfl (by decide +kernel) (by decide +kernel) (by decide +kernel) (Fz.le_refl _) (fun e he => he) rfl (v_field (k := 2) rfl rfl rfl) ?_
    refine d_take (i := 29) rfl rfl rfl (by decide +kernel) (by decide +kernel) (by decide +kernel) (Fz.le_refl _) (fun e he => he) rfl (v_load (v := .int .u8 e.kd) rfl rfl (hc0 2 _ rfl)) ?_
    refine d_take (i := 30) rfl rfl rfl (by decide +kernel) (by decide +kernel) (by decide +kernel) (Fz.le_refl _) (fun e he => he) rfl (v_move rfl) ?_
    refine d_take (i := 31) rfl rfl rfl (by decide +kernel) (by decide +kernel) (by decide +kernel) (Fz.le_refl _) (fun e he => he) rfl (v_move rfl) ?_
    refine d_take (i := 32) rfl rfl rfl (by decide +kernel) (by decide +kernel) (by decide +kernel) (Fz.le_refl _) (fun e he => he) rfl (v_indexN (sz := 4) rfl rfl rfl rfl him) ?_
    refine d_take (i := 33) rfl rfl rfl (by decide +kernel) (by decide +kernel) (by decide +kernel) (Fz.le_refl _) (fun e he => he) rfl (v_field (k := 2) rfl rfl rfl) ?_
    refine d_take (i := 34) rfl rfl rfl (by decide +kernel) (by decide +kernel) (by decide +kernel) (Fz.le_refl _) (fun e he => he) rfl (v_load (v := .int .u8 e'.kd) rfl rfl (hc1 2 _ rfl)) ?_
    refine d_take (i := 35) rfl rfl rfl (by decide +kernel) (by decide +kernel) (by decide +kernel) (Fz.le_refl _) (fun e he => he) rfl (v_neq rfl rfl) ?_
    refine j_slot 52 rfl (v' := .bool false) (by rw [hlk.kd]; simp) ?_
    refine d_take (i := 36) rfl rfl rfl (by decide +kernel) (by decide +kernel) (by decide +kernel) (Fz.le_refl _) (fun e he => he) rfl (v_pick0 rfl rfl) ?_
    refine d_take (i := 37) rfl rfl rfl (by decide +kernel) (by decide +kernel) (by decide +kernel) (Fz.le_refl _) (fun e he => he) rfl (v_move rfl) ?_
    refine d_take (i := 38) rfl rfl rfl (by decide +kernel) (by decide +kernel) (by decide +kernel) (Fz.le_refl _) (fun e he => he) rfl (v_move rfl) ?_
    refine d_take (i := 39) rfl rfl rfl (by decide +kernel) (by decide +kernel) (by decide +kernel) (Fz.le_refl _) (fun e he => he) rfl (v_move rfl) ?_
    refine d_take (i := 40) rfl rfl rfl (by decide +kernel) (by decide +kernel) (by decide +kernel) (Fz.le_refl _) (fun e he => he) rfl (v_indexN (sz := 4) rfl rfl rfl rfl hil) ?_
    refine d_take (i := 41) rfl rfl rfl (by decide +kernel) (by decide +kernel) (by decide +kernel) (Fz.le_refl _) (fun e he => he) rfl (v_field (k := 3) rfl rfl rfl) ?_
    refine d_take (i := 42) rfl rfl rfl (by decide +kernel) (by decide +kernel) (by decide +kernel) (Fz.le_refl _) (fun e he => he) rfl (v_load (v := e.dv) rfl rfl (hc0 3 _ rfl)) ?_
    refine d_take (i := 43) rfl rfl rfl (by decide +kernel) (by decide +kernel) (by decide +kernel) (Fz.le_refl _) (fun e he => he) rfl (v_bytesString rfl rfl rfl rfl (l := e.data) (he.dv.frz (Fz.le_refl _))) ?_
    refine d_take (i := 44) rfl rfl rfl (by decide +kernel) (by decide +kernel) (by decide +kernel) (Fz.le_refl _) (fun e he => he) rfl (v_move rfl) ?_
    refine d_take (i := 45) rfl rfl rfl (by decide +kernel) (by decide +kernel) (by decide +kernel) (Fz.le_refl _) (fun e he => he) rfl (v_move rfl) ?_
    refine d_take (i := 46) rfl rfl rfl (by decide +kernel) (by decide +kernel) (by decide +kernel) (Fz.le_refl _) (fun e he => he) rfl (v_indexN (sz := 4) rfl rfl rfl rfl him) ?_
    refine d_take (i := 47) rfl rfl rfl (by decide +kernel) (by decide +kernel) (by decide +kernel) (Fz.le_refl _) (fun e he => he) rfl (v_field (k := 3) rfl rfl rfl) ?_
    refine d_take (i := 48) rfl rfl rfl (by decide +kernel) (by decide +kernel) (by decide +kernel) (Fz.le_refl _) (fun e he => he) rfl (v_load (v := e'.dv) rfl rfl (hc1 3 _ rfl)) ?_
    refine d_take (i := 49) rfl rfl rfl (by decide +kernel) (by decide +kernel) (by decide +kernel) (Fz.le_refl _) (fun e he => he) rfl (v_bytesString rfl rfl rfl rfl (l := e'.data) (he'.dv.frz (Fz.le_refl _))) ?_
    refine d_take (i := 50) rfl rfl rfl (by decide +kernel) (by decide +kernel) (by decide +kernel) (Fz.le_refl _) (fun e he => he) rfl (v_sneq rfl rfl) ?_
    refine j_slot 67 rfl (v' := .bool false) (by rw [hlk.data]; simp) ?_
    refine d_take (i := 51) rfl rfl rfl (by decide +kernel) (by decide +kernel) (by decide +kernel) (Fz.le_refl _) (fun e he => he) rfl (v_pick0 rfl rfl) ?_
    refine d_end (by decide +kernel) ?_
    refine r_false rfl ?_
    refine r_skip ?_
    refine r_inBlock ?_
    refine r_region rfl ?_
    refine o_val rfl rfl rfl rfl (v_move rfl) ?_
    refine o_val rfl rfl rfl rfl (v_add rfl rfl (wrap_i64 (by omega) (by omega))) ?_
    refine o_val rfl rfl rfl rfl (v_assign rfl) ?_
    refine o_end ?_
    refine j_keep ?_ (IH (i + 1) hil (by omega))
    exact ⟨rfl, rfl, rfl, trivial⟩
  · refine r_exit rfl ?_
    refine r_seq ?_
    refine r_region rfl ?_
    refine o_val rfl rfl rfl rfl (v_assign rfl) ?_
    refine o_end ?_
    exact r_ret1 Try.func32 rfl rfl ⟨⟨rfl, rfl, rfl⟩, Fz.le_refl _⟩

/-! ### Alike entries tell the same -/

theorem Alike.take {l m : List En} (h : Alike l m) (k : Nat) : Alike (l.take k) (m.take k) := by
  refine ⟨by simp [h.len], fun i h1 h2 => ?_⟩
  simp only [List.length_take] at h1 h2
  rw [List.getElem_take, List.getElem_take]
  exact h.is i (by omega) (by omega)
theorem Alike.map {α : Type} {l m : List En} (h : Alike l m) (f : En → α) (hf : ∀ e e' : En, e.like e' → f e = f e') : l.map f = m.map f := by
  apply List.ext_getElem
  · simp [h.len]
  · intro i h1 h2
    simp only [List.getElem_map]
    exact hf _ _ (h.is i (by simpa using h1) (by simpa using h2))
theorem foldl_like {β : Type} (g : β → En → β) (hg : ∀ (b : β) (e e' : En), e.like e' → g b e = g b e') : ∀ {l m : List En}, Alike l m → ∀ b, l.foldl g b = m.foldl g b
  | [], [], _, _ => rfl
  | [], _ :: _, h, _ => by have := h.len; simp at this
  | _ :: _, [], h, _ => by have := h.len; simp at this
  | e :: l, e' :: m, h, b => by
    simp only [List.foldl_cons]
    rw [hg b e e' (h.is 0 (by simp) (by simp))]
    exact foldl_like g hg ⟨by have := h.len; simpa using this, fun i h1 h2 => h.is (i + 1) (by simpa using h1) (by simpa using h2)⟩ _
theorem lgVotersAt_like {l m : List En} (h : Alike l m) (vt i : Nat) : lgVotersAt vt l i = lgVotersAt vt m i :=
  foldl_like _ (fun v e e' hl => by rw [hl.ix, hl.kd, hl.data]) h vt
theorem lgVoters_like {l m : List En} (h : Alike l m) (ix vt : Nat) : lgVoters ix vt l = lgVoters ix vt m :=
  foldl_like _ (fun v e e' hl => by rw [hl.ix, hl.kd, hl.data]) h _
theorem lgTerm_like {l m : List En} (h : Alike l m) (ix tm i : Nat) : lgTerm ix tm l i = lgTerm ix tm m i := by
  unfold lgTerm
  rw [h.len]
  have := h.map En.tm fun e e' hl => hl.tm
  rw [← List.getElem?_map, ← List.getElem?_map, this]
end Go.SX
