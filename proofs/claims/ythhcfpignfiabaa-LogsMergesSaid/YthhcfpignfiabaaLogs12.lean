/-
  Chapter 09: slices.Grow, slices.Concat of entries; Merge.
-/
import Derived.Test.YthhcfpignfiabaaLogs11
import Derived.Test.YthhcfpignfiabaaSxApp
namespace Go.SX
open Go Go.Proofs
set_option linter.unusedSimpArgs false
set_option linter.unusedVariables false

theorem sl_GrowE (O : World) (F : Fz) (n : Nat) (Fr : List Ent) (hn : n ≤ 1000000) :
    Does Try.prog O 36 #[.slice none 0 0, .int .i64 n] F Fr (fun r F' H' => F' = F ∧ ∃ bf : Bf, bf.ok 0 ∧ r = bf.val 0 ∧ H' = bf.ents 4 [] ++ Fr) := by
  refine does_of_run (args := [_, _]) Try.func36 rfl rfl ?_
  refine r_seq ?_
  refine r_region rfl ?_
  refine o_val rfl rfl rfl rfl (v_assign rfl) ?_
  refine o_end ?_
  refine r_seq ?_
  refine r_seq ?_
  refine r_region rfl ?_
  refine o_val rfl rfl rfl rfl (v_move rfl) ?_
  refine o_val rfl rfl rfl rfl (v_lss rfl rfl) ?_
  refine o_end ?_
  refine r_if rfl (fun h => ?_) (fun h => ?_)
  · omega
  · refine r_skip ?_
    refine r_seq ?_
    refine r_seq ?_
    refine r_region rfl ?_
    refine o_val rfl rfl rfl rfl (v_move rfl) ?_
    refine o_val rfl rfl rfl rfl (v_move rfl) ?_
    refine o_val rfl rfl rfl rfl (v_cap rfl rfl) ?_
    refine o_val rfl rfl rfl rfl (v_move rfl) ?_
    refine o_val rfl rfl rfl rfl (v_len rfl rfl) ?_
    refine o_val rfl rfl rfl rfl (v_sub rfl rfl (wrap_i64 (by omega) (by omega))) ?_
    refine o_val rfl rfl rfl rfl (v_sub rfl rfl (wrap_i64 (by omega) (by omega))) ?_
    refine o_val rfl rfl rfl rfl (v_assign rfl) ?_
    refine o_end ?_
    refine r_seq ?_
    refine r_region rfl ?_
    refine o_val rfl rfl rfl rfl (v_move rfl) ?_
    refine o_val rfl rfl rfl rfl (v_gtr rfl rfl) ?_
    refine o_end ?_
    refine r_if rfl (fun h2 => ?_) (fun h2 => ?_)
    · refine r_region rfl ?_
      refine o_val rfl rfl rfl rfl (v_move rfl) ?_
      refine o_val rfl rfl rfl rfl (v_move rfl) ?_
      refine o_val rfl rfl rfl rfl (v_cap rfl rfl) ?_
      refine o_val rfl rfl rfl rfl (v_sliceH (sz := 4) rfl rfl rfl rfl rfl (Nat.le_refl _)) ?_
      refine o_val rfl rfl rfl rfl (v_move rfl) ?_
      refine j_heap (H' := [] ++ (Bf.nil.ents 4 [] ++ Fr)) rfl ?_
      refine o_act rfl rfl rfl rfl (a_appendZ [] (bf := .nil) (n := 0) (m := n) (zc := [.int .u64 0, .int .u64 0, .int .u8 0, .slice none 0 0]) (bytes := 48) (xs := []) ⟨⟨_, _, _, rfl, rfl, rfl, rfl, rfl, rfl⟩, by decide⟩ rfl rfl rfl rfl rfl rfl (by simp) rfl (by omega) (by omega)) ?_
      rintro v' H' ⟨bf, rfl, hok, rfl⟩
      rw [Nat.zero_add] at hok ⊢
      refine o_val rfl rfl rfl rfl (v_move rfl) ?_
      refine o_val rfl rfl rfl rfl (v_len rfl rfl) ?_
      refine o_val rfl rfl rfl rfl (v_sliceH (sz := 4) rfl rfl rfl rfl rfl (Nat.zero_le _)) ?_
      refine o_val rfl rfl rfl rfl (v_assign rfl) ?_
      refine o_end ?_
      refine r_seq ?_
      refine r_region rfl ?_
      refine o_val rfl rfl rfl rfl (v_move rfl) ?_
      refine o_val rfl rfl rfl rfl (v_assign rfl) ?_
      refine o_end ?_
      rw [Bf.cut]
      refine j_cutBf [] 0 ?_
      rw [List.take_zero]
      exact r_ret1 Try.func36 rfl rfl ⟨⟨rfl, bf, bf.ok_le hok (Nat.zero_le _), rfl, rfl⟩, Fz.le_refl _⟩
    · refine r_skip ?_
      refine r_seq ?_
      refine r_region rfl ?_
      refine o_val rfl rfl rfl rfl (v_move rfl) ?_
      refine o_val rfl rfl rfl rfl (v_assign rfl) ?_
      refine o_end ?_
      exact r_ret1 Try.func36 rfl rfl ⟨⟨rfl, .nil, rfl, rfl, rfl⟩, Fz.le_refl _⟩

/-- How many entries some lists have. -/
def lens (rs : List (Value × List En)) : Nat := (rs.map fun r => r.2.length).sum
theorem lens_take (rs : List (Value × List En)) (k : Nat) (hk : k < rs.length) : lens (rs.take (k + 1)) = lens (rs.take k) + rs[k].2.length := by
  unfold lens
  rw [List.take_succ_eq_append_getElem hk]
  simp only [List.map_append, List.map_cons, List.map_nil, List.sum_append, List.sum_cons, List.sum_nil, Nat.add_zero]
theorem lens_le (rs : List (Value × List En)) (k : Nat) : lens (rs.take k) ≤ lens rs := by
  have : lens rs = lens (rs.take k) + lens (rs.drop k) := by
    unfold lens
    rw [← List.sum_append, ← List.map_append, List.take_append_drop]
  omega
theorem lens_flat (rs : List (Value × List En)) : (rs.flatMap fun r => r.2).length = lens rs := by
  unfold lens
  induction rs with
  | nil => rfl
  | cons r q ih => simp [ih]
theorem sl_ConcatE (O : World) (F : Fz) (v : Value) (rs : List (Value × List En)) (Fr : List Ent) (hv : Sl F Fr 1 v rs.length (rs.map (·.1))) (hr : ∀ r ∈ rs, Sl F Fr 4 r.1 r.2.length (enV r.2)) (hok : ∀ r ∈ rs, ∀ e ∈ r.2, e.ok F) (hn : lens rs ≤ 1000000) (hl : rs.length ≤ 1000000) :
    Does Try.prog O 35 #[v] F Fr (fun r F' H' => F' = F ∧ ∃ bf : Bf, bf.ok (rs.flatMap fun r => r.2).length ∧ r = bf.val (rs.flatMap fun r => r.2).length ∧ H' = bf.ents 4 (enV (rs.flatMap fun r => r.2)) ++ Fr) := by
  obtain ⟨a0, cap, rfl, hcap⟩ := Sl.shape hv
  have hsl : ∀ r ∈ rs, ∃ a c, r.1 = .slice a r.2.length c := fun r hm => by
    obtain ⟨a, c, h, _⟩ := Sl.shape (hr r hm)
    exact ⟨a, c, h⟩
  refine does_of_run (args := [_]) Try.func35 rfl rfl ?_
  refine r_seq ?_
  refine r_region rfl ?_
  refine o_val rfl rfl rfl rfl (v_assign rfl) ?_
  refine o_end ?_
  refine r_seq ?_
  refine r_region rfl ?_
  refine o_val rfl rfl rfl rfl (v_assign rfl) ?_
  refine o_end ?_
  refine r_seq ?_
  refine r_seq ?_
  refine r_region rfl ?_
  refine o_val rfl rfl rfl rfl (v_move rfl) ?_
  refine o_val rfl rfl rfl rfl (v_len rfl rfl) ?_
  refine o_val rfl rfl rfl rfl (v_move rfl) ?_
  refine o_end ?_
  refine r_block ?_
  refine r_loop (fun k : Nat => k ≤ rs.length) (fun k => [(0, .slice a0 rs.length cap), (3, .int .i64 (lens (rs.take k))), (9, .slice a0 rs.length cap), (10, .int .i64 rs.length), (11, .int .i64 k)]) (fun _ => F) (fun _ => Fr) (fun k => rs.length - k) 0 (Nat.zero_le _) ⟨rfl, rfl, rfl, rfl, rfl, trivial⟩ rfl rfl ?_
  intro k hk IH
  refine r_seq ?_
  refine r_region rfl ?_
  refine o_val rfl rfl rfl rfl (v_lss rfl rfl) ?_
  refine o_end ?_
  refine r_seq ?_
  refine r_if rfl (fun h => ?_) (fun h => ?_)
  · have hkl : k < rs.length := by omega
    obtain ⟨b0, off0, c0, hab, _, hc0⟩ := Sl.view hv (by omega)
    simp only [Value.slice.injEq] at hab
    obtain ⟨rfl, _, rfl⟩ := hab
    have hcell := hc0 k rs[k].1 (by rw [List.getElem?_map, List.getElem?_eq_getElem hkl]; rfl)
    obtain ⟨a1, c1, he⟩ := hsl rs[k] (List.getElem_mem _)
    have hlt := lens_take rs k hkl
    have hle := lens_le rs (k + 1)
    have IH' := IH (k + 1) hkl (by omega)
    rw [hlt] at IH'
    rw [he] at hcell
    refine r_skip ?_
    refine r_seq ?_
    refine r_block ?_
    refine r_seq ?_
    refine r_region rfl ?_
    refine o_val rfl rfl rfl rfl (v_index1 rfl rfl rfl rfl hkl) ?_
    refine o_val rfl rfl rfl rfl (v_load rfl rfl hcell) ?_
    refine o_val rfl rfl rfl rfl (v_assign rfl) ?_
    refine o_end ?_
    refine r_seq ?_
    refine r_region rfl ?_
    refine o_val rfl rfl rfl rfl (v_move rfl) ?_
    refine o_val rfl rfl rfl rfl (v_move rfl) ?_
    refine o_val rfl rfl rfl rfl (v_len rfl rfl) ?_
    refine o_val rfl rfl rfl rfl (v_add rfl rfl (r := ((lens (rs.take k) + rs[k].2.length : Nat) : Int)) (wrap_i64 (by omega) (by omega))) ?_
    refine o_val rfl rfl rfl rfl (v_assign rfl) ?_
    refine o_end ?_
    refine r_seq ?_
    refine r_region rfl ?_
    refine o_val rfl rfl rfl rfl (v_move rfl) ?_
    refine o_val rfl rfl rfl rfl (v_lss rfl rfl) ?_
    refine o_end ?_
    refine r_if rfl (fun h2 => ?_) (fun h2 => ?_)
    · omega
    · refine r_skip ?_
      refine r_inBlock ?_
      refine r_region rfl ?_
      refine o_val rfl rfl rfl rfl (v_add rfl rfl (wrap_i64 (by omega) (by omega))) ?_
      refine o_val rfl rfl rfl rfl (v_move rfl) ?_
      refine o_end ?_
      refine j_keep ?_ IH'
      exact ⟨rfl, rfl, rfl, rfl, rfl, trivial⟩
  · obtain rfl : k = rs.length := by omega
    rw [List.take_length]
    clear IH
    refine r_exit rfl ?_
    refine r_seq ?_
    refine r_region rfl ?_
    refine o_val rfl rfl rfl rfl (v_move rfl) ?_
    refine o_call rfl rfl rfl rfl (c_call callable36 rfl) (sl_GrowE _ _ _ _ hn) ?_
    rintro v' F H' ⟨rfl, bf0, hok0, rfl, rfl⟩ _
    refine o_val rfl rfl rfl rfl (v_assign rfl) ?_
    refine o_end ?_
    refine r_seq ?_
    refine r_seq ?_
    refine r_region rfl ?_
    refine o_val rfl rfl rfl rfl (v_move rfl) ?_
    refine o_val rfl rfl rfl rfl (v_len rfl rfl) ?_
    refine o_val rfl rfl rfl rfl (v_move rfl) ?_
    refine o_end ?_
    refine r_block ?_
    refine r_loop (fun g : Nat × Bf => g.1 ≤ rs.length ∧ g.2.ok (lens (rs.take g.1))) (fun g => [(6, g.2.val (lens (rs.take g.1))), (25, .slice a0 rs.length cap), (26, .int .i64 rs.length), (27, .int .i64 g.1)]) (fun _ => F) (fun g => g.2.ents 4 (enV ((rs.take g.1).flatMap fun r => r.2)) ++ Fr) (fun g => rs.length - g.1) (0, bf0) ⟨Nat.zero_le _, hok0⟩ ⟨rfl, rfl, rfl, rfl, trivial⟩ rfl rfl ?_
    rintro ⟨i, bf⟩ ⟨hi, hokb⟩ IH
    dsimp only at hi hokb ⊢
    refine r_seq ?_
    refine r_region rfl ?_
    refine o_val rfl rfl rfl rfl (v_lss rfl rfl) ?_
    refine o_end ?_
    refine r_seq ?_
    refine r_if rfl (fun h3 => ?_) (fun h3 => ?_)
    · have hkl : i < rs.length := by omega
      obtain ⟨b0, off0, c0, hab, _, hc0⟩ := Sl.view hv (by omega)
      simp only [Value.slice.injEq] at hab
      obtain ⟨rfl, _, rfl⟩ := hab
      have hcell := hc0 i rs[i].1 (by rw [List.getElem?_map, List.getElem?_eq_getElem hkl]; rfl)
      have hlt := lens_take rs i hkl
      have hle := lens_le rs (i + 1)
      have hri := hr rs[i] (List.getElem_mem _)
      have hoi := hok rs[i] (List.getElem_mem _)
      obtain ⟨a1, c1, he⟩ := hsl rs[i] (List.getElem_mem _)
      rw [he] at hcell hri
      have hfl : (rs.take (i + 1)).flatMap (fun r => r.2) = (rs.take i).flatMap (fun r => r.2) ++ rs[i].2 := by
        rw [List.take_succ_eq_append_getElem hkl]; simp only [List.flatMap_append, List.flatMap_cons, List.flatMap_nil, List.append_nil]
      refine r_skip ?_
      refine r_seq ?_
      refine r_block ?_
      refine r_seq ?_
      refine r_region rfl ?_
      refine o_val rfl rfl rfl rfl (v_index1 rfl rfl rfl rfl hkl) ?_
      refine o_val rfl rfl rfl rfl (v_load rfl rfl (hcell.mono (Fz.le_refl _) (by simp))) ?_
      refine o_val rfl rfl rfl rfl (v_assign rfl) ?_
      refine o_end ?_
      refine r_region rfl ?_
      refine o_val rfl rfl rfl rfl (v_move rfl) ?_
      refine o_val rfl rfl rfl rfl (v_move rfl) ?_
      refine o_act rfl rfl rfl rfl (a_append (bf := bf) (n := lens (rs.take i)) (sz := 4) (bytes := 48) ⟨⟨_, _, _, rfl, rfl, rfl, rfl, rfl, rfl⟩, by decide⟩ rfl hokb (by rw [enV_length, lens_flat]) rfl rfl (hri.mono (Fz.le_refl _) (by simp)) (enV_one hoi) (by unfold maxLen; omega) (by omega)) ?_
      rintro v' H' ⟨bf2, rfl, hok2, rfl⟩
      rw [← enV_append, ← hfl]
      have IH' := IH (i + 1, bf2) ⟨hkl, by dsimp only; rw [hlt]; exact hok2⟩ (by dsimp only; omega)
      dsimp only at IH'
      rw [hlt] at IH'
      refine o_val rfl rfl rfl rfl (v_assign rfl) ?_
      refine o_end ?_
      refine r_inBlock ?_
      refine r_region rfl ?_
      refine o_val rfl rfl rfl rfl (v_add rfl rfl (wrap_i64 (by omega) (by omega))) ?_
      refine o_val rfl rfl rfl rfl (v_move rfl) ?_
      refine o_end ?_
      refine j_keep ?_ IH'
      exact ⟨rfl, rfl, rfl, rfl, trivial⟩
    · obtain rfl : i = rs.length := by omega
      rw [List.take_length] at hokb ⊢
      rw [← lens_flat] at hokb ⊢
      refine r_exit rfl ?_
      refine r_seq ?_
      refine r_region rfl ?_
      refine o_val rfl rfl rfl rfl (v_move rfl) ?_
      refine o_val rfl rfl rfl rfl (v_assign rfl) ?_
      refine o_end ?_
      exact r_ret1 Try.func35 rfl rfl ⟨⟨rfl, bf, hokb, rfl, rfl⟩, Fz.le_refl _⟩

/-- Entries that come: the first new one, and what stands there then. -/
def mg (ix tm : Nat) (l : List En) : List En → Nat × List En
  | [] => (0, l)
  | x :: r => if x.ix ≤ ix then mg ix tm l r else if lgTerm ix tm l x.ix = (x.tm, true) then mg ix tm l r else if ix + l.length + 1 < x.ix then (0, l) else (x.ix, l.take (x.ix - ix - 1) ++ (x :: r))

set_option maxHeartbeats 1000000 in
theorem lg_Merge (O : World) (F : Fz) (a ix tm vt : Nat) (bf : Bf) (l m : List En) (v : Value) (Fr : List Ent) (hb : ix + l.length + 1 < 18446744073709551616) (hok : bf.ok l.length) (hl : ∀ e ∈ l, e.ok F) (hm : ∀ e ∈ m, e.ok F) (hn : l.length ≤ 400000) (hnm : m.length ≤ 400000)
    (hv : Sl F [] 4 v m.length (enV m)) :
    Does Try.prog O 25 #[ptrV a, v] F (LgH a ix tm vt bf l Fr)
      (fun r F' H' => r = .int .u64 (mg ix tm l m).1 ∧ F' = F ∧ ∃ bf' : Bf, bf'.ok (mg ix tm l m).2.length ∧ H' = LgH a ix tm vt bf' (mg ix tm l m).2 Fr) := by
  obtain ⟨a0, cap, rfl, hcap⟩ := Sl.shape hv
  refine does_of_run (args := [_, _]) Try.func25 rfl rfl ?_
  refine r_seq ?_
  refine r_region rfl ?_
  refine o_val rfl rfl rfl rfl (v_assign rfl) ?_
  refine o_end ?_
  refine r_seq ?_
  refine r_seq ?_
  refine r_region rfl ?_
  refine o_val rfl rfl rfl rfl (v_move rfl) ?_
  refine o_val rfl rfl rfl rfl (v_peqnil rfl rfl rfl) ?_
  refine o_end ?_
  refine r_false rfl ?_
  refine r_skip ?_
  refine r_seq ?_
  refine r_seq ?_
  refine r_region rfl ?_
  refine o_val rfl rfl rfl rfl (v_move rfl) ?_
  refine o_val rfl rfl rfl rfl (v_len rfl rfl) ?_
  refine o_val rfl rfl rfl rfl (v_move rfl) ?_
  refine o_end ?_
  refine r_block ?_
  refine r_loop (fun k : Nat => k ≤ m.length ∧ mg ix tm l m = mg ix tm l (m.drop k)) (fun k => [(0, ptrV a), (1, .slice a0 m.length cap), (11, .slice a0 m.length cap), (12, .int .i64 m.length), (13, .int .i64 k)]) (fun _ => F) (fun _ => LgH a ix tm vt bf l Fr) (fun k => m.length - k) 0 ⟨Nat.zero_le _, rfl⟩ ⟨rfl, rfl, rfl, rfl, rfl, trivial⟩ rfl rfl ?_
  rintro k ⟨hk, hmg⟩ IH
  refine r_seq ?_
  refine r_region rfl ?_
  refine o_val rfl rfl rfl rfl (v_lss rfl rfl) ?_
  refine o_end ?_
  refine r_seq ?_
  refine r_if rfl (fun h => ?_) (fun h => ?_)
  · have hkl : k < m.length := by omega
    obtain ⟨b0, off0, c0, hab, hc0⟩ := sl_cells (hv.frz (H := LgH a ix tm vt bf l Fr) (Fz.le_refl _)) hkl
    simp only [Value.slice.injEq] at hab
    obtain ⟨rfl, _, rfl⟩ := hab
    have he := hm m[k] (List.getElem_mem _)
    have hd : m.drop k = m[k] :: m.drop (k + 1) := List.drop_eq_getElem_cons hkl
    have hsr := Sl.sliced (l := k) (h := m.length) (hv.frz (H := []) (Fz.le_refl F)) hk (Nat.le_refl _)
    rw [enV_drop, List.take_of_length_le (by rw [enV_length, List.length_drop]; omega), ← List.length_drop] at hsr
    have hdl : ∀ e ∈ m.drop k, e ∈ m := fun e he => List.mem_of_mem_drop he
    have hdn : (m.drop k).length ≤ 400000 := by simp; omega
    have IH' : mg ix tm l m = mg ix tm l (m.drop (k + 1)) → _ := fun hq => IH (k + 1) ⟨hkl, hq⟩ (by omega)
    rw [hd] at hmg
    rw [hd] at hsr hdl hdn
    clear hd
    generalize m.drop (k + 1) = m' at *
    generalize m[k] = e at *
    refine r_skip ?_
    refine r_seq ?_
    refine r_block ?_
    refine r_seq ?_
    refine r_region rfl ?_
    refine o_val rfl rfl rfl rfl (v_move rfl) ?_
    refine o_val rfl rfl rfl rfl (v_indexN (sz := 4) rfl rfl rfl rfl hkl) ?_
    refine o_val rfl rfl rfl rfl (v_loadAgg (sz := 4) (cs := e.cells) rfl rfl rfl rfl hc0) ?_
    refine o_act rfl rfl rfl rfl (a_alloc rfl) ?_
    rintro v' H' ⟨x, rfl, rfl⟩
    refine o_val rfl rfl rfl rfl (v_assign rfl) ?_
    refine o_act0 rfl rfl rfl (a_store (sz := 4) 0 rfl rfl rfl (by simpa [Value.cells] using he.one) rfl rfl (Nat.le_of_ble_eq_true rfl)) ?_
    refine j_heap (H' := .mem x e.cells 4 :: LgE a ix tm vt bf l.length :: (bf.ents 4 (enV l) ++ Fr)) rfl ?_
    refine j_sel (H' := LgE a ix tm vt bf l.length :: (bf.ents 4 (enV l) ++ (.mem x e.cells 4 :: (Fr)))) [[.mem x e.cells 4], [LgE a ix tm vt bf l.length], bf.ents 4 (enV l), Fr] [1, 2, 0, 3] rfl rfl rfl ?_
    refine j_heap (H' := LgH a ix tm vt bf l (.mem x e.cells 4 :: Fr)) rfl ?_
    have hcx : ∀ F H j c, Ent.mem x e.cells 4 ∈ H → e.cells[j]? = some c → Cell F H x (0 + j) c := fun F H j c hm hc => by
      rw [Nat.zero_add]
      exact cell_own hm hc
    have hback : (LgH a ix tm vt bf l Fr).Sublist (LgH a ix tm vt bf l (.mem x e.cells 4 :: Fr)) := drop_in _ _ _ _
    refine o_end ?_
    refine r_seq ?_
    refine r_seq ?_
    refine d_region 1000000 rfl ([.mem x e.cells 4, LgE a ix tm vt bf l.length]) ?_
    refine d_take (i := 0) rfl rfl rfl (by decide +kernel) (by decide +kernel) (by decide +kernel) (Fz.le_refl _) (by intro q hq; simp only [List.mem_cons, List.not_mem_nil, or_false] at hq; rcases hq with rfl | rfl <;> simp [LgH]) rfl (v_field (k := 0) rfl rfl rfl) ?_
    refine d_take (i := 1) rfl rfl rfl (by decide +kernel) (by decide +kernel) (by decide +kernel) (Fz.le_refl _) (by intro q hq; simp only [List.mem_cons, List.not_mem_nil, or_false] at hq; rcases hq with rfl | rfl <;> simp [LgH]) rfl (v_load (v := .int .u64 e.ix) rfl rfl (hcx _ _ 0 _ (by simp) rfl)) ?_
    refine d_take (i := 2) rfl rfl rfl (by decide +kernel) (by decide +kernel) (by decide +kernel) (Fz.le_refl _) (by intro q hq; simp only [List.mem_cons, List.not_mem_nil, or_false] at hq; rcases hq with rfl | rfl <;> simp [LgH]) rfl (v_move rfl) ?_
    refine d_take (i := 3) rfl rfl rfl (by decide +kernel) (by decide +kernel) (by decide +kernel) (Fz.le_refl _) (by intro q hq; simp only [List.mem_cons, List.not_mem_nil, or_false] at hq; rcases hq with rfl | rfl <;> simp [LgH]) rfl (v_nilCheck rfl) ?_
    refine d_take (i := 4) rfl rfl rfl (by decide +kernel) (by decide +kernel) (by decide +kernel) (Fz.le_refl _) (by intro q hq; simp only [List.mem_cons, List.not_mem_nil, or_false] at hq; rcases hq with rfl | rfl <;> simp [LgH]) rfl (v_field (k := 0) rfl rfl rfl) ?_
    refine d_take (i := 5) rfl rfl rfl (by decide +kernel) (by decide +kernel) (by decide +kernel) (Fz.le_refl _) (by intro q hq; simp only [List.mem_cons, List.not_mem_nil, or_false] at hq; rcases hq with rfl | rfl <;> simp [LgH]) rfl (v_load rfl rfl (cell_at (j := 1) rfl rfl)) ?_
    refine d_take (i := 6) rfl rfl rfl (by decide +kernel) (by decide +kernel) (by decide +kernel) (Fz.le_refl _) (by intro q hq; simp only [List.mem_cons, List.not_mem_nil, or_false] at hq; rcases hq with rfl | rfl <;> simp [LgH]) rfl (v_leq rfl rfl) ?_
    refine d_end (by decide +kernel) ?_
    refine r_if rfl (fun h2 => ?_) (fun h2 => ?_)
    · refine j_drop hback ?_
      have hq : mg ix tm l (e :: m') = mg ix tm l m' := by rw [mg, if_pos (by omega)]
      refine r_exit rfl ?_
      refine r_region rfl ?_
      refine o_val rfl rfl rfl rfl (v_add rfl rfl (wrap_i64 (by omega) (by omega))) ?_
      refine o_val rfl rfl rfl rfl (v_move rfl) ?_
      refine o_end ?_
      refine j_keep ?_ (IH' (hmg.trans hq))
      exact ⟨rfl, rfl, rfl, rfl, rfl, trivial⟩
    · refine r_skip ?_
      refine r_seq ?_
      refine r_join (fun _ : Unit => ¬ lgTerm ix tm l e.ix = (e.tm, true)) (fun _ => [(0, ptrV a), (1, .slice (some ⟨b0, off0, none⟩) m.length cap), (5, .int .i64 k), (6, ptrV x), (11, .slice (some ⟨b0, off0, none⟩) m.length cap), (12, .int .i64 m.length), (13, .int .i64 k)]) (fun _ => F) (fun _ => LgH a ix tm vt bf l (.mem x e.cells 4 :: Fr)) ?_ ?_
      · intro J
        refine r_seq ?_
        refine r_region rfl ?_
        refine o_val rfl rfl rfl rfl (v_move rfl) ?_
        refine o_val rfl rfl rfl rfl (v_field (k := 0) rfl rfl rfl) ?_
        refine o_val rfl rfl rfl rfl (v_load (v := .int .u64 e.ix) rfl rfl (hcx _ _ 0 _ (by simp [LgH]) rfl)) ?_
        refine o_call rfl rfl rfl rfl (c_call callable26 rfl) (lg_Term _ _ a ix tm vt bf l e.ix _ (by omega) hok he.ix) ?_
        rintro v' F H' ⟨rfl, rfl, rfl⟩ _
        rcases hT : lgTerm ix tm l e.ix with ⟨T, ok⟩
        rw [hT] at J
        cases ok with
        | false =>
          refine o_val rfl rfl rfl rfl (v_move rfl) ?_
          refine o_val rfl rfl rfl rfl (v_extract rfl rfl) ?_
          refine o_val rfl rfl rfl rfl (v_extract rfl rfl) ?_
          refine o_val rfl rfl rfl rfl (v_assign rfl) ?_
          refine o_val rfl rfl rfl rfl (v_assign rfl) ?_
          refine o_end ?_
          refine r_seq ?_
          refine r_region rfl ?_
          refine o_val rfl rfl rfl rfl (v_move rfl) ?_
          refine o_val rfl rfl rfl rfl (v_move rfl) ?_
          refine o_skip rfl rfl rfl rfl ?_
          refine o_skip rfl rfl rfl rfl ?_
          refine o_skip rfl rfl rfl rfl ?_
          refine o_skip rfl rfl rfl rfl ?_
          refine o_val rfl rfl rfl rfl (v_pick0 rfl rfl) ?_
          refine o_end ?_
          refine r_false rfl ?_
          refine r_skip ?_
          refine j_keep ?_ (J () (by simp))
          exact ⟨rfl, rfl, rfl, rfl, rfl, rfl, rfl, trivial⟩
        | true =>
          refine o_val rfl rfl rfl rfl (v_move rfl) ?_
          refine o_val rfl rfl rfl rfl (v_extract rfl rfl) ?_
          refine o_val rfl rfl rfl rfl (v_extract rfl rfl) ?_
          refine o_val rfl rfl rfl rfl (v_assign rfl) ?_
          refine o_val rfl rfl rfl rfl (v_assign rfl) ?_
          refine o_end ?_
          refine r_seq ?_
          refine r_region rfl ?_
          refine o_val rfl rfl rfl rfl (v_move rfl) ?_
          refine o_val rfl rfl rfl rfl (v_move rfl) ?_
          refine o_val rfl rfl rfl rfl (v_move rfl) ?_
          refine o_val rfl rfl rfl rfl (v_field (k := 1) rfl rfl rfl) ?_
          refine o_val rfl rfl rfl rfl (v_load (v := .int .u64 e.tm) rfl rfl (hcx _ _ 1 _ (by simp [LgH]) rfl)) ?_
          refine o_val rfl rfl rfl rfl (v_eql rfl rfl) ?_
          refine o_val rfl rfl rfl rfl (v_pick1 rfl rfl) ?_
          refine o_end ?_
          refine r_if rfl (fun h3 => ?_) (fun h3 => ?_)
          · refine j_drop hback ?_
            have hq : mg ix tm l (e :: m') = mg ix tm l m' := by rw [mg, if_neg (by omega), if_pos (by rw [hT]; simp; omega)]
            refine r_exit rfl ?_
            refine r_region rfl ?_
            refine o_val rfl rfl rfl rfl (v_add rfl rfl (wrap_i64 (by omega) (by omega))) ?_
            refine o_val rfl rfl rfl rfl (v_move rfl) ?_
            refine o_end ?_
            refine j_keep ?_ (IH' (hmg.trans hq))
            exact ⟨rfl, rfl, rfl, rfl, rfl, trivial⟩
          · refine r_skip ?_
            refine j_keep ?_ (J () (by simp; omega))
            exact ⟨rfl, rfl, rfl, rfl, rfl, rfl, rfl, trivial⟩
      · rintro _ hne
        refine r_seq ?_
        refine r_seq ?_
        refine d_region 1000000 rfl ([.mem x e.cells 4]) ?_
        refine d_take (i := 0) rfl rfl rfl (by decide +kernel) (by decide +kernel) (by decide +kernel) (Fz.le_refl _) (by simp [LgH]) rfl (v_field (k := 0) rfl rfl rfl) ?_
        refine d_take (i := 1) rfl rfl rfl (by decide +kernel) (by decide +kernel) (by decide +kernel) (Fz.le_refl _) (by simp [LgH]) rfl (v_load (v := .int .u64 e.ix) rfl rfl (hcx _ _ 0 _ (by simp) rfl)) ?_
        refine d_take (i := 2) rfl rfl rfl (by decide +kernel) (by decide +kernel) (by decide +kernel) (Fz.le_refl _) (by simp [LgH]) rfl (v_move rfl) ?_
        refine d_one (i := 3) (by decide +kernel) ?_
        refine d1_call rfl rfl rfl rfl (c_call callable17 rfl) (lg_Last _ _ a ix tm vt bf l.length _ (by omega)) ?_
        rintro v' F H' ⟨rfl, rfl, rfl⟩ _
        refine ⟨fun w hw => held_of hw (Fz.le_refl _) (by simp [LgH]), ?_⟩
        refine d_take (i := 4) rfl rfl rfl (by decide +kernel) (by decide +kernel) (by decide +kernel) (Fz.le_refl _) (by simp [LgH]) rfl (v_add rfl rfl (r := ((ix + l.length + 1 : Nat) : Int)) (wrap_u64 (by omega) (by omega))) ?_
        refine d_take (i := 5) rfl rfl rfl (by decide +kernel) (by decide +kernel) (by decide +kernel) (Fz.le_refl _) (by simp [LgH]) rfl (v_gtr rfl rfl) ?_
        refine d_end (by decide +kernel) ?_
        refine r_if rfl (fun h4 => ?_) (fun h4 => ?_)
        · refine j_drop hback ?_
          have hq : mg ix tm l (e :: m') = (0, l) := by rw [mg, if_neg (by omega), if_neg hne, if_pos (by omega)]
          rw [hmg.trans hq]
          refine r_seq ?_
          refine r_region rfl ?_
          refine o_val rfl rfl rfl rfl (v_assign rfl) ?_
          refine o_end ?_
          exact r_ret1 Try.func25 rfl rfl ⟨⟨rfl, rfl, bf, hok, rfl⟩, Fz.le_refl _⟩
        · have hq : mg ix tm l (e :: m') = (e.ix, l.take (e.ix - ix - 1) ++ (e :: m')) := by rw [mg, if_neg (by omega), if_neg hne, if_neg (by omega)]
          rw [hmg.trans hq]
          have hhl : e.ix - ix - 1 ≤ l.length := by omega
          have hcp := Bf.ok_cp hok
          have hst : ∀ H, bf.ents 4 (enV l) ⊆ H → Sl F H 4 (bf.val (e.ix - ix - 1)) (l.take (e.ix - ix - 1)).length (enV (l.take (e.ix - ix - 1))) := fun H hH => by
            have := Sl.sliced (l := 0) (h := e.ix - ix - 1) (Bf.reads (bf := bf) (sz := 4) (n := l.length) (F := F) (H := H) hok (by rw [enV_length]) hH) (Nat.zero_le _) hhl
            rw [Bf.cut, Nat.sub_zero, Nat.zero_mul, List.drop_zero] at this
            have h9 : (enV l).take ((e.ix - ix - 1) * 4) = enV (l.take (e.ix - ix - 1)) := by
              have e1 : enV l = enV (l.take (e.ix - ix - 1)) ++ enV (l.drop (e.ix - ix - 1)) := by rw [← enV_append, List.take_append_drop]
              rw [e1]
              exact List.take_left' (by rw [enV_length, List.length_take, Nat.min_eq_left hhl])
            rw [h9] at this
            rw [List.length_take, Nat.min_eq_left hhl]
            exact this
          obtain ⟨h, hh⟩ : ∃ h, h = e.ix - ix - 1 := ⟨_, rfl⟩
          rw [← hh] at hhl hst ⊢
          refine r_skip ?_
          refine r_seq ?_
          refine d_region 21 rfl ([.mem x e.cells 4, LgE a ix tm vt bf l.length]) ?_
          refine d_take (i := 0) rfl rfl rfl (by decide +kernel) (by decide +kernel) (by decide +kernel) (Fz.le_refl _) (by intro q hq; simp only [List.mem_cons, List.not_mem_nil, or_false] at hq; rcases hq with rfl | rfl <;> simp [LgH]) rfl (v_move rfl) ?_
          refine d_take (i := 1) rfl rfl rfl (by decide +kernel) (by decide +kernel) (by decide +kernel) (Fz.le_refl _) (by intro q hq; simp only [List.mem_cons, List.not_mem_nil, or_false] at hq; rcases hq with rfl | rfl <;> simp [LgH]) rfl (v_move rfl) ?_
          refine d_take (i := 2) rfl rfl rfl (by decide +kernel) (by decide +kernel) (by decide +kernel) (Fz.le_refl _) (by intro q hq; simp only [List.mem_cons, List.not_mem_nil, or_false] at hq; rcases hq with rfl | rfl <;> simp [LgH]) rfl (v_nilCheck rfl) ?_
          refine d_take (i := 3) rfl rfl rfl (by decide +kernel) (by decide +kernel) (by decide +kernel) (Fz.le_refl _) (by intro q hq; simp only [List.mem_cons, List.not_mem_nil, or_false] at hq; rcases hq with rfl | rfl <;> simp [LgH]) rfl (v_field (k := 3) rfl rfl rfl) ?_
          refine d_take (i := 4) rfl rfl rfl (by decide +kernel) (by decide +kernel) (by decide +kernel) (Fz.le_refl _) (by intro q hq; simp only [List.mem_cons, List.not_mem_nil, or_false] at hq; rcases hq with rfl | rfl <;> simp [LgH]) rfl (v_load rfl rfl (cell_at (j := 1) rfl rfl)) ?_
          refine d_take (i := 5) rfl rfl rfl (by decide +kernel) (by decide +kernel) (by decide +kernel) (Fz.le_refl _) (by intro q hq; simp only [List.mem_cons, List.not_mem_nil, or_false] at hq; rcases hq with rfl | rfl <;> simp [LgH]) rfl (v_field (k := 0) rfl rfl rfl) ?_
          refine d_take (i := 6) rfl rfl rfl (by decide +kernel) (by decide +kernel) (by decide +kernel) (Fz.le_refl _) (by intro q hq; simp only [List.mem_cons, List.not_mem_nil, or_false] at hq; rcases hq with rfl | rfl <;> simp [LgH]) rfl (v_load (v := .int .u64 e.ix) rfl rfl (hcx _ _ 0 _ (by simp) rfl)) ?_
          refine d_take (i := 7) rfl rfl rfl (by decide +kernel) (by decide +kernel) (by decide +kernel) (Fz.le_refl _) (by intro q hq; simp only [List.mem_cons, List.not_mem_nil, or_false] at hq; rcases hq with rfl | rfl <;> simp [LgH]) rfl (v_move rfl) ?_
          refine d_take (i := 8) rfl rfl rfl (by decide +kernel) (by decide +kernel) (by decide +kernel) (Fz.le_refl _) (by intro q hq; simp only [List.mem_cons, List.not_mem_nil, or_false] at hq; rcases hq with rfl | rfl <;> simp [LgH]) rfl (v_nilCheck rfl) ?_
          refine d_take (i := 9) rfl rfl rfl (by decide +kernel) (by decide +kernel) (by decide +kernel) (Fz.le_refl _) (by intro q hq; simp only [List.mem_cons, List.not_mem_nil, or_false] at hq; rcases hq with rfl | rfl <;> simp [LgH]) rfl (v_field (k := 0) rfl rfl rfl) ?_
          refine d_take (i := 10) rfl rfl rfl (by decide +kernel) (by decide +kernel) (by decide +kernel) (Fz.le_refl _) (by intro q hq; simp only [List.mem_cons, List.not_mem_nil, or_false] at hq; rcases hq with rfl | rfl <;> simp [LgH]) rfl (v_load rfl rfl (cell_at (j := 1) rfl rfl)) ?_
          refine d_take (i := 11) rfl rfl rfl (by decide +kernel) (by decide +kernel) (by decide +kernel) (Fz.le_refl _) (by intro q hq; simp only [List.mem_cons, List.not_mem_nil, or_false] at hq; rcases hq with rfl | rfl <;> simp [LgH]) rfl (v_sub rfl rfl (r := ((e.ix - ix : Nat) : Int)) ((wrap_u64 (by omega) (by omega)).trans (by omega))) ?_
          refine d_take (i := 12) rfl rfl rfl (by decide +kernel) (by decide +kernel) (by decide +kernel) (Fz.le_refl _) (by intro q hq; simp only [List.mem_cons, List.not_mem_nil, or_false] at hq; rcases hq with rfl | rfl <;> simp [LgH]) rfl (v_sub rfl rfl (r := (h : Int)) ((wrap_u64 (by omega) (by omega)).trans (by omega))) ?_
          refine d_take (i := 13) rfl rfl rfl (by decide +kernel) (by decide +kernel) (by decide +kernel) (Fz.le_refl _) (by intro q hq; simp only [List.mem_cons, List.not_mem_nil, or_false] at hq; rcases hq with rfl | rfl <;> simp [LgH]) rfl (v_sliceH (sz := 4) rfl rfl rfl rfl rfl (by omega)) ?_
          refine d_take (i := 14) rfl rfl rfl (by decide +kernel) (by decide +kernel) (by decide +kernel) (Fz.le_refl _) (by intro q hq; simp only [List.mem_cons, List.not_mem_nil, or_false] at hq; rcases hq with rfl | rfl <;> simp [LgH]) rfl (v_move rfl) ?_
          refine d_take (i := 15) rfl rfl rfl (by decide +kernel) (by decide +kernel) (by decide +kernel) (Fz.le_refl _) (by intro q hq; simp only [List.mem_cons, List.not_mem_nil, or_false] at hq; rcases hq with rfl | rfl <;> simp [LgH]) rfl (v_move rfl) ?_
          refine d_take (i := 16) rfl rfl rfl (by decide +kernel) (by decide +kernel) (by decide +kernel) (Fz.le_refl _) (by intro q hq; simp only [List.mem_cons, List.not_mem_nil, or_false] at hq; rcases hq with rfl | rfl <;> simp [LgH]) rfl (v_sliceL (sz := 4) rfl rfl rfl rfl rfl (by omega)) ?_
          rw [Bf.cut]
          refine d_one (i := 17) (by decide +kernel) ?_
          refine d1_act rfl rfl rfl rfl (a_buildS (sz := 1) (cs := [bf.val h, Go.sliced (some ⟨b0, off0, none⟩) k m.length cap 4]) [.tmp 58, .tmp 61] rfl rfl rfl rfl rfl rfl rfl rfl rfl rfl) ?_
          rintro v' H' ⟨y, rfl, rfl⟩
          refine ⟨fun w hw => held_of hw (Fz.le_refl _) (by intro q hq; simp only [List.mem_cons, List.not_mem_nil, or_false] at hq; rcases hq with rfl | rfl <;> simp [LgH]), ?_⟩
          have hrows : ([(bf.val h, l.take h), (Go.sliced (some ⟨b0, off0, none⟩) k m.length cap 4, e :: m')] : List (Value × List En)).flatMap (fun r => r.2) = l.take h ++ (e :: m') := by simp
          refine d_one (i := 18) (by decide +kernel) ?_
          refine d1_call rfl rfl rfl rfl (c_call callable35 rfl) (sl_ConcatE _ _ _ [(bf.val h, l.take h), (Go.sliced (some ⟨b0, off0, none⟩) k m.length cap 4, e :: m')] _ (Bf.reads (bf := .at y 2) (sz := 1) (n := 2) (Nat.le_refl _) rfl (by intro q hq; exact List.mem_append_left _ hq)) (by intro r hr; simp only [List.mem_cons, List.not_mem_nil, or_false] at hr; rcases hr with rfl | rfl; exact hst _ (by intro q hq; simp [LgH, hq]); exact hsr.frz (Fz.le_refl _)) (by intro r hr; simp only [List.mem_cons, List.not_mem_nil, or_false] at hr; rcases hr with rfl | rfl; exact fun e he => hl e (List.mem_of_mem_take he); exact fun e he => hm e (hdl e he)) (by simp [lens]; simp at hdn; omega) (by simp)) ?_
          rintro v' F H' ⟨rfl, bf2, hok2, rfl, rfl⟩ _
          refine ⟨fun w hw => held_of hw (Fz.le_refl _) (by intro q hq; simp only [List.mem_cons, List.not_mem_nil, or_false] at hq; rcases hq with rfl | rfl <;> simp [LgH]), ?_⟩
          rw [hrows] at hok2 ⊢
          refine j_sel (H' := LgE a ix tm vt bf l.length :: (bf2.ents 4 (enV (l.take h ++ (e :: m'))) ++ (.mem x e.cells 4 :: (Fr)))) [bf2.ents 4 (enV (l.take h ++ (e :: m'))), [.mem y [bf.val h, Go.sliced (some ⟨b0, off0, none⟩) k m.length cap 4] 2], [LgE a ix tm vt bf l.length], bf.ents 4 (enV l), [.mem x e.cells 4], Fr] [2, 0, 4, 5] rfl rfl rfl ?_
          refine d_take (i := 19) rfl rfl rfl (by decide +kernel) (by decide +kernel) (by decide +kernel) (Fz.le_refl _) (by intro q hq; simp only [List.mem_cons, List.not_mem_nil, or_false] at hq; rcases hq with rfl | rfl <;> simp [LgH]) rfl (v_nilCheck rfl) ?_
          refine d_take (i := 20) rfl rfl rfl (by decide +kernel) (by decide +kernel) (by decide +kernel) (Fz.le_refl _) (by intro q hq; simp only [List.mem_cons, List.not_mem_nil, or_false] at hq; rcases hq with rfl | rfl <;> simp [LgH]) rfl (v_field (k := 3) rfl rfl rfl) ?_
          refine d_one (i := 21) (by decide +kernel) ?_
          refine d1_last 1000000 ([]) rfl rfl rfl (a_store1 0 rfl rfl rfl rfl rfl (Nat.le_of_ble_eq_true rfl)) ?_
          refine j_heap (H' := LgH a ix tm vt bf2 (l.take h ++ (e :: m')) (.mem x e.cells 4 :: Fr)) rfl ?_
          refine d_end (by decide +kernel) ?_
          refine r_seq ?_
          refine r_region rfl ?_
          refine o_val rfl rfl rfl rfl (v_field (k := 0) rfl rfl rfl) ?_
          refine o_val rfl rfl rfl rfl (v_load (v := .int .u64 e.ix) rfl rfl (hcx _ _ 0 _ (by simp [LgH]) rfl)) ?_
          refine o_val rfl rfl rfl rfl (v_assign rfl) ?_
          refine o_end ?_
          refine j_drop (drop_in _ _ _ _) ?_
          exact r_ret1 Try.func25 rfl rfl ⟨⟨rfl, rfl, bf2, hok2, rfl⟩, Fz.le_refl _⟩
  · obtain rfl : k = m.length := by omega
    rw [List.drop_length] at hmg
    rw [hmg]
    refine r_exit rfl ?_
    refine r_seq ?_
    refine r_region rfl ?_
    refine o_val rfl rfl rfl rfl (v_assign rfl) ?_
    refine o_end ?_
    exact r_ret1 Try.func25 rfl rfl ⟨⟨rfl, rfl, bf, hok, rfl⟩, Fz.le_refl _⟩
end Go.SX
