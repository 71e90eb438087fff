/-
  Contracts of package slices, for bytes.
-/
import Derived.Test.YtdmpnpcpnhcioaaOct3
import Derived.Test.YtdmpnpcpnhcioaaSxApp
namespace Go.SX
open Go Go.Proofs
set_option maxRecDepth 4000
set_option linter.unusedSimpArgs false
set_option linter.unusedVariables false

theorem bs_Clone (O : World) (F : Fz) (v : Value) (l : List UInt8) (Fr : List Ent) (hv : SlB F Fr v l) (hl : l.length ≤ 140737488355328) :
    Does Try.prog O 32 #[v] F Fr (fun r F' H' => F' = F ∧ ∃ bf : Bf, bf.ok l.length ∧ r = bf.val l.length ∧ H' = bf.ents 1 (bytesV l) ++ Fr) := by
  obtain ⟨a0, cap, rfl, hcap⟩ := Sl.shape hv
  refine does_of_run (args := [_]) Try.func32 rfl rfl ?_
  cases a0 with
  | none =>
    have hl0 : l = [] := by
      cases l with
      | nil => rfl
      | cons x r =>
        obtain ⟨a1, c1, h1, _, _, h4, h5⟩ := hv
        obtain ⟨b, off, hb, _⟩ := h5 0 (byteV x) rfl
        simp only [Value.slice.injEq] at h1
        rw [hb] at h1
        cases h1.1
    subst hl0
    refine r_seq ?_
    refine r_region rfl ?_
    refine o_val rfl rfl rfl rfl (v_assign rfl) ?_
    refine o_end ?_
    refine r_seq ?_
    refine r_seq ?_
    refine r_region rfl ?_
    refine o_val rfl rfl rfl rfl (v_move rfl) ?_
    refine o_val rfl rfl rfl rfl (v_slnil rfl rfl rfl) ?_
    refine o_end ?_
    refine r_true rfl ?_
    refine r_seq ?_
    refine r_region rfl ?_
    refine o_val rfl rfl rfl rfl (v_assign rfl) ?_
    refine o_end ?_
    exact r_ret1 Try.func32 rfl rfl ⟨⟨rfl, .nil, rfl, rfl, rfl⟩, Fz.le_refl _⟩
  | some x =>
    refine r_seq ?_
    refine r_region rfl ?_
    refine o_val rfl rfl rfl rfl (v_assign rfl) ?_
    refine o_end ?_
    refine r_seq ?_
    refine r_seq ?_
    refine r_region rfl ?_
    refine o_val rfl rfl rfl rfl (v_move rfl) ?_
    refine o_val rfl rfl rfl rfl (v_slnil rfl rfl rfl) ?_
    refine o_end ?_
    refine r_false rfl ?_
    refine r_skip ?_
    refine r_seq ?_
    refine r_region rfl ?_
    refine o_act rfl rfl rfl rfl (a_buildS0 rfl rfl) ?_
    rintro v' H' ⟨b, rfl, rfl⟩
    refine o_val rfl rfl rfl rfl (v_move rfl) ?_
    refine o_act rfl rfl rfl rfl (a_append (bf := .at b 0) (n := 0) (sz := 1) (bytes := 1) (xs := []) ⟨⟨_, _, _, rfl, rfl, rfl, rfl, rfl, rfl⟩, by decide⟩ rfl (Nat.le_refl _) rfl rfl rfl (hv.mono (Fz.le_refl _) (by simp)) (bytes_one _) (by unfold maxLen; omega) (by omega)) ?_
    rintro v' H' ⟨bf, rfl, hok, rfl⟩
    rw [Nat.zero_add] at hok ⊢
    refine o_val rfl rfl rfl rfl (v_assign rfl) ?_
    refine o_end ?_
    exact r_ret1 Try.func32 rfl rfl ⟨⟨rfl, bf, hok, rfl, rfl⟩, Fz.le_refl _⟩

theorem byte_cell {F : Fz} {H : List Ent} {v : Value} {l : List UInt8} {i : Nat} (hv : SlB F H v l) (hi : i < l.length) : ∃ b off cap, v = .slice (some ⟨b, off, none⟩) l.length cap ∧ Cell F H b (off + i) (byteV l[i]) := by
  obtain ⟨b0, off0, c0, hab, _, hc0⟩ := Sl.view hv (by omega)
  exact ⟨b0, off0, c0, hab, hc0 i _ (by rw [bytesV_get, List.getElem?_eq_getElem hi]; rfl)⟩
theorem byteV_ne (a b : UInt8) : ((a.toNat : Int) ≠ (b.toNat : Int)) ↔ a ≠ b := by
  constructor
  · intro h e; exact h (by rw [e])
  · intro h e
    apply h
    apply UInt8.eq_of_toBitVec_eq
    apply BitVec.eq_of_toNat_eq
    show a.toNat = b.toNat
    omega

theorem bs_Equal (O : World) (F : Fz) (va vb : Value) (l m : List UInt8) (H : List Ent) (ha : SlB F H va l) (hb : SlB F H vb m) (hl : l.length ≤ 9223372036854775000) (hm : m.length ≤ 9223372036854775000) :
    Does Try.prog O 33 #[va, vb] F H (fun r F' H' => r = .bool (decide (l = m)) ∧ F' = F ∧ H' = H) := by
  obtain ⟨a0, cap, rfl, hcap⟩ := Sl.shape ha
  obtain ⟨a1, cap1, rfl, hcap1⟩ := Sl.shape hb
  refine does_of_run (args := [_, _]) Try.func33 rfl rfl ?_
  refine r_seq ?_
  refine r_region rfl ?_
  refine o_val rfl rfl rfl rfl (v_assign rfl) ?_
  refine o_end ?_
  refine r_seq ?_
  refine r_seq ?_
  refine r_region rfl ?_
  refine o_val rfl rfl rfl rfl (v_move rfl) ?_
  refine o_val rfl rfl rfl rfl (v_len rfl rfl) ?_
  refine o_val rfl rfl rfl rfl (v_move rfl) ?_
  refine o_val rfl rfl rfl rfl (v_len rfl rfl) ?_
  refine o_val rfl rfl rfl rfl (v_neq rfl rfl) ?_
  refine o_end ?_
  refine r_if rfl (fun h => ?_) (fun h => ?_)
  · refine r_seq ?_
    refine r_region rfl ?_
    refine o_val rfl rfl rfl rfl (v_assign rfl) ?_
    refine o_end ?_
    rw [decide_eq_false (p := l = m) (by rintro rfl; omega)]
    exact r_ret1 Try.func33 rfl rfl ⟨⟨rfl, rfl, rfl⟩, Fz.le_refl _⟩
  · have hlm : l.length = m.length := by omega
    refine r_skip ?_
    refine r_seq ?_
    refine r_seq ?_
    refine r_region rfl ?_
    refine o_val rfl rfl rfl rfl (v_move rfl) ?_
    refine o_val rfl rfl rfl rfl (v_len rfl rfl) ?_
    refine o_val rfl rfl rfl rfl (v_move rfl) ?_
    refine o_end ?_
    refine r_block ?_
    refine r_loop (fun i : Nat => i ≤ l.length ∧ l.take i = m.take i) (fun i => [(0, .slice a0 l.length cap), (1, .slice a1 m.length cap1), (12, .int .i64 l.length), (13, .int .i64 i)]) (fun _ => F) (fun _ => H) (fun i => l.length - i) 0 ⟨Nat.zero_le _, rfl⟩ ⟨rfl, rfl, rfl, rfl, trivial⟩ rfl rfl ?_
    rintro i ⟨hi, htk⟩ IH
    refine r_seq ?_
    refine r_region rfl ?_
    refine o_val rfl rfl rfl rfl (v_lss rfl rfl) ?_
    refine o_end ?_
    refine r_seq ?_
    refine r_if rfl (fun h2 => ?_) (fun h2 => ?_)
    · have hil : i < l.length := by omega
      have him : i < m.length := by omega
      obtain ⟨b0, off0, c0, hab, hc0⟩ := byte_cell ha hil
      simp only [Value.slice.injEq] at hab
      obtain ⟨rfl, _, rfl⟩ := hab
      obtain ⟨b1, off1, c1, hab, hc1⟩ := byte_cell hb him
      simp only [Value.slice.injEq] at hab
      obtain ⟨rfl, _, rfl⟩ := hab
      refine r_skip ?_
      refine r_seq ?_
      refine r_block ?_
      refine r_seq ?_
      refine r_region rfl ?_
      refine o_val rfl rfl rfl rfl (v_move rfl) ?_
      refine o_val rfl rfl rfl rfl (v_assign rfl) ?_
      refine o_end ?_
      refine r_seq ?_
      refine d_region 1000000 rfl (H) ?_
      refine d_take (i := 0) rfl rfl rfl (by decide +kernel) (by decide +kernel) (by decide +kernel) (Fz.le_refl _) (fun e he => he) rfl (v_move rfl) ?_
      refine d_take (i := 1) rfl rfl rfl (by decide +kernel) (by decide +kernel) (by decide +kernel) (Fz.le_refl _) (fun e he => he) rfl (v_move rfl) ?_
      refine d_take (i := 2) rfl rfl rfl (by decide +kernel) (by decide +kernel) (by decide +kernel) (Fz.le_refl _) (fun e he => he) rfl (v_index1 rfl rfl rfl rfl hil) ?_
      refine d_take (i := 3) rfl rfl rfl (by decide +kernel) (by decide +kernel) (by decide +kernel) (Fz.le_refl _) (fun e he => he) rfl (v_load rfl rfl hc0) ?_
      refine d_take (i := 4) rfl rfl rfl (by decide +kernel) (by decide +kernel) (by decide +kernel) (Fz.le_refl _) (fun e he => he) rfl (v_move rfl) ?_
      refine d_take (i := 5) rfl rfl rfl (by decide +kernel) (by decide +kernel) (by decide +kernel) (Fz.le_refl _) (fun e he => he) rfl (v_move rfl) ?_
      refine d_take (i := 6) rfl rfl rfl (by decide +kernel) (by decide +kernel) (by decide +kernel) (Fz.le_refl _) (fun e he => he) rfl (v_index1 rfl rfl rfl rfl him) ?_
      refine d_take (i := 7) rfl rfl rfl (by decide +kernel) (by decide +kernel) (by decide +kernel) (Fz.le_refl _) (fun e he => he) rfl (v_load rfl rfl hc1) ?_
      refine d_take (i := 8) rfl rfl rfl (by decide +kernel) (by decide +kernel) (by decide +kernel) (Fz.le_refl _) (fun e he => he) rfl (v_neq rfl rfl) ?_
      refine d_end (by decide +kernel) ?_
      refine r_if rfl (fun h3 => ?_) (fun h3 => ?_)
      · refine r_seq ?_
        refine r_region rfl ?_
        refine o_val rfl rfl rfl rfl (v_assign rfl) ?_
        refine o_end ?_
        rw [decide_eq_false (p := l = m) (by
          rintro rfl
          exact h3 rfl)]
        exact r_ret1 Try.func33 rfl rfl ⟨⟨rfl, rfl, rfl⟩, Fz.le_refl _⟩
      · have hee : l[i] = m[i] := Classical.byContradiction fun hne => h3 ((byteV_ne _ _).2 hne)
        refine r_skip ?_
        refine r_inBlock ?_
        refine r_region rfl ?_
        refine o_val rfl rfl rfl rfl (v_add rfl rfl (wrap_i64 (by omega) (by omega))) ?_
        refine o_val rfl rfl rfl rfl (v_move rfl) ?_
        refine o_end ?_
        refine j_keep ?_ (IH (i + 1) ⟨hil, by rw [List.take_succ_eq_append_getElem hil, List.take_succ_eq_append_getElem him, htk, hee]⟩ (by omega))
        exact ⟨rfl, rfl, rfl, rfl, trivial⟩
    · obtain rfl : i = l.length := by omega
      rw [List.take_length, hlm, List.take_length] at htk
      refine r_exit rfl ?_
      refine r_seq ?_
      refine r_region rfl ?_
      refine o_val rfl rfl rfl rfl (v_assign rfl) ?_
      refine o_end ?_
      rw [decide_eq_true htk]
      exact r_ret1 Try.func33 rfl rfl ⟨⟨rfl, rfl, rfl⟩, Fz.le_refl _⟩

theorem bs_Grow (O : World) (F : Fz) (n : Nat) (Fr : List Ent) (hn : n ≤ 1000000000) :
    Does Try.prog O 46 #[.slice none 0 0, .int .i64 n] F Fr (fun r F' H' => F' = F ∧ ∃ bf : Bf, bf.ok 0 ∧ r = bf.val 0 ∧ H' = bf.ents 1 [] ++ Fr) := by
  refine does_of_run (args := [_, _]) Try.func46 rfl rfl ?_
  refine r_seq ?_
  refine r_region rfl ?_
  refine o_val rfl rfl rfl rfl (v_assign rfl) ?_
  refine o_end ?_
  refine r_seq ?_
  refine r_seq ?_
  refine r_region rfl ?_
  refine o_val rfl rfl rfl rfl (v_move rfl) ?_
  refine o_val rfl rfl rfl rfl (v_lss rfl rfl) ?_
  refine o_end ?_
  refine r_if rfl (fun h => ?_) (fun h => ?_)
  · omega
  · refine r_skip ?_
    refine r_seq ?_
    refine r_seq ?_
    refine r_region rfl ?_
    refine o_val rfl rfl rfl rfl (v_move rfl) ?_
    refine o_val rfl rfl rfl rfl (v_move rfl) ?_
    refine o_val rfl rfl rfl rfl (v_cap rfl rfl) ?_
    refine o_val rfl rfl rfl rfl (v_move rfl) ?_
    refine o_val rfl rfl rfl rfl (v_len rfl rfl) ?_
    refine o_val rfl rfl rfl rfl (v_sub rfl rfl (wrap_i64 (by omega) (by omega))) ?_
    refine o_val rfl rfl rfl rfl (v_sub rfl rfl (wrap_i64 (by omega) (by omega))) ?_
    refine o_val rfl rfl rfl rfl (v_assign rfl) ?_
    refine o_end ?_
    refine r_seq ?_
    refine r_region rfl ?_
    refine o_val rfl rfl rfl rfl (v_move rfl) ?_
    refine o_val rfl rfl rfl rfl (v_gtr rfl rfl) ?_
    refine o_end ?_
    refine r_if rfl (fun h2 => ?_) (fun h2 => ?_)
    · refine r_region rfl ?_
      refine o_val rfl rfl rfl rfl (v_move rfl) ?_
      refine o_val rfl rfl rfl rfl (v_move rfl) ?_
      refine o_val rfl rfl rfl rfl (v_cap rfl rfl) ?_
      refine o_val rfl rfl rfl rfl (v_sliceH (sz := 1) rfl rfl rfl rfl rfl (Nat.le_refl _)) ?_
      refine o_val rfl rfl rfl rfl (v_move rfl) ?_
      refine j_heap (H' := [] ++ (Bf.nil.ents 1 [] ++ Fr)) rfl ?_
      refine o_act rfl rfl rfl rfl (a_appendZ [] (bf := .nil) (n := 0) (m := n) (zc := [byteV 0]) (bytes := 1) (xs := []) ⟨⟨_, _, _, rfl, rfl, rfl, rfl, rfl, rfl⟩, by decide⟩ rfl rfl rfl rfl rfl rfl (by simp) rfl (by omega) (by omega)) ?_
      rintro v' H' ⟨bf, rfl, hok, rfl⟩
      rw [Nat.zero_add] at hok ⊢
      refine o_val rfl rfl rfl rfl (v_move rfl) ?_
      refine o_val rfl rfl rfl rfl (v_len rfl rfl) ?_
      refine o_val rfl rfl rfl rfl (v_sliceH (sz := 1) rfl rfl rfl rfl rfl (Nat.zero_le _)) ?_
      refine o_val rfl rfl rfl rfl (v_assign rfl) ?_
      refine o_end ?_
      refine r_seq ?_
      refine r_region rfl ?_
      refine o_val rfl rfl rfl rfl (v_move rfl) ?_
      refine o_val rfl rfl rfl rfl (v_assign rfl) ?_
      refine o_end ?_
      rw [Bf.cut]
      refine j_cutBf [] 0 ?_
      rw [List.take_zero]
      exact r_ret1 Try.func46 rfl rfl ⟨⟨rfl, bf, bf.ok_le hok (Nat.zero_le _), rfl, rfl⟩, Fz.le_refl _⟩
    · refine r_skip ?_
      refine r_seq ?_
      refine r_region rfl ?_
      refine o_val rfl rfl rfl rfl (v_move rfl) ?_
      refine o_val rfl rfl rfl rfl (v_assign rfl) ?_
      refine o_end ?_
      exact r_ret1 Try.func46 rfl rfl ⟨⟨rfl, .nil, rfl, rfl, rfl⟩, Fz.le_refl _⟩

/-- How many entries some lists have. -/
def blens (rs : List (Value × List UInt8)) : Nat := (rs.map fun r => r.2.length).sum
theorem blens_take (rs : List (Value × List UInt8)) (k : Nat) (hk : k < rs.length) : blens (rs.take (k + 1)) = blens (rs.take k) + rs[k].2.length := by
  unfold blens
  rw [List.take_succ_eq_append_getElem hk]
  simp only [List.map_append, List.map_cons, List.map_nil, List.sum_append, List.sum_cons, List.sum_nil, Nat.add_zero]
theorem blens_le (rs : List (Value × List UInt8)) (k : Nat) : blens (rs.take k) ≤ blens rs := by
  have : blens rs = blens (rs.take k) + blens (rs.drop k) := by
    unfold blens
    rw [← List.sum_append, ← List.map_append, List.take_append_drop]
  omega
theorem blens_flat (rs : List (Value × List UInt8)) : (rs.flatMap fun r => r.2).length = blens rs := by
  unfold blens
  induction rs with
  | nil => rfl
  | cons r q ih => simp [ih]
theorem bs_Concat (O : World) (F : Fz) (v : Value) (rs : List (Value × List UInt8)) (Fr : List Ent) (hv : Sl F Fr 1 v rs.length (rs.map (·.1))) (hr : ∀ r ∈ rs, SlB F Fr r.1 r.2) (hn : blens rs ≤ 1000000000) (hl : rs.length ≤ 1000000) :
    Does Try.prog O 37 #[v] F Fr (fun r F' H' => F' = F ∧ ∃ bf : Bf, bf.ok (rs.flatMap fun r => r.2).length ∧ r = bf.val (rs.flatMap fun r => r.2).length ∧ H' = bf.ents 1 (bytesV (rs.flatMap fun r => r.2)) ++ Fr) := by
  obtain ⟨a0, cap, rfl, hcap⟩ := Sl.shape hv
  have hsl : ∀ r ∈ rs, ∃ a c, r.1 = .slice a r.2.length c := fun r hm => by
    obtain ⟨a, c, h, _⟩ := Sl.shape (hr r hm)
    exact ⟨a, c, h⟩
  refine does_of_run (args := [_]) Try.func37 rfl rfl ?_
  refine r_seq ?_
  refine r_region rfl ?_
  refine o_val rfl rfl rfl rfl (v_assign rfl) ?_
  refine o_end ?_
  refine r_seq ?_
  refine r_region rfl ?_
  refine o_val rfl rfl rfl rfl (v_assign rfl) ?_
  refine o_end ?_
  refine r_seq ?_
  refine r_seq ?_
  refine r_region rfl ?_
  refine o_val rfl rfl rfl rfl (v_move rfl) ?_
  refine o_val rfl rfl rfl rfl (v_len rfl rfl) ?_
  refine o_val rfl rfl rfl rfl (v_move rfl) ?_
  refine o_end ?_
  refine r_block ?_
  refine r_loop (fun k : Nat => k ≤ rs.length) (fun k => [(0, .slice a0 rs.length cap), (3, .int .i64 (blens (rs.take k))), (9, .slice a0 rs.length cap), (10, .int .i64 rs.length), (11, .int .i64 k)]) (fun _ => F) (fun _ => Fr) (fun k => rs.length - k) 0 (Nat.zero_le _) ⟨rfl, rfl, rfl, rfl, rfl, trivial⟩ rfl rfl ?_
  intro k hk IH
  refine r_seq ?_
  refine r_region rfl ?_
  refine o_val rfl rfl rfl rfl (v_lss rfl rfl) ?_
  refine o_end ?_
  refine r_seq ?_
  refine r_if rfl (fun h => ?_) (fun h => ?_)
  · have hkl : k < rs.length := by omega
    obtain ⟨b0, off0, c0, hab, _, hc0⟩ := Sl.view hv (by omega)
    simp only [Value.slice.injEq] at hab
    obtain ⟨rfl, _, rfl⟩ := hab
    have hcell := hc0 k rs[k].1 (by rw [List.getElem?_map, List.getElem?_eq_getElem hkl]; rfl)
    obtain ⟨a1, c1, he⟩ := hsl rs[k] (List.getElem_mem _)
    have hlt := blens_take rs k hkl
    have hle := blens_le rs (k + 1)
    have IH' := IH (k + 1) hkl (by omega)
    rw [hlt] at IH'
    rw [he] at hcell
    refine r_skip ?_
    refine r_seq ?_
    refine r_block ?_
    refine r_seq ?_
    refine r_region rfl ?_
    refine o_val rfl rfl rfl rfl (v_index1 rfl rfl rfl rfl hkl) ?_
    refine o_val rfl rfl rfl rfl (v_load rfl rfl hcell) ?_
    refine o_val rfl rfl rfl rfl (v_assign rfl) ?_
    refine o_end ?_
    refine r_seq ?_
    refine r_region rfl ?_
    refine o_val rfl rfl rfl rfl (v_move rfl) ?_
    refine o_val rfl rfl rfl rfl (v_move rfl) ?_
    refine o_val rfl rfl rfl rfl (v_len rfl rfl) ?_
    refine o_val rfl rfl rfl rfl (v_add rfl rfl (r := ((blens (rs.take k) + rs[k].2.length : Nat) : Int)) (wrap_i64 (by omega) (by omega))) ?_
    refine o_val rfl rfl rfl rfl (v_assign rfl) ?_
    refine o_end ?_
    refine r_seq ?_
    refine r_region rfl ?_
    refine o_val rfl rfl rfl rfl (v_move rfl) ?_
    refine o_val rfl rfl rfl rfl (v_lss rfl rfl) ?_
    refine o_end ?_
    refine r_if rfl (fun h2 => ?_) (fun h2 => ?_)
    · omega
    · refine r_skip ?_
      refine r_inBlock ?_
      refine r_region rfl ?_
      refine o_val rfl rfl rfl rfl (v_add rfl rfl (wrap_i64 (by omega) (by omega))) ?_
      refine o_val rfl rfl rfl rfl (v_move rfl) ?_
      refine o_end ?_
      refine j_keep ?_ IH'
      exact ⟨rfl, rfl, rfl, rfl, rfl, trivial⟩
  · obtain rfl : k = rs.length := by omega
    rw [List.take_length]
    clear IH
    refine r_exit rfl ?_
    refine r_seq ?_
    refine r_region rfl ?_
    refine o_val rfl rfl rfl rfl (v_move rfl) ?_
    refine o_call rfl rfl rfl rfl (c_call callable46 rfl) (bs_Grow _ _ _ _ hn) ?_
    rintro v' F H' ⟨rfl, bf0, hok0, rfl, rfl⟩ _
    refine o_val rfl rfl rfl rfl (v_assign rfl) ?_
    refine o_end ?_
    refine r_seq ?_
    refine r_seq ?_
    refine r_region rfl ?_
    refine o_val rfl rfl rfl rfl (v_move rfl) ?_
    refine o_val rfl rfl rfl rfl (v_len rfl rfl) ?_
    refine o_val rfl rfl rfl rfl (v_move rfl) ?_
    refine o_end ?_
    refine r_block ?_
    refine r_loop (fun g : Nat × Bf => g.1 ≤ rs.length ∧ g.2.ok (blens (rs.take g.1))) (fun g => [(6, g.2.val (blens (rs.take g.1))), (25, .slice a0 rs.length cap), (26, .int .i64 rs.length), (27, .int .i64 g.1)]) (fun _ => F) (fun g => g.2.ents 1 (bytesV ((rs.take g.1).flatMap fun r => r.2)) ++ Fr) (fun g => rs.length - g.1) (0, bf0) ⟨Nat.zero_le _, hok0⟩ ⟨rfl, rfl, rfl, rfl, trivial⟩ rfl rfl ?_
    rintro ⟨i, bf⟩ ⟨hi, hokb⟩ IH
    dsimp only at hi hokb ⊢
    refine r_seq ?_
    refine r_region rfl ?_
    refine o_val rfl rfl rfl rfl (v_lss rfl rfl) ?_
    refine o_end ?_
    refine r_seq ?_
    refine r_if rfl (fun h3 => ?_) (fun h3 => ?_)
    · have hkl : i < rs.length := by omega
      obtain ⟨b0, off0, c0, hab, _, hc0⟩ := Sl.view hv (by omega)
      simp only [Value.slice.injEq] at hab
      obtain ⟨rfl, _, rfl⟩ := hab
      have hcell := hc0 i rs[i].1 (by rw [List.getElem?_map, List.getElem?_eq_getElem hkl]; rfl)
      have hlt := blens_take rs i hkl
      have hle := blens_le rs (i + 1)
      have hri := hr rs[i] (List.getElem_mem _)
      obtain ⟨a1, c1, he⟩ := hsl rs[i] (List.getElem_mem _)
      rw [he] at hcell hri
      have hfl : (rs.take (i + 1)).flatMap (fun r => r.2) = (rs.take i).flatMap (fun r => r.2) ++ rs[i].2 := by
        rw [List.take_succ_eq_append_getElem hkl]; simp only [List.flatMap_append, List.flatMap_cons, List.flatMap_nil, List.append_nil]
      refine r_skip ?_
      refine r_seq ?_
      refine r_block ?_
      refine r_seq ?_
      refine r_region rfl ?_
      refine o_val rfl rfl rfl rfl (v_index1 rfl rfl rfl rfl hkl) ?_
      refine o_val rfl rfl rfl rfl (v_load rfl rfl (hcell.mono (Fz.le_refl _) (by simp))) ?_
      refine o_val rfl rfl rfl rfl (v_assign rfl) ?_
      refine o_end ?_
      refine r_region rfl ?_
      refine o_val rfl rfl rfl rfl (v_move rfl) ?_
      refine o_val rfl rfl rfl rfl (v_move rfl) ?_
      refine o_act rfl rfl rfl rfl (a_append (bf := bf) (n := blens (rs.take i)) (sz := 1) (bytes := 1) ⟨⟨_, _, _, rfl, rfl, rfl, rfl, rfl, rfl⟩, by decide⟩ rfl hokb (by rw [bytesV_length, blens_flat, Nat.mul_one]) rfl rfl (hri.mono (Fz.le_refl _) (by simp)) (bytes_one _) (by unfold maxLen; omega) (by omega)) ?_
      rintro v' H' ⟨bf2, rfl, hok2, rfl⟩
      rw [← bytesV_append, ← hfl]
      have IH' := IH (i + 1, bf2) ⟨hkl, by dsimp only; rw [hlt]; exact hok2⟩ (by dsimp only; omega)
      dsimp only at IH'
      rw [hlt] at IH'
      refine o_val rfl rfl rfl rfl (v_assign rfl) ?_
      refine o_end ?_
      refine r_inBlock ?_
      refine r_region rfl ?_
      refine o_val rfl rfl rfl rfl (v_add rfl rfl (wrap_i64 (by omega) (by omega))) ?_
      refine o_val rfl rfl rfl rfl (v_move rfl) ?_
      refine o_end ?_
      refine j_keep ?_ IH'
      exact ⟨rfl, rfl, rfl, rfl, trivial⟩
    · obtain rfl : i = rs.length := by omega
      rw [List.take_length] at hokb ⊢
      rw [← blens_flat] at hokb ⊢
      refine r_exit rfl ?_
      refine r_seq ?_
      refine r_region rfl ?_
      refine o_val rfl rfl rfl rfl (v_move rfl) ?_
      refine o_val rfl rfl rfl rfl (v_assign rfl) ?_
      refine o_end ?_
      exact r_ret1 Try.func37 rfl rfl ⟨⟨rfl, bf, hokb, rfl, rfl⟩, Fz.le_refl _⟩


/-! ### Is there a byte that isn't nought? -/

theorem fr_isnot0 (O : World) (F : Fz) (b : UInt8) (Fr : List Ent) : Does Try.prog O 30 #[byteV b] F Fr (fun r F' H' => r = .bool (decide (b ≠ 0)) ∧ F' = F ∧ H' = Fr) := by
  refine does_of_run (args := [_]) Try.func30 rfl rfl ?_
  refine r_seq ?_
  refine r_region rfl ?_
  refine o_val rfl rfl rfl rfl (v_assign rfl) ?_
  refine o_end ?_
  refine r_seq ?_
  refine r_region rfl ?_
  refine o_val rfl rfl rfl rfl (v_move rfl) ?_
  refine o_val rfl rfl rfl rfl (v_neq rfl rfl) ?_
  refine o_val rfl rfl rfl rfl (v_assign rfl) ?_
  refine o_end ?_
  refine j_slot 2 rfl (v' := .bool (decide (b ≠ 0))) (by congr 1; rw [decide_eq_decide]; exact byteV_ne b 0) ?_
  exact r_ret1 Try.func30 rfl rfl ⟨⟨rfl, rfl, rfl⟩, Fz.le_refl _⟩
theorem bs_Index0 (O : World) (F : Fz) (v : Value) (l : List UInt8) (Fr : List Ent) (hv : SlB F Fr v l) (hl : l.length ≤ 9223372036854775000) :
    Does Try.prog O 45 #[v, .func (.func 30) #[] #[]] F Fr (fun r F' H' => (∃ n : Int, r = .int .i64 n ∧ (0 ≤ n ↔ ¬ ∀ c ∈ l, c = 0)) ∧ F' = F ∧ H' = Fr) := by
  obtain ⟨a0, cap, rfl, hcap⟩ := Sl.shape hv
  refine does_of_run (args := [_, _]) Try.func45 rfl rfl ?_
  refine r_seq ?_
  refine r_region rfl ?_
  refine o_val rfl rfl rfl rfl (v_assign rfl) ?_
  refine o_end ?_
  refine r_seq ?_
  refine r_seq ?_
  refine r_region rfl ?_
  refine o_val rfl rfl rfl rfl (v_move rfl) ?_
  refine o_val rfl rfl rfl rfl (v_len rfl rfl) ?_
  refine o_val rfl rfl rfl rfl (v_move rfl) ?_
  refine o_end ?_
  refine r_block ?_
  refine r_loop (fun i : Nat => i ≤ l.length ∧ ∀ (j : Nat) (h : j < l.length), j < i → l[j] = 0) (fun i => [(0, .slice a0 l.length cap), (1, .func (.func 30) #[] #[]), (7, .int .i64 l.length), (8, .int .i64 i)]) (fun _ => F) (fun _ => Fr) (fun i => l.length - i) 0 ⟨Nat.zero_le _, fun j _ h => by omega⟩ ⟨rfl, rfl, rfl, rfl, trivial⟩ rfl rfl ?_
  rintro i ⟨hi, hz⟩ IH
  refine r_seq ?_
  refine r_region rfl ?_
  refine o_val rfl rfl rfl rfl (v_lss rfl rfl) ?_
  refine o_end ?_
  refine r_seq ?_
  refine r_if rfl (fun h => ?_) (fun h => ?_)
  · have hil : i < l.length := by omega
    obtain ⟨b0, off0, c0, hab, hc0⟩ := byte_cell hv hil
    simp only [Value.slice.injEq] at hab
    obtain ⟨rfl, _, rfl⟩ := hab
    refine r_skip ?_
    refine r_seq ?_
    refine r_block ?_
    refine r_seq ?_
    refine r_region rfl ?_
    refine o_val rfl rfl rfl rfl (v_move rfl) ?_
    refine o_val rfl rfl rfl rfl (v_assign rfl) ?_
    refine o_end ?_
    refine r_seq ?_
    refine r_region rfl ?_
    refine o_val rfl rfl rfl rfl (v_move rfl) ?_
    refine o_val rfl rfl rfl rfl (v_move rfl) ?_
    refine o_val rfl rfl rfl rfl (v_move rfl) ?_
    refine o_val rfl rfl rfl rfl (v_index1 rfl rfl rfl rfl hil) ?_
    refine o_val rfl rfl rfl rfl (v_load rfl rfl hc0) ?_
    refine o_call rfl rfl rfl rfl (c_callv rfl callable30 rfl) (fr_isnot0 _ _ l[i] _) ?_
    rintro v' F Fr ⟨rfl, rfl, rfl⟩ _
    refine o_end ?_
    refine r_if rfl (fun h2 => ?_) (fun h2 => ?_)
    · refine r_seq ?_
      refine r_region rfl ?_
      refine o_val rfl rfl rfl rfl (v_move rfl) ?_
      refine o_val rfl rfl rfl rfl (v_assign rfl) ?_
      refine o_end ?_
      exact r_ret1 Try.func45 rfl rfl ⟨⟨⟨_, rfl, ⟨fun _ hall => h2 (hall _ (List.getElem_mem _)), fun _ => by omega⟩⟩, rfl, rfl⟩, Fz.le_refl _⟩
    · refine r_skip ?_
      refine r_inBlock ?_
      refine r_region rfl ?_
      refine o_val rfl rfl rfl rfl (v_add rfl rfl (wrap_i64 (by omega) (by omega))) ?_
      refine o_val rfl rfl rfl rfl (v_move rfl) ?_
      refine o_end ?_
      refine j_keep ?_ (IH (i + 1) ⟨hil, fun j hj hji => by
        by_cases hje : j = i
        · subst hje; exact Classical.byContradiction h2
        · exact hz j hj (by omega)⟩ (by omega))
      exact ⟨rfl, rfl, rfl, rfl, trivial⟩
  · refine r_exit rfl ?_
    refine r_seq ?_
    refine r_region rfl ?_
    refine o_val rfl rfl rfl rfl (v_assign rfl) ?_
    refine o_end ?_
    exact r_ret1 Try.func45 rfl rfl ⟨⟨⟨_, rfl, ⟨fun h => by omega, fun hn => absurd (fun c hc => by
      obtain ⟨j, hj, rfl⟩ := List.getElem_of_mem hc
      exact hz j hj (by omega)) hn⟩⟩, rfl, rfl⟩, Fz.le_refl _⟩
theorem bs_Contains0 (O : World) (F : Fz) (v : Value) (l : List UInt8) (Fr : List Ent) (hv : SlB F Fr v l) (hl : l.length ≤ 9223372036854775000) :
    Does Try.prog O 29 #[v, .func (.func 30) #[] #[]] F Fr (fun r F' H' => r = .bool (decide (¬ ∀ c ∈ l, c = 0)) ∧ F' = F ∧ H' = Fr) := by
  refine does_of_run (args := [_, _]) Try.func29 rfl rfl ?_
  refine r_seq ?_
  refine r_region rfl ?_
  refine o_val rfl rfl rfl rfl (v_assign rfl) ?_
  refine o_end ?_
  refine r_seq ?_
  refine r_region rfl ?_
  refine o_val rfl rfl rfl rfl (v_move rfl) ?_
  refine o_val rfl rfl rfl rfl (v_move rfl) ?_
  refine o_call rfl rfl rfl rfl (c_call callable45 rfl) (bs_Index0 _ _ _ l _ hv hl) ?_
  rintro v' F Fr ⟨⟨n, rfl, hn⟩, rfl, rfl⟩ _
  refine o_val rfl rfl rfl rfl (v_geq rfl rfl) ?_
  refine o_val rfl rfl rfl rfl (v_assign rfl) ?_
  refine o_end ?_
  refine j_slot 4 rfl (v' := .bool (decide (¬ ∀ c ∈ l, c = 0))) (by congr 1; rw [decide_eq_decide]; exact hn) ?_
  exact r_ret1 Try.func29 rfl rfl ⟨⟨rfl, rfl, rfl⟩, Fz.le_refl _⟩
end Go.SX
