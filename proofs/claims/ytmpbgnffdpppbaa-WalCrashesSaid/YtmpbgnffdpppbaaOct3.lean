/-
  Contracts of package octet: bytes that are read, opening what is sealed, bytes and truths that are laid.
-/
import Derived.Test.YtmpbgnffdpppbaaOct2
namespace Go.SX
open Go Go.Proofs
set_option maxRecDepth 4000

theorem oct_RBytes0 (O : World) (F : Fz) (most : Int) (Fr : List Ent) : Does Try.prog O 51 #[nilP, .int .i64 most] F Fr (fun r F' H' => r = .slice none 0 0 ∧ F' = F ∧ H' = Fr) := by
  refine does_of_run (args := [_, _]) Try.func51 rfl rfl ?_
  refine r_seq ?_
  refine r_region rfl ?_
  refine o_val rfl rfl rfl rfl (v_assign rfl) ?_
  refine o_end ?_
  refine r_seq ?_
  refine r_region rfl ?_
  refine o_val rfl rfl rfl rfl (v_move rfl) ?_
  refine o_call rfl rfl rfl rfl (c_call callable46 rfl) (oct_RNum0 _ _ _ _) ?_
  rintro v' F' H' ⟨rfl, rfl, rfl⟩ _
  refine o_val rfl rfl rfl rfl (v_assign rfl) ?_
  refine o_end ?_
  refine r_seq ?_
  refine r_seq ?_
  refine r_region rfl ?_
  refine o_val rfl rfl rfl rfl (v_move rfl) ?_
  refine o_val rfl rfl rfl rfl (v_peqnil rfl rfl rfl) ?_
  refine o_val rfl rfl rfl rfl (v_move rfl) ?_
  refine o_skip rfl rfl rfl rfl ?_
  refine o_skip rfl rfl rfl rfl ?_
  refine o_skip rfl rfl rfl rfl ?_
  refine o_skip rfl rfl rfl rfl ?_
  refine o_val rfl rfl rfl rfl (v_pick1 rfl rfl) ?_
  refine o_val rfl rfl rfl rfl (v_move rfl) ?_
  refine o_skip rfl rfl rfl rfl ?_
  refine o_skip rfl rfl rfl rfl ?_
  refine o_val rfl rfl rfl rfl (v_pick1 rfl rfl) ?_
  refine o_val rfl rfl rfl rfl (v_move rfl) ?_
  refine o_skip rfl rfl rfl rfl ?_
  refine o_skip rfl rfl rfl rfl ?_
  refine o_skip rfl rfl rfl rfl ?_
  refine o_skip rfl rfl rfl rfl ?_
  refine o_val rfl rfl rfl rfl (v_pick1 rfl rfl) ?_
  refine o_val rfl rfl rfl rfl (v_move rfl) ?_
  refine o_skip rfl rfl rfl rfl ?_
  refine o_skip rfl rfl rfl rfl ?_
  refine o_skip rfl rfl rfl rfl ?_
  refine o_skip rfl rfl rfl rfl ?_
  refine o_skip rfl rfl rfl rfl ?_
  refine o_skip rfl rfl rfl rfl ?_
  refine o_skip rfl rfl rfl rfl ?_
  refine o_skip rfl rfl rfl rfl ?_
  refine o_val rfl rfl rfl rfl (v_pick1 rfl rfl) ?_
  refine o_end ?_
  refine r_true rfl ?_
  refine r_seq ?_
  refine r_region rfl ?_
  refine o_val rfl rfl rfl rfl (v_move rfl) ?_
  refine o_call rfl rfl rfl rfl (c_call callable58 rfl) (oct_spoil0 _ _ _) ?_
  rintro v' F' H' ⟨rfl, rfl, rfl⟩ _
  refine o_end ?_
  refine r_seq ?_
  refine r_region rfl ?_
  refine o_val rfl rfl rfl rfl (v_assign rfl) ?_
  refine o_end ?_
  exact r_ret1 Try.func51 rfl rfl ⟨⟨rfl, rfl, rfl⟩, Fz.le_refl _⟩

theorem oct_RBytes (O : World) (F : Fz) (a : Nat) (v : Value) (l : List UInt8) (bad : Bool) (most : Int) (Fr : List Ent) (hv : SlB F [] v l) (hl : l.length ≤ 140737488355328) (hm : most ≤ 9223372036854775807) :
    Does Try.prog O 51 #[ptrV a, .int .i64 most] F (.mem a [v, .bool bad] 2 :: Fr)
      (fun r F' H' => F.le F' ∧ SlB F' [] r (rdBytes l bad most).1 ∧ ∃ v', SlB F' [] v' (rdBytes l bad most).2.1 ∧ H' = .mem a [v', .bool (rdBytes l bad most).2.2] 2 :: Fr) := by
  have hlt := rdNum_lt l bad 4
  have hln := rdNum_len l bad 4
  have h4 : (256 : Nat) ^ (min (4 : Int).toNat 8) = 4294967296 := by decide
  rw [h4] at hlt
  refine does_of_run (args := [_, _]) Try.func51 rfl rfl ?_
  refine r_seq ?_
  refine r_region rfl ?_
  refine o_val rfl rfl rfl rfl (v_assign rfl) ?_
  refine o_end ?_
  refine r_seq ?_
  refine r_region rfl ?_
  refine o_val rfl rfl rfl rfl (v_move rfl) ?_
  refine o_call rfl rfl rfl rfl (c_call callable46 rfl) (oct_RNum _ _ _ _ l bad 4 _ hv hl) ?_
  rintro v' F' H' ⟨rfl, rfl, v1, hv1, rfl⟩ _
  have hun : rdBytes l bad most = if (rdNum l bad 4).2.2 = true ∨ most < 0 ∨ most < (rdNum l bad 4).1 ∨ (rdNum l bad 4).2.1.length < (rdNum l bad 4).1 then ([], (rdNum l bad 4).2.1, true)
    else ((rdNum l bad 4).2.1.take (rdNum l bad 4).1, (rdNum l bad 4).2.1.drop (rdNum l bad 4).1, false) := rfl
  rw [hun]
  generalize rdNum l bad 4 = q at *
  obtain ⟨n, l1, b1⟩ := q
  dsimp only at *
  obtain ⟨a1, cap1, rfl, hcap1⟩ := Sl.shape hv1
  cases b1 with
  | true =>
    refine o_val rfl rfl rfl rfl (v_assign rfl) ?_
    refine o_end ?_
    refine r_seq ?_
    refine r_seq ?_
    refine r_region rfl ?_
    refine o_val rfl rfl rfl rfl (v_move rfl) ?_
    refine o_val rfl rfl rfl rfl (v_peqnil rfl rfl rfl) ?_
    refine o_val rfl rfl rfl rfl (v_move rfl) ?_
    refine o_val rfl rfl rfl rfl (v_move rfl) ?_
    refine o_val rfl rfl rfl rfl (v_nilCheck rfl) ?_
    refine o_val rfl rfl rfl rfl (v_field (k := 1) rfl rfl rfl) ?_
    refine o_val rfl rfl rfl rfl (v_load rfl rfl (cell_at (j := 0) rfl rfl)) ?_
    refine o_val rfl rfl rfl rfl (v_pick0 rfl rfl) ?_
    refine o_val rfl rfl rfl rfl (v_move rfl) ?_
    refine o_skip rfl rfl rfl rfl ?_
    refine o_skip rfl rfl rfl rfl ?_
    refine o_val rfl rfl rfl rfl (v_pick1 rfl rfl) ?_
    refine o_val rfl rfl rfl rfl (v_move rfl) ?_
    refine o_skip rfl rfl rfl rfl ?_
    refine o_skip rfl rfl rfl rfl ?_
    refine o_skip rfl rfl rfl rfl ?_
    refine o_skip rfl rfl rfl rfl ?_
    refine o_val rfl rfl rfl rfl (v_pick1 rfl rfl) ?_
    refine o_val rfl rfl rfl rfl (v_move rfl) ?_
    refine o_skip rfl rfl rfl rfl ?_
    refine o_skip rfl rfl rfl rfl ?_
    refine o_skip rfl rfl rfl rfl ?_
    refine o_skip rfl rfl rfl rfl ?_
    refine o_skip rfl rfl rfl rfl ?_
    refine o_skip rfl rfl rfl rfl ?_
    refine o_skip rfl rfl rfl rfl ?_
    refine o_skip rfl rfl rfl rfl ?_
    refine o_val rfl rfl rfl rfl (v_pick1 rfl rfl) ?_
    refine o_end ?_
    refine r_true rfl ?_
    refine r_seq ?_
    refine r_region rfl ?_
    refine o_val rfl rfl rfl rfl (v_move rfl) ?_
    refine o_call rfl rfl rfl rfl (c_call callable58 rfl) (oct_spoil _ _ _ _ _ _) ?_
    rintro v' F' H' ⟨rfl, rfl, rfl⟩ _
    refine o_end ?_
    refine r_seq ?_
    refine r_region rfl ?_
    refine o_val rfl rfl rfl rfl (v_assign rfl) ?_
    refine o_end ?_
    rw [if_pos (.inl rfl)]
    exact r_ret1 Try.func51 rfl rfl ⟨⟨Fz.le_refl _, Sl.nil _ _ _, _, hv1, rfl⟩, Fz.le_refl _⟩
  | false =>
    refine o_val rfl rfl rfl rfl (v_assign rfl) ?_
    refine o_end ?_
    refine r_seq ?_
    refine r_seq ?_
    refine r_region rfl ?_
    refine o_val rfl rfl rfl rfl (v_move rfl) ?_
    refine o_val rfl rfl rfl rfl (v_peqnil rfl rfl rfl) ?_
    refine o_val rfl rfl rfl rfl (v_move rfl) ?_
    refine o_val rfl rfl rfl rfl (v_move rfl) ?_
    refine o_val rfl rfl rfl rfl (v_nilCheck rfl) ?_
    refine o_val rfl rfl rfl rfl (v_field (k := 1) rfl rfl rfl) ?_
    refine o_val rfl rfl rfl rfl (v_load rfl rfl (cell_at (j := 0) rfl rfl)) ?_
    refine o_val rfl rfl rfl rfl (v_pick0 rfl rfl) ?_
    refine o_val rfl rfl rfl rfl (v_move rfl) ?_
    refine o_val rfl rfl rfl rfl (v_move rfl) ?_
    refine o_val rfl rfl rfl rfl (v_lss rfl rfl) ?_
    refine o_val rfl rfl rfl rfl (v_pick0 rfl rfl) ?_
    refine o_val rfl rfl rfl rfl (v_move rfl) ?_
    refine j_prop 21 rfl (fun h1 => ?_) (fun h1 => ?_)
    · refine o_skip rfl rfl rfl rfl ?_
      refine o_skip rfl rfl rfl rfl ?_
      refine o_skip rfl rfl rfl rfl ?_
      refine o_skip rfl rfl rfl rfl ?_
      refine o_val rfl rfl rfl rfl (v_pick1 rfl rfl) ?_
      refine o_val rfl rfl rfl rfl (v_move rfl) ?_
      refine o_skip rfl rfl rfl rfl ?_
      refine o_skip rfl rfl rfl rfl ?_
      refine o_skip rfl rfl rfl rfl ?_
      refine o_skip rfl rfl rfl rfl ?_
      refine o_skip rfl rfl rfl rfl ?_
      refine o_skip rfl rfl rfl rfl ?_
      refine o_skip rfl rfl rfl rfl ?_
      refine o_skip rfl rfl rfl rfl ?_
      refine o_val rfl rfl rfl rfl (v_pick1 rfl rfl) ?_
      refine o_end ?_
      refine r_true rfl ?_
      refine r_seq ?_
      refine r_region rfl ?_
      refine o_val rfl rfl rfl rfl (v_move rfl) ?_
      refine o_call rfl rfl rfl rfl (c_call callable58 rfl) (oct_spoil _ _ _ _ _ _) ?_
      rintro v' F' H' ⟨rfl, rfl, rfl⟩ _
      refine o_end ?_
      refine r_seq ?_
      refine r_region rfl ?_
      refine o_val rfl rfl rfl rfl (v_assign rfl) ?_
      refine o_end ?_
      rw [if_pos (.inr (.inl h1))]
      exact r_ret1 Try.func51 rfl rfl ⟨⟨Fz.le_refl _, Sl.nil _ _ _, _, hv1, rfl⟩, Fz.le_refl _⟩
    · refine o_val rfl rfl rfl rfl (v_move rfl) ?_
      refine o_val rfl rfl rfl rfl (v_move rfl) ?_
      refine o_val rfl rfl rfl rfl (v_conv rfl rfl rfl (wrap_u64 (by omega) (by omega))) ?_
      refine o_val rfl rfl rfl rfl (v_gtr rfl rfl) ?_
      refine o_val rfl rfl rfl rfl (v_pick0 rfl rfl) ?_
      refine o_val rfl rfl rfl rfl (v_move rfl) ?_
      refine j_prop 27 rfl (fun h2 => ?_) (fun h2 => ?_)
      · refine o_skip rfl rfl rfl rfl ?_
        refine o_skip rfl rfl rfl rfl ?_
        refine o_skip rfl rfl rfl rfl ?_
        refine o_skip rfl rfl rfl rfl ?_
        refine o_skip rfl rfl rfl rfl ?_
        refine o_skip rfl rfl rfl rfl ?_
        refine o_skip rfl rfl rfl rfl ?_
        refine o_skip rfl rfl rfl rfl ?_
        refine o_val rfl rfl rfl rfl (v_pick1 rfl rfl) ?_
        refine o_end ?_
        refine r_true rfl ?_
        refine r_seq ?_
        refine r_region rfl ?_
        refine o_val rfl rfl rfl rfl (v_move rfl) ?_
        refine o_call rfl rfl rfl rfl (c_call callable58 rfl) (oct_spoil _ _ _ _ _ _) ?_
        rintro v' F' H' ⟨rfl, rfl, rfl⟩ _
        refine o_end ?_
        refine r_seq ?_
        refine r_region rfl ?_
        refine o_val rfl rfl rfl rfl (v_assign rfl) ?_
        refine o_end ?_
        rw [if_pos (.inr (.inr (.inl h2)))]
        exact r_ret1 Try.func51 rfl rfl ⟨⟨Fz.le_refl _, Sl.nil _ _ _, _, hv1, rfl⟩, Fz.le_refl _⟩
      · refine o_val rfl rfl rfl rfl (v_move rfl) ?_
        refine o_val rfl rfl rfl rfl (v_move rfl) ?_
        refine o_val rfl rfl rfl rfl (v_nilCheck rfl) ?_
        refine o_val rfl rfl rfl rfl (v_field (k := 0) rfl rfl rfl) ?_
        refine o_val rfl rfl rfl rfl (v_load rfl rfl (cell_at (j := 0) rfl rfl)) ?_
        refine o_val rfl rfl rfl rfl (v_len rfl rfl) ?_
        refine o_val rfl rfl rfl rfl (v_conv rfl rfl rfl (wrap_u64 (by omega) (by omega))) ?_
        refine o_val rfl rfl rfl rfl (v_gtr rfl rfl) ?_
        refine o_val rfl rfl rfl rfl (v_pick0 rfl rfl) ?_
        refine o_end ?_
        refine r_if rfl (fun h3 => ?_) (fun h3 => ?_)
        · refine r_seq ?_
          refine r_region rfl ?_
          refine o_val rfl rfl rfl rfl (v_move rfl) ?_
          refine o_call rfl rfl rfl rfl (c_call callable58 rfl) (oct_spoil _ _ _ _ _ _) ?_
          rintro v' F' H' ⟨rfl, rfl, rfl⟩ _
          refine o_end ?_
          refine r_seq ?_
          refine r_region rfl ?_
          refine o_val rfl rfl rfl rfl (v_assign rfl) ?_
          refine o_end ?_
          rw [if_pos (.inr (.inr (.inr (by omega))))]
          exact r_ret1 Try.func51 rfl rfl ⟨⟨Fz.le_refl _, Sl.nil _ _ _, _, hv1, rfl⟩, Fz.le_refl _⟩
        · have hn : n ≤ l1.length := by omega
          rw [if_neg (by rintro (h5 | h5 | h5 | h5); · cases h5
                         · omega
                         · omega
                         · omega)]
          refine r_skip ?_
          refine r_seq ?_
          refine r_region rfl ?_
          refine o_val rfl rfl rfl rfl (v_move rfl) ?_
          refine o_val rfl rfl rfl rfl (v_nilCheck rfl) ?_
          refine o_val rfl rfl rfl rfl (v_field (k := 0) rfl rfl rfl) ?_
          refine o_val rfl rfl rfl rfl (v_load rfl rfl (cell_at (j := 0) rfl rfl)) ?_
          refine o_val rfl rfl rfl rfl (v_move rfl) ?_
          refine o_val rfl rfl rfl rfl (v_sliceH (sz := 1) rfl rfl rfl rfl rfl (by omega)) ?_
          have ht := (SlB.take hv1 hn)
          have htl : (l1.take n).length = n := by simp; omega
          refine o_act rfl rfl rfl rfl (a_appendP (bf := .nil) (n := 0) (sz := 1) (bytes := 1) (xs := []) [.mem a [.slice a1 l1.length cap1, .bool false] 2] ⟨⟨_, _, _, rfl, rfl, rfl, rfl, rfl, rfl⟩, by decide⟩ rfl rfl rfl rfl rfl (ht.frz (Fz.le_refl _)) (bytes_one _) (by unfold maxLen; omega) (by omega)) ?_
          rintro v' H' ⟨bf, rfl, hok, rfl⟩
          simp only [Nat.zero_add, List.nil_append] at hok ⊢
          refine j_perm (H' := bf.ents 1 (bytesV (l1.take n)) ++ (.mem a [.slice a1 l1.length cap1, .bool false] 2 :: Fr)) (perm_pre _ _ _) ?_
          refine j_freezeBf hok (by simp) fun F1 hF1 hs1 => ?_
          refine o_val rfl rfl rfl rfl (v_assign rfl) ?_
          refine o_end ?_
          refine r_seq ?_
          refine r_region rfl ?_
          refine o_val rfl rfl rfl rfl (v_move rfl) ?_
          refine o_val rfl rfl rfl rfl (v_move rfl) ?_
          refine o_val rfl rfl rfl rfl (v_nilCheck rfl) ?_
          refine o_val rfl rfl rfl rfl (v_field (k := 0) rfl rfl rfl) ?_
          refine o_val rfl rfl rfl rfl (v_load rfl rfl (cell_at (j := 0) rfl rfl)) ?_
          refine o_val rfl rfl rfl rfl (v_move rfl) ?_
          refine o_val rfl rfl rfl rfl (v_sliceL (sz := 1) rfl rfl rfl rfl rfl hn) ?_
          refine o_val rfl rfl rfl rfl (v_nilCheck rfl) ?_
          refine o_val rfl rfl rfl rfl (v_field (k := 0) rfl rfl rfl) ?_
          refine o_act0 rfl rfl rfl (a_store1 0 rfl rfl rfl rfl rfl (Nat.le_of_ble_eq_true rfl)) ?_
          refine o_end ?_
          refine r_seq ?_
          refine r_region rfl ?_
          refine o_val rfl rfl rfl rfl (v_move rfl) ?_
          refine o_val rfl rfl rfl rfl (v_assign rfl) ?_
          refine o_end ?_
          exact r_ret1 Try.func51 rfl rfl ⟨⟨hF1, hs1, _, SlB.frz (SlB.drop hv1 hn) hF1, rfl⟩, hF1⟩

/-! ### Opening -/

theorem leN_lt4 (l : List UInt8) (h : l.length = 4) : leN l < 4294967296 := by have := leN_lt l; rw [h] at this; exact this
theorem leN_leB : ∀ k n, n < 256 ^ k → leN (leB k n) = n
  | 0, n, h => by simp at h; subst h; rfl
  | k + 1, n, h => by
    have : n / 256 < 256 ^ k := by rw [Nat.pow_succ] at h; omega
    simp only [leB, leN, leN_leB k _ this]
    simp
    omega
theorem leB_leN : ∀ l : List UInt8, leB l.length (leN l) = l
  | [] => rfl
  | b :: r => by
    have hb := b.toNat_lt
    simp only [List.length_cons, leB, leN]
    have h1 : (b.toNat + 256 * leN r) / 256 = leN r := by omega
    have h2 : UInt8.ofNat (b.toNat + 256 * leN r) = b := by
      apply UInt8.toNat_inj.1
      simp
    rw [h1, h2, leB_leN r]

/-- Opening: the error's number, the bytes. -/
def openB (l : List UInt8) : Nat × List UInt8 :=
  if l.length < 4 then (5, []) else if sealB (l.take (l.length - 4)) = l then (0, l.take (l.length - 4)) else (4, [])

theorem open_cond (l : List UInt8) (h : 4 ≤ l.length) : leN (l.drop (l.length - 4)) = (crc (l.take (l.length - 4))).toNat ↔ sealB (l.take (l.length - 4)) = l := by
  have hd : (l.drop (l.length - 4)).length = 4 := by simp; omega
  constructor
  · intro he
    have := leB_leN (l.drop (l.length - 4))
    rw [hd, he] at this
    unfold sealB
    rw [this, List.take_append_drop]
  · intro he
    have h1 : leB 4 (crc (l.take (l.length - 4))).toNat = l.drop (l.length - 4) := by
      have : sealB (l.take (l.length - 4)) = l.take (l.length - 4) ++ l.drop (l.length - 4) := by rw [List.take_append_drop]; exact he
      exact List.append_cancel_left this
    rw [← h1]
    exact leN_leB 4 _ (crc (l.take (l.length - 4))).isLt

theorem oct_Open (O : World) (F : Fz) (v : Value) (l : List UInt8) (Fr : List Ent) (hv : SlB F [] v l) (hl : l.length ≤ 140737488355328) :
    Does Try.prog O 49 #[v] F Fr (fun r F' H' => F' = F ∧ H' = Fr ∧ ∃ v', r = .tuple #[v', .int .i64 (openB l).1] ∧ SlB F [] v' (openB l).2) := by
  obtain ⟨a0, cap, rfl, hcap⟩ := Sl.shape hv
  refine does_of_run (args := [_]) Try.func49 rfl rfl ?_
  refine r_seq ?_
  refine r_region rfl ?_
  refine o_val rfl rfl rfl rfl (v_assign rfl) ?_
  refine o_val rfl rfl rfl rfl (v_assign rfl) ?_
  refine o_end ?_
  refine r_seq ?_
  refine r_region rfl ?_
  refine o_val rfl rfl rfl rfl (v_move rfl) ?_
  refine o_val rfl rfl rfl rfl (v_len rfl rfl) ?_
  refine o_val rfl rfl rfl rfl (v_sub rfl rfl (wrap_i64 (by omega) (by omega))) ?_
  refine o_val rfl rfl rfl rfl (v_assign rfl) ?_
  refine o_end ?_
  refine r_seq ?_
  refine r_seq ?_
  refine r_region rfl ?_
  refine o_val rfl rfl rfl rfl (v_move rfl) ?_
  refine o_val rfl rfl rfl rfl (v_lss rfl rfl) ?_
  refine o_end ?_
  refine r_if rfl (fun h => ?_) (fun h => ?_)
  · refine r_seq ?_
    refine r_region rfl ?_
    refine o_val rfl rfl rfl rfl (v_assign rfl) ?_
    refine o_val rfl rfl rfl rfl (v_assign rfl) ?_
    refine o_end ?_
    have hr : openB l = (5, []) := by simp only [openB]; rw [if_pos (by omega)]
    rw [hr]
    exact r_ret2 Try.func49 rfl rfl rfl ⟨⟨rfl, rfl, _, rfl, Sl.nil _ _ _⟩, Fz.le_refl _⟩
  · have h4 : 4 ≤ l.length := by omega
    have hn : ((l.length : Int) - 4) = ((l.length - 4 : Nat) : Int) := by omega
    have hd := SlB.drop hv (k := l.length - 4) (by omega)
    have ht := SlB.take hv (k := l.length - 4) (by omega)
    refine j_slot 4 rfl (v' := .int .i64 ((l.length - 4 : Nat) : Int)) (by rw [hn]) ?_
    refine r_skip ?_
    refine r_seq ?_
    refine r_seq ?_
    refine d_region 1000000 rfl ([]) ?_
    refine d_take (i := 0) rfl rfl rfl (by decide +kernel) (by decide +kernel) (by decide +kernel) (Fz.le_refl _) (by simp) rfl (v_move rfl) ?_
    refine d_take (i := 1) rfl rfl rfl (by decide +kernel) (by decide +kernel) (by decide +kernel) (Fz.le_refl _) (by simp) rfl (v_move rfl) ?_
    refine d_take (i := 2) rfl rfl rfl (by decide +kernel) (by decide +kernel) (by decide +kernel) (Fz.le_refl _) (by simp) rfl (v_sliceL (sz := 1) rfl rfl rfl rfl rfl (by omega)) ?_
    refine d_take (i := 5) rfl rfl rfl (by decide +kernel) (by decide +kernel) (by decide +kernel) (Fz.le_refl _) (by simp) rfl (v_move rfl) ?_
    refine d_take (i := 6) rfl rfl rfl (by decide +kernel) (by decide +kernel) (by decide +kernel) (Fz.le_refl _) (by simp) rfl (v_move rfl) ?_
    refine d_take (i := 7) rfl rfl rfl (by decide +kernel) (by decide +kernel) (by decide +kernel) (Fz.le_refl _) (by simp) rfl (v_sliceH (sz := 1) rfl rfl rfl rfl rfl (by omega)) ?_
    refine d_one (i := 3) (by decide +kernel) ?_
    refine d1_call rfl rfl rfl rfl (c_call callable45 rfl) (oct_Read _ _ _ _ _ hd) ?_
    rintro v' F' H' ⟨rfl, a, rfl, rfl⟩ _
    refine ⟨fun w hw => held_of hw (by first | exact Fz.le_refl _ | assumption) (by simp), ?_⟩
    refine d_one (i := 4) (by decide +kernel) ?_
    refine d1_call rfl rfl rfl rfl (c_call callable46 rfl) (oct_RNum _ _ _ _ _ false 4 _ hd (by simp; omega)) ?_
    rintro v' F' H' ⟨rfl, rfl, v2, hv2, rfl⟩ _
    refine ⟨fun w hw => held_of hw (by first | exact Fz.le_refl _ | assumption) (by simp), ?_⟩
    refine d_one (i := 8) (by decide +kernel) ?_
    refine d1_call rfl rfl rfl rfl (c_call callable59 rfl) (oct_Sum _ _ _ _ _ (ht.frz (Fz.le_refl _)) (by simp; omega)) ?_
    rintro v' F' H' ⟨rfl, rfl, rfl⟩ _
    refine ⟨fun w hw => held_of hw (by first | exact Fz.le_refl _ | assumption) (by simp), ?_⟩
    have hr4 : (rdNum (l.drop (l.length - 4)) false 4).1 = leN (l.drop (l.length - 4)) := by
      have hd4 : (l.drop (l.length - 4)).length = 4 := by simp; omega
      unfold rdNum
      rw [hd4]
      rw [if_neg (by decide)]
      show leN ((l.drop (l.length - 4)).take 4) = _
      rw [List.take_of_length_le (by omega)]
    rw [hr4]
    refine j_drop (List.sublist_cons_self _ _) ?_
    refine d_take (i := 9) rfl rfl rfl (by decide +kernel) (by decide +kernel) (by decide +kernel) (Fz.le_refl _) (by simp) rfl (v_conv rfl rfl rfl (wrap_u64 (by omega) (by have := (crc (l.take (l.length - 4))).isLt; omega))) ?_
    refine d_take (i := 10) rfl rfl rfl (by decide +kernel) (by decide +kernel) (by decide +kernel) (Fz.le_refl _) (by simp) rfl (v_neq rfl rfl) ?_
    refine d_end (by decide +kernel) ?_
    refine r_if rfl (fun h5 => ?_) (fun h5 => ?_)
    · refine r_seq ?_
      refine r_region rfl ?_
      refine o_val rfl rfl rfl rfl (v_assign rfl) ?_
      refine o_val rfl rfl rfl rfl (v_assign rfl) ?_
      refine o_end ?_
      have hr : openB l = (4, []) := by
        simp only [openB]
        rw [if_neg (by omega), if_neg (fun he => h5 (by exact_mod_cast (open_cond l h4).2 he))]
      rw [hr]
      exact r_ret2 Try.func49 rfl rfl rfl ⟨⟨rfl, rfl, _, rfl, Sl.nil _ _ _⟩, Fz.le_refl _⟩
    · refine r_skip ?_
      refine r_seq ?_
      refine r_region rfl ?_
      refine o_val rfl rfl rfl rfl (v_move rfl) ?_
      refine o_val rfl rfl rfl rfl (v_move rfl) ?_
      refine o_val rfl rfl rfl rfl (v_move rfl) ?_
      refine o_val rfl rfl rfl rfl (v_sliceHM (sz := 1) rfl rfl rfl rfl rfl rfl rfl (Nat.le_refl _) (by omega)) ?_
      refine o_val rfl rfl rfl rfl (v_assign rfl) ?_
      refine o_val rfl rfl rfl rfl (v_assign rfl) ?_
      refine o_end ?_
      have hr : openB l = (0, l.take (l.length - 4)) := by
        simp only [openB]
        rw [if_neg (by omega), if_pos ((open_cond l h4).1 (by have := Decidable.not_not.1 h5; exact_mod_cast this))]
      rw [hr]
      exact r_ret2 Try.func49 rfl rfl rfl ⟨⟨rfl, rfl, _, rfl, SlB.takeM hv (by omega)⟩, Fz.le_refl _⟩

/-! ### Bytes and truths that are laid -/

/-- How many, in four bytes, and they. -/
def lenB (l : List UInt8) : List UInt8 := leB 4 l.length ++ l
def flagB (b : Bool) : List UInt8 := if b = true then [1] else [0]

theorem oct_WBytes (O : World) (F : Fz) (a : Nat) (bf : Bf) (l m : List UInt8) (v : Value) (Fr : List Ent) (hok : bf.ok l.length) (hv : SlB F Fr v m) (hn : l.length + m.length ≤ 140737488354000) :
    Does Try.prog O 56 #[ptrV a, v] F (.mem a [bf.val l.length] 1 :: (bf.ents 1 (bytesV l) ++ Fr))
      (fun r F' H' => r = ptrV a ∧ F' = F ∧ ∃ bf' : Bf, bf'.ok (l ++ lenB m).length ∧ H' = .mem a [bf'.val (l ++ lenB m).length] 1 :: (bf'.ents 1 (bytesV (l ++ lenB m)) ++ Fr)) := by
  obtain ⟨a0, cap, rfl, hcap⟩ := Sl.shape hv
  refine does_of_run (args := [_, _]) Try.func56 rfl rfl ?_
  refine r_seq ?_
  refine r_region rfl ?_
  refine o_val rfl rfl rfl rfl (v_assign rfl) ?_
  refine o_end ?_
  refine r_seq ?_
  refine r_region rfl ?_
  refine o_val rfl rfl rfl rfl (v_move rfl) ?_
  refine o_val rfl rfl rfl rfl (v_move rfl) ?_
  refine o_val rfl rfl rfl rfl (v_len rfl rfl) ?_
  refine o_val rfl rfl rfl rfl (v_conv rfl rfl rfl (wrap_u64 (by omega) (by omega))) ?_
  refine o_call rfl rfl rfl rfl (c_call callable53 rfl) (oct_Num _ _ _ bf l m.length 4 _ hok (by omega) (by omega)) ?_
  rintro v' F' H' ⟨rfl, rfl, bf1, hok1, rfl⟩ _
  refine o_val rfl rfl rfl rfl (v_move rfl) ?_
  refine o_call rfl rfl rfl rfl (c_call callable60 rfl) (oct_lay _ _ _ bf1 (l ++ leB 4 m.length) m _ _ hok1 (hv.mono (Fz.le_refl _) (by simp)) (by simp; omega)) ?_
  rintro v' F' H' ⟨rfl, rfl, bf2, hok2, rfl⟩ _
  refine o_val rfl rfl rfl rfl (v_assign rfl) ?_
  refine o_end ?_
  have e : l ++ leB 4 m.length ++ m = l ++ lenB m := by simp [lenB]
  rw [e] at hok2 ⊢
  exact r_ret1 Try.func56 rfl rfl ⟨⟨rfl, rfl, bf2, hok2, rfl⟩, Fz.le_refl _⟩

theorem ref_Bytes (O : World) (F : Fz) (v u : Value) (l m : List UInt8) (Fr : List Ent) (hv : SlB F Fr v l) (hu : SlB F Fr u m) (hn : l.length + m.length ≤ 140737488354000) :
    Does Try.prog O 37 #[v, u] F Fr
      (fun r F' H' => F' = F ∧ ∃ bf : Bf, bf.ok (l ++ lenB m).length ∧ r = bf.val (l ++ lenB m).length ∧ H' = bf.ents 1 (bytesV (l ++ lenB m)) ++ Fr) := by
  obtain ⟨a0, cap, rfl, hcap⟩ := Sl.shape hu
  refine does_of_run (args := [_, _]) Try.func37 rfl rfl ?_
  refine r_seq ?_
  refine r_region rfl ?_
  refine o_val rfl rfl rfl rfl (v_assign rfl) ?_
  refine o_end ?_
  refine r_seq ?_
  refine r_region rfl ?_
  refine o_val rfl rfl rfl rfl (v_move rfl) ?_
  refine o_val rfl rfl rfl rfl (v_move rfl) ?_
  refine o_val rfl rfl rfl rfl (v_len rfl rfl) ?_
  refine o_val rfl rfl rfl rfl (v_conv rfl rfl rfl (wrap_u64 (by omega) (by omega))) ?_
  refine o_call rfl rfl rfl rfl (c_call callable36 rfl) (ref_Num _ _ _ l m.length 4 _ hv (by omega) (by omega)) ?_
  rintro v' F' H' ⟨rfl, bf1, hok1, rfl, rfl⟩ _
  refine o_val rfl rfl rfl rfl (v_move rfl) ?_
  refine o_act rfl rfl rfl rfl (a_append (bf := bf1) (sz := 1) (bytes := 1) ⟨⟨_, _, _, rfl, rfl, rfl, rfl, rfl, rfl⟩, by decide⟩ rfl hok1 (by simp) rfl rfl (hu.mono (Fz.le_refl _) (by simp)) (bytes_one m) (by unfold maxLen; simp; omega) (by simp; omega)) ?_
  rintro v' H' ⟨bf2, rfl, hok2, rfl⟩
  have e : l ++ leB 4 m.length ++ m = l ++ lenB m := by simp [lenB]
  have e1 : (l ++ leB 4 m.length).length + m.length = (l ++ lenB m).length := by simp [lenB]; omega
  have e2 : bytesV (l ++ leB 4 m.length) ++ bytesV m = bytesV (l ++ lenB m) := by rw [← e]; simp
  rw [e1] at hok2 ⊢
  rw [e2]
  refine o_val rfl rfl rfl rfl (v_assign rfl) ?_
  refine o_end ?_
  exact r_ret1 Try.func37 rfl rfl ⟨⟨rfl, bf2, hok2, rfl, rfl⟩, Fz.le_refl _⟩

theorem openB_seal (l : List UInt8) : openB (sealB l) = (0, l) := by
  unfold openB
  have h1 : (sealB l).length - 4 = l.length := by simp
  have h2 : (sealB l).take l.length = l := by simp [sealB]
  rw [if_neg (by simp), h1, h2, if_pos rfl]
theorem dec_true {p : Prop} [Decidable p] (h : p) : Value.bool (decide p) = .bool true := by rw [decide_eq_true h]
end Go.SX
