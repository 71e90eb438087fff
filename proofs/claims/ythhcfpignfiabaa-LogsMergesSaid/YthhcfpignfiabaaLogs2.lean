/-
  Contracts of package logs: masks; entries that are put.
-/
import Derived.Test.YthhcfpignfiabaaLogs
namespace Go.SX
open Go Go.Proofs
set_option linter.unusedSimpArgs false
set_option linter.unusedVariables false

theorem sl_Clone (O : World) (F : Fz) (v : Value) (l : List UInt8) (Fr : List Ent) (hv : SlB F Fr v l) (hl : l.length ≤ 140737488355328) :
    Does Try.prog O 33 #[v] F Fr (fun r F' H' => F' = F ∧ ∃ bf : Bf, bf.ok l.length ∧ r = bf.val l.length ∧ H' = bf.ents 1 (bytesV l) ++ Fr) := by
  obtain ⟨a0, cap, rfl, hcap⟩ := Sl.shape hv
  refine does_of_run (args := [_]) Try.func33 rfl rfl ?_
  cases a0 with
  | none =>
    have hl0 : l = [] := by
      cases l with
      | nil => rfl
      | cons x r =>
        obtain ⟨a1, c1, h1, _, _, h4, h5⟩ := hv
        obtain ⟨b, off, hb, _⟩ := h5 0 (byteV x) rfl
        simp only [Value.slice.injEq] at h1
        rw [hb] at h1
        cases h1.1
    subst hl0
    refine r_seq ?_
    refine r_region rfl ?_
    refine o_val rfl rfl rfl rfl (v_assign rfl) ?_
    refine o_end ?_
    refine r_seq ?_
    refine r_seq ?_
    refine r_region rfl ?_
    refine o_val rfl rfl rfl rfl (v_move rfl) ?_
    refine o_val rfl rfl rfl rfl (v_slnil rfl rfl rfl) ?_
    refine o_end ?_
    refine r_true rfl ?_
    refine r_seq ?_
    refine r_region rfl ?_
    refine o_val rfl rfl rfl rfl (v_assign rfl) ?_
    refine o_end ?_
    exact r_ret1 Try.func33 rfl rfl ⟨⟨rfl, .nil, rfl, rfl, rfl⟩, Fz.le_refl _⟩
  | some x =>
    refine r_seq ?_
    refine r_region rfl ?_
    refine o_val rfl rfl rfl rfl (v_assign rfl) ?_
    refine o_end ?_
    refine r_seq ?_
    refine r_seq ?_
    refine r_region rfl ?_
    refine o_val rfl rfl rfl rfl (v_move rfl) ?_
    refine o_val rfl rfl rfl rfl (v_slnil rfl rfl rfl) ?_
    refine o_end ?_
    refine r_false rfl ?_
    refine r_skip ?_
    refine r_seq ?_
    refine r_region rfl ?_
    refine o_act rfl rfl rfl rfl (a_buildS0 rfl rfl) ?_
    rintro v' H' ⟨b, rfl, rfl⟩
    refine o_val rfl rfl rfl rfl (v_move rfl) ?_
    refine o_act rfl rfl rfl rfl (a_append (bf := .at b 0) (n := 0) (sz := 1) (bytes := 1) (xs := []) ⟨⟨_, _, _, rfl, rfl, rfl, rfl, rfl, rfl⟩, by decide⟩ rfl (Nat.le_refl _) rfl rfl rfl (hv.mono (Fz.le_refl _) (by simp)) (bytes_one _) (by unfold maxLen; omega) (by omega)) ?_
    rintro v' H' ⟨bf, rfl, hok, rfl⟩
    rw [Nat.zero_add] at hok ⊢
    refine o_val rfl rfl rfl rfl (v_assign rfl) ?_
    refine o_end ?_
    exact r_ret1 Try.func33 rfl rfl ⟨⟨rfl, bf, hok, rfl, rfl⟩, Fz.le_refl _⟩

/-- A number of its first eight bytes. -/
def leN : List UInt8 → Nat
  | [] => 0
  | b :: r => b.toNat + 256 * leN r
theorem leN_lt : ∀ l : List UInt8, leN l < 256 ^ l.length
  | [] => by simp [leN]
  | b :: r => by
    have h1 := leN_lt r
    have h2 := b.toNat_lt
    simp only [leN, List.length_cons, Nat.pow_succ]
    omega
theorem leN_snoc : ∀ (l : List UInt8) (b : UInt8), leN (l ++ [b]) = leN l + b.toNat * 256 ^ l.length
  | [], b => by simp [leN]
  | x :: r, b => by
    simp only [List.cons_append, leN, leN_snoc r b, List.length_cons, Nat.pow_succ, Nat.mul_add]
    rw [Nat.mul_comm (256 ^ r.length) 256, Nat.mul_left_comm]
    omega
theorem u64_shl (b : UInt8) (i : Nat) (hi : i < 8) : IntKind.u64.wrap ((b.toNat : Int) * 2 ^ (min (8 * (i : Int)).toNat IntKind.u64.bits)) = ((b.toNat * 256 ^ i : Nat) : Int) := by
  have h1 : (8 * (i : Int)).toNat = 8 * i := by omega
  have h2 : min (8 * i) IntKind.u64.bits = 8 * i := by show min (8 * i) 64 = 8 * i; omega
  rw [h1, h2]
  have h3 : (2 : Int) ^ (8 * i) = ((256 ^ i : Nat) : Int) := by
    rw [Int.pow_mul]
    simp
  rw [h3, ← Int.natCast_mul]
  have hb := b.toNat_lt
  have h4 : (256 : Nat) ^ i ≤ 256 ^ 7 := Nat.pow_le_pow_right (by decide) (by omega)
  have h5 : b.toNat * 256 ^ i ≤ 255 * 256 ^ 7 := Nat.mul_le_mul (by omega) h4
  exact wrap_u64 (by omega) (by have : (255 * 256 ^ 7 : Nat) < 18446744073709551616 := by decide
                                omega)
theorem u64_or (x y i : Nat) (hx : x < 256 ^ i) (hy : y < 256) (hi : i < 8) : bitOp .or .u64 (x : Int) ((y * 256 ^ i : Nat) : Int) = ((x + y * 256 ^ i : Nat) : Int) := by
  have h4 : (256 : Nat) ^ i ≤ 256 ^ 7 := Nat.pow_le_pow_right (by decide) (by omega)
  have h5 : y * 256 ^ i ≤ 255 * 256 ^ 7 := Nat.mul_le_mul (by omega) h4
  have h6 : (255 * 256 ^ 7 + 256 ^ 7 : Nat) ≤ 18446744073709551616 := by decide
  show IntKind.u64.wrap ((BitVec.ofInt 64 (x : Int) ||| BitVec.ofInt 64 ((y * 256 ^ i : Nat) : Int)).toNat : Int) = _
  rw [BitVec.toNat_or, BitVec.ofInt_natCast, BitVec.ofInt_natCast, BitVec.toNat_ofNat, BitVec.toNat_ofNat, Nat.mod_eq_of_lt (by omega), Nat.mod_eq_of_lt (by omega)]
  have h7 : x ||| y * 256 ^ i = x + y * 256 ^ i := by
    have h8 : (256 : Nat) ^ i = 2 ^ (8 * i) := by rw [Nat.pow_mul]
    rw [h8] at hx ⊢
    have := Nat.two_pow_add_eq_or_of_lt hx y
    rw [Nat.mul_comm y, Nat.or_comm, ← this, Nat.add_comm]
  rw [h7]
  exact wrap_u64 (by omega) (by omega)
theorem u64_add8 (x y i : Nat) (hx : x < 256 ^ i) (hy : y < 256) (hi : i < 8) : IntKind.u64.wrap ((x : Int) + ((y * 256 ^ i : Nat) : Int)) = ((x + y * 256 ^ i : Nat) : Int) := by
  have h4 : (256 : Nat) ^ i ≤ 256 ^ 7 := Nat.pow_le_pow_right (by decide) (by omega)
  have h5 : y * 256 ^ i ≤ 255 * 256 ^ 7 := Nat.mul_le_mul (by omega) h4
  have h6 : (255 * 256 ^ 7 + 256 ^ 7 : Nat) ≤ 18446744073709551616 := by decide
  rw [← Int.natCast_add]
  exact wrap_u64 (by omega) (by omega)
def maskB (l : List UInt8) : Nat := leN (l.take 8)

theorem lg_Mask (O : World) (F : Fz) (v : Value) (l : List UInt8) (H : List Ent) (hv : SlB F H v l) (hl : l.length ≤ 9223372036854775807) :
    Does Try.prog O 18 #[v] F H (fun r F' H' => r = .int .u64 (maskB l) ∧ F' = F ∧ H' = H) := by
  obtain ⟨a0, cap, rfl, hcap⟩ := Sl.shape hv
  refine does_of_run (args := [_]) Try.func18 rfl rfl ?_
  have hmin : (if (8 : Int) < l.length then (8 : Int) else l.length) = ((min l.length 8 : Nat) : Int) := by split <;> omega
  refine r_seq ?_
  refine r_region rfl ?_
  refine o_val rfl rfl rfl rfl (v_assign rfl) ?_
  refine o_end ?_
  refine r_seq ?_
  refine r_region rfl ?_
  refine o_val rfl rfl rfl rfl (v_assign rfl) ?_
  refine o_end ?_
  refine r_seq ?_
  refine r_seq ?_
  refine r_region rfl ?_
  refine o_val rfl rfl rfl rfl (v_move rfl) ?_
  refine o_val rfl rfl rfl rfl (v_len rfl rfl) ?_
  refine o_val rfl rfl rfl rfl (v_min rfl rfl) ?_
  refine o_val rfl rfl rfl rfl (v_move rfl) ?_
  refine o_end ?_
  refine r_block ?_
  refine j_slot 7 rfl (v' := .int .i64 ((min l.length 8 : Nat) : Int)) (by rw [hmin]) ?_
  refine r_loop (fun i : Nat => i ≤ min l.length 8) (fun i => [(0, .slice a0 l.length cap), (3, .int .u64 (leN (l.take i))), (7, .int .i64 ((min l.length 8 : Nat) : Int)), (8, .int .i64 i)]) (fun _ => F) (fun _ => H) (fun i => min l.length 8 - i) 0 (Nat.zero_le _) ⟨rfl, rfl, rfl, rfl, trivial⟩ rfl rfl ?_
  intro i hi IH
  refine r_seq ?_
  refine r_region rfl ?_
  refine o_val rfl rfl rfl rfl (v_lss rfl rfl) ?_
  refine o_end ?_
  refine r_seq ?_
  refine r_if rfl (fun h => ?_) (fun h => ?_)
  · have hil : i < l.length := by omega
    have hi8 : i < 8 := by omega
    obtain ⟨b, off, cap', hab, _, hcell⟩ := Sl.view hv (by omega)
    simp only [Value.slice.injEq] at hab
    obtain ⟨rfl, _, rfl⟩ := hab
    have hlt := leN_lt (l.take i)
    rw [List.length_take, Nat.min_eq_left (by omega)] at hlt
    have hs : leN (l.take (i + 1)) = leN (l.take i) + l[i].toNat * 256 ^ i := by
      rw [List.take_succ_eq_append_getElem hil, leN_snoc, List.length_take, Nat.min_eq_left (by omega)]
    refine r_skip ?_
    refine r_seq ?_
    refine r_block ?_
    refine r_seq ?_
    refine r_region rfl ?_
    refine o_val rfl rfl rfl rfl (v_move rfl) ?_
    refine o_val rfl rfl rfl rfl (v_assign rfl) ?_
    refine o_end ?_
    refine r_region rfl ?_
    refine o_val rfl rfl rfl rfl (v_move rfl) ?_
    refine o_val rfl rfl rfl rfl (v_move rfl) ?_
    refine o_val rfl rfl rfl rfl (v_move rfl) ?_
    refine o_val rfl rfl rfl rfl (v_index1 rfl rfl rfl rfl hil) ?_
    refine o_val rfl rfl rfl rfl (v_load rfl rfl (hcell i (byteV l[i]) (by rw [bytesV_get, List.getElem?_eq_getElem hil]; rfl))) ?_
    refine o_val rfl rfl rfl rfl (v_conv rfl rfl rfl (wrap_u64 (by omega) (by have := l[i].toNat_lt; omega))) ?_
    refine o_val rfl rfl rfl rfl (v_move rfl) ?_
    refine o_val rfl rfl rfl rfl (v_mul rfl rfl (wrap_i64 (by omega) (by omega))) ?_
    refine o_val rfl rfl rfl rfl (v_shl rfl rfl (by omega) (u64_shl l[i] i hi8)) ?_
    refine o_val rfl rfl rfl rfl (v_or rfl rfl (u64_or _ _ i hlt (l[i].toNat_lt) hi8)) ?_
    refine o_val rfl rfl rfl rfl (v_assign rfl) ?_
    refine o_end ?_
    refine r_inBlock ?_
    refine r_region rfl ?_
    refine o_val rfl rfl rfl rfl (v_add rfl rfl (wrap_i64 (by omega) (by omega))) ?_
    refine o_val rfl rfl rfl rfl (v_move rfl) ?_
    refine o_end ?_
    rw [← hs]
    refine j_keep ?_ (IH (i + 1) (by omega) (by omega))
    exact ⟨rfl, rfl, rfl, rfl, trivial⟩
  · have e : l.take i = l.take 8 := by
      rcases Nat.lt_or_ge l.length 8 with h8 | h8
      · rw [List.take_of_length_le (by omega), List.take_of_length_le (by omega)]
      · rw [show i = 8 by omega]
    rw [e]
    refine r_exit rfl ?_
    refine r_seq ?_
    refine r_region rfl ?_
    refine o_val rfl rfl rfl rfl (v_move rfl) ?_
    refine o_val rfl rfl rfl rfl (v_assign rfl) ?_
    refine o_end ?_
    exact r_ret1 Try.func18 rfl rfl ⟨⟨rfl, rfl, rfl⟩, Fz.le_refl _⟩

theorem ref_Mask (O : World) (F : Fz) (v : Value) (l : List UInt8) (H : List Ent) (hv : SlB F H v l) (hl : l.length ≤ 9223372036854775807) :
    Does Try.prog O 20 #[v] F H (fun r F' H' => r = .int .u64 (maskB l) ∧ F' = F ∧ H' = H) := by
  obtain ⟨a0, cap, rfl, hcap⟩ := Sl.shape hv
  refine does_of_run (args := [_]) Try.func20 rfl rfl ?_
  refine r_seq ?_
  refine r_region rfl ?_
  refine o_val rfl rfl rfl rfl (v_assign rfl) ?_
  refine o_end ?_
  refine r_seq ?_
  refine r_region rfl ?_
  refine o_val rfl rfl rfl rfl (v_assign rfl) ?_
  refine o_end ?_
  refine r_seq ?_
  refine r_join (fun _ : Unit => True) (fun _ => [(3, .int .u64 (maskB l))]) (fun _ => F) (fun _ => H) ?_ ?_
  · intro J
    refine r_seq ?_
    refine r_region rfl ?_
    refine o_val rfl rfl rfl rfl (v_assign rfl) ?_
    refine o_end ?_
    refine r_block ?_
    refine r_loop (fun i : Nat => i ≤ min l.length 8) (fun i => [(0, .slice a0 l.length cap), (3, .int .u64 (leN (l.take i))), (4, .int .i64 i)]) (fun _ => F) (fun _ => H) (fun i => min l.length 8 - i) 0 (Nat.zero_le _) ⟨rfl, rfl, rfl, trivial⟩ rfl rfl ?_
    intro i hi IH
    have e : min l.length 8 ≤ i → l.take i = l.take 8 := fun h => by
      rcases Nat.lt_or_ge l.length 8 with h8 | h8
      · rw [List.take_of_length_le (by omega), List.take_of_length_le (by omega)]
      · rw [show i = 8 by omega]
    refine r_seq ?_
    refine r_seq ?_
    refine r_region rfl ?_
    refine o_val rfl rfl rfl rfl (v_move rfl) ?_
    refine o_val rfl rfl rfl rfl (v_move rfl) ?_
    refine o_val rfl rfl rfl rfl (v_len rfl rfl) ?_
    refine o_val rfl rfl rfl rfl (v_lss rfl rfl) ?_
    refine o_val rfl rfl rfl rfl (v_move rfl) ?_
    refine j_prop 9 rfl (fun h => ?_) (fun h => ?_)
    · refine o_val rfl rfl rfl rfl (v_move rfl) ?_
      refine o_val rfl rfl rfl rfl (v_lss rfl rfl) ?_
      refine o_val rfl rfl rfl rfl (v_pick1 rfl rfl) ?_
      refine o_end ?_
      refine r_if rfl (fun h2 => ?_) (fun h2 => ?_)
      · have hil : i < l.length := by omega
        have hi8 : i < 8 := by omega
        obtain ⟨b, off, cap', hab, _, hcell⟩ := Sl.view hv (by omega)
        simp only [Value.slice.injEq] at hab
        obtain ⟨rfl, _, rfl⟩ := hab
        have hlt := leN_lt (l.take i)
        rw [List.length_take, Nat.min_eq_left (by omega)] at hlt
        have hs : leN (l.take (i + 1)) = leN (l.take i) + l[i].toNat * 256 ^ i := by
          rw [List.take_succ_eq_append_getElem hil, leN_snoc, List.length_take, Nat.min_eq_left (by omega)]
        refine r_skip ?_
        refine r_seq ?_
        refine r_block ?_
        refine r_region rfl ?_
        refine o_val rfl rfl rfl rfl (v_move rfl) ?_
        refine o_val rfl rfl rfl rfl (v_move rfl) ?_
        refine o_val rfl rfl rfl rfl (v_move rfl) ?_
        refine o_val rfl rfl rfl rfl (v_index1 rfl rfl rfl rfl hil) ?_
        refine o_val rfl rfl rfl rfl (v_load rfl rfl (hcell i (byteV l[i]) (by rw [bytesV_get, List.getElem?_eq_getElem hil]; rfl))) ?_
        refine o_val rfl rfl rfl rfl (v_conv rfl rfl rfl (wrap_u64 (by omega) (by have := l[i].toNat_lt; omega))) ?_
        refine o_val rfl rfl rfl rfl (v_move rfl) ?_
        refine o_val rfl rfl rfl rfl (v_mul rfl rfl (wrap_i64 (by omega) (by omega))) ?_
        refine o_val rfl rfl rfl rfl (v_shl rfl rfl (by omega) (u64_shl l[i] i hi8)) ?_
        refine o_val rfl rfl rfl rfl (v_add rfl rfl (u64_add8 _ _ i hlt (l[i].toNat_lt) hi8)) ?_
        refine o_val rfl rfl rfl rfl (v_assign rfl) ?_
        refine o_end ?_
        refine r_inBlock ?_
        refine r_region rfl ?_
        refine o_val rfl rfl rfl rfl (v_move rfl) ?_
        refine o_val rfl rfl rfl rfl (v_add rfl rfl (wrap_i64 (by omega) (by omega))) ?_
        refine o_val rfl rfl rfl rfl (v_assign rfl) ?_
        refine o_end ?_
        rw [← hs]
        refine j_keep ?_ (IH (i + 1) (by omega) (by omega))
        exact ⟨rfl, rfl, rfl, trivial⟩
      · rw [e (by omega)]
        refine r_exit rfl ?_
        refine j_keep ?_ (J () trivial)
        exact ⟨rfl, trivial⟩
    · rw [e (by omega)]
      refine o_skip rfl rfl rfl rfl ?_
      refine o_skip rfl rfl rfl rfl ?_
      refine o_val rfl rfl rfl rfl (v_pick0 rfl rfl) ?_
      refine o_end ?_
      refine r_false rfl ?_
      refine r_exit rfl ?_
      refine j_keep ?_ (J () trivial)
      exact ⟨rfl, trivial⟩
  · rintro _ _
    refine r_seq ?_
    refine r_region rfl ?_
    refine o_val rfl rfl rfl rfl (v_move rfl) ?_
    refine o_val rfl rfl rfl rfl (v_assign rfl) ?_
    refine o_end ?_
    exact r_ret1 Try.func20 rfl rfl ⟨⟨rfl, rfl, rfl⟩, Fz.le_refl _⟩

def leB : Nat → Nat → List UInt8
  | 0, _ => []
  | k + 1, n => UInt8.ofNat n :: leB k (n / 256)
@[simp] theorem leB_length : ∀ k n, (leB k n).length = k
  | 0, _ => rfl
  | k + 1, n => by simp [leB, leB_length k]
theorem leB_snoc : ∀ k n, leB (k + 1) n = leB k n ++ [UInt8.ofNat (n / 256 ^ k)]
  | 0, n => by simp [leB]
  | k + 1, n => by
    rw [leB, leB_snoc k, leB, List.cons_append, Nat.div_div_eq_div_mul, Nat.pow_succ, Nat.mul_comm]
theorem leN_leB : ∀ k n, n < 256 ^ k → leN (leB k n) = n
  | 0, n, h => by simp at h; subst h; rfl
  | k + 1, n, h => by
    have : n / 256 < 256 ^ k := by rw [Nat.pow_succ] at h; omega
    simp only [leB, leN, leN_leB k _ this]
    simp
    omega
theorem u8_of (m : Nat) : IntKind.u8.wrap (m : Int) = ((UInt8.ofNat m).toNat : Int) := by
  rw [wrap_u8']
  simp
theorem u64_shr (n i : Nat) (hi : i ≤ 8) : Int.fdiv (n : Int) (2 ^ (min (8 * (i : Int)).toNat IntKind.u64.bits)) = ((n / 256 ^ i : Nat) : Int) := by
  have h1 : (8 * (i : Int)).toNat = 8 * i := by omega
  have h2 : min (8 * i) IntKind.u64.bits = 8 * i := by show min (8 * i) 64 = 8 * i; omega
  rw [h1, h2, Int.fdiv_eq_ediv_of_nonneg _ (Int.pow_nonneg (by decide)), Int.pow_mul, Int.natCast_ediv]
  simp

theorem lg_Bytes (O : World) (F : Fz) (n : Nat) (Fr : List Ent) :
    Does Try.prog O 19 #[.int .u64 n] F Fr (fun r F' H' => F' = F ∧ ∃ bf : Bf, bf.ok 8 ∧ r = bf.val 8 ∧ H' = bf.ents 1 (bytesV (leB 8 n)) ++ Fr) := by
  refine does_of_run (args := [_]) Try.func19 rfl rfl ?_
  refine r_seq ?_
  refine r_region rfl ?_
  refine o_val rfl rfl rfl rfl (v_assign rfl) ?_
  refine o_end ?_
  refine r_seq ?_
  refine r_region rfl ?_
  refine o_val rfl rfl rfl rfl (v_assign rfl) ?_
  refine o_end ?_
  refine r_seq ?_
  refine r_seq ?_
  refine r_region rfl ?_
  refine o_val rfl rfl rfl rfl (v_move rfl) ?_
  refine o_end ?_
  refine r_block ?_
  refine r_loop (fun g : Nat × Bf => g.1 ≤ 8 ∧ g.2.ok g.1) (fun g => [(0, .int .u64 n), (3, g.2.val g.1), (5, .int .i64 g.1)]) (fun _ => F) (fun g => g.2.ents 1 (bytesV (leB g.1 n)) ++ Fr) (fun g => 8 - g.1) (0, .nil) ⟨Nat.zero_le _, rfl⟩ ⟨rfl, rfl, rfl, trivial⟩ rfl rfl ?_
  rintro ⟨i, bf⟩ ⟨hi, hok⟩ IH
  dsimp only at hi hok ⊢
  refine r_seq ?_
  refine r_region rfl ?_
  refine o_val rfl rfl rfl rfl (v_lss rfl rfl) ?_
  refine o_end ?_
  refine r_seq ?_
  refine r_if rfl (fun h => ?_) (fun h => ?_)
  · have hi8 : i ≤ 8 := by omega
    refine r_skip ?_
    refine r_seq ?_
    refine r_block ?_
    refine r_seq ?_
    refine r_region rfl ?_
    refine o_val rfl rfl rfl rfl (v_move rfl) ?_
    refine o_val rfl rfl rfl rfl (v_assign rfl) ?_
    refine o_end ?_
    refine r_region rfl ?_
    refine o_val rfl rfl rfl rfl (v_move rfl) ?_
    refine o_val rfl rfl rfl rfl (v_move rfl) ?_
    refine o_val rfl rfl rfl rfl (v_move rfl) ?_
    refine o_val rfl rfl rfl rfl (v_mul rfl rfl (wrap_i64 (by omega) (by omega))) ?_
    refine o_val rfl rfl rfl rfl (v_shr rfl rfl (by omega) (u64_shr n i hi8)) ?_
    refine o_val rfl rfl rfl rfl (v_conv rfl rfl rfl (u8_of _)) ?_
    refine o_act rfl rfl rfl rfl (a_buildS (sz := 1) (cs := [byteV (UInt8.ofNat (n / 256 ^ i))]) [.tmp 13] rfl rfl rfl rfl rfl rfl rfl rfl rfl rfl) ?_
    rintro v' H' ⟨b, rfl, rfl⟩
    refine o_act rfl rfl rfl rfl (a_appendP (bf := bf) (n := i) (sz := 1) (bytes := 1) [.mem b [byteV (UInt8.ofNat (n / 256 ^ i))] 1] ⟨⟨_, _, _, rfl, rfl, rfl, rfl, rfl, rfl⟩, by decide⟩ rfl hok (by simp) rfl rfl (show Sl _ _ 1 _ 1 (bytesV [UInt8.ofNat (n / 256 ^ i)]) from ⟨_, 1, rfl, by simp, by simp, by simp, fun j c hj => ⟨b, 0, rfl, cell_own (cs := [byteV (UInt8.ofNat (n / 256 ^ i))]) (n := 1) (by simp) (by simpa [bytesV] using hj)⟩⟩) (bytes_one _) (by unfold maxLen; omega) (by omega)) ?_
    rintro v' H' ⟨bf2, rfl, hok2, rfl⟩
    refine j_drop (List.sublist_append_right _ _) ?_
    rw [← bytesV_append, ← leB_snoc]
    refine o_val rfl rfl rfl rfl (v_assign rfl) ?_
    refine o_end ?_
    refine r_inBlock ?_
    refine r_region rfl ?_
    refine o_val rfl rfl rfl rfl (v_add rfl rfl (wrap_i64 (by omega) (by omega))) ?_
    refine o_val rfl rfl rfl rfl (v_move rfl) ?_
    refine o_end ?_
    refine j_keep ?_ (IH (i + 1, bf2) ⟨by dsimp only; omega, hok2⟩ (by dsimp only; omega))
    exact ⟨rfl, rfl, rfl, trivial⟩
  · obtain rfl : i = 8 := by omega
    refine r_exit rfl ?_
    refine r_seq ?_
    refine r_region rfl ?_
    refine o_val rfl rfl rfl rfl (v_move rfl) ?_
    refine o_val rfl rfl rfl rfl (v_assign rfl) ?_
    refine o_end ?_
    exact r_ret1 Try.func19 rfl rfl ⟨⟨rfl, bf, hok, rfl, rfl⟩, Fz.le_refl _⟩
end Go.SX
