/-
  Contracts of package octet: the reader, and opening what is sealed.
-/
import Derived.Test.YtdmpnpcpnhcioaaOct
namespace Go.SX
open Go Go.Proofs
set_option maxRecDepth 4000


theorem oct_Read (O : World) (F : Fz) (v : Value) (l : List UInt8) (Fr : List Ent) (hv : SlB F [] v l) :
    Does Try.prog O 26 #[v] F Fr (fun r F' H' => F' = F ∧ ∃ a, r = ptrV a ∧ H' = .mem a [v, .bool false] 2 :: Fr) := by
  obtain ⟨a0, cap, rfl, hcap⟩ := Sl.shape hv
  refine does_of_run (args := [_]) Try.func26 rfl rfl ?_
  refine r_seq ?_
  refine r_region rfl ?_
  refine o_val rfl rfl rfl rfl (v_assign rfl) ?_
  refine o_end ?_
  refine r_seq ?_
  refine r_region rfl ?_
  refine o_val rfl rfl rfl rfl (v_move rfl) ?_
  refine o_val rfl rfl rfl rfl (v_build rfl rfl) ?_
  refine o_act rfl rfl rfl rfl (a_box rfl) ?_
  rintro v' H' ⟨a, rfl, rfl⟩
  refine o_val rfl rfl rfl rfl (v_assign rfl) ?_
  refine o_end ?_
  exact r_ret1 Try.func26 rfl rfl ⟨⟨rfl, a, rfl, rfl⟩, Fz.le_refl _⟩

theorem oct_spoil (O : World) (F : Fz) (a : Nat) (v u : Value) (Fr : List Ent) :
    Does Try.prog O 44 #[ptrV a] F (.mem a [v, u] 2 :: Fr) (fun r F' H' => r = noneV ∧ F' = F ∧ H' = .mem a [v, .bool true] 2 :: Fr) := by
  refine does_of_run (args := [_]) Try.func44 rfl rfl ?_
  refine r_seq ?_
  refine r_region rfl ?_
  refine o_val rfl rfl rfl rfl (v_move rfl) ?_
  refine o_val rfl rfl rfl rfl (v_pneqnil rfl rfl rfl) ?_
  refine o_end ?_
  refine r_true rfl ?_
  refine r_region rfl ?_
  refine o_val rfl rfl rfl rfl (v_move rfl) ?_
  refine o_val rfl rfl rfl rfl (v_nilCheck rfl) ?_
  refine o_val rfl rfl rfl rfl (v_field (k := 1) rfl rfl rfl) ?_
  refine o_act0 rfl rfl rfl (a_store1 0 rfl rfl rfl rfl rfl (Nat.le_of_ble_eq_true rfl)) ?_
  refine o_end ?_
  exact r_fall0 Try.func44 rfl ⟨⟨rfl, rfl, rfl⟩, Fz.le_refl _⟩
theorem oct_spoil0 (O : World) (F : Fz) (Fr : List Ent) :
    Does Try.prog O 44 #[nilP] F Fr (fun r F' H' => r = noneV ∧ F' = F ∧ H' = Fr) := by
  refine does_of_run (args := [_]) Try.func44 rfl rfl ?_
  refine r_seq ?_
  refine r_region rfl ?_
  refine o_val rfl rfl rfl rfl (v_move rfl) ?_
  refine o_val rfl rfl rfl rfl (v_pneqnil rfl rfl rfl) ?_
  refine o_end ?_
  refine r_false rfl ?_
  refine r_skip ?_
  exact r_fall0 Try.func44 rfl ⟨⟨rfl, rfl, rfl⟩, Fz.le_refl _⟩

/-- A number of some bytes, the lowest first. -/
def leN : List UInt8 → Nat
  | [] => 0
  | b :: r => b.toNat + 256 * leN r
theorem leN_lt : ∀ l : List UInt8, leN l < 256 ^ l.length
  | [] => by simp [leN]
  | b :: r => by
    have h1 := leN_lt r
    have h2 := b.toNat_lt
    simp only [leN, List.length_cons, Nat.pow_succ]
    omega
theorem leN_snoc : ∀ (l : List UInt8) (b : UInt8), leN (l ++ [b]) = leN l + b.toNat * 256 ^ l.length
  | [], b => by simp [leN]
  | x :: r, b => by
    simp only [List.cons_append, leN, leN_snoc r b, List.length_cons, Nat.pow_succ, Nat.mul_add]
    rw [Nat.mul_comm (256 ^ r.length) 256, Nat.mul_left_comm]
    omega

/-- What a number's reading comes to: the number, the bytes behind, a fault. -/
def rdNum (l : List UInt8) (bad : Bool) (n : Int) : Nat × List UInt8 × Bool :=
  if bad = true ∨ n < 0 ∨ (l.length : Int) < n then (0, l, true) else (leN (l.take (min n.toNat 8)), l.drop n.toNat, false)

theorem u64_shl (b : UInt8) (i : Nat) (hi : i < 8) : IntKind.u64.wrap ((b.toNat : Int) * 2 ^ (min (8 * (i : Int)).toNat IntKind.u64.bits)) = ((b.toNat * 256 ^ i : Nat) : Int) := by
  have h1 : (8 * (i : Int)).toNat = 8 * i := by omega
  have h2 : min (8 * i) IntKind.u64.bits = 8 * i := by show min (8 * i) 64 = 8 * i; omega
  rw [h1, h2]
  have h3 : (2 : Int) ^ (8 * i) = ((256 ^ i : Nat) : Int) := by
    rw [Int.pow_mul]
    simp
  rw [h3, ← Int.natCast_mul]
  have hb := b.toNat_lt
  have h4 : (256 : Nat) ^ i ≤ 256 ^ 7 := Nat.pow_le_pow_right (by decide) (by omega)
  have h5 : b.toNat * 256 ^ i ≤ 255 * 256 ^ 7 := Nat.mul_le_mul (by omega) h4
  exact wrap_u64 (by omega) (by have : (255 * 256 ^ 7 : Nat) < 18446744073709551616 := by decide
                                omega)
theorem u64_or (x y i : Nat) (hx : x < 256 ^ i) (hy : y < 256) (hi : i < 8) : bitOp .or .u64 (x : Int) ((y * 256 ^ i : Nat) : Int) = ((x + y * 256 ^ i : Nat) : Int) := by
  have h4 : (256 : Nat) ^ i ≤ 256 ^ 7 := Nat.pow_le_pow_right (by decide) (by omega)
  have h5 : y * 256 ^ i ≤ 255 * 256 ^ 7 := Nat.mul_le_mul (by omega) h4
  have h6 : (255 * 256 ^ 7 + 256 ^ 7 : Nat) ≤ 18446744073709551616 := by decide
  show IntKind.u64.wrap ((BitVec.ofInt 64 (x : Int) ||| BitVec.ofInt 64 ((y * 256 ^ i : Nat) : Int)).toNat : Int) = _
  rw [BitVec.toNat_or, BitVec.ofInt_natCast, BitVec.ofInt_natCast, BitVec.toNat_ofNat, BitVec.toNat_ofNat, Nat.mod_eq_of_lt (by omega), Nat.mod_eq_of_lt (by omega)]
  have h7 : x ||| y * 256 ^ i = x + y * 256 ^ i := by
    have h8 : (256 : Nat) ^ i = 2 ^ (8 * i) := by rw [Nat.pow_mul]
    rw [h8] at hx ⊢
    have := Nat.two_pow_add_eq_or_of_lt hx y
    rw [Nat.mul_comm y, Nat.or_comm, ← this, Nat.add_comm]
  rw [h7]
  exact wrap_u64 (by omega) (by omega)

theorem oct_RNum0 (O : World) (F : Fz) (n : Int) (Fr : List Ent) :
    Does Try.prog O 27 #[nilP, .int .i64 n] F Fr (fun r F' H' => r = .int .u64 0 ∧ F' = F ∧ H' = Fr) := by
  refine does_of_run (args := [_, _]) Try.func27 rfl rfl ?_
  refine r_seq ?_
  refine r_region rfl ?_
  refine o_val rfl rfl rfl rfl (v_assign rfl) ?_
  refine o_end ?_
  refine r_seq ?_
  refine r_seq ?_
  refine r_region rfl ?_
  refine o_val rfl rfl rfl rfl (v_move rfl) ?_
  refine o_val rfl rfl rfl rfl (v_peqnil rfl rfl rfl) ?_
  refine o_val rfl rfl rfl rfl (v_move rfl) ?_
  refine o_skip rfl rfl rfl rfl ?_
  refine o_skip rfl rfl rfl rfl ?_
  refine o_skip rfl rfl rfl rfl ?_
  refine o_skip rfl rfl rfl rfl ?_
  refine o_val rfl rfl rfl rfl (v_pick1 rfl rfl) ?_
  refine o_val rfl rfl rfl rfl (v_move rfl) ?_
  refine o_skip rfl rfl rfl rfl ?_
  refine o_skip rfl rfl rfl rfl ?_
  refine o_val rfl rfl rfl rfl (v_pick1 rfl rfl) ?_
  refine o_val rfl rfl rfl rfl (v_move rfl) ?_
  refine o_skip rfl rfl rfl rfl ?_
  refine o_skip rfl rfl rfl rfl ?_
  refine o_skip rfl rfl rfl rfl ?_
  refine o_skip rfl rfl rfl rfl ?_
  refine o_skip rfl rfl rfl rfl ?_
  refine o_skip rfl rfl rfl rfl ?_
  refine o_skip rfl rfl rfl rfl ?_
  refine o_val rfl rfl rfl rfl (v_pick1 rfl rfl) ?_
  refine o_end ?_
  refine r_true rfl ?_
  refine r_seq ?_
  refine r_region rfl ?_
  refine o_val rfl rfl rfl rfl (v_move rfl) ?_
  refine o_call rfl rfl rfl rfl (c_call callable44 rfl) (oct_spoil0 _ _ _) ?_
  rintro v' F' H' ⟨rfl, rfl, rfl⟩ _
  refine o_end ?_
  refine r_seq ?_
  refine r_region rfl ?_
  refine o_val rfl rfl rfl rfl (v_assign rfl) ?_
  refine o_end ?_
  exact r_ret1 Try.func27 rfl rfl ⟨⟨rfl, rfl, rfl⟩, Fz.le_refl _⟩

theorem oct_RNum (O : World) (F : Fz) (a : Nat) (v : Value) (l : List UInt8) (bad : Bool) (n : Int) (Fr : List Ent) (hv : SlB F [] v l) (hl : l.length ≤ 140737488355328) :
    Does Try.prog O 27 #[ptrV a, .int .i64 n] F (.mem a [v, .bool bad] 2 :: Fr)
      (fun r F' H' => F' = F ∧ r = .int .u64 (rdNum l bad n).1 ∧ ∃ v', SlB F [] v' (rdNum l bad n).2.1 ∧ H' = .mem a [v', .bool (rdNum l bad n).2.2] 2 :: Fr) := by
  obtain ⟨a0, cap, rfl, hcap⟩ := Sl.shape hv
  have bad_end : (bad = true ∨ n < 0 ∨ (l.length : Int) < n) → rdNum l bad n = (0, l, true) := fun h => by simp only [rdNum, if_pos h]
  refine does_of_run (args := [_, _]) Try.func27 rfl rfl ?_
  cases bad with
  | true =>
    refine r_seq ?_
    refine r_region rfl ?_
    refine o_val rfl rfl rfl rfl (v_assign rfl) ?_
    refine o_end ?_
    refine r_seq ?_
    refine r_seq ?_
    refine r_region rfl ?_
    refine o_val rfl rfl rfl rfl (v_move rfl) ?_
    refine o_val rfl rfl rfl rfl (v_peqnil rfl rfl rfl) ?_
    refine o_val rfl rfl rfl rfl (v_move rfl) ?_
    refine o_val rfl rfl rfl rfl (v_move rfl) ?_
    refine o_val rfl rfl rfl rfl (v_nilCheck rfl) ?_
    refine o_val rfl rfl rfl rfl (v_field (k := 1) rfl rfl rfl) ?_
    refine o_val rfl rfl rfl rfl (v_load rfl rfl (cell_at (j := 0) rfl rfl)) ?_
    refine o_val rfl rfl rfl rfl (v_pick0 rfl rfl) ?_
    refine o_val rfl rfl rfl rfl (v_move rfl) ?_
    refine o_skip rfl rfl rfl rfl ?_
    refine o_skip rfl rfl rfl rfl ?_
    refine o_val rfl rfl rfl rfl (v_pick1 rfl rfl) ?_
    refine o_val rfl rfl rfl rfl (v_move rfl) ?_
    refine o_skip rfl rfl rfl rfl ?_
    refine o_skip rfl rfl rfl rfl ?_
    refine o_skip rfl rfl rfl rfl ?_
    refine o_skip rfl rfl rfl rfl ?_
    refine o_skip rfl rfl rfl rfl ?_
    refine o_skip rfl rfl rfl rfl ?_
    refine o_skip rfl rfl rfl rfl ?_
    refine o_val rfl rfl rfl rfl (v_pick1 rfl rfl) ?_
    refine o_end ?_
    refine r_true rfl ?_
    refine r_seq ?_
    refine r_region rfl ?_
    refine o_val rfl rfl rfl rfl (v_move rfl) ?_
    refine o_call rfl rfl rfl rfl (c_call callable44 rfl) (oct_spoil _ _ _ _ _ _) ?_
    rintro v' F' H' ⟨rfl, rfl, rfl⟩ _
    refine o_end ?_
    refine r_seq ?_
    refine r_region rfl ?_
    refine o_val rfl rfl rfl rfl (v_assign rfl) ?_
    refine o_end ?_
    rw [bad_end (.inl rfl)]
    exact r_ret1 Try.func27 rfl rfl ⟨⟨rfl, rfl, _, hv, rfl⟩, Fz.le_refl _⟩
  | false =>
    refine r_seq ?_
    refine r_region rfl ?_
    refine o_val rfl rfl rfl rfl (v_assign rfl) ?_
    refine o_end ?_
    refine r_seq ?_
    refine r_seq ?_
    refine r_region rfl ?_
    refine o_val rfl rfl rfl rfl (v_move rfl) ?_
    refine o_val rfl rfl rfl rfl (v_peqnil rfl rfl rfl) ?_
    refine o_val rfl rfl rfl rfl (v_move rfl) ?_
    refine o_val rfl rfl rfl rfl (v_move rfl) ?_
    refine o_val rfl rfl rfl rfl (v_nilCheck rfl) ?_
    refine o_val rfl rfl rfl rfl (v_field (k := 1) rfl rfl rfl) ?_
    refine o_val rfl rfl rfl rfl (v_load rfl rfl (cell_at (j := 0) rfl rfl)) ?_
    refine o_val rfl rfl rfl rfl (v_pick0 rfl rfl) ?_
    refine o_val rfl rfl rfl rfl (v_move rfl) ?_
    refine o_val rfl rfl rfl rfl (v_move rfl) ?_
    refine o_val rfl rfl rfl rfl (v_lss rfl rfl) ?_
    refine o_val rfl rfl rfl rfl (v_pick0 rfl rfl) ?_
    refine o_val rfl rfl rfl rfl (v_move rfl) ?_
    refine j_prop 19 rfl (fun hn => ?_) (fun hn => ?_)
    · refine o_skip rfl rfl rfl rfl ?_
      refine o_skip rfl rfl rfl rfl ?_
      refine o_skip rfl rfl rfl rfl ?_
      refine o_skip rfl rfl rfl rfl ?_
      refine o_skip rfl rfl rfl rfl ?_
      refine o_skip rfl rfl rfl rfl ?_
      refine o_skip rfl rfl rfl rfl ?_
      refine o_val rfl rfl rfl rfl (v_pick1 rfl rfl) ?_
      refine o_end ?_
      refine r_true rfl ?_
      refine r_seq ?_
      refine r_region rfl ?_
      refine o_val rfl rfl rfl rfl (v_move rfl) ?_
      refine o_call rfl rfl rfl rfl (c_call callable44 rfl) (oct_spoil _ _ _ _ _ _) ?_
      rintro v' F' H' ⟨rfl, rfl, rfl⟩ _
      refine o_end ?_
      refine r_seq ?_
      refine r_region rfl ?_
      refine o_val rfl rfl rfl rfl (v_assign rfl) ?_
      refine o_end ?_
      rw [bad_end (.inr (.inl hn))]
      exact r_ret1 Try.func27 rfl rfl ⟨⟨rfl, rfl, _, hv, rfl⟩, Fz.le_refl _⟩
    · refine o_val rfl rfl rfl rfl (v_move rfl) ?_
      refine o_val rfl rfl rfl rfl (v_nilCheck rfl) ?_
      refine o_val rfl rfl rfl rfl (v_field (k := 0) rfl rfl rfl) ?_
      refine o_val rfl rfl rfl rfl (v_load rfl rfl (cell_at (j := 0) rfl rfl)) ?_
      refine o_val rfl rfl rfl rfl (v_len rfl rfl) ?_
      refine o_val rfl rfl rfl rfl (v_move rfl) ?_
      refine o_val rfl rfl rfl rfl (v_lss rfl rfl) ?_
      refine o_val rfl rfl rfl rfl (v_pick0 rfl rfl) ?_
      refine o_end ?_
      refine r_if rfl (fun h => ?_) (fun h => ?_)
      · refine r_seq ?_
        refine r_region rfl ?_
        refine o_val rfl rfl rfl rfl (v_move rfl) ?_
        refine o_call rfl rfl rfl rfl (c_call callable44 rfl) (oct_spoil _ _ _ _ _ _) ?_
        rintro v' F' H' ⟨rfl, rfl, rfl⟩ _
        refine o_end ?_
        refine r_seq ?_
        refine r_region rfl ?_
        refine o_val rfl rfl rfl rfl (v_assign rfl) ?_
        refine o_end ?_
        rw [bad_end (.inr (.inr h))]
        exact r_ret1 Try.func27 rfl rfl ⟨⟨rfl, rfl, _, hv, rfl⟩, Fz.le_refl _⟩
      · obtain ⟨k, rfl⟩ := Int.eq_ofNat_of_zero_le (Int.not_lt.1 hn)
        have hk : k ≤ l.length := by omega
        have hr : rdNum l false k = (leN (l.take (min k 8)), l.drop k, false) := by
          have : ¬ (False ∨ (k : Int) < 0 ∨ (l.length : Int) < k) := by
            rintro (h | h | h)
            · exact h
            · omega
            · omega
          simp only [rdNum, Bool.false_eq_true, if_neg this, Int.toNat_natCast]
        rw [hr]
        have hmin : (if (8 : Int) < k then (8 : Int) else k) = ((min k 8 : Nat) : Int) := by split <;> omega
        refine r_skip ?_
        refine r_seq ?_
        refine r_region rfl ?_
        refine o_val rfl rfl rfl rfl (v_assign rfl) ?_
        refine o_end ?_
        refine r_seq ?_
        refine r_seq ?_
        refine r_region rfl ?_
        refine o_val rfl rfl rfl rfl (v_move rfl) ?_
        refine o_val rfl rfl rfl rfl (v_min rfl rfl) ?_
        refine o_val rfl rfl rfl rfl (v_move rfl) ?_
        refine o_end ?_
        refine r_block ?_
        refine j_slot 31 rfl (v' := .int .i64 ((min k 8 : Nat) : Int)) (by rw [hmin]) ?_
        refine r_loop (fun i : Nat => i ≤ min k 8) (fun i => [(32, .int .i64 i), (31, .int .i64 ((min k 8 : Nat) : Int)), (0, ptrV a), (1, .int .i64 k), (5, .int .u64 (leN (l.take i)))]) (fun _ => F) (fun _ => .mem a [.slice a0 l.length cap, .bool false] 2 :: Fr) (fun i => min k 8 - i) 0 (Nat.zero_le _) ⟨rfl, rfl, rfl, rfl, rfl, trivial⟩ rfl rfl ?_
        intro i hi IH
        refine r_seq ?_
        refine r_region rfl ?_
        refine o_val rfl rfl rfl rfl (v_lss rfl rfl) ?_
        refine o_end ?_
        refine r_seq ?_
        refine r_if rfl (fun h2 => ?_) (fun h2 => ?_)
        · have hil : i < l.length := by omega
          obtain ⟨b, off, cap', hab, _, hcell⟩ := Sl.view (hv.frz (H := .mem a [.slice a0 l.length cap, .bool false] 2 :: Fr) (Fz.le_refl F)) (by omega)
          simp only [Value.slice.injEq] at hab
          obtain ⟨rfl, _, rfl⟩ := hab
          have hlt := leN_lt (l.take i)
          rw [List.length_take, Nat.min_eq_left (by omega)] at hlt
          have hs : leN (l.take (i + 1)) = leN (l.take i) + l[i].toNat * 256 ^ i := by
            rw [List.take_succ_eq_append_getElem hil, leN_snoc, List.length_take, Nat.min_eq_left (by omega)]
          refine r_skip ?_
          refine r_seq ?_
          refine r_block ?_
          refine r_seq ?_
          refine r_region rfl ?_
          refine o_val rfl rfl rfl rfl (v_move rfl) ?_
          refine o_val rfl rfl rfl rfl (v_assign rfl) ?_
          refine o_end ?_
          refine r_region rfl ?_
          refine o_val rfl rfl rfl rfl (v_move rfl) ?_
          refine o_val rfl rfl rfl rfl (v_move rfl) ?_
          refine o_val rfl rfl rfl rfl (v_nilCheck rfl) ?_
          refine o_val rfl rfl rfl rfl (v_field (k := 0) rfl rfl rfl) ?_
          refine o_val rfl rfl rfl rfl (v_load rfl rfl (cell_at (j := 0) rfl rfl)) ?_
          refine o_val rfl rfl rfl rfl (v_move rfl) ?_
          refine o_val rfl rfl rfl rfl (v_index1 rfl rfl rfl rfl hil) ?_
          refine o_val rfl rfl rfl rfl (v_load rfl rfl (hcell i (byteV l[i]) (by rw [bytesV_get, List.getElem?_eq_getElem hil]; rfl))) ?_
          refine o_val rfl rfl rfl rfl (v_conv rfl rfl rfl (wrap_u64 (by omega) (by have := l[i].toNat_lt; omega))) ?_
          refine o_val rfl rfl rfl rfl (v_move rfl) ?_
          refine o_val rfl rfl rfl rfl (v_mul rfl rfl (wrap_i64 (by omega) (by omega))) ?_
          refine o_val rfl rfl rfl rfl (v_shl rfl rfl (by omega) (u64_shl l[i] i (by omega))) ?_
          refine o_val rfl rfl rfl rfl (v_or rfl rfl (u64_or _ _ i hlt (l[i].toNat_lt) (by omega))) ?_
          refine o_val rfl rfl rfl rfl (v_assign rfl) ?_
          refine o_end ?_
          refine r_inBlock ?_
          refine r_region rfl ?_
          refine o_val rfl rfl rfl rfl (v_add rfl rfl (wrap_i64 (by omega) (by omega))) ?_
          refine o_val rfl rfl rfl rfl (v_move rfl) ?_
          refine o_end ?_
          rw [← hs]
          refine j_keep ?_ (IH (i + 1) (by omega) (by omega))
          exact ⟨rfl, rfl, rfl, rfl, rfl, trivial⟩
        · obtain rfl : i = min k 8 := by omega
          refine r_exit rfl ?_
          refine r_seq ?_
          refine r_region rfl ?_
          refine o_val rfl rfl rfl rfl (v_move rfl) ?_
          refine o_val rfl rfl rfl rfl (v_move rfl) ?_
          refine o_val rfl rfl rfl rfl (v_nilCheck rfl) ?_
          refine o_val rfl rfl rfl rfl (v_field (k := 0) rfl rfl rfl) ?_
          refine o_val rfl rfl rfl rfl (v_load rfl rfl (cell_at (j := 0) rfl rfl)) ?_
          refine o_val rfl rfl rfl rfl (v_move rfl) ?_
          refine o_val rfl rfl rfl rfl (v_sliceL (sz := 1) rfl rfl rfl rfl rfl hk) ?_
          refine o_val rfl rfl rfl rfl (v_nilCheck rfl) ?_
          refine o_val rfl rfl rfl rfl (v_field (k := 0) rfl rfl rfl) ?_
          refine o_act0 rfl rfl rfl (a_store1 0 rfl rfl rfl rfl rfl (Nat.le_of_ble_eq_true rfl)) ?_
          refine o_end ?_
          refine r_seq ?_
          refine r_region rfl ?_
          refine o_val rfl rfl rfl rfl (v_move rfl) ?_
          refine o_val rfl rfl rfl rfl (v_assign rfl) ?_
          refine o_end ?_
          refine r_ret1 Try.func27 rfl rfl ⟨⟨rfl, rfl, _, ?_, rfl⟩, Fz.le_refl _⟩
          have := Sl.sliced hv hk (Nat.le_refl _)
          rw [Nat.mul_one, Nat.mul_one] at this
          unfold SlB
          rw [List.length_drop]
          have hd : bytesV (l.drop k) = ((bytesV l).drop k).take (l.length - k) := by
            rw [List.take_of_length_le (by simp)]
            simp [bytesV]
          rw [hd]
          exact this

theorem rdNum_lt (l : List UInt8) (bad : Bool) (n : Int) : (rdNum l bad n).1 < 256 ^ (min n.toNat 8) := by
  unfold rdNum
  split
  · exact Nat.pow_pos (by decide)
  · refine Nat.lt_of_lt_of_le (leN_lt _) (Nat.pow_le_pow_right (by decide) ?_)
    simp only [List.length_take]
    omega
theorem rdNum_len (l : List UInt8) (bad : Bool) (n : Int) : (rdNum l bad n).2.1.length ≤ l.length := by
  unfold rdNum
  split <;> simp

/-- A part of bytes. -/
theorem SlB.drop {F : Fz} {H : List Ent} {a : Option Addr} {cap k : Nat} {l : List UInt8} (hv : SlB F H (.slice a l.length cap) l) (hk : k ≤ l.length) : SlB F H (Go.sliced a k l.length cap 1) (l.drop k) := by
  have := Sl.sliced hv hk (Nat.le_refl _)
  rw [Nat.mul_one, Nat.mul_one] at this
  unfold SlB
  rw [List.length_drop]
  have hd : bytesV (l.drop k) = ((bytesV l).drop k).take (l.length - k) := by
    rw [List.take_of_length_le (by simp)]
    simp [bytesV]
  rw [hd]
  exact this
theorem SlB.take {F : Fz} {H : List Ent} {a : Option Addr} {cap k : Nat} {l : List UInt8} (hv : SlB F H (.slice a l.length cap) l) (hk : k ≤ l.length) : SlB F H (Go.sliced a 0 k cap 1) (l.take k) := by
  have := Sl.sliced hv (Nat.zero_le k) hk
  rw [Nat.mul_one, Nat.mul_one, Nat.sub_zero] at this
  unfold SlB
  rw [List.length_take, Nat.min_eq_left hk]
  have hd : bytesV (l.take k) = ((bytesV l).drop 0).take k := by simp [bytesV]
  rw [hd]
  exact this
theorem SlB.takeM {F : Fz} {H : List Ent} {a : Option Addr} {cap k : Nat} {l : List UInt8} (hv : SlB F H (.slice a l.length cap) l) (hk : k ≤ l.length) : SlB F H (Go.sliced a 0 k k 1) (l.take k) := by
  obtain ⟨a', c', h1, h2, h3, h4, h5⟩ := SlB.take hv hk
  simp only [Go.sliced, Value.slice.injEq] at h1
  obtain ⟨rfl, hlen, rfl⟩ := h1
  refine ⟨if k = 0 then a else a.map (·.add (0 * 1)), k - 0, ?_, h2, by omega, fun hn => ?_, fun i c hi => ?_⟩
  · simp only [Go.sliced, Value.slice.injEq]
    exact ⟨trivial, hlen, trivial⟩
  · by_cases hk0 : k = 0
    · omega
    · simp only [hk0, if_false] at hn
      have hlt : 0 < (bytesV (l.take k)).length := by simp; omega
      obtain ⟨b, off, hb, _⟩ := h5 0 _ (List.getElem?_eq_getElem hlt)
      split at hb
      · subst hb; simp at hn
      · rw [hn] at hb; cases hb
  · obtain ⟨b, off, hb, hc⟩ := h5 i c hi
    refine ⟨b, off, ?_, hc⟩
    have hlt : i < (bytesV (l.take k)).length := by
      rcases Nat.lt_or_ge i (bytesV (l.take k)).length with h | h
      · exact h
      · simp [List.getElem?_eq_none h] at hi
    have hk0 : ¬ k = 0 := by simp at hlt; omega
    rw [if_neg hk0]
    split at hb
    · rw [hb]; simp [Addr.add]
    · exact hb

/-! ### The other readings -/

def rdBytes (l : List UInt8) (bad : Bool) (most : Int) : List UInt8 × List UInt8 × Bool :=
  if (rdNum l bad 4).2.2 = true ∨ most < 0 ∨ most < (rdNum l bad 4).1 ∨ (rdNum l bad 4).2.1.length < (rdNum l bad 4).1 then ([], (rdNum l bad 4).2.1, true)
  else ((rdNum l bad 4).2.1.take (rdNum l bad 4).1, (rdNum l bad 4).2.1.drop (rdNum l bad 4).1, false)
def rdFlag (l : List UInt8) (bad : Bool) : Bool × List UInt8 × Bool :=
  if 1 < (rdNum l bad 1).1 then (false, (rdNum l bad 1).2.1, true) else (decide ((rdNum l bad 1).1 = 1), (rdNum l bad 1).2.1, (rdNum l bad 1).2.2)
def rdCount (l : List UInt8) (bad : Bool) (most : Int) : Nat × List UInt8 × Bool :=
  if most < 0 ∨ most < (rdNum l bad 4).1 then (0, (rdNum l bad 4).2.1, true) else ((rdNum l bad 4).1, (rdNum l bad 4).2.1, (rdNum l bad 4).2.2)

theorem oct_RBad0 (O : World) (F : Fz) (Fr : List Ent) : Does Try.prog O 28 #[nilP] F Fr (fun r F' H' => r = .bool true ∧ F' = F ∧ H' = Fr) := by
  refine does_of_run (args := [_]) Try.func28 rfl rfl ?_
  refine r_seq ?_
  refine r_region rfl ?_
  refine o_val rfl rfl rfl rfl (v_assign rfl) ?_
  refine o_end ?_
  refine r_seq ?_
  refine r_region rfl ?_
  refine o_val rfl rfl rfl rfl (v_move rfl) ?_
  refine o_val rfl rfl rfl rfl (v_peqnil rfl rfl rfl) ?_
  refine o_val rfl rfl rfl rfl (v_move rfl) ?_
  refine o_skip rfl rfl rfl rfl ?_
  refine o_skip rfl rfl rfl rfl ?_
  refine o_skip rfl rfl rfl rfl ?_
  refine o_skip rfl rfl rfl rfl ?_
  refine o_val rfl rfl rfl rfl (v_pick1 rfl rfl) ?_
  refine o_val rfl rfl rfl rfl (v_assign rfl) ?_
  refine o_end ?_
  exact r_ret1 Try.func28 rfl rfl ⟨⟨rfl, rfl, rfl⟩, Fz.le_refl _⟩
theorem oct_RBad (O : World) (F : Fz) (a : Nat) (v : Value) (bad : Bool) (Fr : List Ent) :
    Does Try.prog O 28 #[ptrV a] F (.mem a [v, .bool bad] 2 :: Fr) (fun r F' H' => r = .bool bad ∧ F' = F ∧ H' = .mem a [v, .bool bad] 2 :: Fr) := by
  refine does_of_run (args := [_]) Try.func28 rfl rfl ?_
  refine r_seq ?_
  refine r_region rfl ?_
  refine o_val rfl rfl rfl rfl (v_assign rfl) ?_
  refine o_end ?_
  refine r_seq ?_
  refine r_region rfl ?_
  refine o_val rfl rfl rfl rfl (v_move rfl) ?_
  refine o_val rfl rfl rfl rfl (v_peqnil rfl rfl rfl) ?_
  refine o_val rfl rfl rfl rfl (v_move rfl) ?_
  refine o_val rfl rfl rfl rfl (v_move rfl) ?_
  refine o_val rfl rfl rfl rfl (v_nilCheck rfl) ?_
  refine o_val rfl rfl rfl rfl (v_field (k := 1) rfl rfl rfl) ?_
  refine o_val rfl rfl rfl rfl (v_load rfl rfl (cell_at (j := 0) rfl rfl)) ?_
  refine o_val rfl rfl rfl rfl (v_pick0 rfl rfl) ?_
  refine o_val rfl rfl rfl rfl (v_assign rfl) ?_
  refine o_end ?_
  exact r_ret1 Try.func28 rfl rfl ⟨⟨rfl, rfl, rfl⟩, Fz.le_refl _⟩
theorem oct_RLeft0 (O : World) (F : Fz) (Fr : List Ent) : Does Try.prog O 31 #[nilP] F Fr (fun r F' H' => r = .int .i64 0 ∧ F' = F ∧ H' = Fr) := by
  refine does_of_run (args := [_]) Try.func31 rfl rfl ?_
  refine r_seq ?_
  refine r_region rfl ?_
  refine o_val rfl rfl rfl rfl (v_assign rfl) ?_
  refine o_end ?_
  refine r_seq ?_
  refine r_seq ?_
  refine r_region rfl ?_
  refine o_val rfl rfl rfl rfl (v_move rfl) ?_
  refine o_call rfl rfl rfl rfl (c_call callable28 rfl) (oct_RBad0 _ _ _) ?_
  rintro v' F' H' ⟨rfl, rfl, rfl⟩ _
  refine o_end ?_
  refine r_true rfl ?_
  refine r_seq ?_
  refine r_region rfl ?_
  refine o_val rfl rfl rfl rfl (v_assign rfl) ?_
  refine o_end ?_
  exact r_ret1 Try.func31 rfl rfl ⟨⟨rfl, rfl, rfl⟩, Fz.le_refl _⟩
theorem oct_RLeft (O : World) (F : Fz) (a : Nat) (v : Value) (l : List UInt8) (bad : Bool) (Fr : List Ent) (hv : SlB F [] v l) :
    Does Try.prog O 31 #[ptrV a] F (.mem a [v, .bool bad] 2 :: Fr) (fun r F' H' => r = .int .i64 (if bad = true then 0 else l.length) ∧ F' = F ∧ H' = .mem a [v, .bool bad] 2 :: Fr) := by
  obtain ⟨a0, cap, rfl, hcap⟩ := Sl.shape hv
  refine does_of_run (args := [_]) Try.func31 rfl rfl ?_
  cases bad with
  | true =>
    refine r_seq ?_
    refine r_region rfl ?_
    refine o_val rfl rfl rfl rfl (v_assign rfl) ?_
    refine o_end ?_
    refine r_seq ?_
    refine r_seq ?_
    refine r_region rfl ?_
    refine o_val rfl rfl rfl rfl (v_move rfl) ?_
    refine o_call rfl rfl rfl rfl (c_call callable28 rfl) (oct_RBad _ _ _ _ _ _) ?_
    rintro v' F' H' ⟨rfl, rfl, rfl⟩ _
    refine o_end ?_
    refine r_true rfl ?_
    refine r_seq ?_
    refine r_region rfl ?_
    refine o_val rfl rfl rfl rfl (v_assign rfl) ?_
    refine o_end ?_
    exact r_ret1 Try.func31 rfl rfl ⟨⟨rfl, rfl, rfl⟩, Fz.le_refl _⟩
  | false =>
    refine r_seq ?_
    refine r_region rfl ?_
    refine o_val rfl rfl rfl rfl (v_assign rfl) ?_
    refine o_end ?_
    refine r_seq ?_
    refine r_seq ?_
    refine r_region rfl ?_
    refine o_val rfl rfl rfl rfl (v_move rfl) ?_
    refine o_call rfl rfl rfl rfl (c_call callable28 rfl) (oct_RBad _ _ _ _ _ _) ?_
    rintro v' F' H' ⟨rfl, rfl, rfl⟩ _
    refine o_end ?_
    refine r_false rfl ?_
    refine r_skip ?_
    refine r_seq ?_
    refine r_region rfl ?_
    refine o_val rfl rfl rfl rfl (v_move rfl) ?_
    refine o_val rfl rfl rfl rfl (v_nilCheck rfl) ?_
    refine o_val rfl rfl rfl rfl (v_field (k := 0) rfl rfl rfl) ?_
    refine o_val rfl rfl rfl rfl (v_load rfl rfl (cell_at (j := 0) rfl rfl)) ?_
    refine o_val rfl rfl rfl rfl (v_len rfl rfl) ?_
    refine o_val rfl rfl rfl rfl (v_assign rfl) ?_
    refine o_end ?_
    exact r_ret1 Try.func31 rfl rfl ⟨⟨rfl, rfl, rfl⟩, Fz.le_refl _⟩
end Go.SX
