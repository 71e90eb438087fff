/-
  Contracts and plain laws, laid together: part 16.
-/
import Derived.Calls
import Derived.Orders
import Derived.OrdersHeld
import Derived.Tactics
import Derived.OwnWalk
import Derived.Laws.Small
import Derived.Laws.Strings
import Derived.Laws.Pointers
import Derived.Laws.CopyRow
import Derived.Laws.Append
import Derived.Laws.AppendOwn
import Derived.Laws.BytesArg
import Derived.Laws.Slices
import Derived.Laws.MakeOwn
import Derived.Laws.Tables
import Derived.Great.BuildSlice
import Derived.Laws.Cover3
import Derived.Laws.Concat
import Derived.Test.YtaeeagekgjjhjaaGreatProg
import Derived.Below
import Derived.SizedLaws
import Derived.ChangeSlices
import Derived.ChangeOld
import Derived.MapKept
import Derived.Carry
import Derived.WideLaws
import Derived.Laws.StructEq
import Derived.Deep.Matrix
import Derived.Deep.SlicePairs
import Derived.Deep.Grids
import Derived.Test.YtaeeagekgjjhjaaGreatMt15
namespace Go.SX
open Go Go.Proofs
set_option maxRecDepth 4000
set_option maxRecDepth 100000
theorem memo_of {T : Tab} {O : World} {e : Memo} (hT : TOk T Tryz.prog O) (h : pcE T e = true) : e.ok Tryz.prog O := by
  unfold pcE at h
  simp only [Bool.and_eq_true] at h
  exact ⟨T, 100000, hT, h.1.1, h.1.2, h.2⟩
theorem tokS (O : World) : TOk TS Tryz.prog O := memo_ok (tokX O) (ms := [e_s0, e_s1, e_s2, e_s3, e_s4, e_s5]) (by
  intro e he
  simp only [List.mem_cons, List.not_mem_nil, or_false] at he
  rcases he with rfl | rfl | rfl | rfl | rfl | rfl
  · exact memo_of (tokX O) run_s0
  · exact memo_of (tokX O) run_s1
  · exact memo_of (tokX O) run_s2
  · exact memo_of (tokX O) run_s3
  · exact memo_of (tokX O) run_s4
  · exact memo_of (tokX O) run_s5)
noncomputable def TG : Tab := { TX with known := memoK TX.known [e_small, e_new, e_r0, e_r1, e_r2, e_r3, e_r4, e_r5, e_do, e_r6, e_r7, e_r8, e_r9, e_told, e_hist] }
theorem tokG (O : World) : TOk TG Tryz.prog O := memo_ok (tokX O) (ms := [e_small, e_new, e_r0, e_r1, e_r2, e_r3, e_r4, e_r5, e_do, e_r6, e_r7, e_r8, e_r9, e_told, e_hist]) (by
  intro e he
  simp only [List.mem_cons, List.not_mem_nil, or_false] at he
  rcases he with rfl | rfl | rfl | rfl | rfl | rfl | rfl | rfl | rfl | rfl | rfl | rfl | rfl | rfl | rfl
  · exact memo_of (tokX O) run_small
  · exact memo_of (tokX O) run_new
  · exact memo_of (tokX O) run_r0
  · exact memo_of (tokX O) run_r1
  · exact memo_of (tokX O) run_r2
  · exact memo_of (tokX O) run_r3
  · exact memo_of (tokX O) run_r4
  · exact memo_of (tokX O) run_r5
  · exact memo_of (tokX O) run_do
  · exact memo_of (tokS O) run_r6
  · exact memo_of (tokS O) run_r7
  · exact memo_of (tokX O) run_r8
  · exact memo_of (tokX O) run_r9
  · exact memo_of (tokX O) run_told
  · exact memo_of (tokX O) run_hist)
theorem run_goes : pc (xcallF TG (xrun TG 1000) 4 [] ⟨1, .nil⟩) Tt 5109 [] = true := by decide +kernel
/-- **goes answers true.** -/
theorem goes_ok (O : World) (F : Fz) (H : List Ent) : Does Tryz.prog O 4 #[] F H (fun r F' H' => r = .bool true ∧ F' = F ∧ H' = H) := does_of_run0 (tokG O) rfl run_goes F H
end Go.SX
namespace Go.SX
open Go Go.Proofs
set_option maxRecDepth 4000
theorem oct_Read (O : World) (F : Fz) (v : Value) (l : List UInt8) (Fr : List Ent) (hv : SlB F [] v l) :
    Does Tryz.prog O 96 #[v] F Fr (fun r F' H' => F' = F ∧ ∃ a, r = ptrV a ∧ H' = .mem a [v, .bool false] 2 :: Fr) := by
  obtain ⟨a0, cap, rfl, hcap⟩ := Sl.shape hv
  refine does_of_run (args := [_]) Tryz.func96 rfl rfl ?_
  refine r_seq ?_
  refine r_region rfl ?_
  refine o_val rfl rfl rfl rfl (v_assign rfl) ?_
  refine o_end ?_
  refine r_seq ?_
  refine r_region rfl ?_
  refine o_val rfl rfl rfl rfl (v_move rfl) ?_
  refine o_val rfl rfl rfl rfl (v_build rfl rfl) ?_
  refine o_act rfl rfl rfl rfl (a_box rfl) ?_
  rintro v' H' ⟨a, rfl, rfl⟩
  refine o_val rfl rfl rfl rfl (v_assign rfl) ?_
  refine o_end ?_
  exact r_ret1 Tryz.func96 rfl rfl ⟨⟨rfl, a, rfl, rfl⟩, Fz.le_refl _⟩
theorem oct_spoil (O : World) (F : Fz) (a : Nat) (v u : Value) (Fr : List Ent) :
    Does Tryz.prog O 164 #[ptrV a] F (.mem a [v, u] 2 :: Fr) (fun r F' H' => r = noneV ∧ F' = F ∧ H' = .mem a [v, .bool true] 2 :: Fr) := by
  refine does_of_run (args := [_]) Tryz.func164 rfl rfl ?_
  refine r_seq ?_
  refine r_region rfl ?_
  refine o_val rfl rfl rfl rfl (v_move rfl) ?_
  refine o_val rfl rfl rfl rfl (v_pneqnil rfl rfl rfl) ?_
  refine o_end ?_
  refine r_true rfl ?_
  refine r_region rfl ?_
  refine o_val rfl rfl rfl rfl (v_move rfl) ?_
  refine o_val rfl rfl rfl rfl (v_nilCheck rfl) ?_
  refine o_val rfl rfl rfl rfl (v_field (k := 1) rfl rfl rfl) ?_
  refine o_act0 rfl rfl rfl (a_store1 0 rfl rfl rfl rfl rfl (Nat.le_of_ble_eq_true rfl)) ?_
  refine o_end ?_
  exact r_fall0 Tryz.func164 rfl ⟨⟨rfl, rfl, rfl⟩, Fz.le_refl _⟩
/-- A number of some bytes, the lowest first. -/
def leN : List UInt8 → Nat
  | [] => 0
  | b :: r => b.toNat + 256 * leN r
theorem leN_lt : ∀ l : List UInt8, leN l < 256 ^ l.length
  | [] => by simp [leN]
  | b :: r => by
    have h1 := leN_lt r
    have h2 := b.toNat_lt
    simp only [leN, List.length_cons, Nat.pow_succ]
    omega
theorem leN_snoc : ∀ (l : List UInt8) (b : UInt8), leN (l ++ [b]) = leN l + b.toNat * 256 ^ l.length
  | [], b => by simp [leN]
  | x :: r, b => by
    simp only [List.cons_append, leN, leN_snoc r b, List.length_cons, Nat.pow_succ, Nat.mul_add]
    rw [Nat.mul_comm (256 ^ r.length) 256, Nat.mul_left_comm]
    omega
/-- What a number's reading comes to: the number, the bytes behind, a fault. -/
def rdNum (l : List UInt8) (bad : Bool) (n : Int) : Nat × List UInt8 × Bool :=
  if bad = true ∨ n < 0 ∨ (l.length : Int) < n then (0, l, true) else (leN (l.take (min n.toNat 8)), l.drop n.toNat, false)
theorem u64_shl (b : UInt8) (i : Nat) (hi : i < 8) : IntKind.u64.wrap ((b.toNat : Int) * 2 ^ (min (8 * (i : Int)).toNat IntKind.u64.bits)) = ((b.toNat * 256 ^ i : Nat) : Int) := by
  have h1 : (8 * (i : Int)).toNat = 8 * i := by omega
  have h2 : min (8 * i) IntKind.u64.bits = 8 * i := by show min (8 * i) 64 = 8 * i; omega
  rw [h1, h2]
  have h3 : (2 : Int) ^ (8 * i) = ((256 ^ i : Nat) : Int) := by
    rw [Int.pow_mul]
    simp
  rw [h3, ← Int.natCast_mul]
  have hb := b.toNat_lt
  have h4 : (256 : Nat) ^ i ≤ 256 ^ 7 := Nat.pow_le_pow_right (by decide) (by omega)
  have h5 : b.toNat * 256 ^ i ≤ 255 * 256 ^ 7 := Nat.mul_le_mul (by omega) h4
  exact wrap_u64 (by omega) (by have : (255 * 256 ^ 7 : Nat) < 18446744073709551616 := by decide
                                omega)
theorem u64_or (x y i : Nat) (hx : x < 256 ^ i) (hy : y < 256) (hi : i < 8) : bitOp .or .u64 (x : Int) ((y * 256 ^ i : Nat) : Int) = ((x + y * 256 ^ i : Nat) : Int) := by
  have h4 : (256 : Nat) ^ i ≤ 256 ^ 7 := Nat.pow_le_pow_right (by decide) (by omega)
  have h5 : y * 256 ^ i ≤ 255 * 256 ^ 7 := Nat.mul_le_mul (by omega) h4
  have h6 : (255 * 256 ^ 7 + 256 ^ 7 : Nat) ≤ 18446744073709551616 := by decide
  show IntKind.u64.wrap ((BitVec.ofInt 64 (x : Int) ||| BitVec.ofInt 64 ((y * 256 ^ i : Nat) : Int)).toNat : Int) = _
  rw [BitVec.toNat_or, BitVec.ofInt_natCast, BitVec.ofInt_natCast, BitVec.toNat_ofNat, BitVec.toNat_ofNat, Nat.mod_eq_of_lt (by omega), Nat.mod_eq_of_lt (by omega)]
  have h7 : x ||| y * 256 ^ i = x + y * 256 ^ i := by
    have h8 : (256 : Nat) ^ i = 2 ^ (8 * i) := by rw [Nat.pow_mul]
    rw [h8] at hx ⊢
    have := Nat.two_pow_add_eq_or_of_lt hx y
    rw [Nat.mul_comm y, Nat.or_comm, ← this, Nat.add_comm]
  rw [h7]
  exact wrap_u64 (by omega) (by omega)
theorem oct_RNum (O : World) (F : Fz) (a : Nat) (v : Value) (l : List UInt8) (bad : Bool) (n : Int) (Fr : List Ent) (hv : SlB F [] v l) (hl : l.length ≤ 140737488355328) :
    Does Tryz.prog O 97 #[ptrV a, .int .i64 n] F (.mem a [v, .bool bad] 2 :: Fr)
      (fun r F' H' => F' = F ∧ r = .int .u64 (rdNum l bad n).1 ∧ ∃ v', SlB F [] v' (rdNum l bad n).2.1 ∧ H' = .mem a [v', .bool (rdNum l bad n).2.2] 2 :: Fr) := by
  obtain ⟨a0, cap, rfl, hcap⟩ := Sl.shape hv
  have bad_end : (bad = true ∨ n < 0 ∨ (l.length : Int) < n) → rdNum l bad n = (0, l, true) := fun h => by simp only [rdNum, if_pos h]
  refine does_of_run (args := [_, _]) Tryz.func97 rfl rfl ?_
  cases bad with
  | true =>
    refine r_seq ?_
    refine r_region rfl ?_
    refine o_val rfl rfl rfl rfl (v_assign rfl) ?_
    refine o_end ?_
    refine r_seq ?_
    refine r_seq ?_
    refine r_region rfl ?_
    refine o_val rfl rfl rfl rfl (v_move rfl) ?_
    refine o_val rfl rfl rfl rfl (v_peqnil rfl rfl rfl) ?_
    refine o_val rfl rfl rfl rfl (v_move rfl) ?_
    refine o_val rfl rfl rfl rfl (v_move rfl) ?_
    refine o_val rfl rfl rfl rfl (v_nilCheck rfl) ?_
    refine o_val rfl rfl rfl rfl (v_field (k := 1) rfl rfl rfl) ?_
    refine o_val rfl rfl rfl rfl (v_load rfl rfl (cell_at (j := 0) rfl rfl)) ?_
    refine o_val rfl rfl rfl rfl (v_pick0 rfl rfl) ?_
    refine o_val rfl rfl rfl rfl (v_move rfl) ?_
    refine o_skip rfl rfl rfl rfl ?_
    refine o_skip rfl rfl rfl rfl ?_
    refine o_val rfl rfl rfl rfl (v_pick1 rfl rfl) ?_
    refine o_val rfl rfl rfl rfl (v_move rfl) ?_
    refine o_skip rfl rfl rfl rfl ?_
    refine o_skip rfl rfl rfl rfl ?_
    refine o_skip rfl rfl rfl rfl ?_
    refine o_skip rfl rfl rfl rfl ?_
    refine o_skip rfl rfl rfl rfl ?_
    refine o_skip rfl rfl rfl rfl ?_
    refine o_skip rfl rfl rfl rfl ?_
    refine o_val rfl rfl rfl rfl (v_pick1 rfl rfl) ?_
    refine o_end ?_
    refine r_true rfl ?_
    refine r_seq ?_
    refine r_region rfl ?_
    refine o_val rfl rfl rfl rfl (v_move rfl) ?_
    refine o_call rfl rfl rfl rfl (c_call callable164 rfl) (oct_spoil _ _ _ _ _ _) ?_
    rintro v' F' H' ⟨rfl, rfl, rfl⟩ _
    refine o_end ?_
    refine r_seq ?_
    refine r_region rfl ?_
    refine o_val rfl rfl rfl rfl (v_assign rfl) ?_
    refine o_end ?_
    rw [bad_end (.inl rfl)]
    exact r_ret1 Tryz.func97 rfl rfl ⟨⟨rfl, rfl, _, hv, rfl⟩, Fz.le_refl _⟩
  | false =>
    refine r_seq ?_
    refine r_region rfl ?_
    refine o_val rfl rfl rfl rfl (v_assign rfl) ?_
    refine o_end ?_
    refine r_seq ?_
    refine r_seq ?_
    refine r_region rfl ?_
    refine o_val rfl rfl rfl rfl (v_move rfl) ?_
    refine o_val rfl rfl rfl rfl (v_peqnil rfl rfl rfl) ?_
    refine o_val rfl rfl rfl rfl (v_move rfl) ?_
    refine o_val rfl rfl rfl rfl (v_move rfl) ?_
    refine o_val rfl rfl rfl rfl (v_nilCheck rfl) ?_
    refine o_val rfl rfl rfl rfl (v_field (k := 1) rfl rfl rfl) ?_
    refine o_val rfl rfl rfl rfl (v_load rfl rfl (cell_at (j := 0) rfl rfl)) ?_
    refine o_val rfl rfl rfl rfl (v_pick0 rfl rfl) ?_
    refine o_val rfl rfl rfl rfl (v_move rfl) ?_
    refine o_val rfl rfl rfl rfl (v_move rfl) ?_
    refine o_val rfl rfl rfl rfl (v_lss rfl rfl) ?_
    refine o_val rfl rfl rfl rfl (v_pick0 rfl rfl) ?_
    refine o_val rfl rfl rfl rfl (v_move rfl) ?_
    refine j_prop 19 rfl (fun hn => ?_) (fun hn => ?_)
    · refine o_skip rfl rfl rfl rfl ?_
      refine o_skip rfl rfl rfl rfl ?_
      refine o_skip rfl rfl rfl rfl ?_
      refine o_skip rfl rfl rfl rfl ?_
      refine o_skip rfl rfl rfl rfl ?_
      refine o_skip rfl rfl rfl rfl ?_
      refine o_skip rfl rfl rfl rfl ?_
      refine o_val rfl rfl rfl rfl (v_pick1 rfl rfl) ?_
      refine o_end ?_
      refine r_true rfl ?_
      refine r_seq ?_
      refine r_region rfl ?_
      refine o_val rfl rfl rfl rfl (v_move rfl) ?_
      refine o_call rfl rfl rfl rfl (c_call callable164 rfl) (oct_spoil _ _ _ _ _ _) ?_
      rintro v' F' H' ⟨rfl, rfl, rfl⟩ _
      refine o_end ?_
      refine r_seq ?_
      refine r_region rfl ?_
      refine o_val rfl rfl rfl rfl (v_assign rfl) ?_
      refine o_end ?_
      rw [bad_end (.inr (.inl hn))]
      exact r_ret1 Tryz.func97 rfl rfl ⟨⟨rfl, rfl, _, hv, rfl⟩, Fz.le_refl _⟩
    · refine o_val rfl rfl rfl rfl (v_move rfl) ?_
      refine o_val rfl rfl rfl rfl (v_nilCheck rfl) ?_
      refine o_val rfl rfl rfl rfl (v_field (k := 0) rfl rfl rfl) ?_
      refine o_val rfl rfl rfl rfl (v_load rfl rfl (cell_at (j := 0) rfl rfl)) ?_
      refine o_val rfl rfl rfl rfl (v_len rfl rfl) ?_
      refine o_val rfl rfl rfl rfl (v_move rfl) ?_
      refine o_val rfl rfl rfl rfl (v_lss rfl rfl) ?_
      refine o_val rfl rfl rfl rfl (v_pick0 rfl rfl) ?_
      refine o_end ?_
      refine r_if rfl (fun h => ?_) (fun h => ?_)
      · refine r_seq ?_
        refine r_region rfl ?_
        refine o_val rfl rfl rfl rfl (v_move rfl) ?_
        refine o_call rfl rfl rfl rfl (c_call callable164 rfl) (oct_spoil _ _ _ _ _ _) ?_
        rintro v' F' H' ⟨rfl, rfl, rfl⟩ _
        refine o_end ?_
        refine r_seq ?_
        refine r_region rfl ?_
        refine o_val rfl rfl rfl rfl (v_assign rfl) ?_
        refine o_end ?_
        rw [bad_end (.inr (.inr h))]
        exact r_ret1 Tryz.func97 rfl rfl ⟨⟨rfl, rfl, _, hv, rfl⟩, Fz.le_refl _⟩
      · obtain ⟨k, rfl⟩ := Int.eq_ofNat_of_zero_le (Int.not_lt.1 hn)
        have hk : k ≤ l.length := by omega
        have hr : rdNum l false k = (leN (l.take (min k 8)), l.drop k, false) := by
          have : ¬ (False ∨ (k : Int) < 0 ∨ (l.length : Int) < k) := by
            rintro (h | h | h)
            · exact h
            · omega
            · omega
          simp only [rdNum, Bool.false_eq_true, if_neg this, Int.toNat_natCast]
        rw [hr]
        have hmin : (if (8 : Int) < k then (8 : Int) else k) = ((min k 8 : Nat) : Int) := by split <;> omega
        refine r_skip ?_
        refine r_seq ?_
        refine r_region rfl ?_
        refine o_val rfl rfl rfl rfl (v_assign rfl) ?_
        refine o_end ?_
        refine r_seq ?_
        refine r_seq ?_
        refine r_region rfl ?_
        refine o_val rfl rfl rfl rfl (v_move rfl) ?_
        refine o_val rfl rfl rfl rfl (v_min rfl rfl) ?_
        refine o_val rfl rfl rfl rfl (v_move rfl) ?_
        refine o_end ?_
        refine r_block ?_
        refine j_slot 31 rfl (v' := .int .i64 ((min k 8 : Nat) : Int)) (by rw [hmin]) ?_
        refine r_loop (fun i : Nat => i ≤ min k 8) (fun i => [(32, .int .i64 i), (31, .int .i64 ((min k 8 : Nat) : Int)), (0, ptrV a), (1, .int .i64 k), (5, .int .u64 (leN (l.take i)))]) (fun _ => F) (fun _ => .mem a [.slice a0 l.length cap, .bool false] 2 :: Fr) (fun i => min k 8 - i) 0 (Nat.zero_le _) ⟨rfl, rfl, rfl, rfl, rfl, trivial⟩ rfl rfl ?_
        intro i hi IH
        refine r_seq ?_
        refine r_region rfl ?_
        refine o_val rfl rfl rfl rfl (v_lss rfl rfl) ?_
        refine o_end ?_
        refine r_seq ?_
        refine r_if rfl (fun h2 => ?_) (fun h2 => ?_)
        · have hil : i < l.length := by omega
          obtain ⟨b, off, cap', hab, _, hcell⟩ := Sl.view (hv.frz (H := .mem a [.slice a0 l.length cap, .bool false] 2 :: Fr) (Fz.le_refl F)) (by omega)
          simp only [Value.slice.injEq] at hab
          obtain ⟨rfl, _, rfl⟩ := hab
          have hlt := leN_lt (l.take i)
          rw [List.length_take, Nat.min_eq_left (by omega)] at hlt
          have hs : leN (l.take (i + 1)) = leN (l.take i) + l[i].toNat * 256 ^ i := by
            rw [List.take_succ_eq_append_getElem hil, leN_snoc, List.length_take, Nat.min_eq_left (by omega)]
          refine r_skip ?_
          refine r_seq ?_
          refine r_block ?_
          refine r_seq ?_
          refine r_region rfl ?_
          refine o_val rfl rfl rfl rfl (v_move rfl) ?_
          refine o_val rfl rfl rfl rfl (v_assign rfl) ?_
          refine o_end ?_
          refine r_region rfl ?_
          refine o_val rfl rfl rfl rfl (v_move rfl) ?_
          refine o_val rfl rfl rfl rfl (v_move rfl) ?_
          refine o_val rfl rfl rfl rfl (v_nilCheck rfl) ?_
          refine o_val rfl rfl rfl rfl (v_field (k := 0) rfl rfl rfl) ?_
          refine o_val rfl rfl rfl rfl (v_load rfl rfl (cell_at (j := 0) rfl rfl)) ?_
          refine o_val rfl rfl rfl rfl (v_move rfl) ?_
          refine o_val rfl rfl rfl rfl (v_index1 rfl rfl rfl rfl hil) ?_
          refine o_val rfl rfl rfl rfl (v_load rfl rfl (hcell i (byteV l[i]) (by rw [bytesV_get, List.getElem?_eq_getElem hil]; rfl))) ?_
          refine o_val rfl rfl rfl rfl (v_conv rfl rfl rfl (wrap_u64 (by omega) (by have := l[i].toNat_lt; omega))) ?_
          refine o_val rfl rfl rfl rfl (v_move rfl) ?_
          refine o_val rfl rfl rfl rfl (v_mul rfl rfl (wrap_i64 (by omega) (by omega))) ?_
          refine o_val rfl rfl rfl rfl (v_shl rfl rfl (by omega) (u64_shl l[i] i (by omega))) ?_
          refine o_val rfl rfl rfl rfl (v_or rfl rfl (u64_or _ _ i hlt (l[i].toNat_lt) (by omega))) ?_
          refine o_val rfl rfl rfl rfl (v_assign rfl) ?_
          refine o_end ?_
          refine r_inBlock ?_
          refine r_region rfl ?_
          refine o_val rfl rfl rfl rfl (v_add rfl rfl (wrap_i64 (by omega) (by omega))) ?_
          refine o_val rfl rfl rfl rfl (v_move rfl) ?_
          refine o_end ?_
          rw [← hs]
          refine j_keep ?_ (IH (i + 1) (by omega) (by omega))
          exact ⟨rfl, rfl, rfl, rfl, rfl, trivial⟩
        · obtain rfl : i = min k 8 := by omega
          refine r_exit rfl ?_
          refine r_seq ?_
          refine r_region rfl ?_
          refine o_val rfl rfl rfl rfl (v_move rfl) ?_
          refine o_val rfl rfl rfl rfl (v_move rfl) ?_
          refine o_val rfl rfl rfl rfl (v_nilCheck rfl) ?_
          refine o_val rfl rfl rfl rfl (v_field (k := 0) rfl rfl rfl) ?_
          refine o_val rfl rfl rfl rfl (v_load rfl rfl (cell_at (j := 0) rfl rfl)) ?_
          refine o_val rfl rfl rfl rfl (v_move rfl) ?_
          refine o_val rfl rfl rfl rfl (v_sliceL (sz := 1) rfl rfl rfl rfl rfl hk) ?_
          refine o_val rfl rfl rfl rfl (v_nilCheck rfl) ?_
          refine o_val rfl rfl rfl rfl (v_field (k := 0) rfl rfl rfl) ?_
          refine o_act0 rfl rfl rfl (a_store1 0 rfl rfl rfl rfl rfl (Nat.le_of_ble_eq_true rfl)) ?_
          refine o_end ?_
          refine r_seq ?_
          refine r_region rfl ?_
          refine o_val rfl rfl rfl rfl (v_move rfl) ?_
          refine o_val rfl rfl rfl rfl (v_assign rfl) ?_
          refine o_end ?_
          refine r_ret1 Tryz.func97 rfl rfl ⟨⟨rfl, rfl, _, ?_, rfl⟩, Fz.le_refl _⟩
          have := Sl.sliced hv hk (Nat.le_refl _)
          rw [Nat.mul_one, Nat.mul_one] at this
          unfold SlB
          rw [List.length_drop]
          have hd : bytesV (l.drop k) = ((bytesV l).drop k).take (l.length - k) := by
            rw [List.take_of_length_le (by simp)]
            simp [bytesV]
          rw [hd]
          exact this
theorem rdNum_lt (l : List UInt8) (bad : Bool) (n : Int) : (rdNum l bad n).1 < 256 ^ (min n.toNat 8) := by
  unfold rdNum
  split
  · exact Nat.pow_pos (by decide)
  · refine Nat.lt_of_lt_of_le (leN_lt _) (Nat.pow_le_pow_right (by decide) ?_)
    simp only [List.length_take]
    omega
theorem rdNum_len (l : List UInt8) (bad : Bool) (n : Int) : (rdNum l bad n).2.1.length ≤ l.length := by
  unfold rdNum
  split <;> simp
/-- A part of bytes. -/
theorem SlB.drop {F : Fz} {H : List Ent} {a : Option Addr} {cap k : Nat} {l : List UInt8} (hv : SlB F H (.slice a l.length cap) l) (hk : k ≤ l.length) : SlB F H (Go.sliced a k l.length cap 1) (l.drop k) := by
  have := Sl.sliced hv hk (Nat.le_refl _)
  rw [Nat.mul_one, Nat.mul_one] at this
  unfold SlB
  rw [List.length_drop]
  have hd : bytesV (l.drop k) = ((bytesV l).drop k).take (l.length - k) := by
    rw [List.take_of_length_le (by simp)]
    simp [bytesV]
  rw [hd]
  exact this
theorem SlB.take {F : Fz} {H : List Ent} {a : Option Addr} {cap k : Nat} {l : List UInt8} (hv : SlB F H (.slice a l.length cap) l) (hk : k ≤ l.length) : SlB F H (Go.sliced a 0 k cap 1) (l.take k) := by
  have := Sl.sliced hv (Nat.zero_le k) hk
  rw [Nat.mul_one, Nat.mul_one, Nat.sub_zero] at this
  unfold SlB
  rw [List.length_take, Nat.min_eq_left hk]
  have hd : bytesV (l.take k) = ((bytesV l).drop 0).take k := by simp [bytesV]
  rw [hd]
  exact this
theorem SlB.takeM {F : Fz} {H : List Ent} {a : Option Addr} {cap k : Nat} {l : List UInt8} (hv : SlB F H (.slice a l.length cap) l) (hk : k ≤ l.length) : SlB F H (Go.sliced a 0 k k 1) (l.take k) := by
  obtain ⟨a', c', h1, h2, h3, h4, h5⟩ := SlB.take hv hk
  simp only [Go.sliced, Value.slice.injEq] at h1
  obtain ⟨rfl, hlen, rfl⟩ := h1
  refine ⟨if k = 0 then a else a.map (·.add (0 * 1)), k - 0, ?_, h2, by omega, fun hn => ?_, fun i c hi => ?_⟩
  · simp only [Go.sliced, Value.slice.injEq]
    exact ⟨trivial, hlen, trivial⟩
  · by_cases hk0 : k = 0
    · omega
    · simp only [hk0, if_false] at hn
      have hlt : 0 < (bytesV (l.take k)).length := by simp; omega
      obtain ⟨b, off, hb, _⟩ := h5 0 _ (List.getElem?_eq_getElem hlt)
      split at hb
      · subst hb; simp at hn
      · rw [hn] at hb; cases hb
  · obtain ⟨b, off, hb, hc⟩ := h5 i c hi
    refine ⟨b, off, ?_, hc⟩
    have hlt : i < (bytesV (l.take k)).length := by
      rcases Nat.lt_or_ge i (bytesV (l.take k)).length with h | h
      · exact h
      · simp [List.getElem?_eq_none h] at hi
    have hk0 : ¬ k = 0 := by simp at hlt; omega
    rw [if_neg hk0]
    split at hb
    · rw [hb]; simp [Addr.add]
    · exact hb
/-! ### The other readings -/
def rdBytes (l : List UInt8) (bad : Bool) (most : Int) : List UInt8 × List UInt8 × Bool :=
  if (rdNum l bad 4).2.2 = true ∨ most < 0 ∨ most < (rdNum l bad 4).1 ∨ (rdNum l bad 4).2.1.length < (rdNum l bad 4).1 then ([], (rdNum l bad 4).2.1, true)
  else ((rdNum l bad 4).2.1.take (rdNum l bad 4).1, (rdNum l bad 4).2.1.drop (rdNum l bad 4).1, false)
theorem oct_RBad (O : World) (F : Fz) (a : Nat) (v : Value) (bad : Bool) (Fr : List Ent) :
    Does Tryz.prog O 98 #[ptrV a] F (.mem a [v, .bool bad] 2 :: Fr) (fun r F' H' => r = .bool bad ∧ F' = F ∧ H' = .mem a [v, .bool bad] 2 :: Fr) := by
  refine does_of_run (args := [_]) Tryz.func98 rfl rfl ?_
  refine r_seq ?_
  refine r_region rfl ?_
  refine o_val rfl rfl rfl rfl (v_assign rfl) ?_
  refine o_end ?_
  refine r_seq ?_
  refine r_region rfl ?_
  refine o_val rfl rfl rfl rfl (v_move rfl) ?_
  refine o_val rfl rfl rfl rfl (v_peqnil rfl rfl rfl) ?_
  refine o_val rfl rfl rfl rfl (v_move rfl) ?_
  refine o_val rfl rfl rfl rfl (v_move rfl) ?_
  refine o_val rfl rfl rfl rfl (v_nilCheck rfl) ?_
  refine o_val rfl rfl rfl rfl (v_field (k := 1) rfl rfl rfl) ?_
  refine o_val rfl rfl rfl rfl (v_load rfl rfl (cell_at (j := 0) rfl rfl)) ?_
  refine o_val rfl rfl rfl rfl (v_pick0 rfl rfl) ?_
  refine o_val rfl rfl rfl rfl (v_assign rfl) ?_
  refine o_end ?_
  exact r_ret1 Tryz.func98 rfl rfl ⟨⟨rfl, rfl, rfl⟩, Fz.le_refl _⟩
theorem oct_RLeft (O : World) (F : Fz) (a : Nat) (v : Value) (l : List UInt8) (bad : Bool) (Fr : List Ent) (hv : SlB F [] v l) :
    Does Tryz.prog O 99 #[ptrV a] F (.mem a [v, .bool bad] 2 :: Fr) (fun r F' H' => r = .int .i64 (if bad = true then 0 else l.length) ∧ F' = F ∧ H' = .mem a [v, .bool bad] 2 :: Fr) := by
  obtain ⟨a0, cap, rfl, hcap⟩ := Sl.shape hv
  refine does_of_run (args := [_]) Tryz.func99 rfl rfl ?_
  cases bad with
  | true =>
    refine r_seq ?_
    refine r_region rfl ?_
    refine o_val rfl rfl rfl rfl (v_assign rfl) ?_
    refine o_end ?_
    refine r_seq ?_
    refine r_seq ?_
    refine r_region rfl ?_
    refine o_val rfl rfl rfl rfl (v_move rfl) ?_
    refine o_call rfl rfl rfl rfl (c_call callable98 rfl) (oct_RBad _ _ _ _ _ _) ?_
    rintro v' F' H' ⟨rfl, rfl, rfl⟩ _
    refine o_end ?_
    refine r_true rfl ?_
    refine r_seq ?_
    refine r_region rfl ?_
    refine o_val rfl rfl rfl rfl (v_assign rfl) ?_
    refine o_end ?_
    exact r_ret1 Tryz.func99 rfl rfl ⟨⟨rfl, rfl, rfl⟩, Fz.le_refl _⟩
  | false =>
    refine r_seq ?_
    refine r_region rfl ?_
    refine o_val rfl rfl rfl rfl (v_assign rfl) ?_
    refine o_end ?_
    refine r_seq ?_
    refine r_seq ?_
    refine r_region rfl ?_
    refine o_val rfl rfl rfl rfl (v_move rfl) ?_
    refine o_call rfl rfl rfl rfl (c_call callable98 rfl) (oct_RBad _ _ _ _ _ _) ?_
    rintro v' F' H' ⟨rfl, rfl, rfl⟩ _
    refine o_end ?_
    refine r_false rfl ?_
    refine r_skip ?_
    refine r_seq ?_
    refine r_region rfl ?_
    refine o_val rfl rfl rfl rfl (v_move rfl) ?_
    refine o_val rfl rfl rfl rfl (v_nilCheck rfl) ?_
    refine o_val rfl rfl rfl rfl (v_field (k := 0) rfl rfl rfl) ?_
    refine o_val rfl rfl rfl rfl (v_load rfl rfl (cell_at (j := 0) rfl rfl)) ?_
    refine o_val rfl rfl rfl rfl (v_len rfl rfl) ?_
    refine o_val rfl rfl rfl rfl (v_assign rfl) ?_
    refine o_end ?_
    exact r_ret1 Tryz.func99 rfl rfl ⟨⟨rfl, rfl, rfl⟩, Fz.le_refl _⟩
theorem oct_REnd (O : World) (F : Fz) (a : Nat) (v : Value) (l : List UInt8) (bad : Bool) (Fr : List Ent) (hv : SlB F [] v l) :
    Does Tryz.prog O 101 #[ptrV a] F (.mem a [v, .bool bad] 2 :: Fr) (fun r F' H' => r = .bool (!bad && decide (l = [])) ∧ F' = F ∧ H' = .mem a [v, .bool bad] 2 :: Fr) := by
  obtain ⟨a0, cap, rfl, hcap⟩ := Sl.shape hv
  refine does_of_run (args := [_]) Tryz.func101 rfl rfl ?_
  cases bad with
  | true =>
    refine r_seq ?_
    refine r_region rfl ?_
    refine o_val rfl rfl rfl rfl (v_assign rfl) ?_
    refine o_end ?_
    refine r_seq ?_
    refine r_region rfl ?_
    refine o_val rfl rfl rfl rfl (v_move rfl) ?_
    refine o_call rfl rfl rfl rfl (c_call callable98 rfl) (oct_RBad _ _ _ _ _ _) ?_
    rintro v' F' H' ⟨rfl, rfl, rfl⟩ _
    refine o_val rfl rfl rfl rfl (v_not rfl) ?_
    refine o_val rfl rfl rfl rfl (v_move rfl) ?_
    refine o_skip rfl rfl rfl rfl ?_
    refine o_skip rfl rfl rfl rfl ?_
    refine o_skip rfl rfl rfl rfl ?_
    refine o_skip rfl rfl rfl rfl ?_
    refine o_skip rfl rfl rfl rfl ?_
    refine o_skip rfl rfl rfl rfl ?_
    refine o_val rfl rfl rfl rfl (v_pick0 rfl rfl) ?_
    refine o_val rfl rfl rfl rfl (v_assign rfl) ?_
    refine o_end ?_
    exact r_ret1 Tryz.func101 rfl rfl ⟨⟨rfl, rfl, rfl⟩, Fz.le_refl _⟩
  | false =>
    refine r_seq ?_
    refine r_region rfl ?_
    refine o_val rfl rfl rfl rfl (v_assign rfl) ?_
    refine o_end ?_
    refine r_seq ?_
    refine r_region rfl ?_
    refine o_val rfl rfl rfl rfl (v_move rfl) ?_
    refine o_call rfl rfl rfl rfl (c_call callable98 rfl) (oct_RBad _ _ _ _ _ _) ?_
    rintro v' F' H' ⟨rfl, rfl, rfl⟩ _
    refine o_val rfl rfl rfl rfl (v_not rfl) ?_
    refine o_val rfl rfl rfl rfl (v_move rfl) ?_
    refine o_val rfl rfl rfl rfl (v_move rfl) ?_
    refine o_val rfl rfl rfl rfl (v_nilCheck rfl) ?_
    refine o_val rfl rfl rfl rfl (v_field (k := 0) rfl rfl rfl) ?_
    refine o_val rfl rfl rfl rfl (v_load rfl rfl (cell_at (j := 0) rfl rfl)) ?_
    refine o_val rfl rfl rfl rfl (v_len rfl rfl) ?_
    refine o_val rfl rfl rfl rfl (v_eql rfl rfl) ?_
    refine o_val rfl rfl rfl rfl (v_pick1 rfl rfl) ?_
    refine o_val rfl rfl rfl rfl (v_assign rfl) ?_
    refine o_end ?_
    refine r_ret1 Tryz.func101 rfl rfl ⟨⟨?_, rfl, rfl⟩, Fz.le_refl _⟩
    cases l <;> simp <;> omega
end Go.SX
namespace Go.SX
open Go Go.Proofs
set_option maxRecDepth 4000
theorem oct_RBytes (O : World) (F : Fz) (a : Nat) (v : Value) (l : List UInt8) (bad : Bool) (most : Int) (Fr : List Ent) (hv : SlB F [] v l) (hl : l.length ≤ 140737488355328) (hm : most ≤ 9223372036854775807) :
    Does Tryz.prog O 102 #[ptrV a, .int .i64 most] F (.mem a [v, .bool bad] 2 :: Fr)
      (fun r F' H' => F.le F' ∧ SlB F' [] r (rdBytes l bad most).1 ∧ ∃ v', SlB F' [] v' (rdBytes l bad most).2.1 ∧ H' = .mem a [v', .bool (rdBytes l bad most).2.2] 2 :: Fr) := by
  have hlt := rdNum_lt l bad 4
  have hln := rdNum_len l bad 4
  have h4 : (256 : Nat) ^ (min (4 : Int).toNat 8) = 4294967296 := by decide
  rw [h4] at hlt
  refine does_of_run (args := [_, _]) Tryz.func102 rfl rfl ?_
  refine r_seq ?_
  refine r_region rfl ?_
  refine o_val rfl rfl rfl rfl (v_assign rfl) ?_
  refine o_end ?_
  refine r_seq ?_
  refine r_region rfl ?_
  refine o_val rfl rfl rfl rfl (v_move rfl) ?_
  refine o_call rfl rfl rfl rfl (c_call callable97 rfl) (oct_RNum _ _ _ _ l bad 4 _ hv hl) ?_
  rintro v' F' H' ⟨rfl, rfl, v1, hv1, rfl⟩ _
  have hun : rdBytes l bad most = if (rdNum l bad 4).2.2 = true ∨ most < 0 ∨ most < (rdNum l bad 4).1 ∨ (rdNum l bad 4).2.1.length < (rdNum l bad 4).1 then ([], (rdNum l bad 4).2.1, true)
    else ((rdNum l bad 4).2.1.take (rdNum l bad 4).1, (rdNum l bad 4).2.1.drop (rdNum l bad 4).1, false) := rfl
  rw [hun]
  generalize rdNum l bad 4 = q at *
  obtain ⟨n, l1, b1⟩ := q
  dsimp only at *
  obtain ⟨a1, cap1, rfl, hcap1⟩ := Sl.shape hv1
  cases b1 with
  | true =>
    refine o_val rfl rfl rfl rfl (v_assign rfl) ?_
    refine o_end ?_
    refine r_seq ?_
    refine r_seq ?_
    refine r_region rfl ?_
    refine o_val rfl rfl rfl rfl (v_move rfl) ?_
    refine o_val rfl rfl rfl rfl (v_peqnil rfl rfl rfl) ?_
    refine o_val rfl rfl rfl rfl (v_move rfl) ?_
    refine o_val rfl rfl rfl rfl (v_move rfl) ?_
    refine o_val rfl rfl rfl rfl (v_nilCheck rfl) ?_
    refine o_val rfl rfl rfl rfl (v_field (k := 1) rfl rfl rfl) ?_
    refine o_val rfl rfl rfl rfl (v_load rfl rfl (cell_at (j := 0) rfl rfl)) ?_
    refine o_val rfl rfl rfl rfl (v_pick0 rfl rfl) ?_
    refine o_val rfl rfl rfl rfl (v_move rfl) ?_
    refine o_skip rfl rfl rfl rfl ?_
    refine o_skip rfl rfl rfl rfl ?_
    refine o_val rfl rfl rfl rfl (v_pick1 rfl rfl) ?_
    refine o_val rfl rfl rfl rfl (v_move rfl) ?_
    refine o_skip rfl rfl rfl rfl ?_
    refine o_skip rfl rfl rfl rfl ?_
    refine o_skip rfl rfl rfl rfl ?_
    refine o_skip rfl rfl rfl rfl ?_
    refine o_val rfl rfl rfl rfl (v_pick1 rfl rfl) ?_
    refine o_val rfl rfl rfl rfl (v_move rfl) ?_
    refine o_skip rfl rfl rfl rfl ?_
    refine o_skip rfl rfl rfl rfl ?_
    refine o_skip rfl rfl rfl rfl ?_
    refine o_skip rfl rfl rfl rfl ?_
    refine o_skip rfl rfl rfl rfl ?_
    refine o_skip rfl rfl rfl rfl ?_
    refine o_skip rfl rfl rfl rfl ?_
    refine o_skip rfl rfl rfl rfl ?_
    refine o_val rfl rfl rfl rfl (v_pick1 rfl rfl) ?_
    refine o_end ?_
    refine r_true rfl ?_
    refine r_seq ?_
    refine r_region rfl ?_
    refine o_val rfl rfl rfl rfl (v_move rfl) ?_
    refine o_call rfl rfl rfl rfl (c_call callable164 rfl) (oct_spoil _ _ _ _ _ _) ?_
    rintro v' F' H' ⟨rfl, rfl, rfl⟩ _
    refine o_end ?_
    refine r_seq ?_
    refine r_region rfl ?_
    refine o_val rfl rfl rfl rfl (v_assign rfl) ?_
    refine o_end ?_
    rw [if_pos (.inl rfl)]
    exact r_ret1 Tryz.func102 rfl rfl ⟨⟨Fz.le_refl _, Sl.nil _ _ _, _, hv1, rfl⟩, Fz.le_refl _⟩
  | false =>
    refine o_val rfl rfl rfl rfl (v_assign rfl) ?_
    refine o_end ?_
    refine r_seq ?_
    refine r_seq ?_
    refine r_region rfl ?_
    refine o_val rfl rfl rfl rfl (v_move rfl) ?_
    refine o_val rfl rfl rfl rfl (v_peqnil rfl rfl rfl) ?_
    refine o_val rfl rfl rfl rfl (v_move rfl) ?_
    refine o_val rfl rfl rfl rfl (v_move rfl) ?_
    refine o_val rfl rfl rfl rfl (v_nilCheck rfl) ?_
    refine o_val rfl rfl rfl rfl (v_field (k := 1) rfl rfl rfl) ?_
    refine o_val rfl rfl rfl rfl (v_load rfl rfl (cell_at (j := 0) rfl rfl)) ?_
    refine o_val rfl rfl rfl rfl (v_pick0 rfl rfl) ?_
    refine o_val rfl rfl rfl rfl (v_move rfl) ?_
    refine o_val rfl rfl rfl rfl (v_move rfl) ?_
    refine o_val rfl rfl rfl rfl (v_lss rfl rfl) ?_
    refine o_val rfl rfl rfl rfl (v_pick0 rfl rfl) ?_
    refine o_val rfl rfl rfl rfl (v_move rfl) ?_
    refine j_prop 21 rfl (fun h1 => ?_) (fun h1 => ?_)
    · refine o_skip rfl rfl rfl rfl ?_
      refine o_skip rfl rfl rfl rfl ?_
      refine o_skip rfl rfl rfl rfl ?_
      refine o_skip rfl rfl rfl rfl ?_
      refine o_val rfl rfl rfl rfl (v_pick1 rfl rfl) ?_
      refine o_val rfl rfl rfl rfl (v_move rfl) ?_
      refine o_skip rfl rfl rfl rfl ?_
      refine o_skip rfl rfl rfl rfl ?_
      refine o_skip rfl rfl rfl rfl ?_
      refine o_skip rfl rfl rfl rfl ?_
      refine o_skip rfl rfl rfl rfl ?_
      refine o_skip rfl rfl rfl rfl ?_
      refine o_skip rfl rfl rfl rfl ?_
      refine o_skip rfl rfl rfl rfl ?_
      refine o_val rfl rfl rfl rfl (v_pick1 rfl rfl) ?_
      refine o_end ?_
      refine r_true rfl ?_
      refine r_seq ?_
      refine r_region rfl ?_
      refine o_val rfl rfl rfl rfl (v_move rfl) ?_
      refine o_call rfl rfl rfl rfl (c_call callable164 rfl) (oct_spoil _ _ _ _ _ _) ?_
      rintro v' F' H' ⟨rfl, rfl, rfl⟩ _
      refine o_end ?_
      refine r_seq ?_
      refine r_region rfl ?_
      refine o_val rfl rfl rfl rfl (v_assign rfl) ?_
      refine o_end ?_
      rw [if_pos (.inr (.inl h1))]
      exact r_ret1 Tryz.func102 rfl rfl ⟨⟨Fz.le_refl _, Sl.nil _ _ _, _, hv1, rfl⟩, Fz.le_refl _⟩
    · refine o_val rfl rfl rfl rfl (v_move rfl) ?_
      refine o_val rfl rfl rfl rfl (v_move rfl) ?_
      refine o_val rfl rfl rfl rfl (v_conv rfl rfl rfl (wrap_u64 (by omega) (by omega))) ?_
      refine o_val rfl rfl rfl rfl (v_gtr rfl rfl) ?_
      refine o_val rfl rfl rfl rfl (v_pick0 rfl rfl) ?_
      refine o_val rfl rfl rfl rfl (v_move rfl) ?_
      refine j_prop 27 rfl (fun h2 => ?_) (fun h2 => ?_)
      · refine o_skip rfl rfl rfl rfl ?_
        refine o_skip rfl rfl rfl rfl ?_
        refine o_skip rfl rfl rfl rfl ?_
        refine o_skip rfl rfl rfl rfl ?_
        refine o_skip rfl rfl rfl rfl ?_
        refine o_skip rfl rfl rfl rfl ?_
        refine o_skip rfl rfl rfl rfl ?_
        refine o_skip rfl rfl rfl rfl ?_
        refine o_val rfl rfl rfl rfl (v_pick1 rfl rfl) ?_
        refine o_end ?_
        refine r_true rfl ?_
        refine r_seq ?_
        refine r_region rfl ?_
        refine o_val rfl rfl rfl rfl (v_move rfl) ?_
        refine o_call rfl rfl rfl rfl (c_call callable164 rfl) (oct_spoil _ _ _ _ _ _) ?_
        rintro v' F' H' ⟨rfl, rfl, rfl⟩ _
        refine o_end ?_
        refine r_seq ?_
        refine r_region rfl ?_
        refine o_val rfl rfl rfl rfl (v_assign rfl) ?_
        refine o_end ?_
        rw [if_pos (.inr (.inr (.inl h2)))]
        exact r_ret1 Tryz.func102 rfl rfl ⟨⟨Fz.le_refl _, Sl.nil _ _ _, _, hv1, rfl⟩, Fz.le_refl _⟩
      · refine o_val rfl rfl rfl rfl (v_move rfl) ?_
        refine o_val rfl rfl rfl rfl (v_move rfl) ?_
        refine o_val rfl rfl rfl rfl (v_nilCheck rfl) ?_
        refine o_val rfl rfl rfl rfl (v_field (k := 0) rfl rfl rfl) ?_
        refine o_val rfl rfl rfl rfl (v_load rfl rfl (cell_at (j := 0) rfl rfl)) ?_
        refine o_val rfl rfl rfl rfl (v_len rfl rfl) ?_
        refine o_val rfl rfl rfl rfl (v_conv rfl rfl rfl (wrap_u64 (by omega) (by omega))) ?_
        refine o_val rfl rfl rfl rfl (v_gtr rfl rfl) ?_
        refine o_val rfl rfl rfl rfl (v_pick0 rfl rfl) ?_
        refine o_end ?_
        refine r_if rfl (fun h3 => ?_) (fun h3 => ?_)
        · refine r_seq ?_
          refine r_region rfl ?_
          refine o_val rfl rfl rfl rfl (v_move rfl) ?_
          refine o_call rfl rfl rfl rfl (c_call callable164 rfl) (oct_spoil _ _ _ _ _ _) ?_
          rintro v' F' H' ⟨rfl, rfl, rfl⟩ _
          refine o_end ?_
          refine r_seq ?_
          refine r_region rfl ?_
          refine o_val rfl rfl rfl rfl (v_assign rfl) ?_
          refine o_end ?_
          rw [if_pos (.inr (.inr (.inr (by omega))))]
          exact r_ret1 Tryz.func102 rfl rfl ⟨⟨Fz.le_refl _, Sl.nil _ _ _, _, hv1, rfl⟩, Fz.le_refl _⟩
        · have hn : n ≤ l1.length := by omega
          rw [if_neg (by rintro (h5 | h5 | h5 | h5); · cases h5
                         · omega
                         · omega
                         · omega)]
          refine r_skip ?_
          refine r_seq ?_
          refine r_region rfl ?_
          refine o_val rfl rfl rfl rfl (v_move rfl) ?_
          refine o_val rfl rfl rfl rfl (v_nilCheck rfl) ?_
          refine o_val rfl rfl rfl rfl (v_field (k := 0) rfl rfl rfl) ?_
          refine o_val rfl rfl rfl rfl (v_load rfl rfl (cell_at (j := 0) rfl rfl)) ?_
          refine o_val rfl rfl rfl rfl (v_move rfl) ?_
          refine o_val rfl rfl rfl rfl (v_sliceH (sz := 1) rfl rfl rfl rfl rfl (by omega)) ?_
          have ht := (SlB.take hv1 hn)
          have htl : (l1.take n).length = n := by simp; omega
          refine o_act rfl rfl rfl rfl (a_appendP (bf := .nil) (n := 0) (sz := 1) (bytes := 1) (xs := []) [.mem a [.slice a1 l1.length cap1, .bool false] 2] ⟨⟨_, _, _, rfl, rfl, rfl, rfl, rfl, rfl⟩, by decide⟩ rfl rfl rfl rfl rfl (ht.frz (Fz.le_refl _)) (bytes_one _) (by unfold maxLen; omega) (by omega)) ?_
          rintro v' H' ⟨bf, rfl, hok, rfl⟩
          simp only [Nat.zero_add, List.nil_append] at hok ⊢
          refine j_perm (H' := bf.ents 1 (bytesV (l1.take n)) ++ (.mem a [.slice a1 l1.length cap1, .bool false] 2 :: Fr)) (perm_pre _ _ _) ?_
          refine j_freezeBf hok (by simp) fun F1 hF1 hs1 => ?_
          refine o_val rfl rfl rfl rfl (v_assign rfl) ?_
          refine o_end ?_
          refine r_seq ?_
          refine r_region rfl ?_
          refine o_val rfl rfl rfl rfl (v_move rfl) ?_
          refine o_val rfl rfl rfl rfl (v_move rfl) ?_
          refine o_val rfl rfl rfl rfl (v_nilCheck rfl) ?_
          refine o_val rfl rfl rfl rfl (v_field (k := 0) rfl rfl rfl) ?_
          refine o_val rfl rfl rfl rfl (v_load rfl rfl (cell_at (j := 0) rfl rfl)) ?_
          refine o_val rfl rfl rfl rfl (v_move rfl) ?_
          refine o_val rfl rfl rfl rfl (v_sliceL (sz := 1) rfl rfl rfl rfl rfl hn) ?_
          refine o_val rfl rfl rfl rfl (v_nilCheck rfl) ?_
          refine o_val rfl rfl rfl rfl (v_field (k := 0) rfl rfl rfl) ?_
          refine o_act0 rfl rfl rfl (a_store1 0 rfl rfl rfl rfl rfl (Nat.le_of_ble_eq_true rfl)) ?_
          refine o_end ?_
          refine r_seq ?_
          refine r_region rfl ?_
          refine o_val rfl rfl rfl rfl (v_move rfl) ?_
          refine o_val rfl rfl rfl rfl (v_assign rfl) ?_
          refine o_end ?_
          exact r_ret1 Tryz.func102 rfl rfl ⟨⟨hF1, hs1, _, SlB.frz (SlB.drop hv1 hn) hF1, rfl⟩, hF1⟩
/-! ### Opening -/
theorem leN_leB : ∀ k n, n < 256 ^ k → leN (leB k n) = n
  | 0, n, h => by simp at h; subst h; rfl
  | k + 1, n, h => by
    have : n / 256 < 256 ^ k := by rw [Nat.pow_succ] at h; omega
    simp only [leB, leN, leN_leB k _ this]
    simp
    omega
theorem leB_leN : ∀ l : List UInt8, leB l.length (leN l) = l
  | [] => rfl
  | b :: r => by
    have hb := b.toNat_lt
    simp only [List.length_cons, leB, leN]
    have h1 : (b.toNat + 256 * leN r) / 256 = leN r := by omega
    have h2 : UInt8.ofNat (b.toNat + 256 * leN r) = b := by
      apply UInt8.toNat_inj.1
      simp
    rw [h1, h2, leB_leN r]
/-- Opening: the error's number, the bytes. -/
def openB (l : List UInt8) : Nat × List UInt8 :=
  if l.length < 4 then (5, []) else if sealB (l.take (l.length - 4)) = l then (0, l.take (l.length - 4)) else (4, [])
theorem open_cond (l : List UInt8) (h : 4 ≤ l.length) : leN (l.drop (l.length - 4)) = (crc (l.take (l.length - 4))).toNat ↔ sealB (l.take (l.length - 4)) = l := by
  have hd : (l.drop (l.length - 4)).length = 4 := by simp; omega
  constructor
  · intro he
    have := leB_leN (l.drop (l.length - 4))
    rw [hd, he] at this
    unfold sealB
    rw [this, List.take_append_drop]
  · intro he
    have h1 : leB 4 (crc (l.take (l.length - 4))).toNat = l.drop (l.length - 4) := by
      have : sealB (l.take (l.length - 4)) = l.take (l.length - 4) ++ l.drop (l.length - 4) := by rw [List.take_append_drop]; exact he
      exact List.append_cancel_left this
    rw [← h1]
    exact leN_leB 4 _ (crc (l.take (l.length - 4))).isLt
theorem oct_Open (O : World) (F : Fz) (v : Value) (l : List UInt8) (Fr : List Ent) (hv : SlB F [] v l) (hl : l.length ≤ 140737488355328) :
    Does Tryz.prog O 100 #[v] F Fr (fun r F' H' => F' = F ∧ H' = Fr ∧ ∃ v', r = .tuple #[v', .int .i64 (openB l).1] ∧ SlB F [] v' (openB l).2) := by
  obtain ⟨a0, cap, rfl, hcap⟩ := Sl.shape hv
  refine does_of_run (args := [_]) Tryz.func100 rfl rfl ?_
  refine r_seq ?_
  refine r_region rfl ?_
  refine o_val rfl rfl rfl rfl (v_assign rfl) ?_
  refine o_val rfl rfl rfl rfl (v_assign rfl) ?_
  refine o_end ?_
  refine r_seq ?_
  refine r_region rfl ?_
  refine o_val rfl rfl rfl rfl (v_move rfl) ?_
  refine o_val rfl rfl rfl rfl (v_len rfl rfl) ?_
  refine o_val rfl rfl rfl rfl (v_sub rfl rfl (wrap_i64 (by omega) (by omega))) ?_
  refine o_val rfl rfl rfl rfl (v_assign rfl) ?_
  refine o_end ?_
  refine r_seq ?_
  refine r_seq ?_
  refine r_region rfl ?_
  refine o_val rfl rfl rfl rfl (v_move rfl) ?_
  refine o_val rfl rfl rfl rfl (v_lss rfl rfl) ?_
  refine o_end ?_
  refine r_if rfl (fun h => ?_) (fun h => ?_)
  · refine r_seq ?_
    refine r_region rfl ?_
    refine o_val rfl rfl rfl rfl (v_assign rfl) ?_
    refine o_val rfl rfl rfl rfl (v_assign rfl) ?_
    refine o_end ?_
    have hr : openB l = (5, []) := by simp only [openB]; rw [if_pos (by omega)]
    rw [hr]
    exact r_ret2 Tryz.func100 rfl rfl rfl ⟨⟨rfl, rfl, _, rfl, Sl.nil _ _ _⟩, Fz.le_refl _⟩
  · have h4 : 4 ≤ l.length := by omega
    have hn : ((l.length : Int) - 4) = ((l.length - 4 : Nat) : Int) := by omega
    have hd := SlB.drop hv (k := l.length - 4) (by omega)
    have ht := SlB.take hv (k := l.length - 4) (by omega)
    refine j_slot 4 rfl (v' := .int .i64 ((l.length - 4 : Nat) : Int)) (by rw [hn]) ?_
    refine r_skip ?_
    refine r_seq ?_
    refine r_seq ?_
    refine d_region 1000000 rfl ([]) ?_
    refine d_take (i := 0) rfl rfl rfl (by decide +kernel) (by decide +kernel) (by decide +kernel) (Fz.le_refl _) (by simp) rfl (v_move rfl) ?_
    refine d_take (i := 1) rfl rfl rfl (by decide +kernel) (by decide +kernel) (by decide +kernel) (Fz.le_refl _) (by simp) rfl (v_move rfl) ?_
    refine d_take (i := 2) rfl rfl rfl (by decide +kernel) (by decide +kernel) (by decide +kernel) (Fz.le_refl _) (by simp) rfl (v_sliceL (sz := 1) rfl rfl rfl rfl rfl (by omega)) ?_
    refine d_take (i := 5) rfl rfl rfl (by decide +kernel) (by decide +kernel) (by decide +kernel) (Fz.le_refl _) (by simp) rfl (v_move rfl) ?_
    refine d_take (i := 6) rfl rfl rfl (by decide +kernel) (by decide +kernel) (by decide +kernel) (Fz.le_refl _) (by simp) rfl (v_move rfl) ?_
    refine d_take (i := 7) rfl rfl rfl (by decide +kernel) (by decide +kernel) (by decide +kernel) (Fz.le_refl _) (by simp) rfl (v_sliceH (sz := 1) rfl rfl rfl rfl rfl (by omega)) ?_
    refine d_one (i := 3) (by decide +kernel) ?_
    refine d1_call rfl rfl rfl rfl (c_call callable96 rfl) (oct_Read _ _ _ _ _ hd) ?_
    rintro v' F' H' ⟨rfl, a, rfl, rfl⟩ _
    refine ⟨fun w hw => held_of hw (by first | exact Fz.le_refl _ | assumption) (by simp), ?_⟩
    refine d_one (i := 4) (by decide +kernel) ?_
    refine d1_call rfl rfl rfl rfl (c_call callable97 rfl) (oct_RNum _ _ _ _ _ false 4 _ hd (by simp; omega)) ?_
    rintro v' F' H' ⟨rfl, rfl, v2, hv2, rfl⟩ _
    refine ⟨fun w hw => held_of hw (by first | exact Fz.le_refl _ | assumption) (by simp), ?_⟩
    refine d_one (i := 8) (by decide +kernel) ?_
    refine d1_call rfl rfl rfl rfl (c_call callable163 rfl) (oct_Sum _ _ _ _ _ (ht.frz (Fz.le_refl _)) (by simp; omega)) ?_
    rintro v' F' H' ⟨rfl, rfl, rfl⟩ _
    refine ⟨fun w hw => held_of hw (by first | exact Fz.le_refl _ | assumption) (by simp), ?_⟩
    have hr4 : (rdNum (l.drop (l.length - 4)) false 4).1 = leN (l.drop (l.length - 4)) := by
      have hd4 : (l.drop (l.length - 4)).length = 4 := by simp; omega
      unfold rdNum
      rw [hd4]
      rw [if_neg (by decide)]
      show leN ((l.drop (l.length - 4)).take 4) = _
      rw [List.take_of_length_le (by omega)]
    rw [hr4]
    refine j_drop (List.sublist_cons_self _ _) ?_
    refine d_take (i := 9) rfl rfl rfl (by decide +kernel) (by decide +kernel) (by decide +kernel) (Fz.le_refl _) (by simp) rfl (v_conv rfl rfl rfl (wrap_u64 (by omega) (by have := (crc (l.take (l.length - 4))).isLt; omega))) ?_
    refine d_take (i := 10) rfl rfl rfl (by decide +kernel) (by decide +kernel) (by decide +kernel) (Fz.le_refl _) (by simp) rfl (v_neq rfl rfl) ?_
    refine d_end (by decide +kernel) ?_
    refine r_if rfl (fun h5 => ?_) (fun h5 => ?_)
    · refine r_seq ?_
      refine r_region rfl ?_
      refine o_val rfl rfl rfl rfl (v_assign rfl) ?_
      refine o_val rfl rfl rfl rfl (v_assign rfl) ?_
      refine o_end ?_
      have hr : openB l = (4, []) := by
        simp only [openB]
        rw [if_neg (by omega), if_neg (fun he => h5 (by exact_mod_cast (open_cond l h4).2 he))]
      rw [hr]
      exact r_ret2 Tryz.func100 rfl rfl rfl ⟨⟨rfl, rfl, _, rfl, Sl.nil _ _ _⟩, Fz.le_refl _⟩
    · refine r_skip ?_
      refine r_seq ?_
      refine r_region rfl ?_
      refine o_val rfl rfl rfl rfl (v_move rfl) ?_
      refine o_val rfl rfl rfl rfl (v_move rfl) ?_
      refine o_val rfl rfl rfl rfl (v_move rfl) ?_
      refine o_val rfl rfl rfl rfl (v_sliceHM (sz := 1) rfl rfl rfl rfl rfl rfl rfl (Nat.le_refl _) (by omega)) ?_
      refine o_val rfl rfl rfl rfl (v_assign rfl) ?_
      refine o_val rfl rfl rfl rfl (v_assign rfl) ?_
      refine o_end ?_
      have hr : openB l = (0, l.take (l.length - 4)) := by
        simp only [openB]
        rw [if_neg (by omega), if_pos ((open_cond l h4).1 (by have := Decidable.not_not.1 h5; exact_mod_cast this))]
      rw [hr]
      exact r_ret2 Tryz.func100 rfl rfl rfl ⟨⟨rfl, rfl, _, rfl, SlB.takeM hv (by omega)⟩, Fz.le_refl _⟩
/-! ### Bytes and truths that are laid -/
/-- How many, in four bytes, and they. -/
def lenB (l : List UInt8) : List UInt8 := leB 4 l.length ++ l
theorem oct_WBytes (O : World) (F : Fz) (a : Nat) (bf : Bf) (l m : List UInt8) (v : Value) (Fr : List Ent) (hok : bf.ok l.length) (hv : SlB F Fr v m) (hn : l.length + m.length ≤ 140737488354000) :
    Does Tryz.prog O 95 #[ptrV a, v] F (.mem a [bf.val l.length] 1 :: (bf.ents 1 (bytesV l) ++ Fr))
      (fun r F' H' => r = ptrV a ∧ F' = F ∧ ∃ bf' : Bf, bf'.ok (l ++ lenB m).length ∧ H' = .mem a [bf'.val (l ++ lenB m).length] 1 :: (bf'.ents 1 (bytesV (l ++ lenB m)) ++ Fr)) := by
  obtain ⟨a0, cap, rfl, hcap⟩ := Sl.shape hv
  refine does_of_run (args := [_, _]) Tryz.func95 rfl rfl ?_
  refine r_seq ?_
  refine r_region rfl ?_
  refine o_val rfl rfl rfl rfl (v_assign rfl) ?_
  refine o_end ?_
  refine r_seq ?_
  refine r_region rfl ?_
  refine o_val rfl rfl rfl rfl (v_move rfl) ?_
  refine o_val rfl rfl rfl rfl (v_move rfl) ?_
  refine o_val rfl rfl rfl rfl (v_len rfl rfl) ?_
  refine o_val rfl rfl rfl rfl (v_conv rfl rfl rfl (wrap_u64 (by omega) (by omega))) ?_
  refine o_call rfl rfl rfl rfl (c_call callable92 rfl) (oct_Num _ _ _ bf l m.length 4 _ hok (by omega) (by omega)) ?_
  rintro v' F' H' ⟨rfl, rfl, bf1, hok1, rfl⟩ _
  refine o_val rfl rfl rfl rfl (v_move rfl) ?_
  refine o_call rfl rfl rfl rfl (c_call callable162 rfl) (oct_lay _ _ _ bf1 (l ++ leB 4 m.length) m _ _ hok1 (hv.mono (Fz.le_refl _) (by simp)) (by simp; omega)) ?_
  rintro v' F' H' ⟨rfl, rfl, bf2, hok2, rfl⟩ _
  refine o_val rfl rfl rfl rfl (v_assign rfl) ?_
  refine o_end ?_
  have e : l ++ leB 4 m.length ++ m = l ++ lenB m := by simp [lenB]
  rw [e] at hok2 ⊢
  exact r_ret1 Tryz.func95 rfl rfl ⟨⟨rfl, rfl, bf2, hok2, rfl⟩, Fz.le_refl _⟩
theorem openB_seal (l : List UInt8) : openB (sealB l) = (0, l) := by
  unfold openB
  have h1 : (sealB l).length - 4 = l.length := by simp
  have h2 : (sealB l).take l.length = l := by simp [sealB]
  rw [if_neg (by simp), h1, h2, if_pos rfl]
end Go.SX
namespace Go.SX
open Go Go.Proofs
set_option maxRecDepth 4000
set_option linter.unusedSimpArgs false
set_option linter.unusedVariables false
theorem sl_Clone (O : World) (F : Fz) (v : Value) (l : List UInt8) (Fr : List Ent) (hv : SlB F Fr v l) (hl : l.length ≤ 140737488355328) :
    Does Tryz.prog O 53 #[v] F Fr (fun r F' H' => F' = F ∧ ∃ bf : Bf, bf.ok l.length ∧ r = bf.val l.length ∧ H' = bf.ents 1 (bytesV l) ++ Fr) := by
  obtain ⟨a0, cap, rfl, hcap⟩ := Sl.shape hv
  refine does_of_run (args := [_]) Tryz.func53 rfl rfl ?_
  cases a0 with
  | none =>
    have hl0 : l = [] := by
      cases l with
      | nil => rfl
      | cons x r =>
        obtain ⟨a1, c1, h1, _, _, h4, h5⟩ := hv
        obtain ⟨b, off, hb, _⟩ := h5 0 (byteV x) rfl
        simp only [Value.slice.injEq] at h1
        rw [hb] at h1
        cases h1.1
    subst hl0
    refine r_seq ?_
    refine r_region rfl ?_
    refine o_val rfl rfl rfl rfl (v_assign rfl) ?_
    refine o_end ?_
    refine r_seq ?_
    refine r_seq ?_
    refine r_region rfl ?_
    refine o_val rfl rfl rfl rfl (v_move rfl) ?_
    refine o_val rfl rfl rfl rfl (v_slnil rfl rfl rfl) ?_
    refine o_end ?_
    refine r_true rfl ?_
    refine r_seq ?_
    refine r_region rfl ?_
    refine o_val rfl rfl rfl rfl (v_assign rfl) ?_
    refine o_end ?_
    exact r_ret1 Tryz.func53 rfl rfl ⟨⟨rfl, .nil, rfl, rfl, rfl⟩, Fz.le_refl _⟩
  | some x =>
    refine r_seq ?_
    refine r_region rfl ?_
    refine o_val rfl rfl rfl rfl (v_assign rfl) ?_
    refine o_end ?_
    refine r_seq ?_
    refine r_seq ?_
    refine r_region rfl ?_
    refine o_val rfl rfl rfl rfl (v_move rfl) ?_
    refine o_val rfl rfl rfl rfl (v_slnil rfl rfl rfl) ?_
    refine o_end ?_
    refine r_false rfl ?_
    refine r_skip ?_
    refine r_seq ?_
    refine r_region rfl ?_
    refine o_act rfl rfl rfl rfl (a_buildS0 rfl rfl) ?_
    rintro v' H' ⟨b, rfl, rfl⟩
    refine o_val rfl rfl rfl rfl (v_move rfl) ?_
    refine o_act rfl rfl rfl rfl (a_append (bf := .at b 0) (n := 0) (sz := 1) (bytes := 1) (xs := []) ⟨⟨_, _, _, rfl, rfl, rfl, rfl, rfl, rfl⟩, by decide⟩ rfl (Nat.le_refl _) rfl rfl rfl (hv.mono (Fz.le_refl _) (by simp)) (bytes_one _) (by unfold maxLen; omega) (by omega)) ?_
    rintro v' H' ⟨bf, rfl, hok, rfl⟩
    rw [Nat.zero_add] at hok ⊢
    refine o_val rfl rfl rfl rfl (v_assign rfl) ?_
    refine o_end ?_
    exact r_ret1 Tryz.func53 rfl rfl ⟨⟨rfl, bf, hok, rfl, rfl⟩, Fz.le_refl _⟩
/-- A disk. -/
abbrev DkE (a : Nat) (bf : Bf) (l : List UInt8) (sure ops : Nat) : Ent := .mem a [bf.val l.length, .int .i64 sure, .int .i64 ops] 3
theorem dk_New (O : World) (F : Fz) (Fr : List Ent) : Does Tryz.prog O 5 #[] F Fr (fun r F' H' => F' = F ∧ ∃ a, r = ptrV a ∧ H' = DkE a .nil [] 0 0 :: Fr) := by
  refine does_of_run (args := []) Tryz.func5 rfl rfl ?_
  refine r_seq ?_
  refine r_region rfl ?_
  refine o_val rfl rfl rfl rfl (v_assign rfl) ?_
  refine o_end ?_
  refine r_seq ?_
  refine r_region rfl ?_
  refine o_val rfl rfl rfl rfl (v_build rfl rfl) ?_
  refine o_act rfl rfl rfl rfl (a_box rfl) ?_
  rintro v' H' ⟨a, rfl, rfl⟩
  refine o_val rfl rfl rfl rfl (v_assign rfl) ?_
  refine o_end ?_
  exact r_ret1 Tryz.func5 rfl rfl ⟨⟨rfl, a, rfl, rfl⟩, Fz.le_refl _⟩
theorem dk_Append (O : World) (F : Fz) (a : Nat) (bf : Bf) (l m : List UInt8) (sure ops : Nat) (v : Value) (Fr : List Ent) (hok : bf.ok l.length) (hv : SlB F Fr v m) (hl : l.length + m.length ≤ 140737488355328) (ho : ops ≤ 9223372036854775806) :
    Does Tryz.prog O 18 #[ptrV a, v] F (DkE a bf l sure ops :: (bf.ents 1 (bytesV l) ++ Fr))
      (fun r F' H' => r = .int .i64 0 ∧ F' = F ∧ ∃ bf' : Bf, bf'.ok (l ++ m).length ∧ H' = DkE a bf' (l ++ m) sure (ops + 1) :: (bf'.ents 1 (bytesV (l ++ m)) ++ Fr)) := by
  refine does_of_run (args := [_, _]) Tryz.func18 rfl rfl ?_
  refine r_seq ?_
  refine r_region rfl ?_
  refine o_val rfl rfl rfl rfl (v_assign rfl) ?_
  refine o_end ?_
  refine r_seq ?_
  refine r_seq ?_
  refine r_region rfl ?_
  refine o_val rfl rfl rfl rfl (v_move rfl) ?_
  refine o_val rfl rfl rfl rfl (v_peqnil rfl rfl rfl) ?_
  refine o_end ?_
  refine r_false rfl ?_
  refine r_skip ?_
  refine r_seq ?_
  refine r_region rfl ?_
  refine o_val rfl rfl rfl rfl (v_move rfl) ?_
  refine o_val rfl rfl rfl rfl (v_nilCheck rfl) ?_
  refine o_val rfl rfl rfl rfl (v_field (k := 2) rfl rfl rfl) ?_
  refine o_val rfl rfl rfl rfl (v_load rfl rfl (cell_at (j := 0) rfl rfl)) ?_
  refine o_val rfl rfl rfl rfl (v_add rfl rfl (wrap_i64 (by omega) (by omega))) ?_
  refine o_val rfl rfl rfl rfl (v_nilCheck rfl) ?_
  refine o_val rfl rfl rfl rfl (v_field (k := 2) rfl rfl rfl) ?_
  refine o_act0 rfl rfl rfl (a_store1 0 rfl rfl rfl rfl rfl (Nat.le_of_ble_eq_true rfl)) ?_
  refine o_end ?_
  refine r_seq ?_
  refine r_region rfl ?_
  refine o_val rfl rfl rfl rfl (v_move rfl) ?_
  refine o_val rfl rfl rfl rfl (v_move rfl) ?_
  refine o_val rfl rfl rfl rfl (v_nilCheck rfl) ?_
  refine o_val rfl rfl rfl rfl (v_field (k := 0) rfl rfl rfl) ?_
  refine o_val rfl rfl rfl rfl (v_load rfl rfl (cell_at (j := 0) rfl rfl)) ?_
  refine o_val rfl rfl rfl rfl (v_move rfl) ?_
  refine o_act rfl rfl rfl rfl (a_appendP (bf := bf) (n := l.length) (sz := 1) (bytes := 1) [.mem a [bf.val l.length, .int .i64 sure, .int .i64 ((ops : Int) + 1)] 3] ⟨⟨_, _, _, rfl, rfl, rfl, rfl, rfl, rfl⟩, by decide⟩ rfl hok (by simp) rfl rfl (hv.mono (Fz.le_refl _) (by simp)) (bytes_one _) (by unfold maxLen; omega) (by omega)) ?_
  rintro v' H' ⟨bf', rfl, hok', rfl⟩
  refine o_val rfl rfl rfl rfl (v_nilCheck rfl) ?_
  refine o_val rfl rfl rfl rfl (v_field (k := 0) rfl rfl rfl) ?_
  refine o_act0 rfl rfl rfl (a_store1 0 rfl rfl rfl rfl rfl (Nat.le_of_ble_eq_true rfl)) ?_
  refine o_end ?_
  refine r_seq ?_
  refine r_region rfl ?_
  refine o_val rfl rfl rfl rfl (v_assign rfl) ?_
  refine o_end ?_
  refine r_ret1 Tryz.func18 rfl rfl ⟨⟨rfl, rfl, bf', ?_, ?_⟩, Fz.le_refl _⟩
  · simpa using hok'
  · have e : (l ++ m).length = l.length + m.length := List.length_append
    rw [bytesV_append]
    show _ = Ent.mem a [bf'.val (l ++ m).length, .int .i64 sure, .int .i64 ((ops + 1 : Nat) : Int)] 3 :: _
    rw [e]
    rfl
theorem dk_Sync (O : World) (F : Fz) (a : Nat) (bf : Bf) (l : List UInt8) (sure ops : Nat) (Fr : List Ent) (ho : ops ≤ 9223372036854775806) :
    Does Tryz.prog O 8 #[ptrV a] F (DkE a bf l sure ops :: Fr) (fun r F' H' => r = .int .i64 0 ∧ F' = F ∧ H' = DkE a bf l l.length (ops + 1) :: Fr) := by
  refine does_of_run (args := [_]) Tryz.func8 rfl rfl ?_
  refine r_seq ?_
  refine r_region rfl ?_
  refine o_val rfl rfl rfl rfl (v_assign rfl) ?_
  refine o_end ?_
  refine r_seq ?_
  refine r_seq ?_
  refine r_region rfl ?_
  refine o_val rfl rfl rfl rfl (v_move rfl) ?_
  refine o_val rfl rfl rfl rfl (v_peqnil rfl rfl rfl) ?_
  refine o_end ?_
  refine r_false rfl ?_
  refine r_skip ?_
  refine r_seq ?_
  refine r_region rfl ?_
  refine o_val rfl rfl rfl rfl (v_move rfl) ?_
  refine o_val rfl rfl rfl rfl (v_nilCheck rfl) ?_
  refine o_val rfl rfl rfl rfl (v_field (k := 2) rfl rfl rfl) ?_
  refine o_val rfl rfl rfl rfl (v_load rfl rfl (cell_at (j := 0) rfl rfl)) ?_
  refine o_val rfl rfl rfl rfl (v_add rfl rfl (wrap_i64 (by omega) (by omega))) ?_
  refine o_val rfl rfl rfl rfl (v_nilCheck rfl) ?_
  refine o_val rfl rfl rfl rfl (v_field (k := 2) rfl rfl rfl) ?_
  refine o_act0 rfl rfl rfl (a_store1 0 rfl rfl rfl rfl rfl (Nat.le_of_ble_eq_true rfl)) ?_
  refine o_end ?_
  refine r_seq ?_
  refine r_region rfl ?_
  refine o_val rfl rfl rfl rfl (v_move rfl) ?_
  refine o_val rfl rfl rfl rfl (v_move rfl) ?_
  refine o_val rfl rfl rfl rfl (v_nilCheck rfl) ?_
  refine o_val rfl rfl rfl rfl (v_field (k := 0) rfl rfl rfl) ?_
  refine o_val rfl rfl rfl rfl (v_load rfl rfl (cell_at (j := 0) rfl rfl)) ?_
  refine o_val rfl rfl rfl rfl (v_len rfl rfl) ?_
  refine o_val rfl rfl rfl rfl (v_nilCheck rfl) ?_
  refine o_val rfl rfl rfl rfl (v_field (k := 1) rfl rfl rfl) ?_
  refine o_act0 rfl rfl rfl (a_store1 0 rfl rfl rfl rfl rfl (Nat.le_of_ble_eq_true rfl)) ?_
  refine o_end ?_
  refine r_seq ?_
  refine r_region rfl ?_
  refine o_val rfl rfl rfl rfl (v_assign rfl) ?_
  refine o_end ?_
  exact r_ret1 Tryz.func8 rfl rfl ⟨⟨rfl, rfl, rfl⟩, Fz.le_refl _⟩
theorem dk_Put (O : World) (F : Fz) (a : Nat) (bf : Bf) (l m : List UInt8) (sure ops : Nat) (v : Value) (Fr : List Ent) (hv : SlB F Fr v m) (hl : m.length ≤ 140737488355328) (ho : ops ≤ 9223372036854775806) :
    Does Tryz.prog O 22 #[ptrV a, v] F (DkE a bf l sure ops :: (bf.ents 1 (bytesV l) ++ Fr))
      (fun r F' H' => r = .int .i64 0 ∧ F' = F ∧ ∃ bf' : Bf, bf'.ok m.length ∧ H' = DkE a bf' m m.length (ops + 1) :: (bf'.ents 1 (bytesV m) ++ Fr)) := by
  obtain ⟨a0, cap, rfl, hcap⟩ := Sl.shape hv
  refine does_of_run (args := [_, _]) Tryz.func22 rfl rfl ?_
  refine r_seq ?_
  refine r_region rfl ?_
  refine o_val rfl rfl rfl rfl (v_assign rfl) ?_
  refine o_end ?_
  refine r_seq ?_
  refine r_seq ?_
  refine r_region rfl ?_
  refine o_val rfl rfl rfl rfl (v_move rfl) ?_
  refine o_val rfl rfl rfl rfl (v_peqnil rfl rfl rfl) ?_
  refine o_end ?_
  refine r_false rfl ?_
  refine r_skip ?_
  refine r_seq ?_
  refine r_region rfl ?_
  refine o_val rfl rfl rfl rfl (v_move rfl) ?_
  refine o_val rfl rfl rfl rfl (v_nilCheck rfl) ?_
  refine o_val rfl rfl rfl rfl (v_field (k := 2) rfl rfl rfl) ?_
  refine o_val rfl rfl rfl rfl (v_load rfl rfl (cell_at (j := 0) rfl rfl)) ?_
  refine o_val rfl rfl rfl rfl (v_add rfl rfl (wrap_i64 (by omega) (by omega))) ?_
  refine o_val rfl rfl rfl rfl (v_nilCheck rfl) ?_
  refine o_val rfl rfl rfl rfl (v_field (k := 2) rfl rfl rfl) ?_
  refine o_act0 rfl rfl rfl (a_store1 0 rfl rfl rfl rfl rfl (Nat.le_of_ble_eq_true rfl)) ?_
  refine o_end ?_
  refine r_seq ?_
  refine r_region rfl ?_
  refine o_val rfl rfl rfl rfl (v_move rfl) ?_
  refine o_val rfl rfl rfl rfl (v_move rfl) ?_
  refine o_val rfl rfl rfl rfl (v_move rfl) ?_
  refine j_drop (H' := .mem a [bf.val l.length, .int .i64 sure, .int .i64 ((ops : Int) + 1)] 3 :: Fr) ((List.sublist_append_right _ _).cons_cons _) ?_
  refine o_call rfl rfl rfl rfl (c_call callable53 rfl) (sl_Clone _ _ _ m _ (hv.mono (Fz.le_refl _) (by simp)) hl) ?_
  rintro v' F' H' ⟨rfl, bf', hok', rfl, rfl⟩ _
  refine j_perm (H' := .mem a [bf.val l.length, .int .i64 sure, .int .i64 ((ops : Int) + 1)] 3 :: (bf'.ents 1 (bytesV m) ++ Fr)) List.perm_middle ?_
  refine o_val rfl rfl rfl rfl (v_move rfl) ?_
  refine o_val rfl rfl rfl rfl (v_len rfl rfl) ?_
  refine o_val rfl rfl rfl rfl (v_nilCheck rfl) ?_
  refine o_val rfl rfl rfl rfl (v_field (k := 0) rfl rfl rfl) ?_
  refine o_act0 rfl rfl rfl (a_store1 0 rfl rfl rfl rfl rfl (Nat.le_of_ble_eq_true rfl)) ?_
  refine o_val rfl rfl rfl rfl (v_nilCheck rfl) ?_
  refine o_val rfl rfl rfl rfl (v_field (k := 1) rfl rfl rfl) ?_
  refine o_act0 rfl rfl rfl (a_store1 0 rfl rfl rfl rfl rfl (Nat.le_of_ble_eq_true rfl)) ?_
  refine o_end ?_
  refine r_seq ?_
  refine r_region rfl ?_
  refine o_val rfl rfl rfl rfl (v_assign rfl) ?_
  refine o_end ?_
  exact r_ret1 Tryz.func22 rfl rfl ⟨⟨rfl, rfl, bf', hok', rfl⟩, Fz.le_refl _⟩
theorem dk_Read (O : World) (F : Fz) (a : Nat) (bf : Bf) (l : List UInt8) (sure ops : Nat) (Fr : List Ent) (hok : bf.ok l.length) (hl : l.length ≤ 140737488355328) :
    Does Tryz.prog O 20 #[ptrV a] F (DkE a bf l sure ops :: (bf.ents 1 (bytesV l) ++ Fr))
      (fun r F' H' => F' = F ∧ ∃ bf' : Bf, bf'.ok l.length ∧ r = bf'.val l.length ∧ H' = bf'.ents 1 (bytesV l) ++ DkE a bf l sure ops :: (bf.ents 1 (bytesV l) ++ Fr)) := by
  refine does_of_run (args := [_]) Tryz.func20 rfl rfl ?_
  refine r_seq ?_
  refine r_region rfl ?_
  refine o_val rfl rfl rfl rfl (v_assign rfl) ?_
  refine o_end ?_
  refine r_seq ?_
  refine r_seq ?_
  refine r_region rfl ?_
  refine o_val rfl rfl rfl rfl (v_move rfl) ?_
  refine o_val rfl rfl rfl rfl (v_peqnil rfl rfl rfl) ?_
  refine o_end ?_
  refine r_false rfl ?_
  refine r_skip ?_
  refine r_seq ?_
  refine r_region rfl ?_
  refine o_val rfl rfl rfl rfl (v_move rfl) ?_
  refine o_val rfl rfl rfl rfl (v_nilCheck rfl) ?_
  refine o_val rfl rfl rfl rfl (v_field (k := 0) rfl rfl rfl) ?_
  refine o_val rfl rfl rfl rfl (v_load rfl rfl (cell_at (j := 0) rfl rfl)) ?_
  refine o_call rfl rfl rfl rfl (c_call callable53 rfl) (sl_Clone _ _ _ l _ (Bf.reads (bf := bf) (sz := 1) (n := l.length) hok (by simp) (by intro e he; exact List.mem_cons_of_mem _ (List.mem_append_left _ he))) hl) ?_
  rintro v' F' H' ⟨rfl, bf', hok', rfl, rfl⟩ _
  refine o_val rfl rfl rfl rfl (v_assign rfl) ?_
  refine o_end ?_
  exact r_ret1 Tryz.func20 rfl rfl ⟨⟨rfl, bf', hok', rfl, rfl⟩, Fz.le_refl _⟩
theorem dk_Len (O : World) (F : Fz) (a : Nat) (bf : Bf) (l : List UInt8) (sure ops : Nat) (Fr : List Ent) :
    Does Tryz.prog O 7 #[ptrV a] F (DkE a bf l sure ops :: Fr) (fun r F' H' => r = .int .i64 l.length ∧ F' = F ∧ H' = DkE a bf l sure ops :: Fr) := by
  refine does_of_run (args := [_]) Tryz.func7 rfl rfl ?_
  refine r_seq ?_
  refine r_region rfl ?_
  refine o_val rfl rfl rfl rfl (v_assign rfl) ?_
  refine o_end ?_
  refine r_seq ?_
  refine r_seq ?_
  refine r_region rfl ?_
  refine o_val rfl rfl rfl rfl (v_move rfl) ?_
  refine o_val rfl rfl rfl rfl (v_peqnil rfl rfl rfl) ?_
  refine o_end ?_
  refine r_false rfl ?_
  refine r_skip ?_
  refine r_seq ?_
  refine r_region rfl ?_
  refine o_val rfl rfl rfl rfl (v_move rfl) ?_
  refine o_val rfl rfl rfl rfl (v_nilCheck rfl) ?_
  refine o_val rfl rfl rfl rfl (v_field (k := 0) rfl rfl rfl) ?_
  refine o_val rfl rfl rfl rfl (v_load rfl rfl (cell_at (j := 0) rfl rfl)) ?_
  refine o_val rfl rfl rfl rfl (v_len rfl rfl) ?_
  refine o_val rfl rfl rfl rfl (v_assign rfl) ?_
  refine o_end ?_
  exact r_ret1 Tryz.func7 rfl rfl ⟨⟨rfl, rfl, rfl⟩, Fz.le_refl _⟩
theorem dk_Crash (O : World) (F : Fz) (a : Nat) (bf : Bf) (l : List UInt8) (sure ops : Nat) (keep : Int) (Fr : List Ent) (hok : bf.ok l.length) (hl : l.length ≤ 140737488355328) (hs : sure ≤ l.length) (hk0 : -9223372036854775808 ≤ keep) (hk1 : keep ≤ 9223372036854775807) :
    Does Tryz.prog O 9 #[ptrV a, .int .i64 keep] F (DkE a bf l sure ops :: (bf.ents 1 (bytesV l) ++ Fr))
      (fun r F' H' => r = noneV ∧ F' = F ∧ H' = DkE a bf (l.take (sure + min keep.toNat (l.length - sure))) (sure + min keep.toNat (l.length - sure)) ops :: (bf.ents 1 (bytesV (l.take (sure + min keep.toNat (l.length - sure)))) ++ Fr)) := by
  refine does_of_run (args := [_, _]) Tryz.func9 rfl rfl ?_
  have hle : sure + min keep.toNat (l.length - sure) ≤ l.length := by omega
  have hcr : IntKind.i64.wrap ((sure : Int) + if (if (l.length : Int) - sure < keep then (l.length : Int) - sure else keep) > 0 then (if (l.length : Int) - sure < keep then (l.length : Int) - sure else keep) else 0) = ((sure + min keep.toNat (l.length - sure) : Nat) : Int) := by
    have : ((sure : Int) + if (if (l.length : Int) - sure < keep then (l.length : Int) - sure else keep) > 0 then (if (l.length : Int) - sure < keep then (l.length : Int) - sure else keep) else 0) = ((sure + min keep.toNat (l.length - sure) : Nat) : Int) := by
      repeat' split
      all_goals omega
    rw [this]
    exact wrap_i64 (by omega) (by omega)
  generalize sure + min keep.toNat (l.length - sure) = s' at *
  refine r_seq ?_
  refine r_seq ?_
  refine r_region rfl ?_
  refine o_val rfl rfl rfl rfl (v_move rfl) ?_
  refine o_val rfl rfl rfl rfl (v_peqnil rfl rfl rfl) ?_
  refine o_end ?_
  refine r_false rfl ?_
  refine r_skip ?_
  refine r_seq ?_
  refine d_region 20 rfl ([DkE a bf l sure ops]) ?_
  refine d_take (i := 0) rfl rfl rfl (by decide +kernel) (by decide +kernel) (by decide +kernel) (Fz.le_refl _) (by simp) rfl (v_move rfl) ?_
  refine d_take (i := 1) rfl rfl rfl (by decide +kernel) (by decide +kernel) (by decide +kernel) (Fz.le_refl _) (by simp) rfl (v_nilCheck rfl) ?_
  refine d_take (i := 2) rfl rfl rfl (by decide +kernel) (by decide +kernel) (by decide +kernel) (Fz.le_refl _) (by simp) rfl (v_field (k := 1) rfl rfl rfl) ?_
  refine d_take (i := 3) rfl rfl rfl (by decide +kernel) (by decide +kernel) (by decide +kernel) (Fz.le_refl _) (by simp) rfl (v_load rfl rfl (cell_at (j := 0) rfl rfl)) ?_
  refine d_take (i := 4) rfl rfl rfl (by decide +kernel) (by decide +kernel) (by decide +kernel) (Fz.le_refl _) (by simp) rfl (v_move rfl) ?_
  refine d_take (i := 5) rfl rfl rfl (by decide +kernel) (by decide +kernel) (by decide +kernel) (Fz.le_refl _) (by simp) rfl (v_move rfl) ?_
  refine d_take (i := 6) rfl rfl rfl (by decide +kernel) (by decide +kernel) (by decide +kernel) (Fz.le_refl _) (by simp) rfl (v_nilCheck rfl) ?_
  refine d_take (i := 7) rfl rfl rfl (by decide +kernel) (by decide +kernel) (by decide +kernel) (Fz.le_refl _) (by simp) rfl (v_field (k := 0) rfl rfl rfl) ?_
  refine d_take (i := 8) rfl rfl rfl (by decide +kernel) (by decide +kernel) (by decide +kernel) (Fz.le_refl _) (by simp) rfl (v_load rfl rfl (cell_at (j := 0) rfl rfl)) ?_
  refine d_take (i := 9) rfl rfl rfl (by decide +kernel) (by decide +kernel) (by decide +kernel) (Fz.le_refl _) (by simp) rfl (v_len rfl rfl) ?_
  refine d_take (i := 10) rfl rfl rfl (by decide +kernel) (by decide +kernel) (by decide +kernel) (Fz.le_refl _) (by simp) rfl (v_move rfl) ?_
  refine d_take (i := 11) rfl rfl rfl (by decide +kernel) (by decide +kernel) (by decide +kernel) (Fz.le_refl _) (by simp) rfl (v_nilCheck rfl) ?_
  refine d_take (i := 12) rfl rfl rfl (by decide +kernel) (by decide +kernel) (by decide +kernel) (Fz.le_refl _) (by simp) rfl (v_field (k := 1) rfl rfl rfl) ?_
  refine d_take (i := 13) rfl rfl rfl (by decide +kernel) (by decide +kernel) (by decide +kernel) (Fz.le_refl _) (by simp) rfl (v_load rfl rfl (cell_at (j := 0) rfl rfl)) ?_
  refine d_take (i := 14) rfl rfl rfl (by decide +kernel) (by decide +kernel) (by decide +kernel) (Fz.le_refl _) (by simp) rfl (v_sub rfl rfl (wrap_i64 (by omega) (by omega))) ?_
  refine d_take (i := 15) rfl rfl rfl (by decide +kernel) (by decide +kernel) (by decide +kernel) (Fz.le_refl _) (by simp) rfl (v_min rfl rfl) ?_
  refine d_take (i := 16) rfl rfl rfl (by decide +kernel) (by decide +kernel) (by decide +kernel) (Fz.le_refl _) (by simp) rfl (v_max rfl rfl) ?_
  refine d_take (i := 17) rfl rfl rfl (by decide +kernel) (by decide +kernel) (by decide +kernel) (Fz.le_refl _) (by simp) rfl (v_add rfl rfl hcr) ?_
  refine d_take (i := 18) rfl rfl rfl (by decide +kernel) (by decide +kernel) (by decide +kernel) (Fz.le_refl _) (by simp) rfl (v_nilCheck rfl) ?_
  refine d_take (i := 19) rfl rfl rfl (by decide +kernel) (by decide +kernel) (by decide +kernel) (Fz.le_refl _) (by simp) rfl (v_field (k := 1) rfl rfl rfl) ?_
  refine d_one (i := 20) (by decide +kernel) ?_
  refine d1_last 1000000 ([]) rfl rfl rfl (a_store1 0 rfl rfl rfl rfl rfl (Nat.le_of_ble_eq_true rfl)) ?_
  refine d_end (by decide +kernel) ?_
  refine d_region 12 rfl ([.mem a [bf.val l.length, .int .i64 s', .int .i64 ops] 3]) ?_
  refine d_take (i := 0) rfl rfl rfl (by decide +kernel) (by decide +kernel) (by decide +kernel) (Fz.le_refl _) (by simp) rfl (v_move rfl) ?_
  refine d_take (i := 1) rfl rfl rfl (by decide +kernel) (by decide +kernel) (by decide +kernel) (Fz.le_refl _) (by simp) rfl (v_move rfl) ?_
  refine d_take (i := 2) rfl rfl rfl (by decide +kernel) (by decide +kernel) (by decide +kernel) (Fz.le_refl _) (by simp) rfl (v_nilCheck rfl) ?_
  refine d_take (i := 3) rfl rfl rfl (by decide +kernel) (by decide +kernel) (by decide +kernel) (Fz.le_refl _) (by simp) rfl (v_field (k := 0) rfl rfl rfl) ?_
  refine d_take (i := 4) rfl rfl rfl (by decide +kernel) (by decide +kernel) (by decide +kernel) (Fz.le_refl _) (by simp) rfl (v_load rfl rfl (cell_at (j := 0) rfl rfl)) ?_
  refine d_take (i := 5) rfl rfl rfl (by decide +kernel) (by decide +kernel) (by decide +kernel) (Fz.le_refl _) (by simp) rfl (v_move rfl) ?_
  refine d_take (i := 6) rfl rfl rfl (by decide +kernel) (by decide +kernel) (by decide +kernel) (Fz.le_refl _) (by simp) rfl (v_nilCheck rfl) ?_
  refine d_take (i := 7) rfl rfl rfl (by decide +kernel) (by decide +kernel) (by decide +kernel) (Fz.le_refl _) (by simp) rfl (v_field (k := 1) rfl rfl rfl) ?_
  refine d_take (i := 8) rfl rfl rfl (by decide +kernel) (by decide +kernel) (by decide +kernel) (Fz.le_refl _) (by simp) rfl (v_load rfl rfl (cell_at (j := 0) rfl rfl)) ?_
  refine d_take (i := 9) rfl rfl rfl (by decide +kernel) (by decide +kernel) (by decide +kernel) (Fz.le_refl _) (by simp) rfl (v_sliceH (sz := 1) rfl rfl rfl rfl rfl (Nat.le_trans hle (Bf.ok_cp hok))) ?_
  refine d_take (i := 10) rfl rfl rfl (by decide +kernel) (by decide +kernel) (by decide +kernel) (Fz.le_refl _) (by simp) rfl (v_nilCheck rfl) ?_
  refine d_take (i := 11) rfl rfl rfl (by decide +kernel) (by decide +kernel) (by decide +kernel) (Fz.le_refl _) (by simp) rfl (v_field (k := 0) rfl rfl rfl) ?_
  refine j_slot 35 rfl (v' := bf.val s') (Bf.cut _ _ _) ?_
  refine d_one (i := 12) (by decide +kernel) ?_
  refine d1_last 1000000 ([]) rfl rfl rfl (a_store1 0 rfl rfl rfl rfl rfl (Nat.le_of_ble_eq_true rfl)) ?_
  refine d_end (by decide +kernel) ?_
  refine j_cutBf [.mem a [bf.val s', .int .i64 s', .int .i64 ops] 3] s' ?_
  refine r_fall0 Tryz.func9 rfl ⟨⟨rfl, rfl, ?_⟩, Fz.le_refl _⟩
  have e : (l.take s').length = s' := by simp; omega
  show _ = Ent.mem a [bf.val (l.take s').length, .int .i64 s', .int .i64 ops] 3 :: _
  rw [e]
  simp [bytesV]
end Go.SX
namespace Go.SX
open Go Go.Proofs
set_option maxRecDepth 4000
set_option linter.unusedSimpArgs false
set_option linter.unusedVariables false
/-- An entry: its numbers, the value of its bytes, and they. -/
structure En where
  ix : Nat
  tm : Nat
  kd : Nat
  dv : Value
  data : List UInt8
def En.cells (e : En) : List Value := [.int .u64 e.ix, .int .u64 e.tm, .int .u8 e.kd, e.dv]
abbrev enV (l : List En) : List Value := l.flatMap En.cells
structure En.ok (F : Fz) (e : En) : Prop where
  ix : e.ix < 18446744073709551616
  tm : e.tm < 18446744073709551616
  kd : e.kd < 256
  dv : SlB F [] e.dv e.data
  len : e.data.length ≤ 1048576
theorem En.cl (e : En) : e.cells.length = 4 := rfl
theorem En.ok.frz {F F' : Fz} {e : En} (h : e.ok F) (hF : F.le F') : e.ok F' := ⟨h.ix, h.tm, h.kd, h.dv.frz hF, h.len⟩
theorem En.ok.one {F : Fz} {e : En} (h : e.ok F) : e.cells.all oneCellB = true := by
  obtain ⟨a, c, hd, _⟩ := Sl.shape h.dv
  simp [En.cells, hd, oneCellB]
theorem en_len (l : List En) : (enV l).length = l.length * 4 := vec_len (c := En.cells) En.cl l
theorem sl_lit {F : Fz} {H : List Ent} {b : Nat} {e : En} (hm : Ent.mem b e.cells 4 ∈ H) : Sl F H 4 (.slice (some ⟨b, 0, none⟩) 1 1) 1 (enV [e]) :=
  ⟨_, 1, rfl, by simp [enV, En.cells], Nat.le_refl _, by simp, fun j c hj => ⟨b, 0, rfl, cell_own (cs := e.cells) (n := 4) hm (by simpa [enV] using hj)⟩⟩
theorem sl_cells {F : Fz} {H : List Ent} {v : Value} {l : List En} {i : Nat} (hv : Sl F H 4 v l.length (enV l)) (hi : i < l.length) :
    ∃ b off cap, v = .slice (some ⟨b, off, none⟩) l.length cap ∧ ∀ j c, l[i].cells[j]? = some c → Cell F H b (off + i * 4 + j) c := by
  obtain ⟨b, off, cap, hab, _, hcell⟩ := Sl.view hv (by omega)
  refine ⟨b, off, cap, hab, fun j c hj => ?_⟩
  have hj4 : j < 4 := by
    rcases Nat.lt_or_ge j 4 with h | h
    · exact h
    · rw [List.getElem?_eq_none (by simp [En.cells]; exact h)] at hj; cases hj
  have := hcell (i * 4 + j) c (by rw [vec_get (c := En.cells) En.cl l i hi j hj4]; exact hj)
  rw [← Nat.add_assoc] at this
  exact this
def recB (k : Nat) (p : List UInt8) : List UInt8 := sealB (leB 4 p.length ++ leB 1 k ++ p)
@[simp] theorem recB_length (k : Nat) (p : List UInt8) : (recB k p).length = p.length + 9 := by simp [recB]; omega
def hardP (t w : Nat) : List UInt8 := leB 8 t ++ leB 2 w
@[simp] theorem hardP_length (t w : Nat) : (hardP t w).length = 10 := by simp [hardP]
def entP (ix tm kd : Nat) (d : List UInt8) : List UInt8 := leB 8 ix ++ leB 8 tm ++ leB 1 kd ++ lenB d
@[simp] theorem entP_length (ix tm kd : Nat) (d : List UInt8) : (entP ix tm kd d).length = 21 + d.length := by simp [entP, lenB]; omega
def snapP (ix tm vt : Nat) (d : List UInt8) : List UInt8 := leB 8 ix ++ leB 8 tm ++ leB 8 vt ++ lenB d
@[simp] theorem snapP_length (ix tm vt : Nat) (d : List UInt8) : (snapP ix tm vt d).length = 28 + d.length := by simp [snapP, lenB]; omega
structure PE where
  ix : Nat
  tm : Nat
  kd : Nat
  data : List UInt8
def En.pure (e : En) : PE := ⟨e.ix, e.tm, e.kd, e.data⟩
def PE.bs (e : PE) : List UInt8 := recB 2 (entP e.ix e.tm e.kd e.data)
abbrev entsB (l : List PE) : List UInt8 := l.flatMap PE.bs
theorem entsB_le {F : Fz} : ∀ l : List En, (∀ e ∈ l, e.ok F) → (entsB (l.map En.pure)).length ≤ l.length * 1048700
  | [], _ => by simp
  | e :: r, h => by
    have h1 := entsB_le r fun x hx => h x (List.mem_cons_of_mem _ hx)
    have h2 := (h e (List.mem_cons_self ..)).len
    have h3 : (PE.bs e.pure).length = e.data.length + 30 := by simp [PE.bs, En.pure]; omega
    simp only [List.map_cons, entsB, List.flatMap_cons, List.length_append, List.length_cons] at h1 ⊢
    omega
/-- What is to be kept, as bytes. -/
def hdrB (h : Bool) (t : Nat) (vo : Int) : List UInt8 := if h = true then recB 1 (hardP t (vo + 1).toNat) else []
def saveB (h : Bool) (t : Nat) (vo : Int) (l : List PE) : List UInt8 := hdrB h t vo ++ entsB l
theorem hdrB_le (h : Bool) (t : Nat) (vo : Int) : (hdrB h t vo).length ≤ 19 := by unfold hdrB; split <;> simp
theorem cells_ofp {F : Fz} {H : List Ent} {j b N : Nat} {cs : List Value} (off : Nat) (sub : List Value) (hm : H[j]? = some (.mem b cs N)) (hs : (cs.drop off).take sub.length = sub) : ∀ i c, sub[i]? = some c → Cell F H b (off + i) c := fun i c hc => by
  refine cell_at hm ?_
  have hi : i < sub.length := by
    rcases Nat.lt_or_ge i sub.length with h | h
    · exact h
    · rw [List.getElem?_eq_none h] at hc; cases hc
  rw [← hs, List.getElem?_take, if_pos hi, List.getElem?_drop] at hc
  exact hc
theorem bf_reads {F : Fz} {bf : Bf} {l : List UInt8} {H : List Ent} (h : bf.ok l.length) (hH : bf.ents 1 (bytesV l) ⊆ H) : SlB F H (bf.val l.length) l := Bf.reads (bf := bf) (sz := 1) h (by simp) hH
theorem wal_frame (O : World) (F : Fz) (k : Nat) (v : Value) (p : List UInt8) (Fr : List Ent) (hk : k < 256) (hv : SlB F Fr v p) (hn : p.length ≤ 140737488350000) :
    Does Tryz.prog O 50 #[.int .u8 k, v] F Fr (fun r F' H' => F' = F ∧ ∃ bf : Bf, bf.ok (recB k p).length ∧ r = bf.val (recB k p).length ∧ H' = bf.ents 1 (bytesV (recB k p)) ++ Fr) := by
  obtain ⟨a0, cap, rfl, hcap⟩ := Sl.shape hv
  refine does_of_run (args := [_, _]) Tryz.func50 rfl rfl ?_
  refine r_seq ?_
  refine r_region rfl ?_
  refine o_val rfl rfl rfl rfl (v_assign rfl) ?_
  refine o_end ?_
  refine r_seq ?_
  refine r_region rfl ?_
  refine o_val rfl rfl rfl rfl (v_build rfl rfl) ?_
  refine o_act rfl rfl rfl rfl (a_box rfl) ?_
  rintro v' H' ⟨a, rfl, rfl⟩
  refine j_heap (H' := .mem a [Bf.nil.val ([] : List UInt8).length] 1 :: (Bf.nil.ents 1 (bytesV []) ++ Fr)) rfl ?_
  refine o_val rfl rfl rfl rfl (v_assign rfl) ?_
  refine o_end ?_
  refine r_seq ?_
  refine r_region rfl ?_
  refine o_val rfl rfl rfl rfl (v_move rfl) ?_
  refine o_val rfl rfl rfl rfl (v_move rfl) ?_
  refine o_val rfl rfl rfl rfl (v_len rfl rfl) ?_
  refine o_val rfl rfl rfl rfl (v_conv rfl rfl rfl (wrap_u64 (by omega) (by omega))) ?_
  refine o_call rfl rfl rfl rfl (c_call callable92 rfl) (oct_Num _ _ a .nil [] p.length 4 _ rfl (by omega) (by simp)) ?_
  rintro v' F H' ⟨rfl, rfl, b1, ok1, rfl⟩ _
  refine o_val rfl rfl rfl rfl (v_move rfl) ?_
  refine o_val rfl rfl rfl rfl (v_conv rfl rfl rfl (wrap_u64 (by omega) (by omega))) ?_
  refine o_call rfl rfl rfl rfl (c_call callable92 rfl) (oct_Num _ _ a b1 _ k 1 _ ok1 (by omega) (by simp)) ?_
  rintro v' F H' ⟨rfl, rfl, b2, ok2, rfl⟩ _
  refine o_end ?_
  refine r_seq ?_
  refine r_region rfl ?_
  refine o_val rfl rfl rfl rfl (v_move rfl) ?_
  refine o_call rfl rfl rfl rfl (c_call callable94 rfl) (oct_Done _ _ _ _ _) ?_
  rintro v' F H' ⟨rfl, rfl, rfl⟩ _
  simp only [List.nil_append] at ok2 ⊢
  refine o_val rfl rfl rfl rfl (v_move rfl) ?_
  refine o_act rfl rfl rfl rfl (a_appendP (bf := b2) (sz := 1) (bytes := 1) (m := p.length) [_] ⟨⟨_, _, _, rfl, rfl, rfl, rfl, rfl, rfl⟩, by decide⟩ rfl ok2 (by simp) rfl rfl (hv.mono (Fz.le_refl _) (by intro q hq; simp [hq])) (bytes_one p) (by unfold maxLen; simp; omega) (by simp; omega)) ?_
  rintro v' H' ⟨b3, rfl, ok3, rfl⟩
  rw [← bytesV_append, ← List.length_append] at *
  refine j_drop (H' := b3.ents 1 (bytesV (leB 4 p.length ++ leB 1 k ++ p)) ++ Fr) (List.sublist_cons_self _ _) ?_
  refine o_call rfl rfl rfl rfl (c_call callable93 rfl) (oct_Seal _ _ _ (leB 4 p.length ++ leB 1 k ++ p) _ (bf_reads ok3 (by intro q hq; exact List.mem_append_left _ hq)) (by simp; omega)) ?_
  rintro v' F H' ⟨rfl, b4, ok4, rfl, rfl⟩ _
  refine j_sel (H' := b4.ents 1 (bytesV (recB k p)) ++ (Fr)) [b4.ents 1 (bytesV (recB k p)), b3.ents 1 (bytesV (leB 4 p.length ++ leB 1 k ++ p)), Fr] [0, 2] rfl rfl rfl ?_
  refine o_val rfl rfl rfl rfl (v_assign rfl) ?_
  refine o_end ?_
  exact r_ret1 Tryz.func50 rfl rfl ⟨⟨rfl, b4, ok4, rfl, rfl⟩, Fz.le_refl _⟩
theorem wal_hard (O : World) (F : Fz) (t : Nat) (vo : Int) (Fr : List Ent) (h1 : -1 ≤ vo) (h2 : vo < 65535) :
    Does Tryz.prog O 51 #[.agg #[.int .u64 t, .int .i64 vo]] F Fr (fun r F' H' => F' = F ∧ ∃ bf : Bf, bf.ok 10 ∧ r = bf.val 10 ∧ H' = bf.ents 1 (bytesV (hardP t (vo + 1).toNat)) ++ Fr) := by
  obtain ⟨w, hw⟩ := Int.eq_ofNat_of_zero_le (show 0 ≤ vo + 1 by omega)
  refine does_of_run (args := [_]) Tryz.func51 rfl rfl ?_
  refine r_seq ?_
  refine r_region rfl ?_
  refine o_act rfl rfl rfl rfl (a_box rfl) ?_
  rintro v' H' ⟨s0, rfl, rfl⟩
  refine o_val rfl rfl rfl rfl (v_assign rfl) ?_
  refine o_end ?_
  refine r_seq ?_
  refine r_region rfl ?_
  refine o_val rfl rfl rfl rfl (v_build rfl rfl) ?_
  refine o_act rfl rfl rfl rfl (a_box rfl) ?_
  rintro v' H' ⟨a, rfl, rfl⟩
  refine j_heap (H' := .mem a [Bf.nil.val ([] : List UInt8).length] 1 :: (Bf.nil.ents 1 (bytesV []) ++ .mem s0 [.int .u64 t, .int .i64 vo] 2 :: Fr)) rfl ?_
  refine o_val rfl rfl rfl rfl (v_assign rfl) ?_
  refine o_end ?_
  refine r_seq ?_
  refine d_region 1000000 rfl ([.mem s0 [.int .u64 t, .int .i64 vo] 2]) ?_
  refine d_take (i := 0) rfl rfl rfl (by decide +kernel) (by decide +kernel) (by decide +kernel) (Fz.le_refl _) (by intro e he; simp only [List.mem_cons, List.not_mem_nil, or_false] at he; subst he; simp) rfl (v_move rfl) ?_
  refine d_take (i := 1) rfl rfl rfl (by decide +kernel) (by decide +kernel) (by decide +kernel) (Fz.le_refl _) (by intro e he; simp only [List.mem_cons, List.not_mem_nil, or_false] at he; subst he; simp) rfl (v_field (k := 0) rfl rfl rfl) ?_
  refine d_take (i := 2) rfl rfl rfl (by decide +kernel) (by decide +kernel) (by decide +kernel) (Fz.le_refl _) (by intro e he; simp only [List.mem_cons, List.not_mem_nil, or_false] at he; subst he; simp) rfl (v_load (v := .int .u64 t) rfl rfl (cell_at (j := 0) rfl rfl)) ?_
  refine d_take (i := 4) rfl rfl rfl (by decide +kernel) (by decide +kernel) (by decide +kernel) (Fz.le_refl _) (by intro e he; simp only [List.mem_cons, List.not_mem_nil, or_false] at he; subst he; simp) rfl (v_field (k := 1) rfl rfl rfl) ?_
  refine d_take (i := 5) rfl rfl rfl (by decide +kernel) (by decide +kernel) (by decide +kernel) (Fz.le_refl _) (by intro e he; simp only [List.mem_cons, List.not_mem_nil, or_false] at he; subst he; simp) rfl (v_load (v := .int .i64 vo) rfl rfl (cell_at (j := 0) rfl rfl)) ?_
  refine d_take (i := 6) rfl rfl rfl (by decide +kernel) (by decide +kernel) (by decide +kernel) (Fz.le_refl _) (by intro e he; simp only [List.mem_cons, List.not_mem_nil, or_false] at he; subst he; simp) rfl (v_add rfl rfl (r := (w : Int)) ((wrap_i64 (by omega) (by omega)).trans (by omega))) ?_
  refine d_take (i := 7) rfl rfl rfl (by decide +kernel) (by decide +kernel) (by decide +kernel) (Fz.le_refl _) (by intro e he; simp only [List.mem_cons, List.not_mem_nil, or_false] at he; subst he; simp) rfl (v_conv rfl rfl rfl (wrap_u64 (by omega) (by omega))) ?_
  refine d_one (i := 3) (by decide +kernel) ?_
  refine d1_call rfl rfl rfl rfl (c_call callable92 rfl) (oct_Num _ _ a .nil [] t 8 _ rfl (by omega) (by simp)) ?_
  rintro v' F H' ⟨rfl, rfl, b1, ok1, rfl⟩ _
  refine ⟨fun w hw => held_of hw (by first | exact Fz.le_refl _ | assumption) (by intro e he; simp only [List.mem_cons, List.not_mem_nil, or_false] at he; subst he; simp), ?_⟩
  refine d_one (i := 8) (by decide +kernel) ?_
  refine d1_call rfl rfl rfl rfl (c_call callable92 rfl) (oct_Num _ _ a b1 _ w 2 _ ok1 (by omega) (by simp)) ?_
  rintro v' F H' ⟨rfl, rfl, b2, ok2, rfl⟩ _
  refine ⟨fun w hw => held_of hw (by first | exact Fz.le_refl _ | assumption) (by intro e he; simp only [List.mem_cons, List.not_mem_nil, or_false] at he; subst he; simp), ?_⟩
  refine d_one (i := 9) (by decide +kernel) ?_
  refine d1_call rfl rfl rfl rfl (c_call callable94 rfl) (oct_Done _ _ _ _ _) ?_
  rintro v' F H' ⟨rfl, rfl, rfl⟩ _
  refine ⟨fun w hw => held_of hw (by first | exact Fz.le_refl _ | assumption) (by intro e he; simp only [List.mem_cons, List.not_mem_nil, or_false] at he; subst he; simp), ?_⟩
  simp only [List.nil_append] at ok2 ⊢
  refine d_take (i := 10) rfl rfl rfl (by decide +kernel) (by decide +kernel) (by decide +kernel) (Fz.le_refl _) (by intro e he; simp only [List.mem_cons, List.not_mem_nil, or_false] at he; subst he; simp) rfl (v_assign rfl) ?_
  refine d_end (by decide +kernel) ?_
  refine j_sel (H' := b2.ents 1 (bytesV (leB 8 t ++ leB 2 w)) ++ (Fr)) [[Ent.mem a [b2.val (leB 8 t ++ leB 2 w).length] 1], b2.ents 1 (bytesV (leB 8 t ++ leB 2 w)), [Ent.mem s0 [.int .u64 t, .int .i64 vo] 2], Fr] [1, 3] rfl rfl rfl ?_
  rw [hw]
  exact r_ret1 Tryz.func51 rfl rfl ⟨⟨rfl, b2, by simpa using ok2, by simp, rfl⟩, Fz.le_refl _⟩
theorem wal_entry (O : World) (F : Fz) (e : En) (Fr : List Ent) (he : e.ok F) :
    Does Tryz.prog O 52 #[.agg e.cells.toArray] F Fr (fun r F' H' => F' = F ∧ ∃ bf : Bf, bf.ok (entP e.ix e.tm e.kd e.data).length ∧ r = bf.val (entP e.ix e.tm e.kd e.data).length ∧ H' = bf.ents 1 (bytesV (entP e.ix e.tm e.kd e.data)) ++ Fr) := by
  obtain ⟨h1, h2, h3, h4, h5⟩ := he
  obtain ⟨ix, tm, kd, dv, data⟩ := e
  dsimp only at *
  refine does_of_run (args := [_]) Tryz.func52 rfl rfl ?_
  refine r_seq ?_
  refine r_region rfl ?_
  refine o_act rfl rfl rfl rfl (a_box rfl) ?_
  rintro v' H' ⟨s0, rfl, rfl⟩
  refine o_val rfl rfl rfl rfl (v_assign rfl) ?_
  refine o_end ?_
  refine r_seq ?_
  refine r_region rfl ?_
  refine o_val rfl rfl rfl rfl (v_build rfl rfl) ?_
  refine o_act rfl rfl rfl rfl (a_box rfl) ?_
  rintro v' H' ⟨a, rfl, rfl⟩
  refine j_heap (H' := .mem a [Bf.nil.val ([] : List UInt8).length] 1 :: (Bf.nil.ents 1 (bytesV []) ++ .mem s0 [.int .u64 ix, .int .u64 tm, .int .u8 kd, dv] 4 :: Fr)) rfl ?_
  refine o_val rfl rfl rfl rfl (v_assign rfl) ?_
  refine o_end ?_
  refine r_seq ?_
  refine d_region 1000000 rfl ([.mem s0 [.int .u64 ix, .int .u64 tm, .int .u8 kd, dv] 4]) ?_
  refine d_take (i := 0) rfl rfl rfl (by decide +kernel) (by decide +kernel) (by decide +kernel) (Fz.le_refl _) (by intro e he; simp only [List.mem_cons, List.not_mem_nil, or_false] at he; subst he; simp) rfl (v_move rfl) ?_
  refine d_take (i := 1) rfl rfl rfl (by decide +kernel) (by decide +kernel) (by decide +kernel) (Fz.le_refl _) (by intro e he; simp only [List.mem_cons, List.not_mem_nil, or_false] at he; subst he; simp) rfl (v_field (k := 0) rfl rfl rfl) ?_
  refine d_take (i := 2) rfl rfl rfl (by decide +kernel) (by decide +kernel) (by decide +kernel) (Fz.le_refl _) (by intro e he; simp only [List.mem_cons, List.not_mem_nil, or_false] at he; subst he; simp) rfl (v_load (v := .int .u64 ix) rfl rfl (cell_at (j := 0) rfl rfl)) ?_
  refine d_take (i := 4) rfl rfl rfl (by decide +kernel) (by decide +kernel) (by decide +kernel) (Fz.le_refl _) (by intro e he; simp only [List.mem_cons, List.not_mem_nil, or_false] at he; subst he; simp) rfl (v_field (k := 1) rfl rfl rfl) ?_
  refine d_take (i := 5) rfl rfl rfl (by decide +kernel) (by decide +kernel) (by decide +kernel) (Fz.le_refl _) (by intro e he; simp only [List.mem_cons, List.not_mem_nil, or_false] at he; subst he; simp) rfl (v_load (v := .int .u64 tm) rfl rfl (cell_at (j := 0) rfl rfl)) ?_
  refine d_take (i := 7) rfl rfl rfl (by decide +kernel) (by decide +kernel) (by decide +kernel) (Fz.le_refl _) (by intro e he; simp only [List.mem_cons, List.not_mem_nil, or_false] at he; subst he; simp) rfl (v_field (k := 2) rfl rfl rfl) ?_
  refine d_take (i := 8) rfl rfl rfl (by decide +kernel) (by decide +kernel) (by decide +kernel) (Fz.le_refl _) (by intro e he; simp only [List.mem_cons, List.not_mem_nil, or_false] at he; subst he; simp) rfl (v_load (v := .int .u8 kd) rfl rfl (cell_at (j := 0) rfl rfl)) ?_
  refine d_take (i := 9) rfl rfl rfl (by decide +kernel) (by decide +kernel) (by decide +kernel) (Fz.le_refl _) (by intro e he; simp only [List.mem_cons, List.not_mem_nil, or_false] at he; subst he; simp) rfl (v_conv rfl rfl rfl (wrap_u64 (by omega) (by omega))) ?_
  refine d_take (i := 11) rfl rfl rfl (by decide +kernel) (by decide +kernel) (by decide +kernel) (Fz.le_refl _) (by intro e he; simp only [List.mem_cons, List.not_mem_nil, or_false] at he; subst he; simp) rfl (v_field (k := 3) rfl rfl rfl) ?_
  refine d_take (i := 12) rfl rfl rfl (by decide +kernel) (by decide +kernel) (by decide +kernel) (Fz.le_refl _) (by intro e he; simp only [List.mem_cons, List.not_mem_nil, or_false] at he; subst he; simp) rfl (v_load (v := dv) rfl rfl (cell_at (j := 0) rfl rfl)) ?_
  refine d_one (i := 3) (by decide +kernel) ?_
  refine d1_call rfl rfl rfl rfl (c_call callable92 rfl) (oct_Num _ _ a .nil [] ix 8 _ rfl (by omega) (by simp)) ?_
  rintro v' F H' ⟨rfl, rfl, b1, ok1, rfl⟩ _
  refine ⟨fun w hw => held_of hw (by first | exact Fz.le_refl _ | assumption) (by intro e he; simp only [List.mem_cons, List.not_mem_nil, or_false] at he; subst he; simp), ?_⟩
  refine d_one (i := 6) (by decide +kernel) ?_
  refine d1_call rfl rfl rfl rfl (c_call callable92 rfl) (oct_Num _ _ a b1 _ tm 8 _ ok1 (by omega) (by simp)) ?_
  rintro v' F H' ⟨rfl, rfl, b2, ok2, rfl⟩ _
  refine ⟨fun w hw => held_of hw (by first | exact Fz.le_refl _ | assumption) (by intro e he; simp only [List.mem_cons, List.not_mem_nil, or_false] at he; subst he; simp), ?_⟩
  refine d_one (i := 10) (by decide +kernel) ?_
  refine d1_call rfl rfl rfl rfl (c_call callable92 rfl) (oct_Num _ _ a b2 _ kd 1 _ ok2 (by omega) (by simp)) ?_
  rintro v' F H' ⟨rfl, rfl, b3, ok3, rfl⟩ _
  refine ⟨fun w hw => held_of hw (by first | exact Fz.le_refl _ | assumption) (by intro e he; simp only [List.mem_cons, List.not_mem_nil, or_false] at he; subst he; simp), ?_⟩
  refine d_one (i := 13) (by decide +kernel) ?_
  refine d1_call rfl rfl rfl rfl (c_call callable95 rfl) (oct_WBytes _ _ a b3 _ data dv _ ok3 (h4.frz (Fz.le_refl _)) (by simp; omega)) ?_
  rintro v' F H' ⟨rfl, rfl, b4, ok4, rfl⟩ _
  refine ⟨fun w hw => held_of hw (by first | exact Fz.le_refl _ | assumption) (by intro e he; simp only [List.mem_cons, List.not_mem_nil, or_false] at he; subst he; simp), ?_⟩
  refine d_one (i := 14) (by decide +kernel) ?_
  refine d1_call rfl rfl rfl rfl (c_call callable94 rfl) (oct_Done _ _ _ _ _) ?_
  rintro v' F H' ⟨rfl, rfl, rfl⟩ _
  refine ⟨fun w hw => held_of hw (by first | exact Fz.le_refl _ | assumption) (by intro e he; simp only [List.mem_cons, List.not_mem_nil, or_false] at he; subst he; simp), ?_⟩
  simp only [List.nil_append] at ok4 ⊢
  refine d_take (i := 15) rfl rfl rfl (by decide +kernel) (by decide +kernel) (by decide +kernel) (Fz.le_refl _) (by intro e he; simp only [List.mem_cons, List.not_mem_nil, or_false] at he; subst he; simp) rfl (v_assign rfl) ?_
  refine d_end (by decide +kernel) ?_
  have e4 : leB 8 ix ++ leB 8 tm ++ leB 1 kd ++ lenB data = entP ix tm kd data := rfl
  rw [e4] at ok4 ⊢
  refine j_sel (H' := b4.ents 1 (bytesV (entP ix tm kd data)) ++ (Fr)) [[Ent.mem a [b4.val (entP ix tm kd data).length] 1], b4.ents 1 (bytesV (entP ix tm kd data)), [Ent.mem s0 [.int .u64 ix, .int .u64 tm, .int .u8 kd, dv] 4], Fr] [1, 3] rfl rfl rfl ?_
  exact r_ret1 Tryz.func52 rfl rfl ⟨⟨rfl, b4, ok4, rfl, rfl⟩, Fz.le_refl _⟩
theorem wal_Bytes (O : World) (F : Fz) (h : Bool) (t : Nat) (vo : Int) (lv : Value) (l : List En) (Fr : List Ent) (hv : Sl F Fr 4 lv l.length (enV l)) (hl : ∀ e ∈ l, e.ok F) (hn : l.length ≤ 1000) (h1 : -1 ≤ vo) (h2 : vo < 65535) :
    Does Tryz.prog O 19 #[.agg #[.bool h, .int .u64 t, .int .i64 vo, lv]] F Fr (fun r F' H' => F' = F ∧ ∃ bf : Bf, bf.ok (saveB h t vo (l.map En.pure)).length ∧ r = bf.val (saveB h t vo (l.map En.pure)).length ∧ H' = bf.ents 1 (bytesV (saveB h t vo (l.map En.pure))) ++ Fr) := by
  obtain ⟨a0, cap, rfl, hcap⟩ := Sl.shape hv
  have hle : ∀ i, (entsB ((l.take i).map En.pure)).length ≤ 1048700000 := fun i => by
    have := entsB_le (l.take i) fun e he => hl e (List.mem_of_mem_take he)
    have h3 : (l.take i).length ≤ 1000 := by simp; omega
    have := Nat.mul_le_mul_right 1048700 h3
    omega
  have hhl := hdrB_le h t vo
  refine does_of_run (args := [_]) Tryz.func19 rfl rfl ?_
  refine r_seq ?_
  refine r_region rfl ?_
  refine o_act rfl rfl rfl rfl (a_box rfl) ?_
  rintro v' H' ⟨s0, rfl, rfl⟩
  refine j_heap (H' := .mem s0 [.bool h, .int .u64 t, .int .i64 vo, .slice a0 l.length cap] 4 :: (Bf.nil.ents 1 (bytesV []) ++ Fr)) rfl ?_
  refine o_val rfl rfl rfl rfl (v_assign rfl) ?_
  refine o_end ?_
  refine r_seq ?_
  refine r_region rfl ?_
  refine o_val rfl rfl rfl rfl (v_assign rfl) ?_
  refine o_end ?_
  refine r_seq ?_
  refine r_join (fun bf : Bf => bf.ok (hdrB h t vo).length) (fun bf => [(1, ptrV s0), (3, bf.val (hdrB h t vo).length)]) (fun _ => F) (fun bf => .mem s0 [.bool h, .int .u64 t, .int .i64 vo, .slice a0 l.length cap] 4 :: (bf.ents 1 (bytesV (hdrB h t vo)) ++ Fr)) ?_ ?_
  · intro J
    refine r_seq ?_
    refine r_region rfl ?_
    refine o_val rfl rfl rfl rfl (v_field (k := 0) rfl rfl rfl) ?_
    refine o_val rfl rfl rfl rfl (v_load (v := .bool h) rfl rfl (cell_at (j := 0) rfl rfl)) ?_
    refine o_end ?_
    cases h with
    | true =>
      refine r_true rfl ?_
      refine r_region rfl ?_
      refine o_val rfl rfl rfl rfl (v_move rfl) ?_
      refine o_val rfl rfl rfl rfl (v_field (k := 1) rfl rfl rfl) ?_
      refine o_val rfl rfl rfl rfl (v_loadAgg (sz := 2) (cs := [.int .u64 t, .int .i64 vo]) rfl rfl rfl rfl (cells_ofp (j := 0) _ _ rfl rfl)) ?_
      refine o_call rfl rfl rfl rfl (c_call callable51 rfl) (wal_hard _ _ t vo _ h1 h2) ?_
      rintro v' F H' ⟨rfl, b1, ok1, rfl, rfl⟩ _
      have e1 : (hardP t (vo + 1).toNat).length = 10 := by simp
      rw [← e1] at ok1 ⊢
      refine o_call rfl rfl rfl rfl (c_call callable50 rfl) (wal_frame _ _ 1 _ (hardP t (vo + 1).toNat) _ (by decide) (bf_reads ok1 (by intro q hq; exact List.mem_append_left _ hq)) (by simp)) ?_
      rintro v' F H' ⟨rfl, b2, ok2, rfl, rfl⟩ _
      have e2 : hdrB true t vo = recB 1 (hardP t (vo + 1).toNat) := rfl
      rw [← e2] at ok2 ⊢
      refine j_sel (H' := Ent.mem s0 [.bool true, .int .u64 t, .int .i64 vo, .slice a0 l.length cap] 4 :: (b2.ents 1 (bytesV (hdrB true t vo)) ++ (Fr))) [b2.ents 1 (bytesV (hdrB true t vo)), b1.ents 1 (bytesV (hardP t (vo + 1).toNat)), [Ent.mem s0 [.bool true, .int .u64 t, .int .i64 vo, .slice a0 l.length cap] 4], Fr] [2, 0, 3] rfl rfl rfl ?_
      have r2 : SlB F (b2.ents 1 (bytesV (hdrB true t vo)) ++ Fr) (b2.val (hdrB true t vo).length) (hdrB true t vo) := bf_reads ok2 (by intro q hq; exact List.mem_append_left _ hq)
      refine o_act rfl rfl rfl rfl (a_appendP (bf := .nil) (n := 0) (xs := []) (sz := 1) (bytes := 1) (m := (hdrB true t vo).length) (H1 := b2.ents 1 (bytesV (hdrB true t vo)) ++ Fr) [_] ⟨⟨_, _, _, rfl, rfl, rfl, rfl, rfl, rfl⟩, by decide⟩ rfl rfl rfl rfl rfl (r2.mono (Fz.le_refl _) (by intro q hq; exact List.mem_cons_of_mem _ hq)) (bytes_one _) (by unfold maxLen; omega) (by omega)) ?_
      rintro v' H' ⟨b3, rfl, ok3, rfl⟩
      rw [List.nil_append]
      rw [Nat.zero_add] at ok3 ⊢
      refine j_sel (H' := Ent.mem s0 [.bool true, .int .u64 t, .int .i64 vo, .slice a0 l.length cap] 4 :: (b3.ents 1 (bytesV (hdrB true t vo)) ++ (Fr))) [[Ent.mem s0 [.bool true, .int .u64 t, .int .i64 vo, .slice a0 l.length cap] 4], b3.ents 1 (bytesV (hdrB true t vo)), b2.ents 1 (bytesV (hdrB true t vo)), Fr] [0, 1, 3] rfl rfl rfl ?_
      refine o_val rfl rfl rfl rfl (v_assign rfl) ?_
      refine o_end ?_
      refine j_keep ?_ (J b3 ok3)
      exact ⟨rfl, rfl, trivial⟩
    | false =>
      refine r_false rfl ?_
      refine r_skip ?_
      refine j_keep ?_ (J .nil rfl)
      exact ⟨rfl, rfl, trivial⟩
  · rintro bf hbf
    refine r_seq ?_
    refine r_seq ?_
    refine r_region rfl ?_
    refine o_val rfl rfl rfl rfl (v_field (k := 3) rfl rfl rfl) ?_
    refine o_val rfl rfl rfl rfl (v_load (v := .slice a0 l.length cap) rfl rfl (cell_at (j := 0) rfl rfl)) ?_
    refine o_val rfl rfl rfl rfl (v_len rfl rfl) ?_
    refine o_val rfl rfl rfl rfl (v_move rfl) ?_
    refine o_end ?_
    refine r_block ?_
    refine j_drop (List.sublist_cons_self _ _) ?_
    have hz : hdrB h t vo ++ entsB ((l.take 0).map En.pure) = hdrB h t vo := by simp
    refine r_loop (fun g : Nat × Bf => g.1 ≤ l.length ∧ g.2.ok (hdrB h t vo ++ entsB ((l.take g.1).map En.pure)).length) (fun g => [(3, g.2.val (hdrB h t vo ++ entsB ((l.take g.1).map En.pure)).length), (15, .slice a0 l.length cap), (16, .int .i64 l.length), (17, .int .i64 g.1)]) (fun _ => F) (fun g => g.2.ents 1 (bytesV (hdrB h t vo ++ entsB ((l.take g.1).map En.pure))) ++ Fr) (fun g => l.length - g.1) (0, bf) ⟨Nat.zero_le _, by dsimp only; rw [hz]; exact hbf⟩ ⟨by dsimp only; rw [hz]; rfl, rfl, rfl, rfl, trivial⟩ rfl (by dsimp only; rw [hz]) ?_
    rintro ⟨i, bg⟩ ⟨hi, hok⟩ IH
    dsimp only at hi hok ⊢
    have hll : (hdrB h t vo ++ entsB ((l.take i).map En.pure)).length ≤ 1048700019 := by
      have := hle i
      simp only [List.length_append]
      omega
    refine r_seq ?_
    refine r_region rfl ?_
    refine o_val rfl rfl rfl rfl (v_lss rfl rfl) ?_
    refine o_end ?_
    refine r_seq ?_
    refine r_if rfl (fun g => ?_) (fun g => ?_)
    · have hil : i < l.length := by omega
      obtain ⟨b0, off0, c0, hab, hc⟩ := sl_cells hv hil
      simp only [Value.slice.injEq] at hab
      obtain ⟨rfl, _, rfl⟩ := hab
      have he := hl l[i] (List.getElem_mem _)
      have htk : hdrB h t vo ++ entsB ((l.take (i + 1)).map En.pure) = (hdrB h t vo ++ entsB ((l.take i).map En.pure)) ++ (PE.bs l[i].pure) := by
        rw [List.take_succ_eq_append_getElem hil]
        simp only [List.map_append, List.map_cons, List.map_nil, entsB, List.flatMap_append, List.flatMap_cons, List.flatMap_nil, List.append_nil, List.append_assoc]
      have hpl : (PE.bs l[i].pure).length = l[i].data.length + 30 := by simp [PE.bs, En.pure]; omega
      have hdl := he.len
      generalize hdrB h t vo ++ entsB ((l.take i).map En.pure) = pre at *
      generalize l[i] = e at *
      refine r_skip ?_
      refine r_seq ?_
      refine r_block ?_
      refine r_seq ?_
      refine r_region rfl ?_
      refine o_val rfl rfl rfl rfl (v_indexN (sz := 4) rfl rfl rfl rfl hil) ?_
      refine o_val rfl rfl rfl rfl (v_loadAgg (sz := 4) (cs := e.cells) rfl rfl rfl rfl (fun j c hj => (hc j c hj).mono (Fz.le_refl _) (fun q hq => List.mem_append_right _ hq))) ?_
      refine o_act rfl rfl rfl rfl (a_alloc rfl) ?_
      rintro v' H' ⟨x, rfl, rfl⟩
      refine o_act0 rfl rfl rfl (a_store (sz := 4) 0 rfl rfl rfl (by obtain ⟨ad, cd, hd, _⟩ := Sl.shape he.dv; simp [Value.cells, En.cells, hd, oneCellB]) rfl rfl (Nat.le_of_ble_eq_true rfl)) ?_
      refine j_heap (H' := .mem x e.cells 4 :: (bg.ents 1 (bytesV pre) ++ Fr)) rfl ?_
      refine o_end ?_
      refine r_region rfl ?_
      refine o_val rfl rfl rfl rfl (v_move rfl) ?_
      refine o_val rfl rfl rfl rfl (v_loadAgg (sz := 4) (cs := e.cells) rfl rfl rfl rfl (cells_ofp (j := 0) _ _ rfl rfl)) ?_
      refine o_call rfl rfl rfl rfl (c_call callable52 rfl) (wal_entry _ _ e _ he) ?_
      rintro v' F H' ⟨rfl, b1, ok1, rfl, rfl⟩ _
      refine o_call rfl rfl rfl rfl (c_call callable50 rfl) (wal_frame _ _ 2 _ (entP e.ix e.tm e.kd e.data) _ (by decide) (bf_reads ok1 (by intro q hq; exact List.mem_append_left _ hq)) (by simp; omega)) ?_
      rintro v' F H' ⟨rfl, b2, ok2, rfl, rfl⟩ _
      have e2 : recB 2 (entP e.ix e.tm e.kd e.data) = PE.bs e.pure := rfl
      rw [e2] at ok2 ⊢
      refine j_sel (H' := bg.ents 1 (bytesV pre) ++ (b2.ents 1 (bytesV (PE.bs e.pure)) ++ (Fr))) [b2.ents 1 (bytesV (PE.bs e.pure)), b1.ents 1 (bytesV (entP e.ix e.tm e.kd e.data)), [Ent.mem x e.cells 4], bg.ents 1 (bytesV pre), Fr] [3, 0, 4] rfl rfl rfl ?_
      have r2 : SlB F (b2.ents 1 (bytesV (PE.bs e.pure)) ++ Fr) (b2.val (PE.bs e.pure).length) (PE.bs e.pure) := bf_reads ok2 (by intro q hq; exact List.mem_append_left _ hq)
      refine o_act rfl rfl rfl rfl (a_append (bf := bg) (sz := 1) (bytes := 1) (m := (PE.bs e.pure).length) ⟨⟨_, _, _, rfl, rfl, rfl, rfl, rfl, rfl⟩, by decide⟩ rfl hok (by simp) rfl rfl (r2.mono (Fz.le_refl _) (by intro q hq; exact List.mem_append_right _ hq)) (bytes_one _) (by unfold maxLen; omega) (by omega)) ?_
      rintro v' H' ⟨b3, rfl, ok3, rfl⟩
      rw [← List.length_append, ← htk] at ok3 ⊢
      rw [← bytesV_append, ← htk]
      refine j_sel (H' := b3.ents 1 (bytesV (hdrB h t vo ++ entsB ((l.take (i + 1)).map En.pure))) ++ (Fr)) [b3.ents 1 (bytesV (hdrB h t vo ++ entsB ((l.take (i + 1)).map En.pure))), b2.ents 1 (bytesV (PE.bs e.pure)), Fr] [0, 2] rfl rfl rfl ?_
      refine o_val rfl rfl rfl rfl (v_assign rfl) ?_
      refine o_end ?_
      refine r_inBlock ?_
      refine r_region rfl ?_
      refine o_val rfl rfl rfl rfl (v_add rfl rfl (wrap_i64 (by omega) (by omega))) ?_
      refine o_val rfl rfl rfl rfl (v_move rfl) ?_
      refine o_end ?_
      refine j_keep ?_ (IH (i + 1, b3) ⟨by dsimp only; omega, ok3⟩ (by dsimp only; omega))
      exact ⟨rfl, rfl, rfl, rfl, trivial⟩
    · obtain rfl : i = l.length := by omega
      rw [List.take_length] at hok ⊢
      refine r_exit rfl ?_
      refine r_seq ?_
      refine r_region rfl ?_
      refine o_val rfl rfl rfl rfl (v_move rfl) ?_
      refine o_val rfl rfl rfl rfl (v_assign rfl) ?_
      refine o_end ?_
      exact r_ret1 Tryz.func19 rfl rfl ⟨⟨rfl, bg, hok, rfl, rfl⟩, Fz.le_refl _⟩
/-- An image: what it says, and the values of its slices. -/
structure Im where
  term : Nat
  vote : Int
  ix : Nat
  tm : Nat
  vt : Nat
  dv : Value
  data : List UInt8
  lv : Value
  l : List En
def Im.cells (p : Im) : List Value := [.int .u64 p.term, .int .i64 p.vote, .int .u64 p.ix, .int .u64 p.tm, .int .u64 p.vt, p.dv, p.lv]
structure Im.ok (F : Fz) (p : Im) : Prop where
  term : p.term < 18446744073709551616
  vote1 : -1 ≤ p.vote
  vote2 : p.vote < 65535
  ix : p.ix < 18446744073709551616
  tm : p.tm < 18446744073709551616
  vt : p.vt < 18446744073709551616
  dv : SlB F [] p.dv p.data
  dl : p.data.length ≤ 1048576
  lv : Sl F [] 4 p.lv p.l.length (enV p.l)
  l : ∀ e ∈ p.l, e.ok F
theorem Im.ok.frz {F F' : Fz} {p : Im} (h : p.ok F) (hF : F.le F') : p.ok F' := ⟨h.term, h.vote1, h.vote2, h.ix, h.tm, h.vt, h.dv.frz hF, h.dl, h.lv.frz hF, fun e he => (h.l e he).frz hF⟩
theorem Im.ok.one {F : Fz} {p : Im} (h : p.ok F) : p.cells.all oneCellB = true := by
  obtain ⟨a, c, hd, _⟩ := Sl.shape h.dv
  obtain ⟨a', c', hd', _⟩ := Sl.shape h.lv
  simp [Im.cells, hd, hd', oneCellB]
structure PI where
  term : Nat
  vote : Int
  ix : Nat
  tm : Nat
  vt : Nat
  data : List UInt8
  l : List PE
def Im.pure (p : Im) : PI := ⟨p.term, p.vote, p.ix, p.tm, p.vt, p.data, p.l.map En.pure⟩
theorem saveB_le {F : Fz} (h : Bool) (t : Nat) (vo : Int) (l : List En) (hl : ∀ e ∈ l, e.ok F) (hn : l.length ≤ 1000) : (saveB h t vo (l.map En.pure)).length ≤ 1048700019 := by
  have h1 := entsB_le l hl
  have h2 := hdrB_le h t vo
  have := Nat.mul_le_mul_right 1048700 hn
  simp only [saveB, List.length_append]
  omega
end Go.SX
namespace Go.SX
open Go Go.Proofs
set_option maxRecDepth 4000
set_option linter.unusedSimpArgs false
set_option linter.unusedVariables false
theorem sliced0 (a : Option Addr) (h m sz : Nat) : Go.sliced a 0 h m sz = .slice a h m := by
  cases a with
  | none => simp [Go.sliced]
  | some x => simp [Go.sliced, Addr.add]
theorem Sl.cut4 {F : Fz} {H : List Ent} {a : Option Addr} {n cap k c : Nat} {l : List En} (hv : Sl F H 4 (.slice a n cap) l.length (enV l)) (hk : k ≤ l.length) (hc : k ≤ c) (hc2 : c ≤ cap) : Sl F H 4 (.slice a k c) (l.take k).length (enV (l.take k)) := by
  have hl : (l.take k).length = k := by simp; omega
  have hlen := hv.len
  obtain ⟨a', cap', h1, h2, h3, h4, h5⟩ := hv
  simp only [Value.slice.injEq] at h1
  obtain ⟨rfl, rfl, rfl⟩ := h1
  refine ⟨a, c, by rw [hl], en_len _, by rw [hl]; exact hc, fun ha => ?_, fun i q hq => ?_⟩
  · have := h4 ha
    omega
  · refine h5 i q ?_
    have : enV (l.take k) = (enV l).take (k * 4) := (vec_take (c := En.cells) En.cl l k hk).symm
    rw [this, List.getElem?_take] at hq
    split at hq
    · exact hq
    · cases hq
def takeB (b : List UInt8) : Option (Nat × List UInt8 × List UInt8) :=
  if b.length < 5 then none else
  if 1048576 < leN (b.take 4) ∨ b.length < leN (b.take 4) + 9 then none else
  if (openB (b.take (leN (b.take 4) + 9))).1 = 0 then some (leN ((b.drop 4).take 1), (openB (b.take (leN (b.take 4) + 9))).2.drop 5, b.drop (leN (b.take 4) + 9)) else none
theorem rdNum_ok {l : List UInt8} {n : Nat} (h : n ≤ l.length) (h8 : n ≤ 8) : rdNum l false n = (leN (l.take n), l.drop n, false) := by
  unfold rdNum
  rw [if_neg (by simp; omega)]
  simp
  congr 2
  omega
theorem rdNum_bad {l : List UInt8} {n : Nat} {b : Bool} (h : l.length < n ∨ b = true) : rdNum l b n = (0, l, true) := by
  unfold rdNum
  rw [if_pos]
  rcases h with h | h
  · right; right; omega
  · left; exact h
theorem openB_len {l : List UInt8} (h : 4 ≤ l.length) (h0 : (openB l).1 = 0) : (openB l).2.length = l.length - 4 := by
  unfold openB at *
  rw [if_neg (by omega)] at *
  split at h0
  · rename_i h1; rw [if_pos h1]; simp
  · cases h0
theorem wal_take (O : World) (F : Fz) (v : Value) (b : List UInt8) (Fr : List Ent) (hv : SlB F [] v b) (hl : b.length ≤ 140737488350000) :
    Does Tryz.prog O 54 #[v] F Fr (fun r F' H' => F' = F ∧ H' = Fr ∧ ((takeB b = none ∧ r = .tuple #[.int .u8 0, .slice none 0 0, .slice none 0 0, .bool false]) ∨ ∃ k d rest v1 v2, takeB b = some (k, d, rest) ∧ k < 256 ∧ r = .tuple #[.int .u8 k, v1, v2, .bool true] ∧ SlB F [] v1 d ∧ SlB F [] v2 rest)) := by
  obtain ⟨a0, cap, rfl, hcap⟩ := Sl.shape hv
  refine does_of_run (args := [_]) Tryz.func54 rfl rfl ?_
  have hlt1 : (rdNum (rdNum b false 4).2.1 (rdNum b false 4).2.2 1).1 < 256 := rdNum_lt _ _ 1
  have hlt0 : (rdNum b false 4).1 < 4294967296 := rdNum_lt b false 4
  have hln0 := rdNum_len b false 4
  refine r_seq ?_
  refine r_region rfl ?_
  refine o_val rfl rfl rfl rfl (v_assign rfl) ?_
  refine o_val rfl rfl rfl rfl (v_assign rfl) ?_
  refine o_val rfl rfl rfl rfl (v_assign rfl) ?_
  refine o_val rfl rfl rfl rfl (v_assign rfl) ?_
  refine o_end ?_
  refine r_seq ?_
  refine r_region rfl ?_
  refine o_val rfl rfl rfl rfl (v_move rfl) ?_
  refine o_call rfl rfl rfl rfl (c_call callable96 rfl) (oct_Read _ _ _ b _ hv) ?_
  rintro v' F H' ⟨rfl, a, rfl, rfl⟩ _
  refine o_val rfl rfl rfl rfl (v_assign rfl) ?_
  refine o_end ?_
  refine r_seq ?_
  refine r_region rfl ?_
  refine o_val rfl rfl rfl rfl (v_move rfl) ?_
  refine o_call rfl rfl rfl rfl (c_call callable97 rfl) (oct_RNum _ _ a _ b false 4 Fr hv (by omega)) ?_
  rintro v' F H' ⟨rfl, rfl, v1, hv1, rfl⟩ _
  refine o_val rfl rfl rfl rfl (v_move rfl) ?_
  refine o_call rfl rfl rfl rfl (c_call callable97 rfl) (oct_RNum _ _ a _ _ _ 1 Fr hv1 (by omega)) ?_
  rintro v' F H' ⟨rfl, rfl, v2, hv2, rfl⟩ _
  refine o_val rfl rfl rfl rfl (v_conv rfl rfl rfl (wrap_u8 (by omega) (by omega))) ?_
  refine o_val rfl rfl rfl rfl (v_assign rfl) ?_
  refine o_val rfl rfl rfl rfl (v_assign rfl) ?_
  refine o_end ?_
  refine r_seq ?_
  refine r_seq ?_
  refine r_region rfl ?_
  refine o_val rfl rfl rfl rfl (v_move rfl) ?_
  refine o_call rfl rfl rfl rfl (c_call callable98 rfl) (oct_RBad _ _ a _ _ Fr) ?_
  rintro v' F H' ⟨rfl, rfl, rfl⟩ _
  by_cases h5 : b.length < 5
  · have hb : (rdNum (rdNum b false 4).2.1 (rdNum b false 4).2.2 1).2.2 = true := by
      by_cases h4 : b.length < 4
      · have e1 : rdNum b false 4 = (0, b, true) := rdNum_bad (n := 4) (.inl h4)
        rw [e1]
        have e2 : rdNum b true 1 = (0, b, true) := rdNum_bad (n := 1) (.inr rfl)
        rw [e2]
      · have e1 : rdNum b false 4 = (leN (b.take 4), b.drop 4, false) := rdNum_ok (n := 4) (by omega) (by omega)
        rw [e1]
        have e2 : rdNum (b.drop 4) false 1 = (0, b.drop 4, true) := rdNum_bad (n := 1) (.inl (by simp; omega))
        rw [e2]
    rw [hb]
    refine o_val rfl rfl rfl rfl (v_move rfl) ?_
    refine o_skip rfl rfl rfl rfl ?_
    refine o_skip rfl rfl rfl rfl ?_
    refine o_val rfl rfl rfl rfl (v_pick1 rfl rfl) ?_
    refine o_val rfl rfl rfl rfl (v_move rfl) ?_
    refine o_skip rfl rfl rfl rfl ?_
    refine o_skip rfl rfl rfl rfl ?_
    refine o_skip rfl rfl rfl rfl ?_
    refine o_skip rfl rfl rfl rfl ?_
    refine o_skip rfl rfl rfl rfl ?_
    refine o_skip rfl rfl rfl rfl ?_
    refine o_val rfl rfl rfl rfl (v_pick1 rfl rfl) ?_
    refine o_end ?_
    refine r_true rfl ?_
    refine r_seq ?_
    refine r_region rfl ?_
    refine o_val rfl rfl rfl rfl (v_assign rfl) ?_
    refine o_val rfl rfl rfl rfl (v_assign rfl) ?_
    refine o_val rfl rfl rfl rfl (v_assign rfl) ?_
    refine o_val rfl rfl rfl rfl (v_assign rfl) ?_
    refine o_end ?_
    refine j_drop (List.sublist_cons_self _ _) ?_
    exact r_ret4 Tryz.func54 rfl rfl rfl rfl rfl ⟨⟨rfl, rfl, .inl ⟨by rw [takeB, if_pos h5], rfl⟩⟩, Fz.le_refl _⟩
  · have e1 : rdNum b false 4 = (leN (b.take 4), b.drop 4, false) := rdNum_ok (n := 4) (by omega) (by omega)
    have e2 : rdNum (b.drop 4) false 1 = (leN ((b.drop 4).take 1), (b.drop 4).drop 1, false) := rdNum_ok (n := 1) (by simp; omega) (by omega)
    rw [e1] at hlt1 hlt0 hln0 hv1 hv2 ⊢
    dsimp only at hlt1 hlt0 hln0 hv1 hv2 ⊢
    rw [e2] at hlt1 hv2 ⊢
    dsimp only at hlt1 hv2 ⊢
    rw [List.drop_drop] at hv2
    clear e1 e2
    have hkb : leN ((b.drop 4).take 1) < 256 := by omega
    have tk : takeB b = if 1048576 < leN (b.take 4) ∨ b.length < leN (b.take 4) + 9 then none else
      if (openB (b.take (leN (b.take 4) + 9))).1 = 0 then some (leN ((b.drop 4).take 1), (openB (b.take (leN (b.take 4) + 9))).2.drop 5, b.drop (leN (b.take 4) + 9)) else none := by rw [takeB, if_neg h5]
    have hdl : (b.drop (4 + 1)).length = b.length - 5 := by simp
    generalize leN (b.take 4) = n at *
    generalize leN ((b.drop 4).take 1) = k at *
    refine o_val rfl rfl rfl rfl (v_move rfl) ?_
    refine o_val rfl rfl rfl rfl (v_move rfl) ?_
    refine o_val rfl rfl rfl rfl (v_gtr rfl rfl) ?_
    refine o_val rfl rfl rfl rfl (v_pick0 rfl rfl) ?_
    refine j_prop 23 rfl (fun h1 => ?_) (fun h1 => ?_)
    · refine o_val rfl rfl rfl rfl (v_move rfl) ?_
      refine o_skip rfl rfl rfl rfl ?_
      refine o_skip rfl rfl rfl rfl ?_
      refine o_skip rfl rfl rfl rfl ?_
      refine o_skip rfl rfl rfl rfl ?_
      refine o_skip rfl rfl rfl rfl ?_
      refine o_skip rfl rfl rfl rfl ?_
      refine o_val rfl rfl rfl rfl (v_pick1 rfl rfl) ?_
      refine o_end ?_
      refine r_true rfl ?_
      refine r_seq ?_
      refine r_region rfl ?_
      refine o_val rfl rfl rfl rfl (v_assign rfl) ?_
      refine o_val rfl rfl rfl rfl (v_assign rfl) ?_
      refine o_val rfl rfl rfl rfl (v_assign rfl) ?_
      refine o_val rfl rfl rfl rfl (v_assign rfl) ?_
      refine o_end ?_
      refine j_drop (List.sublist_cons_self _ _) ?_
      exact r_ret4 Tryz.func54 rfl rfl rfl rfl rfl ⟨⟨rfl, rfl, .inl ⟨by rw [tk, if_pos (.inl (by omega))], rfl⟩⟩, Fz.le_refl _⟩
    · refine o_val rfl rfl rfl rfl (v_move rfl) ?_
      refine o_val rfl rfl rfl rfl (v_move rfl) ?_
      refine o_call rfl rfl rfl rfl (c_call callable99 rfl) (oct_RLeft _ _ a _ _ _ Fr hv2) ?_
      rintro v' F H' ⟨rfl, rfl, rfl⟩ _
      refine j_slot 26 rfl (v' := .int .i64 ((b.length - 5 : Nat) : Int)) (by simp) ?_
      refine o_val rfl rfl rfl rfl (v_conv rfl rfl rfl (wrap_u64 (by omega) (by omega))) ?_
      refine o_val rfl rfl rfl rfl (v_move rfl) ?_
      refine o_val rfl rfl rfl rfl (v_add rfl rfl (r := ((n + 4 : Nat) : Int)) (wrap_u64 (by omega) (by omega))) ?_
      refine o_val rfl rfl rfl rfl (v_lss rfl rfl) ?_
      refine o_val rfl rfl rfl rfl (v_pick0 rfl rfl) ?_
      refine o_end ?_
      refine j_drop (List.sublist_cons_self _ _) ?_
      refine r_if rfl (fun h2 => ?_) (fun h2 => ?_)
      · refine r_seq ?_
        refine r_region rfl ?_
        refine o_val rfl rfl rfl rfl (v_assign rfl) ?_
        refine o_val rfl rfl rfl rfl (v_assign rfl) ?_
        refine o_val rfl rfl rfl rfl (v_assign rfl) ?_
        refine o_val rfl rfl rfl rfl (v_assign rfl) ?_
        refine o_end ?_
        exact r_ret4 Tryz.func54 rfl rfl rfl rfl rfl ⟨⟨rfl, rfl, .inl ⟨by rw [tk, if_pos (.inr (by omega))], rfl⟩⟩, Fz.le_refl _⟩
      · have hn9 : n + 9 ≤ b.length := by omega
        rw [if_neg (by omega)] at tk
        refine r_skip ?_
        refine r_seq ?_
        refine r_region rfl ?_
        refine o_val rfl rfl rfl rfl (v_move rfl) ?_
        refine o_val rfl rfl rfl rfl (v_move rfl) ?_
        refine o_val rfl rfl rfl rfl (v_add rfl rfl (r := ((n + 9 : Nat) : Int)) (wrap_u64 (by omega) (by omega))) ?_
        refine o_val rfl rfl rfl rfl (v_sliceH (sz := 1) rfl rfl rfl rfl rfl (by omega)) ?_
        have hvt : SlB F [] (Go.sliced a0 0 (n + 9) cap 1) (b.take (n + 9)) := SlB.take hv hn9
        refine o_call rfl rfl rfl rfl (c_call callable100 rfl) (oct_Open _ _ _ (b.take (n + 9)) Fr hvt (by simp; omega)) ?_
        rintro v' F H' ⟨rfl, rfl, v3, rfl, hv3⟩ _
        refine o_val rfl rfl rfl rfl (v_move rfl) ?_
        refine o_val rfl rfl rfl rfl (v_extract rfl rfl) ?_
        refine o_val rfl rfl rfl rfl (v_extract rfl rfl) ?_
        refine o_val rfl rfl rfl rfl (v_assign rfl) ?_
        refine o_val rfl rfl rfl rfl (v_assign rfl) ?_
        refine o_end ?_
        refine r_seq ?_
        refine r_seq ?_
        refine r_region rfl ?_
        refine o_val rfl rfl rfl rfl (v_move rfl) ?_
        refine o_val rfl rfl rfl rfl (v_neq rfl rfl) ?_
        refine o_end ?_
        refine r_if rfl (fun h3 => ?_) (fun h3 => ?_)
        · rw [if_neg (by omega)] at tk
          refine r_seq ?_
          refine r_region rfl ?_
          refine o_val rfl rfl rfl rfl (v_assign rfl) ?_
          refine o_val rfl rfl rfl rfl (v_assign rfl) ?_
          refine o_val rfl rfl rfl rfl (v_assign rfl) ?_
          refine o_val rfl rfl rfl rfl (v_assign rfl) ?_
          refine o_end ?_
          exact r_ret4 Tryz.func54 rfl rfl rfl rfl rfl ⟨⟨rfl, rfl, .inl ⟨tk, rfl⟩⟩, Fz.le_refl _⟩
        · have h0 : (openB (b.take (n + 9))).1 = 0 := by omega
          rw [if_pos h0] at tk
          have hol := openB_len (l := b.take (n + 9)) (by simp; omega) h0
          have hol2 : (openB (b.take (n + 9))).2.length = n + 5 := by rw [hol]; simp; omega
          generalize openB (b.take (n + 9)) = q at *
          obtain ⟨a1, c1, rfl, hc1⟩ := Sl.shape hv3
          refine r_skip ?_
          refine r_seq ?_
          refine d_region 1000000 rfl ([]) ?_
          refine d_take (i := 0) rfl rfl rfl (by decide +kernel) (by decide +kernel) (by decide +kernel) (Fz.le_refl _) (by simp) rfl (v_move rfl) ?_
          refine d_take (i := 1) rfl rfl rfl (by decide +kernel) (by decide +kernel) (by decide +kernel) (Fz.le_refl _) (by simp) rfl (v_move rfl) ?_
          refine d_take (i := 2) rfl rfl rfl (by decide +kernel) (by decide +kernel) (by decide +kernel) (Fz.le_refl _) (by simp) rfl (v_sliceL (sz := 1) (l := 5) rfl rfl rfl rfl rfl (by omega)) ?_
          refine d_take (i := 3) rfl rfl rfl (by decide +kernel) (by decide +kernel) (by decide +kernel) (Fz.le_refl _) (by simp) rfl (v_move rfl) ?_
          refine d_take (i := 4) rfl rfl rfl (by decide +kernel) (by decide +kernel) (by decide +kernel) (Fz.le_refl _) (by simp) rfl (v_move rfl) ?_
          refine d_take (i := 5) rfl rfl rfl (by decide +kernel) (by decide +kernel) (by decide +kernel) (Fz.le_refl _) (by simp) rfl (v_add rfl rfl (r := ((n + 9 : Nat) : Int)) (wrap_u64 (by omega) (by omega))) ?_
          refine d_take (i := 6) rfl rfl rfl (by decide +kernel) (by decide +kernel) (by decide +kernel) (Fz.le_refl _) (by simp) rfl (v_sliceL (sz := 1) rfl rfl rfl rfl rfl (by omega)) ?_
          refine d_take (i := 7) rfl rfl rfl (by decide +kernel) (by decide +kernel) (by decide +kernel) (Fz.le_refl _) (by simp) rfl (v_assign rfl) ?_
          refine d_take (i := 8) rfl rfl rfl (by decide +kernel) (by decide +kernel) (by decide +kernel) (Fz.le_refl _) (by simp) rfl (v_assign rfl) ?_
          refine d_take (i := 9) rfl rfl rfl (by decide +kernel) (by decide +kernel) (by decide +kernel) (Fz.le_refl _) (by simp) rfl (v_assign rfl) ?_
          refine d_take (i := 10) rfl rfl rfl (by decide +kernel) (by decide +kernel) (by decide +kernel) (Fz.le_refl _) (by simp) rfl (v_assign rfl) ?_
          refine d_end (by decide +kernel) ?_
          exact r_ret4 Tryz.func54 rfl rfl rfl rfl rfl ⟨⟨rfl, rfl, .inr ⟨k, _, _, _, _, tk, hkb, rfl, SlB.drop (k := 5) hv3 (by rw [hol2]; omega), SlB.drop hv hn9⟩⟩, Fz.le_refl _⟩
end Go.SX
namespace Go.SX
open Go Go.Proofs
set_option maxRecDepth 4000
set_option linter.unusedSimpArgs false
set_option linter.unusedVariables false
def hardR (d : List UInt8) : Option (Nat × Int) :=
  let x1 := rdNum d false 8
  let x2 := rdNum x1.2.1 x1.2.2 2
  if (!x2.2.2 && decide (x2.2.1 = [])) = true then some (x1.1, (x2.1 : Int) - 1) else none
def entR (d : List UInt8) : Option PE :=
  let x1 := rdNum d false 8
  let x2 := rdNum x1.2.1 x1.2.2 8
  let x3 := rdNum x2.2.1 x2.2.2 1
  let x4 := rdBytes x3.2.1 x3.2.2 1048576
  if (!x4.2.2 && decide (x4.2.1 = [])) = true then some ⟨x1.1, x2.1, x3.1, x4.1⟩ else none
def snapR (d : List UInt8) : Option (Nat × Nat × Nat × List UInt8) :=
  let x1 := rdNum d false 8
  let x2 := rdNum x1.2.1 x1.2.2 8
  let x3 := rdNum x2.2.1 x2.2.2 8
  let x4 := rdBytes x3.2.1 x3.2.2 1048576
  if (!x4.2.2 && decide (x4.2.1 = [])) = true then some (x1.1, x2.1, x3.1, x4.1) else none
def addE (p : PI) (e : PE) : Option PI := if e.ix ≤ p.ix ∨ p.l.length < e.ix - p.ix - 1 then none else some { p with l := p.l.take (e.ix - p.ix - 1) ++ [e] }
def addP (p : PI) (k : Nat) (d : List UInt8) : Option PI :=
  if k = 1 then (hardR d).map fun q => { p with term := q.1, vote := q.2 }
  else if k = 2 then (entR d).bind (addE p)
  else if k = 3 then (snapR d).map fun q => { p with ix := q.1, tm := q.2.1, vt := q.2.2.1, data := q.2.2.2, l := [] }
  else none
theorem rdBytes_len (l : List UInt8) (bad : Bool) : (rdBytes l bad 1048576).1.length ≤ 1048576 := by
  unfold rdBytes
  split
  · simp
  · rename_i h
    simp only [List.length_take]
    omega
theorem en_Clip (O : World) (F : Fz) (a : Option Addr) (n cap : Nat) (H : List Ent) (hc : n ≤ cap) :
    Does Tryz.prog O 103 #[.slice a n cap] F H (fun r F' H' => r = .slice a n n ∧ F' = F ∧ H' = H) := by
  refine does_of_run (args := [_]) Tryz.func103 rfl rfl ?_
  refine r_seq ?_
  refine r_region rfl ?_
  refine o_val rfl rfl rfl rfl (v_assign rfl) ?_
  refine o_end ?_
  refine r_seq ?_
  refine r_region rfl ?_
  refine o_val rfl rfl rfl rfl (v_move rfl) ?_
  refine o_val rfl rfl rfl rfl (v_move rfl) ?_
  refine o_val rfl rfl rfl rfl (v_len rfl rfl) ?_
  refine o_val rfl rfl rfl rfl (v_move rfl) ?_
  refine o_val rfl rfl rfl rfl (v_len rfl rfl) ?_
  refine o_val rfl rfl rfl rfl (v_sliceHM (sz := 4) rfl rfl rfl rfl rfl rfl rfl (Nat.le_refl _) hc) ?_
  refine o_val rfl rfl rfl rfl (v_assign rfl) ?_
  refine o_end ?_
  rw [sliced0]
  exact r_ret1 Tryz.func103 rfl rfl ⟨⟨rfl, rfl, rfl⟩, Fz.le_refl _⟩
set_option maxHeartbeats 1600000 in
theorem wal_add (O : World) (F : Fz) (m : Nat) (p : Im) (k : Nat) (v : Value) (d : List UInt8) (Fr : List Ent) (hp : p.ok F) (hn : p.l.length ≤ 10000000000) (hk : k < 256) (hv : SlB F [] v d) (hl : d.length ≤ 140737488350000) :
    Does Tryz.prog O 55 #[ptrV m, .int .u8 k, v] F (.mem m p.cells 7 :: Fr) (fun r F' H' => F.le F' ∧ ((addP p.pure k d = none ∧ r = .bool false ∧ H' = .mem m p.cells 7 :: Fr) ∨ ∃ p' : Im, addP p.pure k d = some p'.pure ∧ p'.ok F' ∧ p'.l.length ≤ p.l.length + 1 ∧ r = .bool true ∧ H' = .mem m p'.cells 7 :: Fr)) := by
  obtain ⟨q1, q2, q3, q4, q5, q6, hpd, hpdl, hplv, hpl⟩ := id hp
  refine does_of_run (args := [_, _, _]) Tryz.func55 rfl rfl ?_
  refine r_seq ?_
  refine r_region rfl ?_
  refine o_val rfl rfl rfl rfl (v_assign rfl) ?_
  refine o_end ?_
  refine r_seq ?_
  refine r_region rfl ?_
  refine o_val rfl rfl rfl rfl (v_move rfl) ?_
  refine o_call rfl rfl rfl rfl (c_call callable96 rfl) (oct_Read _ _ _ d _ hv) ?_
  rintro v' F H' ⟨rfl, a, rfl, rfl⟩ _
  refine o_val rfl rfl rfl rfl (v_assign rfl) ?_
  refine o_end ?_
  refine r_seq ?_
  refine r_seq ?_
  refine r_region rfl ?_
  refine o_val rfl rfl rfl rfl (v_move rfl) ?_
  refine o_end ?_
  refine r_block ?_
  refine r_seq ?_
  refine r_region rfl ?_
  refine o_val rfl rfl rfl rfl (v_eql rfl rfl) ?_
  refine o_val rfl rfl rfl rfl (v_assign rfl) ?_
  refine o_end ?_
  refine j_sel (H' := .mem a [v, .bool false] 2 :: .mem m p.cells 7 :: Fr) [[Ent.mem a [v, .bool false] 2], [Ent.mem m p.cells 7], Fr] [0, 1, 2] rfl rfl rfl ?_
  have hx1 := rdNum_lt d false 8
  have hl1 := rdNum_len d false 8
  refine r_if rfl (fun hk1 => ?_) (fun hk1 => ?_)
  · obtain rfl : k = 1 := by omega
    have hx2 : (rdNum (rdNum d false 8).2.1 (rdNum d false 8).2.2 2).1 < 65536 := rdNum_lt _ _ 2
    have hx1 : (rdNum d false 8).1 < 18446744073709551616 := rdNum_lt _ _ 8
    have hl2 := rdNum_len (rdNum d false 8).2.1 (rdNum d false 8).2.2 2
    have had : addP p.pure 1 d = (hardR d).map fun q => { p.pure with term := q.1, vote := q.2 } := rfl
    have hr : hardR d = if (!(rdNum (rdNum d false 8).2.1 (rdNum d false 8).2.2 2).2.2 && decide ((rdNum (rdNum d false 8).2.1 (rdNum d false 8).2.2 2).2.1 = [])) = true then some ((rdNum d false 8).1, ((rdNum (rdNum d false 8).2.1 (rdNum d false 8).2.2 2).1 : Int) - 1) else none := rfl
    refine r_seq ?_
    refine r_region rfl ?_
    refine o_val rfl rfl rfl rfl (v_move rfl) ?_
    refine o_call rfl rfl rfl rfl (c_call callable97 rfl) (oct_RNum _ _ a _ d false 8 _ hv (by omega)) ?_
    rintro v' F H' ⟨rfl, rfl, v1, hv1, rfl⟩ _
    refine o_val rfl rfl rfl rfl (v_move rfl) ?_
    refine o_call rfl rfl rfl rfl (c_call callable97 rfl) (oct_RNum _ _ a _ _ _ 2 _ hv1 (by omega)) ?_
    rintro v' F H' ⟨rfl, rfl, v2, hv2, rfl⟩ _
    generalize rdNum (rdNum d false 8).2.1 (rdNum d false 8).2.2 2 = x2 at *
    generalize rdNum d false 8 = x1 at *
    refine o_val rfl rfl rfl rfl (v_conv rfl rfl rfl (wrap_i64 (by omega) (by omega))) ?_
    refine o_val rfl rfl rfl rfl (v_sub rfl rfl (r := (x2.1 : Int) - 1) (wrap_i64 (by omega) (by omega))) ?_
    refine o_val rfl rfl rfl rfl (v_build rfl rfl) ?_
    refine o_act rfl rfl rfl rfl (a_alloc rfl) ?_
    rintro v' H' ⟨x, rfl, rfl⟩
    refine o_act0 rfl rfl rfl (a_store (sz := 2) 0 rfl rfl rfl rfl rfl rfl (Nat.le_of_ble_eq_true rfl)) ?_
    refine j_heap (H' := .mem x [.int .u64 x1.1, .int .i64 ((x2.1 : Int) - 1)] 2 :: .mem a [v2, .bool x2.2.2] 2 :: .mem m p.cells 7 :: Fr) rfl ?_
    refine j_sel (H' := Ent.mem a [v2, .bool x2.2.2] 2 :: (Ent.mem x [.int .u64 x1.1, .int .i64 ((x2.1 : Int) - 1)] 2 :: (Ent.mem m p.cells 7 :: (Fr)))) [[Ent.mem x [.int .u64 x1.1, .int .i64 ((x2.1 : Int) - 1)] 2], [Ent.mem a [v2, .bool x2.2.2] 2], [Ent.mem m p.cells 7], Fr] [1, 0, 2, 3] rfl rfl rfl ?_
    refine o_end ?_
    refine r_seq ?_
    refine r_seq ?_
    refine r_region rfl ?_
    refine o_val rfl rfl rfl rfl (v_move rfl) ?_
    refine o_call rfl rfl rfl rfl (c_call callable101 rfl) (oct_REnd _ _ a _ _ _ _ hv2) ?_
    rintro v' F H' ⟨rfl, rfl, rfl⟩ _
    by_cases he : (!x2.2.2 && decide (x2.2.1 = [])) = true
    · rw [if_pos he] at hr
      rw [hr] at had
      refine j_slot 25 rfl (v' := .bool true) (by rw [he]) ?_
      refine o_val rfl rfl rfl rfl (v_not rfl) ?_
      refine o_end ?_
      refine r_false rfl ?_
      refine j_sel (H' := Ent.mem m p.cells 7 :: (Ent.mem x [.int .u64 x1.1, .int .i64 ((x2.1 : Int) - 1)] 2 :: (Fr))) [[Ent.mem a [v2, .bool x2.2.2] 2], [Ent.mem x [.int .u64 x1.1, .int .i64 ((x2.1 : Int) - 1)] 2], [Ent.mem m p.cells 7], Fr] [2, 1, 3] rfl rfl rfl ?_
      refine r_skip ?_
      refine r_region rfl ?_
      refine o_val rfl rfl rfl rfl (v_move rfl) ?_
      refine o_val rfl rfl rfl rfl (v_loadAgg (sz := 2) (cs := [.int .u64 x1.1, .int .i64 ((x2.1 : Int) - 1)]) rfl rfl rfl rfl (cells_ofp (j := 1) _ _ rfl rfl)) ?_
      refine o_val rfl rfl rfl rfl (v_nilCheck rfl) ?_
      refine o_val rfl rfl rfl rfl (v_field (k := 0) rfl rfl rfl) ?_
      refine o_act0 rfl rfl rfl (a_store (sz := 2) 0 rfl rfl rfl rfl rfl rfl (Nat.le_of_ble_eq_true rfl)) ?_
      refine j_heap (H' := .mem m ({ p with term := x1.1, vote := (x2.1 : Int) - 1 } : Im).cells 7 :: .mem x [.int .u64 x1.1, .int .i64 ((x2.1 : Int) - 1)] 2 :: Fr) rfl ?_
      refine j_drop (H' := .mem m ({ p with term := x1.1, vote := (x2.1 : Int) - 1 } : Im).cells 7 :: Fr) ((List.sublist_cons_self _ _).cons_cons _) ?_
      refine o_end ?_
      refine r_inBlock ?_
      refine r_seq ?_
      refine r_region rfl ?_
      refine o_val rfl rfl rfl rfl (v_assign rfl) ?_
      refine o_end ?_
      exact r_ret1 Tryz.func55 rfl rfl ⟨⟨Fz.le_refl _, .inr ⟨{ p with term := x1.1, vote := (x2.1 : Int) - 1 }, had, ⟨hx1, by dsimp only; omega, by dsimp only; omega, q4, q5, q6, hpd, hpdl, hplv, hpl⟩, by dsimp only; omega, rfl, rfl⟩⟩, Fz.le_refl _⟩
    · rw [if_neg he] at hr
      rw [hr] at had
      refine j_slot 25 rfl (v' := .bool false) (by rw [Bool.not_eq_true] at he; rw [he]) ?_
      refine o_val rfl rfl rfl rfl (v_not rfl) ?_
      refine o_end ?_
      refine r_true rfl ?_
      refine r_seq ?_
      refine r_region rfl ?_
      refine o_val rfl rfl rfl rfl (v_assign rfl) ?_
      refine o_end ?_
      refine j_sel (H' := Ent.mem m p.cells 7 :: (Fr)) [[Ent.mem a [v2, .bool x2.2.2] 2], [Ent.mem x [.int .u64 x1.1, .int .i64 ((x2.1 : Int) - 1)] 2], [Ent.mem m p.cells 7], Fr] [2, 3] rfl rfl rfl ?_
      exact r_ret1 Tryz.func55 rfl rfl ⟨⟨Fz.le_refl _, .inl ⟨had, rfl, rfl⟩⟩, Fz.le_refl _⟩
  · refine r_seq ?_
    refine r_region rfl ?_
    refine o_val rfl rfl rfl rfl (v_eql rfl rfl) ?_
    refine o_val rfl rfl rfl rfl (v_assign rfl) ?_
    refine o_end ?_
    refine r_if rfl (fun hk2 => ?_) (fun hk2 => ?_)
    · obtain rfl : k = 2 := by omega
      have hx3 : (rdNum (rdNum (rdNum d false 8).2.1 (rdNum d false 8).2.2 8).2.1 (rdNum (rdNum d false 8).2.1 (rdNum d false 8).2.2 8).2.2 1).1 < 256 := rdNum_lt _ _ 1
      have hx1 : (rdNum d false 8).1 < 18446744073709551616 := rdNum_lt _ _ 8
      have hx2 : (rdNum (rdNum d false 8).2.1 (rdNum d false 8).2.2 8).1 < 18446744073709551616 := rdNum_lt _ _ 8
      have hl2 := rdNum_len (rdNum d false 8).2.1 (rdNum d false 8).2.2 8
      have hl3 := rdNum_len (rdNum (rdNum d false 8).2.1 (rdNum d false 8).2.2 8).2.1 (rdNum (rdNum d false 8).2.1 (rdNum d false 8).2.2 8).2.2 1
      have had : addP p.pure 2 d = (entR d).bind (addE p.pure) := rfl
      have hbl := rdBytes_len (rdNum (rdNum (rdNum d false 8).2.1 (rdNum d false 8).2.2 8).2.1 (rdNum (rdNum d false 8).2.1 (rdNum d false 8).2.2 8).2.2 1).2.1 (rdNum (rdNum (rdNum d false 8).2.1 (rdNum d false 8).2.2 8).2.1 (rdNum (rdNum d false 8).2.1 (rdNum d false 8).2.2 8).2.2 1).2.2
      have hr := entR.eq_1 d
      try dsimp only at hr
      refine r_seq ?_
      refine r_region rfl ?_
      refine o_val rfl rfl rfl rfl (v_move rfl) ?_
      refine o_call rfl rfl rfl rfl (c_call callable97 rfl) (oct_RNum _ _ a _ d false 8 _ hv (by omega)) ?_
      rintro v' F H' ⟨rfl, rfl, v1, hv1, rfl⟩ _
      refine o_val rfl rfl rfl rfl (v_move rfl) ?_
      refine o_call rfl rfl rfl rfl (c_call callable97 rfl) (oct_RNum _ _ a _ _ _ 8 _ hv1 (by omega)) ?_
      rintro v' F H' ⟨rfl, rfl, v2, hv2, rfl⟩ _
      refine o_val rfl rfl rfl rfl (v_move rfl) ?_
      refine o_call rfl rfl rfl rfl (c_call callable97 rfl) (oct_RNum _ _ a _ _ _ 1 _ hv2 (by omega)) ?_
      rintro v' F H' ⟨rfl, rfl, v3, hv3, rfl⟩ _
      refine o_val rfl rfl rfl rfl (v_conv rfl rfl rfl (wrap_u8 (by omega) (by omega))) ?_
      refine o_val rfl rfl rfl rfl (v_move rfl) ?_
      refine o_call rfl rfl rfl rfl (c_call callable102 rfl) (oct_RBytes _ _ a _ _ _ 1048576 _ hv3 (by omega) (by decide)) ?_
      rintro v4 F1 H' ⟨hF1, hs4, v5, hv5, rfl⟩ _
      generalize rdBytes (rdNum (rdNum (rdNum d false 8).2.1 (rdNum d false 8).2.2 8).2.1 (rdNum (rdNum d false 8).2.1 (rdNum d false 8).2.2 8).2.2 1).2.1 (rdNum (rdNum (rdNum d false 8).2.1 (rdNum d false 8).2.2 8).2.1 (rdNum (rdNum d false 8).2.1 (rdNum d false 8).2.2 8).2.2 1).2.2 1048576 = x4 at *
      generalize rdNum (rdNum (rdNum d false 8).2.1 (rdNum d false 8).2.2 8).2.1 (rdNum (rdNum d false 8).2.1 (rdNum d false 8).2.2 8).2.2 1 = x3 at *
      generalize rdNum (rdNum d false 8).2.1 (rdNum d false 8).2.2 8 = x2 at *
      generalize rdNum d false 8 = x1 at *
      obtain ⟨a4, c4, rfl, hc4⟩ := Sl.shape hs4
      obtain ⟨e, he⟩ : ∃ e : En, e = ⟨x1.1, x2.1, x3.1, .slice a4 x4.1.length c4, x4.1⟩ := ⟨_, rfl⟩
      have heok : e.ok F1 := by rw [he]; exact ⟨hx1, hx2, hx3, hs4, hbl⟩
      have hec : e.cells = [.int .u64 x1.1, .int .u64 x2.1, .int .u8 x3.1, .slice a4 x4.1.length c4] := by rw [he]; rfl
      have hei : e.ix = x1.1 := by rw [he]
      have hepu : (⟨x1.1, x2.1, x3.1, x4.1⟩ : PE) = e.pure := by rw [he]; rfl
      rw [hepu] at hr
      rw [← hei] at hec
      refine o_val rfl rfl rfl rfl (v_build rfl rfl) ?_
      refine o_act rfl rfl rfl rfl (a_alloc rfl) ?_
      rintro v' H' ⟨x, rfl, rfl⟩
      refine o_act0 rfl rfl rfl (a_store (sz := 4) 0 rfl rfl rfl rfl rfl rfl (Nat.le_of_ble_eq_true rfl)) ?_
      refine j_heap (H' := .mem x e.cells 4 :: .mem a [v5, .bool x4.2.2] 2 :: .mem m p.cells 7 :: Fr) (by rw [hec, hei]; rfl) ?_
      refine j_sel (H' := Ent.mem a [v5, .bool x4.2.2] 2 :: (Ent.mem x e.cells 4 :: (Ent.mem m p.cells 7 :: (Fr)))) [[Ent.mem x e.cells 4], [Ent.mem a [v5, .bool x4.2.2] 2], [Ent.mem m p.cells 7], Fr] [1, 0, 2, 3] rfl rfl rfl ?_
      refine o_end ?_
      refine r_seq ?_
      have hpF := hp.frz hF1
      obtain ⟨a0, cap, hlv, hcap⟩ := Sl.shape hpF.lv
      by_cases he2 : (!x4.2.2 && decide (x4.2.1 = [])) = true
      · rw [if_pos he2] at hr
        rw [hr] at had
        have had : addP p.pure 2 d = addE p.pure e.pure := had
        have hade : addE p.pure e.pure = if e.ix ≤ p.ix ∨ (p.l.map En.pure).length < e.ix - p.ix - 1 then none else some { p.pure with l := (p.l.map En.pure).take (e.ix - p.ix - 1) ++ [e.pure] } := rfl
        have hbx := heok.ix
        rw [List.length_map] at hade
        by_cases hix : e.ix ≤ p.ix
        · rw [if_pos (.inl hix)] at hade
          refine d_region 1000000 rfl ([.mem x e.cells 4, .mem m p.cells 7]) ?_
          refine d_take (i := 0) rfl rfl rfl (by decide +kernel) (by decide +kernel) (by decide +kernel) (Fz.le_refl _) (by intro q hq; simp only [List.mem_cons, List.not_mem_nil, or_false] at hq; rcases hq with rfl | rfl <;> simp) rfl (v_field (k := 0) rfl rfl rfl) ?_
          refine d_take (i := 1) rfl rfl rfl (by decide +kernel) (by decide +kernel) (by decide +kernel) (Fz.le_refl _) (by intro q hq; simp only [List.mem_cons, List.not_mem_nil, or_false] at hq; rcases hq with rfl | rfl <;> simp) rfl (v_load (v := .int .u64 e.ix) rfl rfl (cell_at (j := 0) rfl (by rw [hec]; rfl))) ?_
          refine d_take (i := 2) rfl rfl rfl (by decide +kernel) (by decide +kernel) (by decide +kernel) (Fz.le_refl _) (by intro q hq; simp only [List.mem_cons, List.not_mem_nil, or_false] at hq; rcases hq with rfl | rfl <;> simp) rfl (v_move rfl) ?_
          refine d_take (i := 3) rfl rfl rfl (by decide +kernel) (by decide +kernel) (by decide +kernel) (Fz.le_refl _) (by intro q hq; simp only [List.mem_cons, List.not_mem_nil, or_false] at hq; rcases hq with rfl | rfl <;> simp) rfl (v_nilCheck rfl) ?_
          refine d_take (i := 4) rfl rfl rfl (by decide +kernel) (by decide +kernel) (by decide +kernel) (Fz.le_refl _) (by intro q hq; simp only [List.mem_cons, List.not_mem_nil, or_false] at hq; rcases hq with rfl | rfl <;> simp) rfl (v_field (k := 2) rfl rfl rfl) ?_
          refine d_take (i := 5) rfl rfl rfl (by decide +kernel) (by decide +kernel) (by decide +kernel) (Fz.le_refl _) (by intro q hq; simp only [List.mem_cons, List.not_mem_nil, or_false] at hq; rcases hq with rfl | rfl <;> simp) rfl (v_field (k := 0) rfl rfl rfl) ?_
          refine d_take (i := 6) rfl rfl rfl (by decide +kernel) (by decide +kernel) (by decide +kernel) (Fz.le_refl _) (by intro q hq; simp only [List.mem_cons, List.not_mem_nil, or_false] at hq; rcases hq with rfl | rfl <;> simp) rfl (v_load (v := .int .u64 p.ix) rfl rfl (cell_at (j := 1) rfl rfl)) ?_
          refine d_take (i := 7) rfl rfl rfl (by decide +kernel) (by decide +kernel) (by decide +kernel) (Fz.le_refl _) (by intro q hq; simp only [List.mem_cons, List.not_mem_nil, or_false] at hq; rcases hq with rfl | rfl <;> simp) rfl (v_sub rfl rfl rfl) ?_
          refine d_take (i := 8) rfl rfl rfl (by decide +kernel) (by decide +kernel) (by decide +kernel) (Fz.le_refl _) (by intro q hq; simp only [List.mem_cons, List.not_mem_nil, or_false] at hq; rcases hq with rfl | rfl <;> simp) rfl (v_sub rfl rfl rfl) ?_
          refine d_take (i := 9) rfl rfl rfl (by decide +kernel) (by decide +kernel) (by decide +kernel) (Fz.le_refl _) (by intro q hq; simp only [List.mem_cons, List.not_mem_nil, or_false] at hq; rcases hq with rfl | rfl <;> simp) rfl (v_assign rfl) ?_
          refine d_end (by decide +kernel) ?_
          refine r_seq ?_
          refine r_seq ?_
          refine d_region 1000000 rfl ([.mem x e.cells 4, .mem m p.cells 7]) ?_
          refine d_take (i := 0) rfl rfl rfl (by decide +kernel) (by decide +kernel) (by decide +kernel) (Fz.le_refl _) (by intro q hq; simp only [List.mem_cons, List.not_mem_nil, or_false] at hq; rcases hq with rfl | rfl <;> simp) rfl (v_move rfl) ?_
          refine d_one (i := 1) (by decide +kernel) ?_
          refine d1_call rfl rfl rfl rfl (c_call callable101 rfl) (oct_REnd _ _ a _ _ _ _ hv5) ?_
          rintro v' F1 H' ⟨rfl, rfl, rfl⟩ _
          refine ⟨fun w hw => held_of hw (by first | exact Fz.le_refl _ | assumption) (by intro q hq; simp only [List.mem_cons, List.not_mem_nil, or_false] at hq; rcases hq with rfl | rfl <;> simp), ?_⟩
          refine j_slot 53 rfl (v' := .bool true) (by rw [he2]) ?_
          refine d_take (i := 2) rfl rfl rfl (by decide +kernel) (by decide +kernel) (by decide +kernel) (Fz.le_refl _) (by intro q hq; simp only [List.mem_cons, List.not_mem_nil, or_false] at hq; rcases hq with rfl | rfl <;> simp) rfl (v_not rfl) ?_
          refine d_take (i := 3) rfl rfl rfl (by decide +kernel) (by decide +kernel) (by decide +kernel) (Fz.le_refl _) (by intro q hq; simp only [List.mem_cons, List.not_mem_nil, or_false] at hq; rcases hq with rfl | rfl <;> simp) rfl (v_move rfl) ?_
          refine d_take (i := 4) rfl rfl rfl (by decide +kernel) (by decide +kernel) (by decide +kernel) (Fz.le_refl _) (by intro q hq; simp only [List.mem_cons, List.not_mem_nil, or_false] at hq; rcases hq with rfl | rfl <;> simp) rfl (v_field (k := 0) rfl rfl rfl) ?_
          refine d_take (i := 5) rfl rfl rfl (by decide +kernel) (by decide +kernel) (by decide +kernel) (Fz.le_refl _) (by intro q hq; simp only [List.mem_cons, List.not_mem_nil, or_false] at hq; rcases hq with rfl | rfl <;> simp) rfl (v_load (v := .int .u64 e.ix) rfl rfl (cell_at (j := 0) rfl (by rw [hec]; rfl))) ?_
          refine d_take (i := 6) rfl rfl rfl (by decide +kernel) (by decide +kernel) (by decide +kernel) (Fz.le_refl _) (by intro q hq; simp only [List.mem_cons, List.not_mem_nil, or_false] at hq; rcases hq with rfl | rfl <;> simp) rfl (v_move rfl) ?_
          refine d_take (i := 7) rfl rfl rfl (by decide +kernel) (by decide +kernel) (by decide +kernel) (Fz.le_refl _) (by intro q hq; simp only [List.mem_cons, List.not_mem_nil, or_false] at hq; rcases hq with rfl | rfl <;> simp) rfl (v_nilCheck rfl) ?_
          refine d_take (i := 8) rfl rfl rfl (by decide +kernel) (by decide +kernel) (by decide +kernel) (Fz.le_refl _) (by intro q hq; simp only [List.mem_cons, List.not_mem_nil, or_false] at hq; rcases hq with rfl | rfl <;> simp) rfl (v_field (k := 2) rfl rfl rfl) ?_
          refine d_take (i := 9) rfl rfl rfl (by decide +kernel) (by decide +kernel) (by decide +kernel) (Fz.le_refl _) (by intro q hq; simp only [List.mem_cons, List.not_mem_nil, or_false] at hq; rcases hq with rfl | rfl <;> simp) rfl (v_field (k := 0) rfl rfl rfl) ?_
          refine d_take (i := 10) rfl rfl rfl (by decide +kernel) (by decide +kernel) (by decide +kernel) (Fz.le_refl _) (by intro q hq; simp only [List.mem_cons, List.not_mem_nil, or_false] at hq; rcases hq with rfl | rfl <;> simp) rfl (v_load (v := .int .u64 p.ix) rfl rfl (cell_at (j := 1) rfl rfl)) ?_
          refine d_take (i := 11) rfl rfl rfl (by decide +kernel) (by decide +kernel) (by decide +kernel) (Fz.le_refl _) (by intro q hq; simp only [List.mem_cons, List.not_mem_nil, or_false] at hq; rcases hq with rfl | rfl <;> simp) rfl (v_leq rfl rfl) ?_
          refine d_take (i := 12) rfl rfl rfl (by decide +kernel) (by decide +kernel) (by decide +kernel) (Fz.le_refl _) (by intro q hq; simp only [List.mem_cons, List.not_mem_nil, or_false] at hq; rcases hq with rfl | rfl <;> simp) rfl (v_pick0 rfl rfl) ?_
          refine j_slot 64 rfl (v' := .bool true) (by rw [decide_eq_true (by omega)]) ?_
          refine d_take (i := 13) rfl rfl rfl (by decide +kernel) (by decide +kernel) (by decide +kernel) (Fz.le_refl _) (by intro q hq; simp only [List.mem_cons, List.not_mem_nil, or_false] at hq; rcases hq with rfl | rfl <;> simp) rfl (v_move rfl) ?_
          refine d_skip (i := 14) rfl rfl rfl (by decide +kernel) (by decide +kernel) (by decide +kernel) (Fz.le_refl _) (by intro q hq; simp only [List.mem_cons, List.not_mem_nil, or_false] at hq; rcases hq with rfl | rfl <;> simp) rfl ?_
          refine d_skip (i := 15) rfl rfl rfl (by decide +kernel) (by decide +kernel) (by decide +kernel) (Fz.le_refl _) (by intro q hq; simp only [List.mem_cons, List.not_mem_nil, or_false] at hq; rcases hq with rfl | rfl <;> simp) rfl ?_
          refine d_skip (i := 16) rfl rfl rfl (by decide +kernel) (by decide +kernel) (by decide +kernel) (Fz.le_refl _) (by intro q hq; simp only [List.mem_cons, List.not_mem_nil, or_false] at hq; rcases hq with rfl | rfl <;> simp) rfl ?_
          refine d_skip (i := 17) rfl rfl rfl (by decide +kernel) (by decide +kernel) (by decide +kernel) (Fz.le_refl _) (by intro q hq; simp only [List.mem_cons, List.not_mem_nil, or_false] at hq; rcases hq with rfl | rfl <;> simp) rfl ?_
          refine d_skip (i := 18) rfl rfl rfl (by decide +kernel) (by decide +kernel) (by decide +kernel) (Fz.le_refl _) (by intro q hq; simp only [List.mem_cons, List.not_mem_nil, or_false] at hq; rcases hq with rfl | rfl <;> simp) rfl ?_
          refine d_skip (i := 19) rfl rfl rfl (by decide +kernel) (by decide +kernel) (by decide +kernel) (Fz.le_refl _) (by intro q hq; simp only [List.mem_cons, List.not_mem_nil, or_false] at hq; rcases hq with rfl | rfl <;> simp) rfl ?_
          refine d_skip (i := 20) rfl rfl rfl (by decide +kernel) (by decide +kernel) (by decide +kernel) (Fz.le_refl _) (by intro q hq; simp only [List.mem_cons, List.not_mem_nil, or_false] at hq; rcases hq with rfl | rfl <;> simp) rfl ?_
          refine d_skip (i := 21) rfl rfl rfl (by decide +kernel) (by decide +kernel) (by decide +kernel) (Fz.le_refl _) (by intro q hq; simp only [List.mem_cons, List.not_mem_nil, or_false] at hq; rcases hq with rfl | rfl <;> simp) rfl ?_
          refine d_take (i := 22) rfl rfl rfl (by decide +kernel) (by decide +kernel) (by decide +kernel) (Fz.le_refl _) (by intro q hq; simp only [List.mem_cons, List.not_mem_nil, or_false] at hq; rcases hq with rfl | rfl <;> simp) rfl (v_pick1 rfl rfl) ?_
          refine d_end (by decide +kernel) ?_
          refine r_true rfl ?_
          refine r_seq ?_
          refine r_region rfl ?_
          refine o_val rfl rfl rfl rfl (v_assign rfl) ?_
          refine o_end ?_
          refine j_sel (H' := Ent.mem m p.cells 7 :: (Fr)) [[Ent.mem a [v5, .bool x4.2.2] 2], [Ent.mem x e.cells 4], [Ent.mem m p.cells 7], Fr] [2, 3] rfl rfl rfl ?_
          exact r_ret1 Tryz.func55 rfl rfl ⟨⟨hF1, .inl ⟨had.trans hade, rfl, rfl⟩⟩, hF1⟩
        · skip
          refine d_region 1000000 rfl ([.mem x e.cells 4, .mem m p.cells 7]) ?_
          refine d_take (i := 0) rfl rfl rfl (by decide +kernel) (by decide +kernel) (by decide +kernel) (Fz.le_refl _) (by intro q hq; simp only [List.mem_cons, List.not_mem_nil, or_false] at hq; rcases hq with rfl | rfl <;> simp) rfl (v_field (k := 0) rfl rfl rfl) ?_
          refine d_take (i := 1) rfl rfl rfl (by decide +kernel) (by decide +kernel) (by decide +kernel) (Fz.le_refl _) (by intro q hq; simp only [List.mem_cons, List.not_mem_nil, or_false] at hq; rcases hq with rfl | rfl <;> simp) rfl (v_load (v := .int .u64 e.ix) rfl rfl (cell_at (j := 0) rfl (by rw [hec]; rfl))) ?_
          refine d_take (i := 2) rfl rfl rfl (by decide +kernel) (by decide +kernel) (by decide +kernel) (Fz.le_refl _) (by intro q hq; simp only [List.mem_cons, List.not_mem_nil, or_false] at hq; rcases hq with rfl | rfl <;> simp) rfl (v_move rfl) ?_
          refine d_take (i := 3) rfl rfl rfl (by decide +kernel) (by decide +kernel) (by decide +kernel) (Fz.le_refl _) (by intro q hq; simp only [List.mem_cons, List.not_mem_nil, or_false] at hq; rcases hq with rfl | rfl <;> simp) rfl (v_nilCheck rfl) ?_
          refine d_take (i := 4) rfl rfl rfl (by decide +kernel) (by decide +kernel) (by decide +kernel) (Fz.le_refl _) (by intro q hq; simp only [List.mem_cons, List.not_mem_nil, or_false] at hq; rcases hq with rfl | rfl <;> simp) rfl (v_field (k := 2) rfl rfl rfl) ?_
          refine d_take (i := 5) rfl rfl rfl (by decide +kernel) (by decide +kernel) (by decide +kernel) (Fz.le_refl _) (by intro q hq; simp only [List.mem_cons, List.not_mem_nil, or_false] at hq; rcases hq with rfl | rfl <;> simp) rfl (v_field (k := 0) rfl rfl rfl) ?_
          refine d_take (i := 6) rfl rfl rfl (by decide +kernel) (by decide +kernel) (by decide +kernel) (Fz.le_refl _) (by intro q hq; simp only [List.mem_cons, List.not_mem_nil, or_false] at hq; rcases hq with rfl | rfl <;> simp) rfl (v_load (v := .int .u64 p.ix) rfl rfl (cell_at (j := 1) rfl rfl)) ?_
          refine d_take (i := 7) rfl rfl rfl (by decide +kernel) (by decide +kernel) (by decide +kernel) (Fz.le_refl _) (by intro q hq; simp only [List.mem_cons, List.not_mem_nil, or_false] at hq; rcases hq with rfl | rfl <;> simp) rfl (v_sub rfl rfl (r := ((e.ix - p.ix : Nat) : Int)) ((wrap_u64 (by omega) (by omega)).trans (by omega))) ?_
          refine d_take (i := 8) rfl rfl rfl (by decide +kernel) (by decide +kernel) (by decide +kernel) (Fz.le_refl _) (by intro q hq; simp only [List.mem_cons, List.not_mem_nil, or_false] at hq; rcases hq with rfl | rfl <;> simp) rfl (v_sub rfl rfl (r := ((e.ix - p.ix - 1 : Nat) : Int)) ((wrap_u64 (by omega) (by omega)).trans (by omega))) ?_
          refine d_take (i := 9) rfl rfl rfl (by decide +kernel) (by decide +kernel) (by decide +kernel) (Fz.le_refl _) (by intro q hq; simp only [List.mem_cons, List.not_mem_nil, or_false] at hq; rcases hq with rfl | rfl <;> simp) rfl (v_assign rfl) ?_
          refine d_end (by decide +kernel) ?_
          refine r_seq ?_
          refine r_seq ?_
          refine d_region 1000000 rfl ([.mem x e.cells 4, .mem m p.cells 7]) ?_
          refine d_take (i := 0) rfl rfl rfl (by decide +kernel) (by decide +kernel) (by decide +kernel) (Fz.le_refl _) (by intro q hq; simp only [List.mem_cons, List.not_mem_nil, or_false] at hq; rcases hq with rfl | rfl <;> simp) rfl (v_move rfl) ?_
          refine d_one (i := 1) (by decide +kernel) ?_
          refine d1_call rfl rfl rfl rfl (c_call callable101 rfl) (oct_REnd _ _ a _ _ _ _ hv5) ?_
          rintro v' F1 H' ⟨rfl, rfl, rfl⟩ _
          refine ⟨fun w hw => held_of hw (by first | exact Fz.le_refl _ | assumption) (by intro q hq; simp only [List.mem_cons, List.not_mem_nil, or_false] at hq; rcases hq with rfl | rfl <;> simp), ?_⟩
          refine j_slot 53 rfl (v' := .bool true) (by rw [he2]) ?_
          refine d_take (i := 2) rfl rfl rfl (by decide +kernel) (by decide +kernel) (by decide +kernel) (Fz.le_refl _) (by intro q hq; simp only [List.mem_cons, List.not_mem_nil, or_false] at hq; rcases hq with rfl | rfl <;> simp) rfl (v_not rfl) ?_
          refine d_take (i := 3) rfl rfl rfl (by decide +kernel) (by decide +kernel) (by decide +kernel) (Fz.le_refl _) (by intro q hq; simp only [List.mem_cons, List.not_mem_nil, or_false] at hq; rcases hq with rfl | rfl <;> simp) rfl (v_move rfl) ?_
          refine d_take (i := 4) rfl rfl rfl (by decide +kernel) (by decide +kernel) (by decide +kernel) (Fz.le_refl _) (by intro q hq; simp only [List.mem_cons, List.not_mem_nil, or_false] at hq; rcases hq with rfl | rfl <;> simp) rfl (v_field (k := 0) rfl rfl rfl) ?_
          refine d_take (i := 5) rfl rfl rfl (by decide +kernel) (by decide +kernel) (by decide +kernel) (Fz.le_refl _) (by intro q hq; simp only [List.mem_cons, List.not_mem_nil, or_false] at hq; rcases hq with rfl | rfl <;> simp) rfl (v_load (v := .int .u64 e.ix) rfl rfl (cell_at (j := 0) rfl (by rw [hec]; rfl))) ?_
          refine d_take (i := 6) rfl rfl rfl (by decide +kernel) (by decide +kernel) (by decide +kernel) (Fz.le_refl _) (by intro q hq; simp only [List.mem_cons, List.not_mem_nil, or_false] at hq; rcases hq with rfl | rfl <;> simp) rfl (v_move rfl) ?_
          refine d_take (i := 7) rfl rfl rfl (by decide +kernel) (by decide +kernel) (by decide +kernel) (Fz.le_refl _) (by intro q hq; simp only [List.mem_cons, List.not_mem_nil, or_false] at hq; rcases hq with rfl | rfl <;> simp) rfl (v_nilCheck rfl) ?_
          refine d_take (i := 8) rfl rfl rfl (by decide +kernel) (by decide +kernel) (by decide +kernel) (Fz.le_refl _) (by intro q hq; simp only [List.mem_cons, List.not_mem_nil, or_false] at hq; rcases hq with rfl | rfl <;> simp) rfl (v_field (k := 2) rfl rfl rfl) ?_
          refine d_take (i := 9) rfl rfl rfl (by decide +kernel) (by decide +kernel) (by decide +kernel) (Fz.le_refl _) (by intro q hq; simp only [List.mem_cons, List.not_mem_nil, or_false] at hq; rcases hq with rfl | rfl <;> simp) rfl (v_field (k := 0) rfl rfl rfl) ?_
          refine d_take (i := 10) rfl rfl rfl (by decide +kernel) (by decide +kernel) (by decide +kernel) (Fz.le_refl _) (by intro q hq; simp only [List.mem_cons, List.not_mem_nil, or_false] at hq; rcases hq with rfl | rfl <;> simp) rfl (v_load (v := .int .u64 p.ix) rfl rfl (cell_at (j := 1) rfl rfl)) ?_
          refine d_take (i := 11) rfl rfl rfl (by decide +kernel) (by decide +kernel) (by decide +kernel) (Fz.le_refl _) (by intro q hq; simp only [List.mem_cons, List.not_mem_nil, or_false] at hq; rcases hq with rfl | rfl <;> simp) rfl (v_leq rfl rfl) ?_
          refine d_take (i := 12) rfl rfl rfl (by decide +kernel) (by decide +kernel) (by decide +kernel) (Fz.le_refl _) (by intro q hq; simp only [List.mem_cons, List.not_mem_nil, or_false] at hq; rcases hq with rfl | rfl <;> simp) rfl (v_pick0 rfl rfl) ?_
          refine j_slot 64 rfl (v' := .bool false) (by rw [decide_eq_false (by omega)]) ?_
          refine d_take (i := 13) rfl rfl rfl (by decide +kernel) (by decide +kernel) (by decide +kernel) (Fz.le_refl _) (by intro q hq; simp only [List.mem_cons, List.not_mem_nil, or_false] at hq; rcases hq with rfl | rfl <;> simp) rfl (v_move rfl) ?_
          refine d_take (i := 14) rfl rfl rfl (by decide +kernel) (by decide +kernel) (by decide +kernel) (Fz.le_refl _) (by intro q hq; simp only [List.mem_cons, List.not_mem_nil, or_false] at hq; rcases hq with rfl | rfl <;> simp) rfl (v_move rfl) ?_
          refine d_take (i := 15) rfl rfl rfl (by decide +kernel) (by decide +kernel) (by decide +kernel) (Fz.le_refl _) (by intro q hq; simp only [List.mem_cons, List.not_mem_nil, or_false] at hq; rcases hq with rfl | rfl <;> simp) rfl (v_move rfl) ?_
          refine d_take (i := 16) rfl rfl rfl (by decide +kernel) (by decide +kernel) (by decide +kernel) (Fz.le_refl _) (by intro q hq; simp only [List.mem_cons, List.not_mem_nil, or_false] at hq; rcases hq with rfl | rfl <;> simp) rfl (v_nilCheck rfl) ?_
          refine d_take (i := 17) rfl rfl rfl (by decide +kernel) (by decide +kernel) (by decide +kernel) (Fz.le_refl _) (by intro q hq; simp only [List.mem_cons, List.not_mem_nil, or_false] at hq; rcases hq with rfl | rfl <;> simp) rfl (v_field (k := 6) rfl rfl rfl) ?_
          refine d_take (i := 18) rfl rfl rfl (by decide +kernel) (by decide +kernel) (by decide +kernel) (Fz.le_refl _) (by intro q hq; simp only [List.mem_cons, List.not_mem_nil, or_false] at hq; rcases hq with rfl | rfl <;> simp) rfl (v_load (v := .slice a0 p.l.length cap) rfl rfl (cell_at (j := 1) rfl (by show some p.lv = _; rw [hlv]))) ?_
          refine d_take (i := 19) rfl rfl rfl (by decide +kernel) (by decide +kernel) (by decide +kernel) (Fz.le_refl _) (by intro q hq; simp only [List.mem_cons, List.not_mem_nil, or_false] at hq; rcases hq with rfl | rfl <;> simp) rfl (v_len rfl rfl) ?_
          refine d_take (i := 20) rfl rfl rfl (by decide +kernel) (by decide +kernel) (by decide +kernel) (Fz.le_refl _) (by intro q hq; simp only [List.mem_cons, List.not_mem_nil, or_false] at hq; rcases hq with rfl | rfl <;> simp) rfl (v_conv rfl rfl rfl (wrap_u64 (by omega) (by omega))) ?_
          refine d_take (i := 21) rfl rfl rfl (by decide +kernel) (by decide +kernel) (by decide +kernel) (Fz.le_refl _) (by intro q hq; simp only [List.mem_cons, List.not_mem_nil, or_false] at hq; rcases hq with rfl | rfl <;> simp) rfl (v_gtr rfl rfl) ?_
          refine d_take (i := 22) rfl rfl rfl (by decide +kernel) (by decide +kernel) (by decide +kernel) (Fz.le_refl _) (by intro q hq; simp only [List.mem_cons, List.not_mem_nil, or_false] at hq; rcases hq with rfl | rfl <;> simp) rfl (v_pick0 rfl rfl) ?_
          refine d_end (by decide +kernel) ?_
          refine r_if rfl (fun h3 => ?_) (fun h3 => ?_)
          · rw [if_pos (.inr (by omega))] at hade
            refine r_seq ?_
            refine r_region rfl ?_
            refine o_val rfl rfl rfl rfl (v_assign rfl) ?_
            refine o_end ?_
            refine j_sel (H' := Ent.mem m p.cells 7 :: (Fr)) [[Ent.mem a [v5, .bool x4.2.2] 2], [Ent.mem x e.cells 4], [Ent.mem m p.cells 7], Fr] [2, 3] rfl rfl rfl ?_
            exact r_ret1 Tryz.func55 rfl rfl ⟨⟨hF1, .inl ⟨had.trans hade, rfl, rfl⟩⟩, hF1⟩
          · rw [if_neg (by omega)] at hade
            refine j_sel (H' := Ent.mem x e.cells 4 :: (Ent.mem m p.cells 7 :: (Fr))) [[Ent.mem a [v5, .bool x4.2.2] 2], [Ent.mem x e.cells 4], [Ent.mem m p.cells 7], Fr] [1, 2, 3] rfl rfl rfl ?_
            obtain ⟨at_, hat⟩ : ∃ at_ : Nat, at_ = e.ix - p.ix - 1 := ⟨_, rfl⟩
            rw [← hat] at hade ⊢
            have hatl : at_ ≤ p.l.length := by omega
            have hlen' : (p.l.take at_ ++ [e]).length = at_ + 1 := by simp; omega
            have hu : Sl F1 [] 4 (.slice a0 at_ at_) at_ (enV (p.l.take at_)) := by
              have h := hpF.lv
              rw [hlv] at h
              have h' := Sl.cut4 h hatl (Nat.le_refl at_) (by omega)
              have e9 : (p.l.take at_).length = at_ := by simp; omega
              rw [e9] at h'
              exact h'
            refine r_skip ?_
            refine d_region 13 rfl ([.mem x e.cells 4, .mem m p.cells 7]) ?_
            refine d_take (i := 0) rfl rfl rfl (by decide +kernel) (by decide +kernel) (by decide +kernel) (Fz.le_refl _) (by intro q hq; simp only [List.mem_cons, List.not_mem_nil, or_false] at hq; rcases hq with rfl | rfl <;> simp) rfl (v_move rfl) ?_
            refine d_take (i := 1) rfl rfl rfl (by decide +kernel) (by decide +kernel) (by decide +kernel) (Fz.le_refl _) (by intro q hq; simp only [List.mem_cons, List.not_mem_nil, or_false] at hq; rcases hq with rfl | rfl <;> simp) rfl (v_move rfl) ?_
            refine d_take (i := 2) rfl rfl rfl (by decide +kernel) (by decide +kernel) (by decide +kernel) (Fz.le_refl _) (by intro q hq; simp only [List.mem_cons, List.not_mem_nil, or_false] at hq; rcases hq with rfl | rfl <;> simp) rfl (v_nilCheck rfl) ?_
            refine d_take (i := 3) rfl rfl rfl (by decide +kernel) (by decide +kernel) (by decide +kernel) (Fz.le_refl _) (by intro q hq; simp only [List.mem_cons, List.not_mem_nil, or_false] at hq; rcases hq with rfl | rfl <;> simp) rfl (v_field (k := 6) rfl rfl rfl) ?_
            refine d_take (i := 4) rfl rfl rfl (by decide +kernel) (by decide +kernel) (by decide +kernel) (Fz.le_refl _) (by intro q hq; simp only [List.mem_cons, List.not_mem_nil, or_false] at hq; rcases hq with rfl | rfl <;> simp) rfl (v_load (v := .slice a0 p.l.length cap) rfl rfl (cell_at (j := 1) rfl (by show some p.lv = _; rw [hlv]))) ?_
            refine d_take (i := 5) rfl rfl rfl (by decide +kernel) (by decide +kernel) (by decide +kernel) (Fz.le_refl _) (by intro q hq; simp only [List.mem_cons, List.not_mem_nil, or_false] at hq; rcases hq with rfl | rfl <;> simp) rfl (v_move rfl) ?_
            refine d_take (i := 6) rfl rfl rfl (by decide +kernel) (by decide +kernel) (by decide +kernel) (Fz.le_refl _) (by intro q hq; simp only [List.mem_cons, List.not_mem_nil, or_false] at hq; rcases hq with rfl | rfl <;> simp) rfl (v_sliceH (sz := 4) rfl rfl rfl rfl rfl (by omega)) ?_
            refine d_take (i := 8) rfl rfl rfl (by decide +kernel) (by decide +kernel) (by decide +kernel) (Fz.le_refl _) (by intro q hq; simp only [List.mem_cons, List.not_mem_nil, or_false] at hq; rcases hq with rfl | rfl <;> simp) rfl (v_loadAgg (sz := 4) (cs := e.cells) rfl rfl rfl rfl (cells_ofp (j := 0) _ _ rfl rfl)) ?_
            refine j_slot 81 rfl (v' := .slice a0 at_ cap) (sliced0 _ _ _ _) ?_
            refine d_all [7, 9] (by decide +kernel) (by simp) ?_
            intro zz hzz
            simp only [List.mem_cons, List.not_mem_nil, or_false] at hzz
            rcases hzz with rfl | rfl
            · refine d1_call rfl rfl rfl rfl (c_call callable103 rfl) (en_Clip _ _ a0 at_ cap _ (by omega)) ?_
              rintro v' F1 H' ⟨rfl, rfl, rfl⟩ _
              refine ⟨fun w hw => held_of hw (by first | exact Fz.le_refl _ | assumption) (by intro q hq; simp only [List.mem_cons, List.not_mem_nil, or_false] at hq; rcases hq with rfl | rfl <;> simp), ?_⟩
              refine d_one (i := 9) (by decide +kernel) ?_
              refine d1_act rfl rfl rfl rfl (a_buildS (sz := 4) (cs := e.cells) [.tmp 83] rfl rfl rfl rfl rfl rfl rfl rfl rfl rfl) ?_
              rintro v' H' ⟨y, rfl, rfl⟩
              refine ⟨fun w hw => held_of hw (by first | exact Fz.le_refl _ | assumption) (by intro q hq; simp only [List.mem_cons, List.not_mem_nil, or_false] at hq; rcases hq with rfl | rfl <;> simp), ?_⟩
              refine d_one (i := 10) (by decide +kernel) ?_
              refine d1_act rfl rfl rfl rfl (a_appendNew (sz := 4) (bytes := 48) (m := 1) (ys := enV [e]) ⟨⟨_, _, _, rfl, rfl, rfl, rfl, rfl, rfl⟩, by decide⟩ rfl (hu.frz (Fz.le_refl _)) rfl (sl_lit (e := e) (List.mem_cons_self ..)) (by decide) (by unfold maxLen; omega) (by omega)) ?_
              rintro v' H' ⟨bb, cc, rfl, hcc, rfl⟩
              refine ⟨fun w hw => held_of hw (by first | exact Fz.le_refl _ | assumption) (by intro q hq; simp only [List.mem_cons, List.not_mem_nil, or_false] at hq; rcases hq with rfl | rfl <;> simp), ?_⟩
              rw [← vec_append]
              refine d_take (i := 11) rfl rfl rfl (by decide +kernel) (by decide +kernel) (by decide +kernel) (Fz.le_refl _) (by intro q hq; simp only [List.mem_cons, List.not_mem_nil, or_false] at hq; rcases hq with rfl | rfl <;> simp) rfl (v_nilCheck rfl) ?_
              refine d_take (i := 12) rfl rfl rfl (by decide +kernel) (by decide +kernel) (by decide +kernel) (Fz.le_refl _) (by intro q hq; simp only [List.mem_cons, List.not_mem_nil, or_false] at hq; rcases hq with rfl | rfl <;> simp) rfl (v_field (k := 6) rfl rfl rfl) ?_
              refine d_one (i := 13) (by decide +kernel) ?_
              refine d1_last 1000000 ([]) rfl rfl rfl (a_store1 3 rfl rfl rfl rfl rfl (Nat.le_of_ble_eq_true rfl)) ?_
              refine j_heap (H' := (Bf.at bb cc).ents 4 (enV (p.l.take at_ ++ [e])) ++ (.mem y e.cells 4 :: .mem x e.cells 4 :: .mem m ({ p with lv := .slice (some ⟨bb, 0, none⟩) (at_ + 1) cc, l := p.l.take at_ ++ [e] } : Im).cells 7 :: Fr)) rfl ?_
              refine j_freezeBf (n := at_ + 1) hcc (by rw [en_len, hlen']) fun F2 hF2 hs2 => ?_
              refine j_drop (H' := .mem m ({ p with lv := .slice (some ⟨bb, 0, none⟩) (at_ + 1) cc, l := p.l.take at_ ++ [e] } : Im).cells 7 :: Fr) ((List.sublist_cons_self _ _).trans (List.sublist_cons_self _ _)) ?_
              refine d_end (by decide +kernel) ?_
              refine r_inBlock ?_
              refine r_seq ?_
              refine r_region rfl ?_
              refine o_val rfl rfl rfl rfl (v_assign rfl) ?_
              refine o_end ?_
              refine r_ret1 Tryz.func55 rfl rfl ⟨⟨Fz.le_trans hF1 hF2, .inr ⟨{ p with lv := .slice (some ⟨bb, 0, none⟩) (at_ + 1) cc, l := p.l.take at_ ++ [e] }, ?_, ⟨q1, q2, q3, q4, q5, q6, hpd.frz (Fz.le_trans hF1 hF2), hpdl, ?_, ?_⟩, ?_, rfl, rfl⟩⟩, Fz.le_trans hF1 hF2⟩
              · rw [had, hade]
                simp only [Im.pure, List.map_append, List.map_take, List.map_cons, List.map_nil]
              · show Sl F2 [] 4 _ (p.l.take at_ ++ [e]).length _
                rw [hlen']
                exact hs2
              · intro q hq
                rcases List.mem_append.1 hq with hq | hq
                · exact (hpF.l q (List.mem_of_mem_take hq)).frz hF2
                · rw [List.mem_singleton] at hq
                  rw [hq]
                  exact heok.frz hF2
              · show (p.l.take at_ ++ [e]).length ≤ _
                omega
            · refine d1_act rfl rfl rfl rfl (a_buildS (sz := 4) (cs := e.cells) [.tmp 83] rfl rfl rfl rfl rfl rfl rfl rfl rfl rfl) ?_
              rintro v' H' ⟨y, rfl, rfl⟩
              refine ⟨fun w hw => held_of hw (by first | exact Fz.le_refl _ | assumption) (by intro q hq; simp only [List.mem_cons, List.not_mem_nil, or_false] at hq; rcases hq with rfl | rfl <;> simp), ?_⟩
              refine d_one (i := 7) (by decide +kernel) ?_
              refine d1_call rfl rfl rfl rfl (c_call callable103 rfl) (en_Clip _ _ a0 at_ cap _ (by omega)) ?_
              rintro v' F1 H' ⟨rfl, rfl, rfl⟩ _
              refine ⟨fun w hw => held_of hw (by first | exact Fz.le_refl _ | assumption) (by intro q hq; simp only [List.mem_cons, List.not_mem_nil, or_false] at hq; rcases hq with rfl | rfl <;> simp), ?_⟩
              refine d_one (i := 10) (by decide +kernel) ?_
              refine d1_act rfl rfl rfl rfl (a_appendNew (sz := 4) (bytes := 48) (m := 1) (ys := enV [e]) ⟨⟨_, _, _, rfl, rfl, rfl, rfl, rfl, rfl⟩, by decide⟩ rfl (hu.frz (Fz.le_refl _)) rfl (sl_lit (e := e) (List.mem_cons_self ..)) (by decide) (by unfold maxLen; omega) (by omega)) ?_
              rintro v' H' ⟨bb, cc, rfl, hcc, rfl⟩
              refine ⟨fun w hw => held_of hw (by first | exact Fz.le_refl _ | assumption) (by intro q hq; simp only [List.mem_cons, List.not_mem_nil, or_false] at hq; rcases hq with rfl | rfl <;> simp), ?_⟩
              rw [← vec_append]
              refine d_take (i := 11) rfl rfl rfl (by decide +kernel) (by decide +kernel) (by decide +kernel) (Fz.le_refl _) (by intro q hq; simp only [List.mem_cons, List.not_mem_nil, or_false] at hq; rcases hq with rfl | rfl <;> simp) rfl (v_nilCheck rfl) ?_
              refine d_take (i := 12) rfl rfl rfl (by decide +kernel) (by decide +kernel) (by decide +kernel) (Fz.le_refl _) (by intro q hq; simp only [List.mem_cons, List.not_mem_nil, or_false] at hq; rcases hq with rfl | rfl <;> simp) rfl (v_field (k := 6) rfl rfl rfl) ?_
              refine d_one (i := 13) (by decide +kernel) ?_
              refine d1_last 1000000 ([]) rfl rfl rfl (a_store1 3 rfl rfl rfl rfl rfl (Nat.le_of_ble_eq_true rfl)) ?_
              refine j_heap (H' := (Bf.at bb cc).ents 4 (enV (p.l.take at_ ++ [e])) ++ (.mem y e.cells 4 :: .mem x e.cells 4 :: .mem m ({ p with lv := .slice (some ⟨bb, 0, none⟩) (at_ + 1) cc, l := p.l.take at_ ++ [e] } : Im).cells 7 :: Fr)) rfl ?_
              refine j_freezeBf (n := at_ + 1) hcc (by rw [en_len, hlen']) fun F2 hF2 hs2 => ?_
              refine j_drop (H' := .mem m ({ p with lv := .slice (some ⟨bb, 0, none⟩) (at_ + 1) cc, l := p.l.take at_ ++ [e] } : Im).cells 7 :: Fr) ((List.sublist_cons_self _ _).trans (List.sublist_cons_self _ _)) ?_
              refine d_end (by decide +kernel) ?_
              refine r_inBlock ?_
              refine r_seq ?_
              refine r_region rfl ?_
              refine o_val rfl rfl rfl rfl (v_assign rfl) ?_
              refine o_end ?_
              refine r_ret1 Tryz.func55 rfl rfl ⟨⟨Fz.le_trans hF1 hF2, .inr ⟨{ p with lv := .slice (some ⟨bb, 0, none⟩) (at_ + 1) cc, l := p.l.take at_ ++ [e] }, ?_, ⟨q1, q2, q3, q4, q5, q6, hpd.frz (Fz.le_trans hF1 hF2), hpdl, ?_, ?_⟩, ?_, rfl, rfl⟩⟩, Fz.le_trans hF1 hF2⟩
              · rw [had, hade]
                simp only [Im.pure, List.map_append, List.map_take, List.map_cons, List.map_nil]
              · show Sl F2 [] 4 _ (p.l.take at_ ++ [e]).length _
                rw [hlen']
                exact hs2
              · intro q hq
                rcases List.mem_append.1 hq with hq | hq
                · exact (hpF.l q (List.mem_of_mem_take hq)).frz hF2
                · rw [List.mem_singleton] at hq
                  rw [hq]
                  exact heok.frz hF2
              · show (p.l.take at_ ++ [e]).length ≤ _
                omega
      · rw [if_neg he2] at hr
        rw [hr] at had
        have had : addP p.pure 2 d = none := had
        refine d_region 1000000 rfl ([.mem x e.cells 4, .mem m p.cells 7]) ?_
        refine d_take (i := 0) rfl rfl rfl (by decide +kernel) (by decide +kernel) (by decide +kernel) (Fz.le_refl _) (by intro q hq; simp only [List.mem_cons, List.not_mem_nil, or_false] at hq; rcases hq with rfl | rfl <;> simp) rfl (v_field (k := 0) rfl rfl rfl) ?_
        refine d_take (i := 1) rfl rfl rfl (by decide +kernel) (by decide +kernel) (by decide +kernel) (Fz.le_refl _) (by intro q hq; simp only [List.mem_cons, List.not_mem_nil, or_false] at hq; rcases hq with rfl | rfl <;> simp) rfl (v_load (v := .int .u64 e.ix) rfl rfl (cell_at (j := 0) rfl (by rw [hec]; rfl))) ?_
        refine d_take (i := 2) rfl rfl rfl (by decide +kernel) (by decide +kernel) (by decide +kernel) (Fz.le_refl _) (by intro q hq; simp only [List.mem_cons, List.not_mem_nil, or_false] at hq; rcases hq with rfl | rfl <;> simp) rfl (v_move rfl) ?_
        refine d_take (i := 3) rfl rfl rfl (by decide +kernel) (by decide +kernel) (by decide +kernel) (Fz.le_refl _) (by intro q hq; simp only [List.mem_cons, List.not_mem_nil, or_false] at hq; rcases hq with rfl | rfl <;> simp) rfl (v_nilCheck rfl) ?_
        refine d_take (i := 4) rfl rfl rfl (by decide +kernel) (by decide +kernel) (by decide +kernel) (Fz.le_refl _) (by intro q hq; simp only [List.mem_cons, List.not_mem_nil, or_false] at hq; rcases hq with rfl | rfl <;> simp) rfl (v_field (k := 2) rfl rfl rfl) ?_
        refine d_take (i := 5) rfl rfl rfl (by decide +kernel) (by decide +kernel) (by decide +kernel) (Fz.le_refl _) (by intro q hq; simp only [List.mem_cons, List.not_mem_nil, or_false] at hq; rcases hq with rfl | rfl <;> simp) rfl (v_field (k := 0) rfl rfl rfl) ?_
        refine d_take (i := 6) rfl rfl rfl (by decide +kernel) (by decide +kernel) (by decide +kernel) (Fz.le_refl _) (by intro q hq; simp only [List.mem_cons, List.not_mem_nil, or_false] at hq; rcases hq with rfl | rfl <;> simp) rfl (v_load (v := .int .u64 p.ix) rfl rfl (cell_at (j := 1) rfl rfl)) ?_
        refine d_take (i := 7) rfl rfl rfl (by decide +kernel) (by decide +kernel) (by decide +kernel) (Fz.le_refl _) (by intro q hq; simp only [List.mem_cons, List.not_mem_nil, or_false] at hq; rcases hq with rfl | rfl <;> simp) rfl (v_sub rfl rfl rfl) ?_
        refine d_take (i := 8) rfl rfl rfl (by decide +kernel) (by decide +kernel) (by decide +kernel) (Fz.le_refl _) (by intro q hq; simp only [List.mem_cons, List.not_mem_nil, or_false] at hq; rcases hq with rfl | rfl <;> simp) rfl (v_sub rfl rfl rfl) ?_
        refine d_take (i := 9) rfl rfl rfl (by decide +kernel) (by decide +kernel) (by decide +kernel) (Fz.le_refl _) (by intro q hq; simp only [List.mem_cons, List.not_mem_nil, or_false] at hq; rcases hq with rfl | rfl <;> simp) rfl (v_assign rfl) ?_
        refine d_end (by decide +kernel) ?_
        refine r_seq ?_
        refine r_seq ?_
        refine d_region 1000000 rfl ([]) ?_
        refine d_take (i := 0) rfl rfl rfl (by decide +kernel) (by decide +kernel) (by decide +kernel) (Fz.le_refl _) (by simp) rfl (v_move rfl) ?_
        refine d_one (i := 1) (by decide +kernel) ?_
        refine d1_call rfl rfl rfl rfl (c_call callable101 rfl) (oct_REnd _ _ a _ _ _ _ hv5) ?_
        rintro v' F1 H' ⟨rfl, rfl, rfl⟩ _
        refine ⟨fun w hw => held_of hw (by first | exact Fz.le_refl _ | assumption) (by simp), ?_⟩
        refine j_slot 53 rfl (v' := .bool false) (by rw [Bool.not_eq_true] at he2; rw [he2]) ?_
        refine d_take (i := 2) rfl rfl rfl (by decide +kernel) (by decide +kernel) (by decide +kernel) (Fz.le_refl _) (by simp) rfl (v_not rfl) ?_
        refine d_take (i := 3) rfl rfl rfl (by decide +kernel) (by decide +kernel) (by decide +kernel) (Fz.le_refl _) (by simp) rfl (v_move rfl) ?_
        refine d_skip (i := 4) rfl rfl rfl (by decide +kernel) (by decide +kernel) (by decide +kernel) (Fz.le_refl _) (by simp) rfl ?_
        refine d_skip (i := 5) rfl rfl rfl (by decide +kernel) (by decide +kernel) (by decide +kernel) (Fz.le_refl _) (by simp) rfl ?_
        refine d_skip (i := 6) rfl rfl rfl (by decide +kernel) (by decide +kernel) (by decide +kernel) (Fz.le_refl _) (by simp) rfl ?_
        refine d_skip (i := 7) rfl rfl rfl (by decide +kernel) (by decide +kernel) (by decide +kernel) (Fz.le_refl _) (by simp) rfl ?_
        refine d_skip (i := 8) rfl rfl rfl (by decide +kernel) (by decide +kernel) (by decide +kernel) (Fz.le_refl _) (by simp) rfl ?_
        refine d_skip (i := 9) rfl rfl rfl (by decide +kernel) (by decide +kernel) (by decide +kernel) (Fz.le_refl _) (by simp) rfl ?_
        refine d_skip (i := 10) rfl rfl rfl (by decide +kernel) (by decide +kernel) (by decide +kernel) (Fz.le_refl _) (by simp) rfl ?_
        refine d_skip (i := 11) rfl rfl rfl (by decide +kernel) (by decide +kernel) (by decide +kernel) (Fz.le_refl _) (by simp) rfl ?_
        refine d_take (i := 12) rfl rfl rfl (by decide +kernel) (by decide +kernel) (by decide +kernel) (Fz.le_refl _) (by simp) rfl (v_pick1 rfl rfl) ?_
        refine d_take (i := 13) rfl rfl rfl (by decide +kernel) (by decide +kernel) (by decide +kernel) (Fz.le_refl _) (by simp) rfl (v_move rfl) ?_
        refine d_skip (i := 14) rfl rfl rfl (by decide +kernel) (by decide +kernel) (by decide +kernel) (Fz.le_refl _) (by simp) rfl ?_
        refine d_skip (i := 15) rfl rfl rfl (by decide +kernel) (by decide +kernel) (by decide +kernel) (Fz.le_refl _) (by simp) rfl ?_
        refine d_skip (i := 16) rfl rfl rfl (by decide +kernel) (by decide +kernel) (by decide +kernel) (Fz.le_refl _) (by simp) rfl ?_
        refine d_skip (i := 17) rfl rfl rfl (by decide +kernel) (by decide +kernel) (by decide +kernel) (Fz.le_refl _) (by simp) rfl ?_
        refine d_skip (i := 18) rfl rfl rfl (by decide +kernel) (by decide +kernel) (by decide +kernel) (Fz.le_refl _) (by simp) rfl ?_
        refine d_skip (i := 19) rfl rfl rfl (by decide +kernel) (by decide +kernel) (by decide +kernel) (Fz.le_refl _) (by simp) rfl ?_
        refine d_skip (i := 20) rfl rfl rfl (by decide +kernel) (by decide +kernel) (by decide +kernel) (Fz.le_refl _) (by simp) rfl ?_
        refine d_skip (i := 21) rfl rfl rfl (by decide +kernel) (by decide +kernel) (by decide +kernel) (Fz.le_refl _) (by simp) rfl ?_
        refine d_take (i := 22) rfl rfl rfl (by decide +kernel) (by decide +kernel) (by decide +kernel) (Fz.le_refl _) (by simp) rfl (v_pick1 rfl rfl) ?_
        refine d_end (by decide +kernel) ?_
        refine r_true rfl ?_
        refine r_seq ?_
        refine r_region rfl ?_
        refine o_val rfl rfl rfl rfl (v_assign rfl) ?_
        refine o_end ?_
        refine j_sel (H' := Ent.mem m p.cells 7 :: (Fr)) [[Ent.mem a [v5, .bool x4.2.2] 2], [Ent.mem x e.cells 4], [Ent.mem m p.cells 7], Fr] [2, 3] rfl rfl rfl ?_
        exact r_ret1 Tryz.func55 rfl rfl ⟨⟨hF1, .inl ⟨had, rfl, rfl⟩⟩, hF1⟩
    · refine r_seq ?_
      refine r_region rfl ?_
      refine o_val rfl rfl rfl rfl (v_eql rfl rfl) ?_
      refine o_val rfl rfl rfl rfl (v_assign rfl) ?_
      refine o_end ?_
      refine r_if rfl (fun hk3 => ?_) (fun hk3 => ?_)
      · obtain rfl : k = 3 := by omega
        have hx1 : (rdNum d false 8).1 < 18446744073709551616 := rdNum_lt _ _ 8
        have hx2 : (rdNum (rdNum d false 8).2.1 (rdNum d false 8).2.2 8).1 < 18446744073709551616 := rdNum_lt _ _ 8
        have hx3 : (rdNum (rdNum (rdNum d false 8).2.1 (rdNum d false 8).2.2 8).2.1 (rdNum (rdNum d false 8).2.1 (rdNum d false 8).2.2 8).2.2 8).1 < 18446744073709551616 := rdNum_lt _ _ 8
        have hl2 := rdNum_len (rdNum d false 8).2.1 (rdNum d false 8).2.2 8
        have hl3 := rdNum_len (rdNum (rdNum d false 8).2.1 (rdNum d false 8).2.2 8).2.1 (rdNum (rdNum d false 8).2.1 (rdNum d false 8).2.2 8).2.2 8
        have had : addP p.pure 3 d = (snapR d).map fun q => { p.pure with ix := q.1, tm := q.2.1, vt := q.2.2.1, data := q.2.2.2, l := [] } := rfl
        have hbl := rdBytes_len (rdNum (rdNum (rdNum d false 8).2.1 (rdNum d false 8).2.2 8).2.1 (rdNum (rdNum d false 8).2.1 (rdNum d false 8).2.2 8).2.2 8).2.1 (rdNum (rdNum (rdNum d false 8).2.1 (rdNum d false 8).2.2 8).2.1 (rdNum (rdNum d false 8).2.1 (rdNum d false 8).2.2 8).2.2 8).2.2
        have hr := snapR.eq_1 d
        try dsimp only at hr
        refine r_seq ?_
        refine r_region rfl ?_
        refine o_val rfl rfl rfl rfl (v_move rfl) ?_
        refine o_call rfl rfl rfl rfl (c_call callable97 rfl) (oct_RNum _ _ a _ d false 8 _ hv (by omega)) ?_
        rintro v' F H' ⟨rfl, rfl, v1, hv1, rfl⟩ _
        refine o_val rfl rfl rfl rfl (v_move rfl) ?_
        refine o_call rfl rfl rfl rfl (c_call callable97 rfl) (oct_RNum _ _ a _ _ _ 8 _ hv1 (by omega)) ?_
        rintro v' F H' ⟨rfl, rfl, v2, hv2, rfl⟩ _
        refine o_val rfl rfl rfl rfl (v_move rfl) ?_
        refine o_call rfl rfl rfl rfl (c_call callable97 rfl) (oct_RNum _ _ a _ _ _ 8 _ hv2 (by omega)) ?_
        rintro v' F H' ⟨rfl, rfl, v3, hv3, rfl⟩ _
        refine o_val rfl rfl rfl rfl (v_move rfl) ?_
        refine o_call rfl rfl rfl rfl (c_call callable102 rfl) (oct_RBytes _ _ a _ _ _ 1048576 _ hv3 (by omega) (by decide)) ?_
        rintro v4 F1 H' ⟨hF1, hs4, v5, hv5, rfl⟩ _
        generalize rdBytes (rdNum (rdNum (rdNum d false 8).2.1 (rdNum d false 8).2.2 8).2.1 (rdNum (rdNum d false 8).2.1 (rdNum d false 8).2.2 8).2.2 8).2.1 (rdNum (rdNum (rdNum d false 8).2.1 (rdNum d false 8).2.2 8).2.1 (rdNum (rdNum d false 8).2.1 (rdNum d false 8).2.2 8).2.2 8).2.2 1048576 = x4 at *
        generalize rdNum (rdNum (rdNum d false 8).2.1 (rdNum d false 8).2.2 8).2.1 (rdNum (rdNum d false 8).2.1 (rdNum d false 8).2.2 8).2.2 8 = x3 at *
        generalize rdNum (rdNum d false 8).2.1 (rdNum d false 8).2.2 8 = x2 at *
        generalize rdNum d false 8 = x1 at *
        obtain ⟨a4, c4, rfl, hc4⟩ := Sl.shape hs4
        refine o_val rfl rfl rfl rfl (v_build rfl rfl) ?_
        refine o_act rfl rfl rfl rfl (a_alloc rfl) ?_
        rintro v' H' ⟨x, rfl, rfl⟩
        refine o_act0 rfl rfl rfl (a_store (sz := 4) 0 rfl rfl rfl rfl rfl rfl (Nat.le_of_ble_eq_true rfl)) ?_
        refine j_heap (H' := .mem x [.int .u64 x1.1, .int .u64 x2.1, .int .u64 x3.1, .slice a4 x4.1.length c4] 4 :: .mem a [v5, .bool x4.2.2] 2 :: .mem m p.cells 7 :: Fr) rfl ?_
        refine j_sel (H' := Ent.mem a [v5, .bool x4.2.2] 2 :: (Ent.mem x [.int .u64 x1.1, .int .u64 x2.1, .int .u64 x3.1, .slice a4 x4.1.length c4] 4 :: (Ent.mem m p.cells 7 :: (Fr)))) [[Ent.mem x [.int .u64 x1.1, .int .u64 x2.1, .int .u64 x3.1, .slice a4 x4.1.length c4] 4], [Ent.mem a [v5, .bool x4.2.2] 2], [Ent.mem m p.cells 7], Fr] [1, 0, 2, 3] rfl rfl rfl ?_
        refine o_end ?_
        refine r_seq ?_
        refine r_seq ?_
        refine r_region rfl ?_
        refine o_val rfl rfl rfl rfl (v_move rfl) ?_
        refine o_call rfl rfl rfl rfl (c_call callable101 rfl) (oct_REnd _ _ a _ _ _ _ hv5) ?_
        rintro v' F1 H' ⟨rfl, rfl, rfl⟩ _
        by_cases he : (!x4.2.2 && decide (x4.2.1 = [])) = true
        · rw [if_pos he] at hr
          rw [hr] at had
          refine j_slot 100 rfl (v' := .bool true) (by rw [he]) ?_
          refine o_val rfl rfl rfl rfl (v_not rfl) ?_
          refine o_end ?_
          refine r_false rfl ?_
          refine j_sel (H' := Ent.mem m p.cells 7 :: (Ent.mem x [.int .u64 x1.1, .int .u64 x2.1, .int .u64 x3.1, .slice a4 x4.1.length c4] 4 :: (Fr))) [[Ent.mem a [v5, .bool x4.2.2] 2], [Ent.mem x [.int .u64 x1.1, .int .u64 x2.1, .int .u64 x3.1, .slice a4 x4.1.length c4] 4], [Ent.mem m p.cells 7], Fr] [2, 1, 3] rfl rfl rfl ?_
          refine r_skip ?_
          refine r_region rfl ?_
          refine o_val rfl rfl rfl rfl (v_move rfl) ?_
          refine o_val rfl rfl rfl rfl (v_move rfl) ?_
          refine o_val rfl rfl rfl rfl (v_loadAgg (sz := 4) (cs := [.int .u64 x1.1, .int .u64 x2.1, .int .u64 x3.1, .slice a4 x4.1.length c4]) rfl rfl rfl rfl (cells_ofp (j := 1) _ _ rfl rfl)) ?_
          refine o_val rfl rfl rfl rfl (v_nilCheck rfl) ?_
          refine o_val rfl rfl rfl rfl (v_field (k := 2) rfl rfl rfl) ?_
          refine o_act0 rfl rfl rfl (a_store (sz := 4) 0 rfl rfl rfl rfl rfl rfl (Nat.le_of_ble_eq_true rfl)) ?_
          refine o_val rfl rfl rfl rfl (v_nilCheck rfl) ?_
          refine o_val rfl rfl rfl rfl (v_field (k := 6) rfl rfl rfl) ?_
          refine o_act0 rfl rfl rfl (a_store1 0 rfl rfl rfl rfl rfl (Nat.le_of_ble_eq_true rfl)) ?_
          refine j_heap (H' := .mem m ({ p with ix := x1.1, tm := x2.1, vt := x3.1, dv := .slice a4 x4.1.length c4, data := x4.1, lv := .slice none 0 0, l := [] } : Im).cells 7 :: .mem x [.int .u64 x1.1, .int .u64 x2.1, .int .u64 x3.1, .slice a4 x4.1.length c4] 4 :: Fr) rfl ?_
          refine j_drop (H' := .mem m ({ p with ix := x1.1, tm := x2.1, vt := x3.1, dv := .slice a4 x4.1.length c4, data := x4.1, lv := .slice none 0 0, l := [] } : Im).cells 7 :: Fr) ((List.sublist_cons_self _ _).cons_cons _) ?_
          refine o_end ?_
          refine r_inBlock ?_
          refine r_seq ?_
          refine r_region rfl ?_
          refine o_val rfl rfl rfl rfl (v_assign rfl) ?_
          refine o_end ?_
          exact r_ret1 Tryz.func55 rfl rfl ⟨⟨hF1, .inr ⟨{ p with ix := x1.1, tm := x2.1, vt := x3.1, dv := .slice a4 x4.1.length c4, data := x4.1, lv := .slice none 0 0, l := [] }, had, ⟨q1, q2, q3, hx1, hx2, hx3, hs4, hbl, Sl.nil _ _ _, by simp⟩, by simp, rfl, rfl⟩⟩, hF1⟩
        · rw [if_neg he] at hr
          rw [hr] at had
          refine j_slot 100 rfl (v' := .bool false) (by rw [Bool.not_eq_true] at he; rw [he]) ?_
          refine o_val rfl rfl rfl rfl (v_not rfl) ?_
          refine o_end ?_
          refine r_true rfl ?_
          refine r_seq ?_
          refine r_region rfl ?_
          refine o_val rfl rfl rfl rfl (v_assign rfl) ?_
          refine o_end ?_
          refine j_sel (H' := Ent.mem m p.cells 7 :: (Fr)) [[Ent.mem a [v5, .bool x4.2.2] 2], [Ent.mem x [.int .u64 x1.1, .int .u64 x2.1, .int .u64 x3.1, .slice a4 x4.1.length c4] 4], [Ent.mem m p.cells 7], Fr] [2, 3] rfl rfl rfl ?_
          exact r_ret1 Tryz.func55 rfl rfl ⟨⟨hF1, .inl ⟨had, rfl, rfl⟩⟩, hF1⟩
      · have had : addP p.pure k d = none := by
          unfold addP
          rw [if_neg (by omega), if_neg (by omega), if_neg (by omega)]
        refine r_seq ?_
        refine r_region rfl ?_
        refine o_val rfl rfl rfl rfl (v_assign rfl) ?_
        refine o_end ?_
        refine j_drop (List.sublist_cons_self _ _) ?_
        exact r_ret1 Tryz.func55 rfl rfl ⟨⟨Fz.le_refl _, .inl ⟨had, rfl, rfl⟩⟩, Fz.le_refl _⟩
end Go.SX
namespace Go.SX
open Go Go.Proofs
set_option maxRecDepth 4000
set_option linter.unusedSimpArgs false
set_option linter.unusedVariables false
theorem takeB_some {b : List UInt8} {k : Nat} {d rest : List UInt8} (h : takeB b = some (k, d, rest)) : rest.length + 9 ≤ b.length ∧ rest = b.drop (b.length - rest.length) ∧ d.length ≤ b.length := by
  unfold takeB at h
  split at h
  · cases h
  · split at h
    · cases h
    · rename_i h1 h2
      split at h
      · rename_i h3
        simp only [Option.some.injEq, Prod.mk.injEq] at h
        obtain ⟨_, rfl, rfl⟩ := h
        have h4 := openB_len (l := b.take (leN (b.take 4) + 9)) (by simp; omega) h3
        rw [List.length_take] at h4
        refine ⟨by simp; omega, ?_, by simp; omega⟩
        rw [List.length_drop]
        congr 1
        omega
      · cases h
def nilI : PI := ⟨0, -1, 0, 0, 0, [], []⟩
def scanP (p : PI) (b : List UInt8) : PI × Nat :=
  match h : takeB b with
  | none => (p, 0)
  | some (k, d, rest) => match addP p k d with
    | none => (p, 0)
    | some q => ((scanP q rest).1, (b.length - rest.length) + (scanP q rest).2)
termination_by b.length
decreasing_by all_goals (have := (takeB_some h).1; omega)
theorem scanP_none {p : PI} {b : List UInt8} (h : takeB b = none) : scanP p b = (p, 0) := by
  rw [scanP]
  split
  · rfl
  · rename_i h2; rw [h] at h2; cases h2
theorem scanP_stop {p : PI} {b : List UInt8} {k : Nat} {d rest : List UInt8} (h : takeB b = some (k, d, rest)) (ha : addP p k d = none) : scanP p b = (p, 0) := by
  rw [scanP]
  split
  · rfl
  · rename_i h2
    rw [h] at h2
    cases h2
    rw [ha]
theorem scanP_step {p q : PI} {b : List UInt8} {k : Nat} {d rest : List UInt8} (h : takeB b = some (k, d, rest)) (ha : addP p k d = some q) : scanP p b = ((scanP q rest).1, (b.length - rest.length) + (scanP q rest).2) := by
  rw [scanP]
  split
  · rename_i h2; rw [h] at h2; cases h2
  · rename_i h2
    rw [h] at h2
    cases h2
    rw [ha]
structure ScG where
  F : Fz
  p : Im
  v : Value
  b : List UInt8
  n : Nat
theorem wal_Scan (O : World) (F : Fz) (v : Value) (b : List UInt8) (Fr : List Ent) (hv : SlB F [] v b) (hl : b.length ≤ 10000000000) :
    Does Tryz.prog O 21 #[v] F Fr (fun r F' H' => F.le F' ∧ H' = Fr ∧ ∃ p : Im, p.ok F' ∧ p.l.length ≤ b.length ∧ p.pure = (scanP nilI b).1 ∧ r = .tuple #[.agg p.cells.toArray, .int .i64 (scanP nilI b).2]) := by
  refine does_of_run (args := [_]) Tryz.func21 rfl rfl ?_
  refine r_seq ?_
  refine r_region rfl ?_
  refine o_act rfl rfl rfl rfl (a_alloc rfl) ?_
  rintro v' H' ⟨r0, rfl, rfl⟩
  refine o_val rfl rfl rfl rfl (v_assign rfl) ?_
  refine o_end ?_
  refine r_seq ?_
  refine r_region rfl ?_
  refine o_val rfl rfl rfl rfl (v_build rfl rfl) ?_
  refine o_val rfl rfl rfl rfl (v_build rfl rfl) ?_
  refine o_act rfl rfl rfl rfl (a_alloc rfl) ?_
  rintro v' H' ⟨m, rfl, rfl⟩
  refine o_act0 rfl rfl rfl (a_store (sz := 7) 0 rfl rfl rfl rfl rfl rfl (Nat.le_of_ble_eq_true rfl)) ?_
  obtain ⟨p0, hp0⟩ : ∃ p0 : Im, p0 = ⟨0, -1, 0, 0, 0, .slice none 0 0, [], .slice none 0 0, []⟩ := ⟨_, rfl⟩
  obtain ⟨z0, hz0⟩ : ∃ z0 : Im, z0 = ⟨0, 0, 0, 0, 0, .slice none 0 0, [], .slice none 0 0, []⟩ := ⟨_, rfl⟩
  refine j_heap (H' := .mem m p0.cells 7 :: .mem r0 z0.cells 7 :: Fr) (by rw [hp0, hz0]; rfl) ?_
  refine o_end ?_
  refine r_seq ?_
  refine r_region rfl ?_
  refine o_val rfl rfl rfl rfl (v_assign rfl) ?_
  refine o_end ?_
  refine r_block ?_
  refine r_loop (fun g : ScG => F.le g.F ∧ g.p.ok g.F ∧ SlB g.F [] g.v g.b ∧ g.n + g.b.length = b.length ∧ g.p.l.length ≤ g.n ∧ scanP nilI b = ((scanP g.p.pure g.b).1, g.n + (scanP g.p.pure g.b).2)) (fun g => [(0, g.v), (2, ptrV r0), (4, ptrV m), (5, .int .i64 g.n)]) (fun g => g.F) (fun g => .mem m g.p.cells 7 :: .mem r0 z0.cells 7 :: Fr) (fun g => g.b.length) ⟨F, p0, v, b, 0⟩ ⟨Fz.le_refl _, ?_, hv, by dsimp only; omega, ?_, ?_⟩ ⟨rfl, rfl, rfl, rfl, trivial⟩ rfl rfl ?_
  · dsimp only; rw [hp0]; exact ⟨by decide, by decide, by decide, by decide, by decide, by decide, Sl.nil _ _ _, by simp, Sl.nil _ _ _, by simp⟩
  · dsimp only; rw [hp0]; simp
  · have : p0.pure = nilI := by rw [hp0]; rfl
    dsimp only
    rw [this]
    simp
  rintro ⟨F1, p, v1, b1, n⟩ ⟨hF1, hp, hv1, hnb, hpn, hsc⟩ IH
  dsimp only at hF1 hp hv1 hnb hpn hsc ⊢
  obtain ⟨a0, cap, rfl, hcap⟩ := Sl.shape hv1
  refine r_block ?_
  refine r_seq ?_
  refine r_region rfl ?_
  refine o_val rfl rfl rfl rfl (v_move rfl) ?_
  refine o_call rfl rfl rfl rfl (c_call callable54 rfl) (wal_take _ _ _ b1 _ hv1 (by omega)) ?_
  rintro v' F1 H' ⟨rfl, rfl, ht⟩ _
  rcases ht with ⟨ht, rfl⟩ | ⟨k, d, rest, w1, w2, ht, hk, rfl, hw1, hw2⟩
  · have hse : scanP nilI b = (p.pure, n) := by rw [hsc, scanP_none ht]; rfl
    have hpe := hp
    have hFe := hF1
    generalize p = pe at *
    refine o_val rfl rfl rfl rfl (v_move rfl) ?_
    refine o_val rfl rfl rfl rfl (v_extract rfl rfl) ?_
    refine o_val rfl rfl rfl rfl (v_extract rfl rfl) ?_
    refine o_val rfl rfl rfl rfl (v_extract rfl rfl) ?_
    refine o_val rfl rfl rfl rfl (v_extract rfl rfl) ?_
    refine o_val rfl rfl rfl rfl (v_assign rfl) ?_
    refine o_val rfl rfl rfl rfl (v_assign rfl) ?_
    refine o_val rfl rfl rfl rfl (v_assign rfl) ?_
    refine o_val rfl rfl rfl rfl (v_assign rfl) ?_
    refine o_end ?_
    refine r_seq ?_
    refine r_seq ?_
    refine r_region rfl ?_
    refine o_val rfl rfl rfl rfl (v_move rfl) ?_
    refine o_val rfl rfl rfl rfl (v_not rfl) ?_
    refine o_val rfl rfl rfl rfl (v_move rfl) ?_
    refine o_skip rfl rfl rfl rfl ?_
    refine o_skip rfl rfl rfl rfl ?_
    refine o_skip rfl rfl rfl rfl ?_
    refine o_skip rfl rfl rfl rfl ?_
    refine o_val rfl rfl rfl rfl (v_pick1 rfl rfl) ?_
    refine o_end ?_
    refine r_true rfl ?_
    refine r_seq ?_
    refine r_region rfl ?_
    refine o_val rfl rfl rfl rfl (v_loadAgg (sz := 7) (cs := pe.cells) rfl rfl rfl rfl (cells_ofp (j := 0) _ _ rfl rfl)) ?_
    refine o_val rfl rfl rfl rfl (v_move rfl) ?_
    refine o_act0 rfl rfl rfl (a_store (sz := 7) 1 rfl rfl rfl (by simpa [Value.cells] using hpe.one) rfl rfl (Nat.le_of_ble_eq_true rfl)) ?_
    refine j_heap (H' := .mem m pe.cells 7 :: .mem r0 pe.cells 7 :: Fr) rfl ?_
    refine o_val rfl rfl rfl rfl (v_assign rfl) ?_
    refine o_end ?_
    refine r_retC1 Tryz.func21 rfl rfl rfl rfl rfl rfl (cells_ofp (j := 1) _ _ rfl rfl) (H' := Fr) ((List.sublist_cons_self _ _).trans (List.sublist_cons_self _ _)) ⟨⟨hFe, rfl, pe, hpe, by omega, by rw [hse], by rw [hse]⟩, hFe⟩
  · obtain ⟨hr1, hr2, hr3⟩ := takeB_some ht
    refine o_val rfl rfl rfl rfl (v_move rfl) ?_
    refine o_val rfl rfl rfl rfl (v_extract rfl rfl) ?_
    refine o_val rfl rfl rfl rfl (v_extract rfl rfl) ?_
    refine o_val rfl rfl rfl rfl (v_extract rfl rfl) ?_
    refine o_val rfl rfl rfl rfl (v_extract rfl rfl) ?_
    refine o_val rfl rfl rfl rfl (v_assign rfl) ?_
    refine o_val rfl rfl rfl rfl (v_assign rfl) ?_
    refine o_val rfl rfl rfl rfl (v_assign rfl) ?_
    refine o_val rfl rfl rfl rfl (v_assign rfl) ?_
    refine o_end ?_
    refine r_seq ?_
    refine r_seq ?_
    refine r_region rfl ?_
    refine o_val rfl rfl rfl rfl (v_move rfl) ?_
    refine o_val rfl rfl rfl rfl (v_not rfl) ?_
    refine o_val rfl rfl rfl rfl (v_move rfl) ?_
    refine o_val rfl rfl rfl rfl (v_move rfl) ?_
    refine o_val rfl rfl rfl rfl (v_move rfl) ?_
    refine o_call rfl rfl rfl rfl (c_call callable55 rfl) (wal_add _ _ m p k _ d _ hp (by omega) hk hw1 (by omega)) ?_
    rintro v' F2 H' ⟨hF2, had⟩ _
    rcases had with ⟨had, rfl, rfl⟩ | ⟨q, had, hq, hql, rfl, rfl⟩
    · have hse : scanP nilI b = (p.pure, n) := by rw [hsc, scanP_stop ht had]; rfl
      have hpe := hp.frz hF2
      have hFe := Fz.le_trans hF1 hF2
      generalize p = pe at *
      refine o_val rfl rfl rfl rfl (v_not rfl) ?_
      refine o_val rfl rfl rfl rfl (v_pick0 rfl rfl) ?_
      refine o_end ?_
      refine r_true rfl ?_
      refine r_seq ?_
      refine r_region rfl ?_
      refine o_val rfl rfl rfl rfl (v_loadAgg (sz := 7) (cs := pe.cells) rfl rfl rfl rfl (cells_ofp (j := 0) _ _ rfl rfl)) ?_
      refine o_val rfl rfl rfl rfl (v_move rfl) ?_
      refine o_act0 rfl rfl rfl (a_store (sz := 7) 1 rfl rfl rfl (by simpa [Value.cells] using hpe.one) rfl rfl (Nat.le_of_ble_eq_true rfl)) ?_
      refine j_heap (H' := .mem m pe.cells 7 :: .mem r0 pe.cells 7 :: Fr) rfl ?_
      refine o_val rfl rfl rfl rfl (v_assign rfl) ?_
      refine o_end ?_
      refine r_retC1 Tryz.func21 rfl rfl rfl rfl rfl rfl (cells_ofp (j := 1) _ _ rfl rfl) (H' := Fr) ((List.sublist_cons_self _ _).trans (List.sublist_cons_self _ _)) ⟨⟨hFe, rfl, pe, hpe, by omega, by rw [hse], by rw [hse]⟩, hFe⟩
    · skip
      refine o_val rfl rfl rfl rfl (v_not rfl) ?_
      refine o_val rfl rfl rfl rfl (v_pick0 rfl rfl) ?_
      refine o_end ?_
      refine r_false rfl ?_
      obtain ⟨a2, c2, rfl, hc2⟩ := Sl.shape hw2
      refine r_skip ?_
      refine r_seq ?_
      refine r_region rfl ?_
      refine o_val rfl rfl rfl rfl (v_move rfl) ?_
      refine o_val rfl rfl rfl rfl (v_move rfl) ?_
      refine o_val rfl rfl rfl rfl (v_len rfl rfl) ?_
      refine o_val rfl rfl rfl rfl (v_move rfl) ?_
      refine o_val rfl rfl rfl rfl (v_len rfl rfl) ?_
      refine o_val rfl rfl rfl rfl (v_sub rfl rfl (r := ((b1.length - rest.length : Nat) : Int)) ((wrap_i64 (by omega) (by omega)).trans (by omega))) ?_
      refine o_val rfl rfl rfl rfl (v_add rfl rfl (r := ((n + (b1.length - rest.length) : Nat) : Int)) (wrap_i64 (by omega) (by omega))) ?_
      refine o_val rfl rfl rfl rfl (v_assign rfl) ?_
      refine o_end ?_
      refine r_region rfl ?_
      refine o_val rfl rfl rfl rfl (v_move rfl) ?_
      refine o_val rfl rfl rfl rfl (v_assign rfl) ?_
      refine o_end ?_
      refine r_inBlock ?_
      refine j_keep ?_ (IH ⟨F2, q, .slice a2 rest.length c2, rest, n + (b1.length - rest.length)⟩ ⟨Fz.le_trans hF1 hF2, hq, hw2.frz hF2, by dsimp only; omega, by dsimp only; omega, ?_⟩ (by dsimp only; omega))
      · exact ⟨rfl, rfl, rfl, rfl, trivial⟩
      · dsimp only
        rw [hsc, scanP_step ht had]
        dsimp only
        rw [Nat.add_assoc]
end Go.SX
namespace Go.SX
open Go Go.Proofs
set_option maxRecDepth 4000
set_option linter.unusedSimpArgs false
set_option linter.unusedVariables false
theorem rdNum_le {n v : Nat} {r : List UInt8} (h8 : n ≤ 8) (hv : v < 256 ^ n) : rdNum (leB n v ++ r) false n = (v, r, false) := by
  rw [rdNum_ok (by simp) h8, List.take_left' (leB_length n v), List.drop_left' (leB_length n v), leN_leB n v hv]
theorem rdBytes_lenB {d : List UInt8} (h : d.length ≤ 1048576) : rdBytes (lenB d) false 1048576 = (d, [], false) := by
  have h1 : rdNum (lenB d) false 4 = (d.length, d, false) := rdNum_le (n := 4) (by omega) (by omega)
  unfold rdBytes
  rw [h1]
  dsimp only
  rw [if_neg (by simp; omega)]
  simp
theorem entR_entP {ix tm kd : Nat} {d : List UInt8} (h1 : ix < 18446744073709551616) (h2 : tm < 18446744073709551616) (h3 : kd < 256) (h4 : d.length ≤ 1048576) : entR (entP ix tm kd d) = some ⟨ix, tm, kd, d⟩ := by
  unfold entR entP
  rw [List.append_assoc, List.append_assoc]
  have e1 : rdNum (leB 8 ix ++ (leB 8 tm ++ (leB 1 kd ++ lenB d))) false 8 = (ix, _, false) := rdNum_le (n := 8) (by omega) h1
  have e2 : rdNum (leB 8 tm ++ (leB 1 kd ++ lenB d)) false 8 = (tm, _, false) := rdNum_le (n := 8) (by omega) h2
  have e3 : rdNum (leB 1 kd ++ lenB d) false 1 = (kd, _, false) := rdNum_le (n := 1) (by omega) h3
  rw [e1]; dsimp only; rw [e2]; dsimp only; rw [e3]; dsimp only; rw [rdBytes_lenB h4]
  simp
theorem recB_app (k : Nat) (d rest : List UInt8) : recB k d ++ rest = leB 4 d.length ++ (leB 1 k ++ (d ++ (leB 4 (crc (leB 4 d.length ++ leB 1 k ++ d)).toNat ++ rest))) := by
  simp [recB, sealB]
theorem takeB_rec {k : Nat} {d : List UInt8} (hd : d.length ≤ 1048576) (hk : k < 256) (rest : List UInt8) : takeB (recB k d ++ rest) = some (k, d, rest) := by
  have h1 : (recB k d ++ rest).take 4 = leB 4 d.length := by rw [recB_app, List.take_left' (leB_length _ _)]
  have h2 : ((recB k d ++ rest).drop 4).take 1 = leB 1 k := by rw [recB_app, List.drop_left' (leB_length _ _), List.take_left' (leB_length _ _)]
  have h3 : leN (leB 4 d.length) = d.length := leN_leB 4 _ (by omega)
  have h4 : leN (leB 1 k) = k := leN_leB 1 _ (by omega)
  have h5 : (recB k d ++ rest).take (d.length + 9) = recB k d := List.take_left' (recB_length k d)
  have h6 : (recB k d ++ rest).drop (d.length + 9) = rest := List.drop_left' (recB_length k d)
  have h7 : openB (recB k d) = (0, leB 4 d.length ++ leB 1 k ++ d) := openB_seal _
  have h8 : (recB k d ++ rest).length = d.length + 9 + rest.length := by simp
  have h9 : (leB 4 d.length ++ leB 1 k ++ d).drop 5 = d := List.drop_left' (by simp)
  unfold takeB
  rw [h1, h2, h3, h4, h5, h6, h7, h8, if_neg (by omega), if_neg (by omega), if_pos rfl, h9]
theorem takeB_lt9 {b : List UInt8} (h : b.length < 9) : takeB b = none := by
  unfold takeB
  split
  · rfl
  · rw [if_pos (.inr (by omega))]
theorem takeB_cut {k : Nat} {d : List UInt8} (hd : d.length ≤ 1048576) {j : Nat} (hj : j < d.length + 9) : takeB ((recB k d).take j) = none := by
  have hl : ((recB k d).take j).length = j := by simp; omega
  unfold takeB
  rw [hl]
  by_cases h5 : j < 5
  · rw [if_pos h5]
  · rw [if_neg h5, List.take_take, Nat.min_eq_left (by omega)]
    have h1 : (recB k d).take 4 = leB 4 d.length := by
      have := recB_app k d []
      rw [List.append_nil] at this
      rw [this, List.take_left' (leB_length _ _)]
    have h3 : leN (leB 4 d.length) = d.length := leN_leB 4 _ (by omega)
    rw [h1, h3, if_pos (.inr (by omega))]
theorem takeB_local {b d rest : List UInt8} {k : Nat} (h : takeB b = some (k, d, rest)) : ∃ pre, b = pre ++ rest ∧ ∀ rest', takeB (pre ++ rest') = some (k, d, rest') := by
  unfold takeB at h
  split at h
  · cases h
  · split at h
    · cases h
    · rename_i h1 h2
      split at h
      · rename_i h3
        simp only [Option.some.injEq, Prod.mk.injEq] at h
        obtain ⟨rfl, rfl, rfl⟩ := h
        refine ⟨b.take (leN (b.take 4) + 9), (List.take_append_drop _ _).symm, fun rest' => ?_⟩
        have hpl : (b.take (leN (b.take 4) + 9)).length = leN (b.take 4) + 9 := by simp; omega
        have g1 : (b.take (leN (b.take 4) + 9) ++ rest').take 4 = b.take 4 := by
          rw [List.take_append_of_le_length (by omega), List.take_take, Nat.min_eq_left (by omega)]
        have g2 : ((b.take (leN (b.take 4) + 9) ++ rest').drop 4).take 1 = (b.drop 4).take 1 := by
          rw [List.drop_append_of_le_length (by omega), List.take_append_of_le_length (by simp; omega), List.drop_take, List.take_take, Nat.min_eq_left (by omega)]
        have g3 : (b.take (leN (b.take 4) + 9) ++ rest').take (leN (b.take 4) + 9) = b.take (leN (b.take 4) + 9) := List.take_left' hpl
        have g4 : (b.take (leN (b.take 4) + 9) ++ rest').drop (leN (b.take 4) + 9) = rest' := List.drop_left' hpl
        have g5 : (b.take (leN (b.take 4) + 9) ++ rest').length = leN (b.take 4) + 9 + rest'.length := by rw [List.length_append, hpl]
        unfold takeB
        rw [g1, g2, g3, g4, g5, if_neg (by omega), if_neg (by omega), if_pos h3]
      · cases h
theorem scanP_rec {p q : PI} {k : Nat} {d : List UInt8} (hd : d.length ≤ 1048576) (hk : k < 256) (ha : addP p k d = some q) (rest : List UInt8) : scanP p (recB k d ++ rest) = ((scanP q rest).1, d.length + 9 + (scanP q rest).2) := by
  rw [scanP_step (takeB_rec hd hk rest) ha]
  congr 2
  simp
theorem scanP_refused {p : PI} {k : Nat} {d : List UInt8} (hd : d.length ≤ 1048576) (hk : k < 256) (ha : addP p k d = none) (rest : List UInt8) : scanP p (recB k d ++ rest) = (p, 0) := scanP_stop (takeB_rec hd hk rest) ha
/-- These bytes come to this image, and all of them are looked at. -/
def Reaches (b : List UInt8) (q : PI) : Prop := ∀ rest, scanP nilI (b ++ rest) = ((scanP q rest).1, b.length + (scanP q rest).2)
theorem Reaches.nil : Reaches [] nilI := fun rest => by simp
theorem Reaches.more {b : List UInt8} {p q : PI} {k : Nat} {d : List UInt8} (h : Reaches b p) (hd : d.length ≤ 1048576) (hk : k < 256) (ha : addP p k d = some q) : Reaches (b ++ recB k d) q := fun rest => by
  rw [List.append_assoc, h, scanP_rec hd hk ha]
  congr 1
  simp
  omega
theorem Reaches.stop {b : List UInt8} {p : PI} (h : Reaches b p) {rest : List UInt8} (hr : takeB rest = none) : scanP nilI (b ++ rest) = (p, b.length) := by
  rw [h, scanP_none hr]; simp
theorem Reaches.refused {b : List UInt8} {p : PI} {k : Nat} {d : List UInt8} (h : Reaches b p) (hd : d.length ≤ 1048576) (hk : k < 256) (ha : addP p k d = none) (rest : List UInt8) : scanP nilI (b ++ (recB k d ++ rest)) = (p, b.length) := by
  rw [h, scanP_refused hd hk ha]; simp
/-- Nothing behind what is looked at matters. -/
theorem scanP_again : ∀ (n : Nat) (p : PI) (b : List UInt8), b.length ≤ n → (scanP p b).2 ≤ b.length ∧ scanP p (b.take (scanP p b).2) = scanP p b
  | n, p, b, hn => by
    have zero : scanP p b = (p, 0) → (scanP p b).2 ≤ b.length ∧ scanP p (b.take (scanP p b).2) = scanP p b := fun h => by
      rw [h]
      refine ⟨Nat.zero_le _, ?_⟩
      rw [List.take_zero]
      exact scanP_none (takeB_lt9 (by simp))
    cases ht : takeB b with
    | none => exact zero (scanP_none ht)
    | some q =>
      obtain ⟨k, d, rest⟩ := q
      cases ha : addP p k d with
      | none => exact zero (scanP_stop ht ha)
      | some q =>
        have h1 := takeB_some ht
        obtain ⟨pre, hb, hloc⟩ := takeB_local ht
        cases n with
        | zero => omega
        | succ n =>
          obtain ⟨h2, h3⟩ := scanP_again n q rest (by omega)
          have hpl : pre.length = b.length - rest.length := by rw [hb]; simp
          rw [scanP_step ht ha]
          dsimp only
          refine ⟨by omega, ?_⟩
          have e1 : b.take (b.length - rest.length + (scanP q rest).2) = pre ++ rest.take (scanP q rest).2 := by
            rw [← hpl]
            conv => lhs; rw [hb]
            rw [List.take_length_add_append]
          rw [e1, scanP_step (hloc _) ha, h3]
          congr 2
          rw [List.length_append]
          omega
end Go.SX
namespace Go.SX
open Go Go.ChangeShapes Go.WideShapes Go.RowKit
/-- A slice of slices of bytes: each row's value, its bytes. -/
def InRows (W : World) (v : Value) (rs : List (Value × List UInt8)) : Prop :=
  Sl (allOf W) [] 1 v rs.length (rs.map (·.1)) ∧ ∀ r ∈ rs, SlB (allOf W) [] r.1 r.2
theorem in_rows {H : Type} {enc : TypeId × Value → H} {P : Program} {W : World} {base : Nat} {held : Bool} {t e q : TypeId} {a : Option Addr} {len cap : Nat} {d : DataW H} {ps : List MemPlace}
    (hu : P.underlying t = some (.slice e)) (he : P.underlying e = some (.slice q)) (hq : P.underlying q = some (.int .u8)) (ce : P.cellsOf e = 1) (cq : P.cellsOf q = 1)
    (h : DataW.Trod enc P W base (fun _ => true) held t (.slice a len cap) d ps) : ∃ rs, InRows W (.slice a len cap) rs ∧ rs.length ≤ 9223372036854775807 := by
  obtain ⟨fuel, hf⟩ := h
  rcases Go.Deep.open_int_rows hu he hq ce cq hf with ⟨hcs, _⟩ | ⟨x, l, c, A, L, C, Z, hcs, _, hl, hm, _, hr⟩
  · simp [Value.cells] at hcs
    obtain ⟨rfl, rfl, rfl⟩ := hcs
    exact ⟨[], ⟨Sl.nil _ _ _, by simp⟩, by simp⟩
  · simp [Value.cells] at hcs
    obtain ⟨rfl, rfl, rfl⟩ := hcs
    refine ⟨(List.range len).map fun r => (.slice (A r) (L r) (C r), ((Z r).take (L r)).map fun n => UInt8.ofNat n.toNat), ⟨⟨some x, cap, by simp, by simp, by simpa using hl, by simp, fun i c hi => ?_⟩, ?_⟩, by unfold maxLen at hm; simp; omega⟩
    · rw [List.map_map, List.getElem?_map] at hi
      obtain ⟨n, hn, rfl⟩ := Option.map_eq_some_iff.1 hi
      have hin : i < len ∧ n = i := by
        rcases Nat.lt_or_ge i len with h | h
        · rw [List.getElem?_range h] at hn; cases hn; exact ⟨h, rfl⟩
        · simp [h] at hn
      obtain ⟨hil, rfl⟩ := hin
      obtain ⟨h0, _⟩ := hr n (by omega)
      obtain ⟨h00, _⟩ := hr 0 (by omega)
      have hsp := spot_none h00
      have hx0 : x.add 0 = x := by simp [Addr.add]
      rw [hx0] at hsp
      refine ⟨x.block, x.off, by rw [← hsp], cell_world ?_⟩
      rw [hsp, sliced_add] at h0
      exact h0
    · intro r hrm
      obtain ⟨i, hi, rfl⟩ := List.mem_map.1 hrm
      have hil : i < len := by simpa using hi
      obtain ⟨_, h1, h2, h3, h4, h5, h6⟩ := hr i (by omega)
      have hz : InInts .u8 W (.slice (A i) (L i) (C i)) ((Z i).take (L i)) := by
        have hlen : ((Z i).take (L i)).length = L i := by simp; omega
        refine ⟨⟨A i, C i, by rw [hlen], by simp, by rw [hlen]; exact h1, fun hn => h5 hn, fun j c hj => ?_⟩, fun n hn => h4 n (List.mem_of_mem_take hn)⟩
        rw [List.getElem?_map] at hj
        obtain ⟨n, hn, rfl⟩ := Option.map_eq_some_iff.1 hj
        have hjl : j < L i := by
          have hlt : j < ((Z i).take (L i)).length := by
            rcases Nat.lt_or_ge j ((Z i).take (L i)).length with h | h
            · exact h
            · simp [List.getElem?_eq_none h] at hn
          omega
        cases hA : A i with
        | none => have := h5 hA; omega
        | some y =>
          obtain ⟨_, h7⟩ := h6 y hA
          have hsp := spot_none (h7 0 (by omega))
          have hx0 : y.add 0 = y := by simp [Addr.add]
          rw [hx0] at hsp
          refine ⟨y.block, y.off, by rw [← hsp], cell_world ?_⟩
          have := h7 j (by omega)
          rw [hsp, sliced_add] at this
          rw [this]
          rw [List.getElem?_take] at hn
          simp only [hjl, if_true] at hn
          simp [List.getD, hn]
      exact inBytesE hz
end Go.SX
namespace Go.SX
open Go Go.ChangeShapes Go.WideShapes Go.RowKit Go.Deep
/-- A record that came in. -/
structure RecI where
  k : Nat
  a : Nat
  b : Nat
  v : Int
  dv : Value
  d : List UInt8
instance : Inhabited RecI := ⟨⟨0, 0, 0, 0, .slice none 0 0, []⟩⟩
def RecI.cells (r : RecI) : List Value := [.int .u8 r.k, .int .u64 r.a, .int .u64 r.b, .int .i16 r.v, r.dv]
theorem RecI.cl (r : RecI) : r.cells.length = 5 := rfl
structure RecI.ok (W : World) (r : RecI) : Prop where
  k : r.k < 256
  a : r.a < 18446744073709551616
  b : r.b < 18446744073709551616
  v1 : -32768 ≤ r.v
  v2 : r.v ≤ 32767
  d : SlB (allOf W) [] r.dv r.d
/-- Truths that came in. -/
def InBools (W : World) (v : Value) (bs : List Bool) : Prop := Sl (allOf W) [] 1 v bs.length (bs.map .bool)
theorem in_bool {H : Type} {enc : TypeId × Value → H} {P : Program} {W : World} {base : Nat} {held : Bool} {t e : TypeId} {a : Option Addr} {len cap : Nat} {d : DataW H} {ps : List MemPlace}
    (hu : P.underlying t = some (.slice e)) (he : P.underlying e = some .bool) (hc : P.cellsOf e = 1) (h : DataW.Trod enc P W base (fun _ => true) held t (.slice a len cap) d ps) : ∃ bs, InBools W (.slice a len cap) bs ∧ bs.length ≤ 9223372036854775807 := by
  obtain ⟨fuel, hf⟩ := h
  rcases open_bools hu he hc hf with ⟨hcs, _⟩ | ⟨x, l, c, B, hcs, _, hl, hm, _, hB⟩
  · simp [Value.cells] at hcs
    obtain ⟨rfl, rfl, rfl⟩ := hcs
    exact ⟨[], Sl.nil _ _ _, by simp⟩
  · simp [Value.cells] at hcs
    obtain ⟨rfl, rfl, rfl⟩ := hcs
    have hlen : ((List.range len).map B).length = len := by simp
    refine ⟨(List.range len).map B, ⟨some x, cap, by rw [hlen], by simp, by rw [hlen]; exact hl, by simp, fun i q hi => ?_⟩, by unfold maxLen at hm; rw [hlen]; omega⟩
    have hil : i < len := by
      rcases Nat.lt_or_ge i len with h | h
      · exact h
      · rw [List.getElem?_eq_none (by simp; exact h)] at hi; cases hi
    rw [List.getElem?_map, List.getElem?_map, List.getElem?_range hil] at hi
    simp only [Option.map_some, Option.some.injEq] at hi
    subst hi
    have hsp := spot_none (hB 0 (by omega))
    have hx0 : x.add 0 = x := by simp [Addr.add]
    rw [hx0] at hsp
    refine ⟨x.block, x.off, by rw [← hsp], cell_world ?_⟩
    have h1 := hB i (by omega)
    rw [hsp, sliced_add] at h1
    exact h1
end Go.SX
namespace Go.SX
open Go Go.Proofs
set_option maxRecDepth 4000
set_option linter.unusedSimpArgs false
set_option linter.unusedVariables false
theorem ref_SameE (O : World) (F : Fz) (va vb : Value) (l m : List En) (H : List Ent) (ha : Sl F H 4 va l.length (enV l)) (hb : Sl F H 4 vb m.length (enV m)) (hl : ∀ e ∈ l, e.ok F) (hm : ∀ e ∈ m, e.ok F) (hlm : l.map En.pure = m.map En.pure) (hn : l.length ≤ 1000000) :
    Does Tryz.prog O 11 #[va, vb] F H (fun r F' H' => r = .bool true ∧ F' = F ∧ H' = H) := by
  obtain ⟨a0, cap, rfl, hcap⟩ := Sl.shape ha
  obtain ⟨a1, cap1, rfl, hcap1⟩ := Sl.shape hb
  have hlen : l.length = m.length := by have := congrArg List.length hlm; simpa using this
  refine does_of_run (args := [_, _]) Tryz.func11 rfl rfl ?_
  refine r_seq ?_
  refine r_region rfl ?_
  refine o_val rfl rfl rfl rfl (v_assign rfl) ?_
  refine o_end ?_
  refine r_seq ?_
  refine r_seq ?_
  refine r_region rfl ?_
  refine o_val rfl rfl rfl rfl (v_move rfl) ?_
  refine o_val rfl rfl rfl rfl (v_len rfl rfl) ?_
  refine o_val rfl rfl rfl rfl (v_move rfl) ?_
  refine o_val rfl rfl rfl rfl (v_len rfl rfl) ?_
  refine o_val rfl rfl rfl rfl (v_neq rfl rfl) ?_
  refine o_end ?_
  refine j_slot 10 rfl (v' := .bool false) (by rw [decide_eq_false (by omega)]) ?_
  refine r_false rfl ?_
  refine r_skip ?_
  refine r_seq ?_
  refine r_seq ?_
  refine r_region rfl ?_
  refine o_val rfl rfl rfl rfl (v_assign rfl) ?_
  refine o_end ?_
  refine r_block ?_
  refine r_loop (fun i : Nat => i ≤ l.length) (fun i => [(0, .slice a0 l.length cap), (1, .slice a1 m.length cap1), (5, .int .i64 i)]) (fun _ => F) (fun _ => H) (fun i => l.length - i) 0 (Nat.zero_le _) ⟨rfl, rfl, rfl, trivial⟩ rfl rfl ?_
  intro i hi IH
  refine r_seq ?_
  refine r_seq ?_
  refine r_region rfl ?_
  refine o_val rfl rfl rfl rfl (v_move rfl) ?_
  refine o_val rfl rfl rfl rfl (v_move rfl) ?_
  refine o_val rfl rfl rfl rfl (v_len rfl rfl) ?_
  refine o_val rfl rfl rfl rfl (v_lss rfl rfl) ?_
  refine o_end ?_
  refine r_if rfl (fun h => ?_) (fun h => ?_)
  · have hil : i < l.length := by omega
    have him : i < m.length := by omega
    obtain ⟨b0, off0, c0, hab, hc0⟩ := sl_cells ha hil
    simp only [Value.slice.injEq] at hab
    obtain ⟨rfl, _, rfl⟩ := hab
    obtain ⟨b1, off1, c1, hab, hc1⟩ := sl_cells hb him
    simp only [Value.slice.injEq] at hab
    obtain ⟨rfl, _, rfl⟩ := hab
    have he := hl l[i] (List.getElem_mem _)
    have he' := hm m[i] (List.getElem_mem _)
    have hlk : l[i].pure = m[i].pure := by
      have h1 : (l.map En.pure)[i]? = some l[i].pure := by simp [hil]
      have h2 : (m.map En.pure)[i]? = some m[i].pure := by simp [him]
      rw [hlm, h2] at h1
      exact (Option.some.inj h1).symm
    have hk1 : l[i].ix = m[i].ix := congrArg PE.ix hlk
    have hk2 : l[i].tm = m[i].tm := congrArg PE.tm hlk
    have hk3 : l[i].kd = m[i].kd := congrArg PE.kd hlk
    have hk4 : l[i].data = m[i].data := congrArg PE.data hlk
    generalize l[i] = e at *
    generalize m[i] = e' at *
    refine r_skip ?_
    refine r_seq ?_
    refine r_block ?_
    refine r_seq ?_
    refine d_region 1000000 rfl (H) ?_
    refine d_take (i := 0) rfl rfl rfl (by decide +kernel) (by decide +kernel) (by decide +kernel) (Fz.le_refl _) (fun e he => he) rfl (v_move rfl) ?_
    refine d_take (i := 1) rfl rfl rfl (by decide +kernel) (by decide +kernel) (by decide +kernel) (Fz.le_refl _) (fun e he => he) rfl (v_move rfl) ?_
    refine d_take (i := 2) rfl rfl rfl (by decide +kernel) (by decide +kernel) (by decide +kernel) (Fz.le_refl _) (fun e he => he) rfl (v_indexN (sz := 4) rfl rfl rfl rfl hil) ?_
    refine d_take (i := 3) rfl rfl rfl (by decide +kernel) (by decide +kernel) (by decide +kernel) (Fz.le_refl _) (fun e he => he) rfl (v_field (k := 0) rfl rfl rfl) ?_
    refine d_take (i := 4) rfl rfl rfl (by decide +kernel) (by decide +kernel) (by decide +kernel) (Fz.le_refl _) (fun e he => he) rfl (v_load (v := .int .u64 e.ix) rfl rfl (hc0 0 _ rfl)) ?_
    refine d_take (i := 5) rfl rfl rfl (by decide +kernel) (by decide +kernel) (by decide +kernel) (Fz.le_refl _) (fun e he => he) rfl (v_move rfl) ?_
    refine d_take (i := 6) rfl rfl rfl (by decide +kernel) (by decide +kernel) (by decide +kernel) (Fz.le_refl _) (fun e he => he) rfl (v_move rfl) ?_
    refine d_take (i := 7) rfl rfl rfl (by decide +kernel) (by decide +kernel) (by decide +kernel) (Fz.le_refl _) (fun e he => he) rfl (v_indexN (sz := 4) rfl rfl rfl rfl him) ?_
    refine d_take (i := 8) rfl rfl rfl (by decide +kernel) (by decide +kernel) (by decide +kernel) (Fz.le_refl _) (fun e he => he) rfl (v_field (k := 0) rfl rfl rfl) ?_
    refine d_take (i := 9) rfl rfl rfl (by decide +kernel) (by decide +kernel) (by decide +kernel) (Fz.le_refl _) (fun e he => he) rfl (v_load (v := .int .u64 e'.ix) rfl rfl (hc1 0 _ rfl)) ?_
    refine d_take (i := 10) rfl rfl rfl (by decide +kernel) (by decide +kernel) (by decide +kernel) (Fz.le_refl _) (fun e he => he) rfl (v_neq rfl rfl) ?_
    refine j_slot 27 rfl (v' := .bool false) (by rw [hk1]; simp) ?_
    refine d_take (i := 11) rfl rfl rfl (by decide +kernel) (by decide +kernel) (by decide +kernel) (Fz.le_refl _) (fun e he => he) rfl (v_move rfl) ?_
    refine d_take (i := 12) rfl rfl rfl (by decide +kernel) (by decide +kernel) (by decide +kernel) (Fz.le_refl _) (fun e he => he) rfl (v_move rfl) ?_
    refine d_take (i := 13) rfl rfl rfl (by decide +kernel) (by decide +kernel) (by decide +kernel) (Fz.le_refl _) (fun e he => he) rfl (v_move rfl) ?_
    refine d_take (i := 14) rfl rfl rfl (by decide +kernel) (by decide +kernel) (by decide +kernel) (Fz.le_refl _) (fun e he => he) rfl (v_indexN (sz := 4) rfl rfl rfl rfl hil) ?_
    refine d_take (i := 15) rfl rfl rfl (by decide +kernel) (by decide +kernel) (by decide +kernel) (Fz.le_refl _) (fun e he => he) rfl (v_field (k := 1) rfl rfl rfl) ?_
    refine d_take (i := 16) rfl rfl rfl (by decide +kernel) (by decide +kernel) (by decide +kernel) (Fz.le_refl _) (fun e he => he) rfl (v_load (v := .int .u64 e.tm) rfl rfl (hc0 1 _ rfl)) ?_
    refine d_take (i := 17) rfl rfl rfl (by decide +kernel) (by decide +kernel) (by decide +kernel) (Fz.le_refl _) (fun e he => he) rfl (v_move rfl) ?_
    refine d_take (i := 18) rfl rfl rfl (by decide +kernel) (by decide +kernel) (by decide +kernel) (Fz.le_refl _) (fun e he => he) rfl (v_move rfl) ?_
    refine d_take (i := 19) rfl rfl rfl (by decide +kernel) (by decide +kernel) (by decide +kernel) (Fz.le_refl _) (fun e he => he) rfl (v_indexN (sz := 4) rfl rfl rfl rfl him) ?_
    refine d_take (i := 20) rfl rfl rfl (by decide +kernel) (by decide +kernel) (by decide +kernel) (Fz.le_refl _) (fun e he => he) rfl (v_field (k := 1) rfl rfl rfl) ?_
    refine d_take (i := 21) rfl rfl rfl (by decide +kernel) (by decide +kernel) (by decide +kernel) (Fz.le_refl _) (fun e he => he) rfl (v_load (v := .int .u64 e'.tm) rfl rfl (hc1 1 _ rfl)) ?_
    refine d_take (i := 22) rfl rfl rfl (by decide +kernel) (by decide +kernel) (by decide +kernel) (Fz.le_refl _) (fun e he => he) rfl (v_neq rfl rfl) ?_
    refine j_slot 39 rfl (v' := .bool false) (by rw [hk2]; simp) ?_
    refine d_take (i := 23) rfl rfl rfl (by decide +kernel) (by decide +kernel) (by decide +kernel) (Fz.le_refl _) (fun e he => he) rfl (v_pick0 rfl rfl) ?_
    refine d_take (i := 24) rfl rfl rfl (by decide +kernel) (by decide +kernel) (by decide +kernel) (Fz.le_refl _) (fun e he => he) rfl (v_move rfl) ?_
    refine d_take (i := 25) rfl rfl rfl (by decide +kernel) (by decide +kernel) (by decide +kernel) (Fz.le_refl _) (fun e he => he) rfl (v_move rfl) ?_
    refine d_take (i := 26) rfl rfl rfl (by decide +kernel) (by decide +kernel) (by decide +kernel) (Fz.le_refl _) (fun e he => he) rfl (v_move rfl) ?_
    refine d_take (i := 27) rfl rfl rfl (by decide +kernel) (by decide +kernel) (by decide +kernel) (Fz.le_refl _) (fun e he => he) rfl (v_indexN (sz := 4) rfl rfl rfl rfl hil) ?_
    refine d_take (i := 28) rfl rfl rfl (by decide +kernel) (by decide +kernel) (by decide +kernel) (Fz.le_refl _) (fun e he => he) rfl (v_field (k := 2) rfl rfl rfl) ?_
    refine d_take (i := 29) rfl rfl rfl (by decide +kernel) (by decide +kernel) (by decide +kernel) (Fz.le_refl _) (fun e he => he) rfl (v_load (v := .int .u8 e.kd) rfl rfl (hc0 2 _ rfl)) ?_
    refine d_take (i := 30) rfl rfl rfl (by decide +kernel) (by decide +kernel) (by decide +kernel) (Fz.le_refl _) (fun e he => he) rfl (v_move rfl) ?_
    refine d_take (i := 31) rfl rfl rfl (by decide +kernel) (by decide +kernel) (by decide +kernel) (Fz.le_refl _) (fun e he => he) rfl (v_move rfl) ?_
    refine d_take (i := 32) rfl rfl rfl (by decide +kernel) (by decide +kernel) (by decide +kernel) (Fz.le_refl _) (fun e he => he) rfl (v_indexN (sz := 4) rfl rfl rfl rfl him) ?_
    refine d_take (i := 33) rfl rfl rfl (by decide +kernel) (by decide +kernel) (by decide +kernel) (Fz.le_refl _) (fun e he => he) rfl (v_field (k := 2) rfl rfl rfl) ?_
    refine d_take (i := 34) rfl rfl rfl (by decide +kernel) (by decide +kernel) (by decide +kernel) (Fz.le_refl _) (fun e he => he) rfl (v_load (v := .int .u8 e'.kd) rfl rfl (hc1 2 _ rfl)) ?_
    refine d_take (i := 35) rfl rfl rfl (by decide +kernel) (by decide +kernel) (by decide +kernel) (Fz.le_refl _) (fun e he => he) rfl (v_neq rfl rfl) ?_
    refine j_slot 52 rfl (v' := .bool false) (by rw [hk3]; simp) ?_
    refine d_take (i := 36) rfl rfl rfl (by decide +kernel) (by decide +kernel) (by decide +kernel) (Fz.le_refl _) (fun e he => he) rfl (v_pick0 rfl rfl) ?_
    refine d_take (i := 37) rfl rfl rfl (by decide +kernel) (by decide +kernel) (by decide +kernel) (Fz.le_refl _) (fun e he => he) rfl (v_move rfl) ?_
    refine d_take (i := 38) rfl rfl rfl (by decide +kernel) (by decide +kernel) (by decide +kernel) (Fz.le_refl _) (fun e he => he) rfl (v_move rfl) ?_
    refine d_take (i := 39) rfl rfl rfl (by decide +kernel) (by decide +kernel) (by decide +kernel) (Fz.le_refl _) (fun e he => he) rfl (v_move rfl) ?_
    refine d_take (i := 40) rfl rfl rfl (by decide +kernel) (by decide +kernel) (by decide +kernel) (Fz.le_refl _) (fun e he => he) rfl (v_indexN (sz := 4) rfl rfl rfl rfl hil) ?_
    refine d_take (i := 41) rfl rfl rfl (by decide +kernel) (by decide +kernel) (by decide +kernel) (Fz.le_refl _) (fun e he => he) rfl (v_field (k := 3) rfl rfl rfl) ?_
    refine d_take (i := 42) rfl rfl rfl (by decide +kernel) (by decide +kernel) (by decide +kernel) (Fz.le_refl _) (fun e he => he) rfl (v_load (v := e.dv) rfl rfl (hc0 3 _ rfl)) ?_
    refine d_take (i := 43) rfl rfl rfl (by decide +kernel) (by decide +kernel) (by decide +kernel) (Fz.le_refl _) (fun e he => he) rfl (v_bytesString rfl rfl rfl rfl (l := e.data) (he.dv.frz (Fz.le_refl _))) ?_
    refine d_take (i := 44) rfl rfl rfl (by decide +kernel) (by decide +kernel) (by decide +kernel) (Fz.le_refl _) (fun e he => he) rfl (v_move rfl) ?_
    refine d_take (i := 45) rfl rfl rfl (by decide +kernel) (by decide +kernel) (by decide +kernel) (Fz.le_refl _) (fun e he => he) rfl (v_move rfl) ?_
    refine d_take (i := 46) rfl rfl rfl (by decide +kernel) (by decide +kernel) (by decide +kernel) (Fz.le_refl _) (fun e he => he) rfl (v_indexN (sz := 4) rfl rfl rfl rfl him) ?_
    refine d_take (i := 47) rfl rfl rfl (by decide +kernel) (by decide +kernel) (by decide +kernel) (Fz.le_refl _) (fun e he => he) rfl (v_field (k := 3) rfl rfl rfl) ?_
    refine d_take (i := 48) rfl rfl rfl (by decide +kernel) (by decide +kernel) (by decide +kernel) (Fz.le_refl _) (fun e he => he) rfl (v_load (v := e'.dv) rfl rfl (hc1 3 _ rfl)) ?_
    refine d_take (i := 49) rfl rfl rfl (by decide +kernel) (by decide +kernel) (by decide +kernel) (Fz.le_refl _) (fun e he => he) rfl (v_bytesString rfl rfl rfl rfl (l := e'.data) (he'.dv.frz (Fz.le_refl _))) ?_
    refine d_take (i := 50) rfl rfl rfl (by decide +kernel) (by decide +kernel) (by decide +kernel) (Fz.le_refl _) (fun e he => he) rfl (v_sneq rfl rfl) ?_
    refine j_slot 67 rfl (v' := .bool false) (by rw [hk4]; simp) ?_
    refine d_take (i := 51) rfl rfl rfl (by decide +kernel) (by decide +kernel) (by decide +kernel) (Fz.le_refl _) (fun e he => he) rfl (v_pick0 rfl rfl) ?_
    refine d_end (by decide +kernel) ?_
    refine r_false rfl ?_
    refine r_skip ?_
    refine r_inBlock ?_
    refine r_region rfl ?_
    refine o_val rfl rfl rfl rfl (v_move rfl) ?_
    refine o_val rfl rfl rfl rfl (v_add rfl rfl (wrap_i64 (by omega) (by omega))) ?_
    refine o_val rfl rfl rfl rfl (v_assign rfl) ?_
    refine o_end ?_
    refine j_keep ?_ (IH (i + 1) hil (by omega))
    exact ⟨rfl, rfl, rfl, trivial⟩
  · refine r_exit rfl ?_
    refine r_seq ?_
    refine r_region rfl ?_
    refine o_val rfl rfl rfl rfl (v_assign rfl) ?_
    refine o_end ?_
    exact r_ret1 Tryz.func11 rfl rfl ⟨⟨rfl, rfl, rfl⟩, Fz.le_refl _⟩
end Go.SX
namespace Go.SX
open Go Go.Proofs
set_option maxRecDepth 4000
set_option linter.unusedSimpArgs false
set_option linter.unusedVariables false
/-- Entries stand one behind the other. -/
def Consec (ix : Nat) (l : List En) : Prop := ∀ (i : Nat) (h : i < l.length), l[i].ix = ix + i + 1
theorem Consec.nil (ix : Nat) : Consec ix [] := fun i h => by simp at h
theorem Consec.more {ix : Nat} {l : List En} {e : En} {n : Nat} (h : Consec ix l) (hn : n ≤ l.length) (he : e.ix = ix + n + 1) : Consec ix (l.take n ++ [e]) := fun i hi => by
  have hl : (l.take n).length = n := by simp; omega
  rcases Nat.lt_or_ge i n with h1 | h1
  · rw [List.getElem_append_left (by omega), List.getElem_take]
    exact h i (by omega)
  · rw [List.getElem_append_right (by omega)]
    have : i = n := by simp [hl] at hi; omega
    subst this
    simp [hl, he]
end Go.SX
namespace Go.SX
open Go Go.Proofs
set_option maxRecDepth 4000
set_option linter.unusedSimpArgs false
set_option linter.unusedVariables false
/-- The numbers of a record are numbers. -/
structure RecI.fit (r : RecI) : Prop where
  k : r.k < 256
  a : r.a < 18446744073709551616
  b : r.b < 18446744073709551616
  v1 : -32768 ≤ r.v
  v2 : r.v ≤ 32767
  d : r.d.length ≤ 200
end Go.SX
namespace Go.SX
open Go Go.Proofs
set_option maxRecDepth 4000
set_option linter.unusedSimpArgs false
set_option linter.unusedVariables false
abbrev catR (rl : List (Nat × List UInt8)) : List UInt8 := rl.flatMap fun x => recB x.1 x.2
theorem catR_append (a b : List (Nat × List UInt8)) : catR (a ++ b) = catR a ++ catR b := List.flatMap_append
def stW (W : List PI) (j : Nat) : PI := ((nilI :: W)[j]?).getD nilI
def endAt (rl : List (Nat × List UInt8)) (j : Nat) : Nat := (catR (rl.take j)).length
structure Track (rl : List (Nat × List UInt8)) (W : List PI) : Prop where
  len : W.length = rl.length
  fit : ∀ x ∈ rl, x.1 < 256 ∧ x.2.length ≤ 300
  re : ∀ j, j ≤ rl.length → Reaches (catR (rl.take j)) (stW W j)
theorem Track.nil : Track [] [] := ⟨rfl, by simp, fun j hj => by
  obtain rfl : j = 0 := by simpa using hj
  exact Reaches.nil⟩
theorem stW_app {W V : List PI} {j : Nat} (h : j ≤ W.length) : stW (W ++ V) j = stW W j := by
  unfold stW
  rw [← List.cons_append, List.getElem?_append_left (by simp; omega)]
theorem stW_end (W : List PI) (q : PI) : stW (W ++ [q]) (W.length + 1) = q := by
  unfold stW
  rw [List.getElem?_cons_succ, List.getElem?_append_right (Nat.le_refl _)]
  simp
theorem Track.more {rl : List (Nat × List UInt8)} {W : List PI} {k : Nat} {d : List UInt8} {q : PI} (h : Track rl W) (hk : k < 256) (hd : d.length ≤ 300) (ha : addP (stW W rl.length) k d = some q) : Track (rl ++ [(k, d)]) (W ++ [q]) := by
  refine ⟨by simp [h.len], fun x hx => ?_, fun j hj => ?_⟩
  · rcases List.mem_append.1 hx with hx | hx
    · exact h.fit x hx
    · rw [List.mem_singleton] at hx
      subst hx
      exact ⟨hk, hd⟩
  · rcases Nat.lt_or_ge rl.length j with h1 | h1
    · obtain rfl : j = rl.length + 1 := by simp at hj; omega
      have e1 : (rl ++ [(k, d)]).take (rl.length + 1) = rl ++ [(k, d)] := List.take_of_length_le (by simp)
      have e2 : stW (W ++ [q]) (rl.length + 1) = q := by rw [← h.len]; exact stW_end W q
      rw [e1, e2, catR_append]
      have h2 := h.re rl.length (Nat.le_refl _)
      rw [List.take_length] at h2
      have h3 := h2.more (by omega) hk ha
      simpa [catR] using h3
    · rw [List.take_append_of_le_length h1, stW_app (by rw [h.len]; exact h1)]
      exact h.re j h1
def Stops (q : PI) (tail : List UInt8) : Prop := tail = [] ∨ ∃ k d rest, tail = recB k d ++ rest ∧ d.length ≤ 300 ∧ k < 256 ∧ addP q k d = none
theorem Stops.take {q : PI} {tail b : List UInt8} (h : Stops q tail) (hb : Reaches b q) (c : Nat) : scanP nilI (b ++ tail.take c) = (q, b.length) := by
  rcases h with rfl | ⟨k, d, rest, rfl, hd, hk, ha⟩
  · rw [List.take_nil]
    exact hb.stop (takeB_lt9 (by simp))
  · rcases Nat.lt_or_ge c (d.length + 9) with h1 | h1
    · rw [List.take_append_of_le_length (by rw [recB_length]; omega)]
      exact hb.stop (takeB_cut (by omega) h1)
    · have : (recB k d ++ rest).take c = recB k d ++ rest.take (c - (d.length + 9)) := by
        rw [List.take_append, List.take_of_length_le (by rw [recB_length]; exact h1), recB_length]
      rw [this]
      exact hb.refused (by omega) hk ha _
theorem endAt_len (rl : List (Nat × List UInt8)) : endAt rl rl.length = (catR rl).length := by unfold endAt; rw [List.take_length]
theorem endAt_succ {rl : List (Nat × List UInt8)} {j : Nat} (h : j < rl.length) : endAt rl (j + 1) = endAt rl j + rl[j].2.length + 9 := by
  unfold endAt
  rw [List.take_succ_eq_append_getElem h, catR_append, List.length_append]
  simp [catR]
  omega
theorem endAt_mono {rl : List (Nat × List UInt8)} : ∀ {k j : Nat}, j ≤ k → k ≤ rl.length → endAt rl j ≤ endAt rl k
  | 0, j, h, _ => by obtain rfl : j = 0 := by omega
                     exact Nat.le_refl _
  | k + 1, j, h, hk => by
    rcases Nat.lt_or_ge k j with h1 | h1
    · obtain rfl : j = k + 1 := by omega
      exact Nat.le_refl _
    · have := endAt_mono h1 (Nat.le_of_succ_le hk)
      have := endAt_succ (rl := rl) (j := k) hk
      omega
theorem endAt_app {rl : List (Nat × List UInt8)} {x : Nat × List UInt8} {j : Nat} (h : j ≤ rl.length) : endAt (rl ++ [x]) j = endAt rl j := by
  unfold endAt
  rw [List.take_append_of_le_length h]
theorem scan_cut {rl : List (Nat × List UInt8)} {W : List PI} {tail : List UInt8} (h : Track rl W) (hs : Stops (stW W rl.length) tail) {m c : Nat} (hm : m ≤ rl.length) (hc : endAt rl m ≤ c) (hc2 : m < rl.length → c < endAt rl (m + 1)) : scanP nilI ((catR rl ++ tail).take c) = (stW W m, endAt rl m) := by
  rcases Nat.lt_or_ge m rl.length with h1 | h1
  · have hc2 := hc2 h1
    rw [endAt_succ h1] at hc2
    have e1 : rl = rl.take m ++ rl[m] :: rl.drop (m + 1) := by rw [List.getElem_cons_drop, List.take_append_drop]
    have e2 : catR rl = catR (rl.take m) ++ (recB rl[m].1 rl[m].2 ++ catR (rl.drop (m + 1))) := by
      conv => lhs; rw [e1]
      rw [catR_append]
      rfl
    have hf := h.fit rl[m] (List.getElem_mem _)
    have e3 : (catR rl ++ tail).take c = catR (rl.take m) ++ (recB rl[m].1 rl[m].2).take (c - endAt rl m) := by
      rw [e2, List.append_assoc, List.take_append, List.take_of_length_le (show (catR (rl.take m)).length ≤ c from hc)]
      congr 1
      rw [List.append_assoc, List.take_append_of_le_length (by rw [recB_length]; show c - endAt rl m ≤ _; omega)]
      rfl
    rw [e3]
    exact (h.re m (by omega)).stop (takeB_cut (by omega) (by omega))
  · obtain rfl : m = rl.length := by omega
    have h2 := h.re rl.length (Nat.le_refl _)
    rw [List.take_length] at h2
    rw [endAt_len] at hc ⊢
    rw [List.take_append, List.take_of_length_le hc]
    exact hs.take h2 _
def endsV (rl : List (Nat × List UInt8)) : List Value := (List.range rl.length).map fun j => Value.int .i64 (endAt rl (j + 1) : Nat)
@[simp] theorem endsV_length (rl : List (Nat × List UInt8)) : (endsV rl).length = rl.length := by simp [endsV]
theorem endsV_app (rl : List (Nat × List UInt8)) (x : Nat × List UInt8) : endsV (rl ++ [x]) = endsV rl ++ [.int .i64 ((catR (rl ++ [x])).length : Nat)] := by
  unfold endsV
  rw [List.length_append, List.length_singleton, List.range_succ, List.map_append]
  congr 1
  · apply List.map_congr_left
    intro j hj
    rw [endAt_app (by have := List.mem_range.1 hj; omega)]
  · have := endAt_len (rl ++ [x])
    rw [List.length_append, List.length_singleton] at this
    simp only [List.map_cons, List.map_nil]
    rw [this]
theorem endsV_get {rl : List (Nat × List UInt8)} {j : Nat} (h : j < rl.length) : (endsV rl)[j]? = some (.int .i64 (endAt rl (j + 1) : Nat)) := by
  unfold endsV
  rw [List.getElem?_map, List.getElem?_range h]
  rfl
theorem Im.cl (p : Im) : p.cells.length = 7 := rfl
end Go.SX
namespace Go.SX
open Go Go.Proofs
set_option maxRecDepth 4000
set_option linter.unusedSimpArgs false
set_option linter.unusedVariables false
theorem wal_Keep (O : World) (F : Fz) (a : Nat) (bf : Bf) (b : List UInt8) (sure ops : Nat) (h : Bool) (t : Nat) (vo : Int) (lv : Value) (l : List En) (Fr : List Ent) (hok : bf.ok b.length) (hb : b.length ≤ 100000000000) (ho : ops ≤ 9223372036854775806)
    (hv : Sl F [] 4 lv l.length (enV l)) (hl : ∀ e ∈ l, e.ok F) (hn : l.length ≤ 1000) (h1 : -1 ≤ vo) (h2 : vo < 65535) :
    Does Tryz.prog O 6 #[ptrV a, .agg #[.bool h, .int .u64 t, .int .i64 vo, lv]] F (DkE a bf b sure ops :: (bf.ents 1 (bytesV b) ++ Fr)) (fun r F' H' => r = .int .i64 0 ∧ F' = F ∧ ∃ bf' : Bf, bf'.ok (b ++ saveB h t vo (l.map En.pure)).length ∧
      H' = DkE a bf' (b ++ saveB h t vo (l.map En.pure)) sure (ops + 1) :: (bf'.ents 1 (bytesV (b ++ saveB h t vo (l.map En.pure))) ++ Fr)) := by
  obtain ⟨a0, cap, rfl, hcap⟩ := Sl.shape hv
  have hsl := saveB_le h t vo l hl hn
  refine does_of_run (args := [_, _]) Tryz.func6 rfl rfl ?_
  refine r_seq ?_
  refine r_region rfl ?_
  refine o_act rfl rfl rfl rfl (a_box rfl) ?_
  rintro v' H' ⟨s0, rfl, rfl⟩
  refine o_val rfl rfl rfl rfl (v_assign rfl) ?_
  refine o_end ?_
  refine r_seq ?_
  refine r_region rfl ?_
  refine o_val rfl rfl rfl rfl (v_move rfl) ?_
  refine o_val rfl rfl rfl rfl (v_loadAgg (sz := 4) (cs := [.bool h, .int .u64 t, .int .i64 vo, .slice a0 l.length cap]) rfl rfl rfl rfl (cells_ofp (j := 0) _ _ rfl rfl)) ?_
  refine o_call rfl rfl rfl rfl (c_call callable19 rfl) (wal_Bytes _ _ h t vo (.slice a0 l.length cap) l _ (hv.frz (Fz.le_refl _)) hl hn h1 h2) ?_
  rintro v' F H' ⟨rfl, bs, oks, rfl, rfl⟩ _
  generalize saveB h t vo (l.map En.pure) = m at *
  refine j_sel (H' := DkE a bf b sure ops :: (bf.ents 1 (bytesV b) ++ (bs.ents 1 (bytesV m) ++ Fr))) [bs.ents 1 (bytesV m), [Ent.mem s0 [.bool h, .int .u64 t, .int .i64 vo, .slice a0 l.length cap] 4], [DkE a bf b sure ops], bf.ents 1 (bytesV b), Fr] [2, 3, 0, 4] rfl rfl rfl ?_
  refine o_call rfl rfl rfl rfl (c_call callable18 rfl) (dk_Append _ _ a bf b m sure ops _ (bs.ents 1 (bytesV m) ++ Fr) hok (bf_reads oks (by intro q hq; exact List.mem_append_left _ hq)) (by omega) ho) ?_
  rintro v' F H' ⟨rfl, rfl, bf', hok', rfl⟩ _
  refine o_val rfl rfl rfl rfl (v_assign rfl) ?_
  refine o_end ?_
  refine j_sel (H' := DkE a bf' (b ++ m) sure (ops + 1) :: (bf'.ents 1 (bytesV (b ++ m)) ++ Fr)) [[DkE a bf' (b ++ m) sure (ops + 1)], bf'.ents 1 (bytesV (b ++ m)), bs.ents 1 (bytesV m), Fr] [0, 1, 3] rfl rfl rfl ?_
  exact r_ret1 Tryz.func6 rfl rfl ⟨⟨rfl, rfl, bf', hok', rfl⟩, Fz.le_refl _⟩
theorem wal_Open (O : World) (F : Fz) (a : Nat) (bf : Bf) (l : List UInt8) (sure ops : Nat) (Fr : List Ent) (hok : bf.ok l.length) (hl : l.length ≤ 10000000000) (ho : ops ≤ 9223372036854775806) :
    Does Tryz.prog O 10 #[ptrV a] F (DkE a bf l sure ops :: (bf.ents 1 (bytesV l) ++ Fr)) (fun r F' H' => F.le F' ∧ ∃ (p : Im) (bf2 : Bf) (sure2 ops2 : Nat), p.ok F' ∧ p.l.length ≤ l.length ∧ p.pure = (scanP nilI l).1 ∧ r = .tuple #[.agg p.cells.toArray, .int .i64 0] ∧ bf2.ok (l.take (scanP nilI l).2).length ∧ ((scanP nilI l).2 = l.length → sure2 = sure) ∧
      H' = DkE a bf2 (l.take (scanP nilI l).2) sure2 ops2 :: (bf2.ents 1 (bytesV (l.take (scanP nilI l).2)) ++ Fr)) := by
  refine does_of_run (args := [_]) Tryz.func10 rfl rfl ?_
  obtain ⟨hsc1, _⟩ := scanP_again l.length nilI l (Nat.le_refl _)
  refine r_seq ?_
  refine r_region rfl ?_
  refine o_act rfl rfl rfl rfl (a_alloc rfl) ?_
  rintro v' H' ⟨x, rfl, rfl⟩
  obtain ⟨z0, hz0⟩ : ∃ z0 : Im, z0 = ⟨0, 0, 0, 0, 0, .slice none 0 0, [], .slice none 0 0, []⟩ := ⟨_, rfl⟩
  refine j_heap (H' := .mem x z0.cells 7 :: DkE a bf l sure ops :: (bf.ents 1 (bytesV l) ++ Fr)) (by rw [hz0]; rfl) ?_
  refine j_sel (H' := DkE a bf l sure ops :: (bf.ents 1 (bytesV l) ++ (.mem x z0.cells 7 :: Fr))) [[Ent.mem x z0.cells 7], [DkE a bf l sure ops], bf.ents 1 (bytesV l), Fr] [1, 2, 0, 3] rfl rfl rfl ?_
  refine o_val rfl rfl rfl rfl (v_assign rfl) ?_
  refine o_end ?_
  refine r_seq ?_
  refine r_seq ?_
  refine r_region rfl ?_
  refine o_val rfl rfl rfl rfl (v_move rfl) ?_
  refine o_val rfl rfl rfl rfl (v_peqnil rfl rfl rfl) ?_
  refine o_end ?_
  refine r_false rfl ?_
  refine r_skip ?_
  refine r_seq ?_
  refine r_region rfl ?_
  refine o_val rfl rfl rfl rfl (v_move rfl) ?_
  refine o_call rfl rfl rfl rfl (c_call callable20 rfl) (dk_Read _ _ a bf l sure ops _ hok (by omega)) ?_
  rintro v' F H' ⟨rfl, bc, okc, rfl, rfl⟩ _
  refine j_freezeBf (n := l.length) okc (by simp) fun F1 hF1 hs1 => ?_
  have hs1' : SlB F1 [] (bc.val l.length) l := hs1
  refine o_val rfl rfl rfl rfl (v_assign rfl) ?_
  refine o_end ?_
  refine r_seq ?_
  refine r_region rfl ?_
  refine o_val rfl rfl rfl rfl (v_move rfl) ?_
  refine o_call rfl rfl rfl rfl (c_call callable21 rfl) (wal_Scan _ _ _ l _ hs1' hl) ?_
  rintro v' F2 H' ⟨hF2, rfl, p, hp, hpl, hpp, rfl⟩ _
  have hpo := hp.one
  generalize hn : (scanP nilI l).2 = n at *
  refine o_val rfl rfl rfl rfl (v_move rfl) ?_
  refine o_val rfl rfl rfl rfl (v_extract rfl rfl) ?_
  refine o_val rfl rfl rfl rfl (v_extract rfl rfl) ?_
  refine o_act rfl rfl rfl rfl (a_alloc rfl) ?_
  rintro v' H' ⟨y, rfl, rfl⟩
  refine o_act0 rfl rfl rfl (a_store (sz := 7) 0 rfl rfl rfl (by simpa [Value.cells] using hpo) rfl rfl (Nat.le_of_ble_eq_true rfl)) ?_
  refine j_heap (H' := .mem y p.cells 7 :: DkE a bf l sure ops :: (bf.ents 1 (bytesV l) ++ (.mem x z0.cells 7 :: Fr))) rfl ?_
  refine j_sel (H' := DkE a bf l sure ops :: (bf.ents 1 (bytesV l) ++ (.mem y p.cells 7 :: .mem x z0.cells 7 :: Fr))) [[Ent.mem y p.cells 7], [DkE a bf l sure ops], bf.ents 1 (bytesV l), [Ent.mem x z0.cells 7], Fr] [1, 2, 0, 3, 4] rfl rfl rfl ?_
  refine o_val rfl rfl rfl rfl (v_assign rfl) ?_
  refine o_end ?_
  refine r_seq ?_
  refine r_seq ?_
  refine r_region rfl ?_
  refine o_val rfl rfl rfl rfl (v_move rfl) ?_
  refine o_val rfl rfl rfl rfl (v_move rfl) ?_
  refine o_val rfl rfl rfl rfl (v_len rfl rfl) ?_
  refine o_val rfl rfl rfl rfl (v_lss rfl rfl) ?_
  refine o_end ?_
  refine r_if rfl (fun g => ?_) (fun g => ?_)
  · have hvt : SlB F2 [] (Go.sliced bc.addr 0 n bc.cp 1) (l.take n) := SlB.take (hs1'.frz hF2) (by omega)
    refine r_region rfl ?_
    refine o_val rfl rfl rfl rfl (v_move rfl) ?_
    refine o_val rfl rfl rfl rfl (v_move rfl) ?_
    refine o_val rfl rfl rfl rfl (v_move rfl) ?_
    refine o_val rfl rfl rfl rfl (v_sliceH (sz := 1) rfl rfl rfl rfl rfl (by have := Bf.ok_cp okc; omega)) ?_
    refine o_call rfl rfl rfl rfl (c_call callable22 rfl) (dk_Put _ _ a bf l (l.take n) sure ops _ (.mem y p.cells 7 :: .mem x z0.cells 7 :: Fr) (hvt.frz (Fz.le_refl _)) (by simp; omega) ho) ?_
    rintro v' F2 H' ⟨rfl, rfl, bf', hok', rfl⟩ _
    generalize hD1 : DkE a bf' (l.take n) (l.take n).length (ops + 1) = D1
    generalize hB1 : bf'.ents 1 (bytesV (l.take n)) = B1
    refine o_end ?_
    refine r_seq ?_
    refine r_region rfl ?_
    refine j_sel (H' := .mem y p.cells 7 :: .mem x z0.cells 7 :: D1 :: (B1 ++ Fr)) [[D1], B1, [Ent.mem y p.cells 7], [Ent.mem x z0.cells 7], Fr] [2, 3, 0, 1, 4] rfl rfl rfl ?_
    refine o_val rfl rfl rfl rfl (v_loadAgg (sz := 7) (cs := p.cells) rfl rfl rfl rfl (cells_ofp (j := 0) _ _ rfl rfl)) ?_
    refine o_act0 rfl rfl rfl (a_store (sz := 7) 1 rfl rfl rfl (by simpa [Value.cells] using hpo) rfl rfl (by rw [hz0]; exact Nat.le_of_ble_eq_true rfl)) ?_
    refine j_heap (H' := .mem y p.cells 7 :: .mem x p.cells 7 :: D1 :: (B1 ++ Fr)) (by rw [hz0]; rfl) ?_
    refine o_val rfl rfl rfl rfl (v_assign rfl) ?_
    refine o_end ?_
    subst hD1 hB1
    exact r_retC1 Tryz.func10 rfl rfl rfl rfl rfl rfl (cells_ofp (j := 1) _ _ rfl rfl) (H' := DkE a bf' (l.take n) (l.take n).length (ops + 1) :: (bf'.ents 1 (bytesV (l.take n)) ++ Fr)) ((List.sublist_cons_self _ _).trans (List.sublist_cons_self _ _)) ⟨⟨Fz.le_trans hF1 hF2, p, bf', _, _, hp, hpl, hpp, rfl, hok', fun h => by omega, rfl⟩, Fz.le_trans hF1 hF2⟩
  · have hnl : n = l.length := by omega
    generalize hD1 : DkE a bf l sure ops = D1
    generalize hB1 : bf.ents 1 (bytesV l) = B1
    refine r_skip ?_
    refine r_seq ?_
    refine r_region rfl ?_
    refine j_sel (H' := .mem y p.cells 7 :: .mem x z0.cells 7 :: D1 :: (B1 ++ Fr)) [[D1], B1, [Ent.mem y p.cells 7], [Ent.mem x z0.cells 7], Fr] [2, 3, 0, 1, 4] rfl rfl rfl ?_
    refine o_val rfl rfl rfl rfl (v_loadAgg (sz := 7) (cs := p.cells) rfl rfl rfl rfl (cells_ofp (j := 0) _ _ rfl rfl)) ?_
    refine o_act0 rfl rfl rfl (a_store (sz := 7) 1 rfl rfl rfl (by simpa [Value.cells] using hpo) rfl rfl (by rw [hz0]; exact Nat.le_of_ble_eq_true rfl)) ?_
    refine j_heap (H' := .mem y p.cells 7 :: .mem x p.cells 7 :: D1 :: (B1 ++ Fr)) (by rw [hz0]; rfl) ?_
    refine o_val rfl rfl rfl rfl (v_assign rfl) ?_
    refine o_end ?_
    subst hD1 hB1
    have htl : l.take n = l := by rw [hnl, List.take_length]
    exact r_retC1 Tryz.func10 rfl rfl rfl rfl rfl rfl (cells_ofp (j := 1) _ _ rfl rfl) (H' := DkE a bf l sure ops :: (bf.ents 1 (bytesV l) ++ Fr)) ((List.sublist_cons_self _ _).trans (List.sublist_cons_self _ _)) ⟨⟨Fz.le_trans hF1 hF2, p, bf, sure, ops, hp, hpl, hpp, rfl, by rw [htl]; exact hok, fun _ => rfl, by rw [htl]⟩, Fz.le_trans hF1 hF2⟩
end Go.SX
