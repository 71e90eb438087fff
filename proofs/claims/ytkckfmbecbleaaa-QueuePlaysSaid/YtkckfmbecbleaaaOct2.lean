/-
  Contracts of package octet: the reader, and opening what is sealed.
-/
import Derived.Test.YtkckfmbecbleaaaOct
namespace Go.SX
open Go Go.Proofs


/-- A number of some bytes, the lowest first. -/
def leN : List UInt8 → Nat
  | [] => 0
  | b :: r => b.toNat + 256 * leN r
theorem leN_lt : ∀ l : List UInt8, leN l < 256 ^ l.length
  | [] => by simp [leN]
  | b :: r => by
    have h1 := leN_lt r
    have h2 := b.toNat_lt
    simp only [leN, List.length_cons, Nat.pow_succ]
    omega
theorem leN_snoc : ∀ (l : List UInt8) (b : UInt8), leN (l ++ [b]) = leN l + b.toNat * 256 ^ l.length
  | [], b => by simp [leN]
  | x :: r, b => by
    simp only [List.cons_append, leN, leN_snoc r b, List.length_cons, Nat.pow_succ, Nat.mul_add]
    rw [Nat.mul_comm (256 ^ r.length) 256, Nat.mul_left_comm]
    omega

/-- What a number's reading comes to: the number, the bytes behind, a fault. -/
def rdNum (l : List UInt8) (bad : Bool) (n : Int) : Nat × List UInt8 × Bool :=
  if bad = true ∨ n < 0 ∨ (l.length : Int) < n then (0, l, true) else (leN (l.take (min n.toNat 8)), l.drop n.toNat, false)

theorem u64_shl (b : UInt8) (i : Nat) (hi : i < 8) : IntKind.u64.wrap ((b.toNat : Int) * 2 ^ (min (8 * (i : Int)).toNat IntKind.u64.bits)) = ((b.toNat * 256 ^ i : Nat) : Int) := by
  have h1 : (8 * (i : Int)).toNat = 8 * i := by omega
  have h2 : min (8 * i) IntKind.u64.bits = 8 * i := by show min (8 * i) 64 = 8 * i; omega
  rw [h1, h2]
  have h3 : (2 : Int) ^ (8 * i) = ((256 ^ i : Nat) : Int) := by
    rw [Int.pow_mul]
    simp
  rw [h3, ← Int.natCast_mul]
  have hb := b.toNat_lt
  have h4 : (256 : Nat) ^ i ≤ 256 ^ 7 := Nat.pow_le_pow_right (by decide) (by omega)
  have h5 : b.toNat * 256 ^ i ≤ 255 * 256 ^ 7 := Nat.mul_le_mul (by omega) h4
  exact wrap_u64 (by omega) (by have : (255 * 256 ^ 7 : Nat) < 18446744073709551616 := by decide
                                omega)
theorem u64_or (x y i : Nat) (hx : x < 256 ^ i) (hy : y < 256) (hi : i < 8) : bitOp .or .u64 (x : Int) ((y * 256 ^ i : Nat) : Int) = ((x + y * 256 ^ i : Nat) : Int) := by
  have h4 : (256 : Nat) ^ i ≤ 256 ^ 7 := Nat.pow_le_pow_right (by decide) (by omega)
  have h5 : y * 256 ^ i ≤ 255 * 256 ^ 7 := Nat.mul_le_mul (by omega) h4
  have h6 : (255 * 256 ^ 7 + 256 ^ 7 : Nat) ≤ 18446744073709551616 := by decide
  show IntKind.u64.wrap ((BitVec.ofInt 64 (x : Int) ||| BitVec.ofInt 64 ((y * 256 ^ i : Nat) : Int)).toNat : Int) = _
  rw [BitVec.toNat_or, BitVec.ofInt_natCast, BitVec.ofInt_natCast, BitVec.toNat_ofNat, BitVec.toNat_ofNat, Nat.mod_eq_of_lt (by omega), Nat.mod_eq_of_lt (by omega)]
  have h7 : x ||| y * 256 ^ i = x + y * 256 ^ i := by
    have h8 : (256 : Nat) ^ i = 2 ^ (8 * i) := by rw [Nat.pow_mul]
    rw [h8] at hx ⊢
    have := Nat.two_pow_add_eq_or_of_lt hx y
    rw [Nat.mul_comm y, Nat.or_comm, ← this, Nat.add_comm]
  rw [h7]
  exact wrap_u64 (by omega) (by omega)

theorem rdNum_lt (l : List UInt8) (bad : Bool) (n : Int) : (rdNum l bad n).1 < 256 ^ (min n.toNat 8) := by
  unfold rdNum
  split
  · exact Nat.pow_pos (by decide)
  · refine Nat.lt_of_lt_of_le (leN_lt _) (Nat.pow_le_pow_right (by decide) ?_)
    simp only [List.length_take]
    omega
theorem rdNum_len (l : List UInt8) (bad : Bool) (n : Int) : (rdNum l bad n).2.1.length ≤ l.length := by
  unfold rdNum
  split <;> simp

/-- A part of bytes. -/
theorem SlB.drop {F : Fz} {H : List Ent} {a : Option Addr} {cap k : Nat} {l : List UInt8} (hv : SlB F H (.slice a l.length cap) l) (hk : k ≤ l.length) : SlB F H (Go.sliced a k l.length cap 1) (l.drop k) := by
  have := Sl.sliced hv hk (Nat.le_refl _)
  rw [Nat.mul_one, Nat.mul_one] at this
  unfold SlB
  rw [List.length_drop]
  have hd : bytesV (l.drop k) = ((bytesV l).drop k).take (l.length - k) := by
    rw [List.take_of_length_le (by simp)]
    simp [bytesV]
  rw [hd]
  exact this
theorem SlB.take {F : Fz} {H : List Ent} {a : Option Addr} {cap k : Nat} {l : List UInt8} (hv : SlB F H (.slice a l.length cap) l) (hk : k ≤ l.length) : SlB F H (Go.sliced a 0 k cap 1) (l.take k) := by
  have := Sl.sliced hv (Nat.zero_le k) hk
  rw [Nat.mul_one, Nat.mul_one, Nat.sub_zero] at this
  unfold SlB
  rw [List.length_take, Nat.min_eq_left hk]
  have hd : bytesV (l.take k) = ((bytesV l).drop 0).take k := by simp [bytesV]
  rw [hd]
  exact this
theorem SlB.takeM {F : Fz} {H : List Ent} {a : Option Addr} {cap k : Nat} {l : List UInt8} (hv : SlB F H (.slice a l.length cap) l) (hk : k ≤ l.length) : SlB F H (Go.sliced a 0 k k 1) (l.take k) := by
  obtain ⟨a', c', h1, h2, h3, h4, h5⟩ := SlB.take hv hk
  simp only [Go.sliced, Value.slice.injEq] at h1
  obtain ⟨rfl, hlen, rfl⟩ := h1
  refine ⟨if k = 0 then a else a.map (·.add (0 * 1)), k - 0, ?_, h2, by omega, fun hn => ?_, fun i c hi => ?_⟩
  · simp only [Go.sliced, Value.slice.injEq]
    exact ⟨trivial, hlen, trivial⟩
  · by_cases hk0 : k = 0
    · omega
    · simp only [hk0, if_false] at hn
      have hlt : 0 < (bytesV (l.take k)).length := by simp; omega
      obtain ⟨b, off, hb, _⟩ := h5 0 _ (List.getElem?_eq_getElem hlt)
      split at hb
      · subst hb; simp at hn
      · rw [hn] at hb; cases hb
  · obtain ⟨b, off, hb, hc⟩ := h5 i c hi
    refine ⟨b, off, ?_, hc⟩
    have hlt : i < (bytesV (l.take k)).length := by
      rcases Nat.lt_or_ge i (bytesV (l.take k)).length with h | h
      · exact h
      · simp [List.getElem?_eq_none h] at hi
    have hk0 : ¬ k = 0 := by simp at hlt; omega
    rw [if_neg hk0]
    split at hb
    · rw [hb]; simp [Addr.add]
    · exact hb

/-! ### The other readings -/

def rdBytes (l : List UInt8) (bad : Bool) (most : Int) : List UInt8 × List UInt8 × Bool :=
  if (rdNum l bad 4).2.2 = true ∨ most < 0 ∨ most < (rdNum l bad 4).1 ∨ (rdNum l bad 4).2.1.length < (rdNum l bad 4).1 then ([], (rdNum l bad 4).2.1, true)
  else ((rdNum l bad 4).2.1.take (rdNum l bad 4).1, (rdNum l bad 4).2.1.drop (rdNum l bad 4).1, false)
def rdFlag (l : List UInt8) (bad : Bool) : Bool × List UInt8 × Bool :=
  if 1 < (rdNum l bad 1).1 then (false, (rdNum l bad 1).2.1, true) else (decide ((rdNum l bad 1).1 = 1), (rdNum l bad 1).2.1, (rdNum l bad 1).2.2)
def rdCount (l : List UInt8) (bad : Bool) (most : Int) : Nat × List UInt8 × Bool :=
  if most < 0 ∨ most < (rdNum l bad 4).1 then (0, (rdNum l bad 4).2.1, true) else ((rdNum l bad 4).1, (rdNum l bad 4).2.1, (rdNum l bad 4).2.2)

end Go.SX
