/-
  Contracts of package octet: bytes that are read, opening what is sealed, bytes and truths that are laid.
-/
import Derived.Test.YtkckfmbecbleaaaOct2
namespace Go.SX
open Go Go.Proofs

/-! ### Opening -/

theorem leN_lt4 (l : List UInt8) (h : l.length = 4) : leN l < 4294967296 := by have := leN_lt l; rw [h] at this; exact this
theorem leN_leB : ∀ k n, n < 256 ^ k → leN (leB k n) = n
  | 0, n, h => by simp at h; subst h; rfl
  | k + 1, n, h => by
    have : n / 256 < 256 ^ k := by rw [Nat.pow_succ] at h; omega
    simp only [leB, leN, leN_leB k _ this]
    simp
    omega
theorem leB_leN : ∀ l : List UInt8, leB l.length (leN l) = l
  | [] => rfl
  | b :: r => by
    have hb := b.toNat_lt
    simp only [List.length_cons, leB, leN]
    have h1 : (b.toNat + 256 * leN r) / 256 = leN r := by omega
    have h2 : UInt8.ofNat (b.toNat + 256 * leN r) = b := by
      apply UInt8.toNat_inj.1
      simp
    rw [h1, h2, leB_leN r]

/-- Opening: the error's number, the bytes. -/
def openB (l : List UInt8) : Nat × List UInt8 :=
  if l.length < 4 then (5, []) else if sealB (l.take (l.length - 4)) = l then (0, l.take (l.length - 4)) else (4, [])

theorem open_cond (l : List UInt8) (h : 4 ≤ l.length) : leN (l.drop (l.length - 4)) = (crc (l.take (l.length - 4))).toNat ↔ sealB (l.take (l.length - 4)) = l := by
  have hd : (l.drop (l.length - 4)).length = 4 := by simp; omega
  constructor
  · intro he
    have := leB_leN (l.drop (l.length - 4))
    rw [hd, he] at this
    unfold sealB
    rw [this, List.take_append_drop]
  · intro he
    have h1 : leB 4 (crc (l.take (l.length - 4))).toNat = l.drop (l.length - 4) := by
      have : sealB (l.take (l.length - 4)) = l.take (l.length - 4) ++ l.drop (l.length - 4) := by rw [List.take_append_drop]; exact he
      exact List.append_cancel_left this
    rw [← h1]
    exact leN_leB 4 _ (crc (l.take (l.length - 4))).isLt

/-! ### Bytes and truths that are laid -/

/-- How many, in four bytes, and they. -/
def lenB (l : List UInt8) : List UInt8 := leB 4 l.length ++ l
def flagB (b : Bool) : List UInt8 := if b = true then [1] else [0]

theorem openB_seal (l : List UInt8) : openB (sealB l) = (0, l) := by
  unfold openB
  have h1 : (sealB l).length - 4 = l.length := by simp
  have h2 : (sealB l).take l.length = l := by simp [sealB]
  rw [if_neg (by simp), h1, h2, if_pos rfl]
theorem dec_true {p : Prop} [Decidable p] (h : p) : Value.bool (decide p) = .bool true := by rw [decide_eq_true h]
end Go.SX
