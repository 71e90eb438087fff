/-
  The plain law of bursts: two sealed strings of one length that differ within 32 bits are one.
-/
import Derived.Test.YtpkipkookpnjpaaOct3
namespace Go.SX
open Go Go.Proofs
set_option linter.unusedSimpArgs false

def stepB (c : BitVec 32) (b : Bool) : BitVec 32 := if (b != c.getLsbD 0) = true then (c >>> 1) ^^^ 0xedb88320 else c >>> 1
/-- So many bits, from the a-th on. -/
def runB (c : BitVec 32) (g : Nat → Bool) (a : Nat) : Nat → BitVec 32
  | 0 => c
  | n + 1 => runB (stepB c (g a)) g (a + 1) n

theorem xor_pp (x y p : BitVec 32) : (x ^^^ p) ^^^ (y ^^^ p) = x ^^^ y := by
  apply BitVec.eq_of_getLsbD_eq
  intro i _
  simp only [BitVec.getLsbD_xor]
  cases x.getLsbD i <;> cases y.getLsbD i <;> cases p.getLsbD i <;> rfl
theorem xor_p1 (x y p : BitVec 32) : (x ^^^ p) ^^^ y = x ^^^ y ^^^ p := by
  rw [BitVec.xor_assoc, BitVec.xor_comm p y, ← BitVec.xor_assoc]
theorem xor_pq (y p : BitVec 32) : p ^^^ (y ^^^ p) = y := by
  rw [BitVec.xor_comm y p, ← BitVec.xor_assoc, BitVec.xor_self, BitVec.zero_xor]
theorem step_lin (c c' : BitVec 32) (b b' : Bool) : stepB c b ^^^ stepB c' b' = stepB (c ^^^ c') (b != b') := by
  unfold stepB
  rw [BitVec.getLsbD_xor, BitVec.ushiftRight_xor_distrib]
  cases b <;> cases b' <;> cases c.getLsbD 0 <;> cases c'.getLsbD 0 <;> simp [xor_pp, xor_p1, BitVec.xor_assoc] <;> first | exact BitVec.xor_comm _ _ | exact xor_pq _ _
theorem run_lin : ∀ (n : Nat) (c c' : BitVec 32) (g g' : Nat → Bool) (a : Nat), runB c g a n ^^^ runB c' g' a n = runB (c ^^^ c') (fun t => g t != g' t) a n
  | 0, _, _, _, _, _ => rfl
  | n + 1, c, c', g, g', a => by
    simp only [runB]
    rw [run_lin n, step_lin]
theorem run_add : ∀ (n m : Nat) (c : BitVec 32) (g : Nat → Bool) (a : Nat), runB c g a (n + m) = runB (runB c g a n) g (a + n) m
  | 0, m, c, g, a => by simp [runB]
  | n + 1, m, c, g, a => by
    rw [Nat.add_right_comm]
    simp only [runB]
    rw [run_add n m]
    congr 1
    omega
theorem run_congr : ∀ (n : Nat) (c : BitVec 32) (g g' : Nat → Bool) (a : Nat), (∀ t, a ≤ t → t < a + n → g t = g' t) → runB c g a n = runB c g' a n
  | 0, _, _, _, _, _ => rfl
  | n + 1, c, g, g', a, h => by
    simp only [runB]
    rw [h a (Nat.le_refl _) (by omega)]
    exact run_congr n _ g g' (a + 1) fun t h1 h2 => h t (by omega) (by omega)
theorem run_shift (k : Nat) : ∀ (n : Nat) (c : BitVec 32) (g : Nat → Bool) (a : Nat), runB c g (a + k) n = runB c (fun t => g (t + k)) a n
  | 0, _, _, _ => rfl
  | n + 1, c, g, a => by
    simp only [runB]
    rw [show a + k + 1 = (a + 1) + k by omega]
    exact run_shift k n _ g (a + 1)

def valF (g : Nat → Bool) (a : Nat) : Nat → Nat
  | 0 => 0
  | n + 1 => (g a).toNat + 2 * valF g (a + 1) n
theorem valF_lt (g : Nat → Bool) : ∀ (n a : Nat), valF g a n < 2 ^ n
  | 0, _ => by simp [valF]
  | n + 1, a => by
    have := valF_lt g n (a + 1)
    simp only [valF, Nat.pow_succ]
    cases g a <;> simp <;> omega
theorem valF_zero (g : Nat → Bool) : ∀ (n a : Nat), valF g a n = 0 → ∀ t, a ≤ t → t < a + n → g t = false
  | 0, a, _, t, h1, h2 => by omega
  | n + 1, a, h, t, h1, h2 => by
    simp only [valF] at h
    rcases Nat.eq_or_lt_of_le h1 with rfl | h3
    · cases hg : g a
      · rfl
      · rw [hg] at h; simp at h
    · exact valF_zero g n (a + 1) (by omega) t h3 (by omega)

theorem lsb_mod (c : BitVec 32) : c.toNat % 2 = (c.getLsbD 0).toNat := by
  rw [BitVec.getLsbD, Nat.testBit_zero]
  rcases Nat.mod_two_eq_zero_or_one c.toNat with h | h <;> simp [h]
theorem shr1 (c : BitVec 32) : (c >>> 1).toNat = c.toNat / 2 := by
  rw [BitVec.toNat_ushiftRight, Nat.shiftRight_eq_div_pow]
theorem step_back (c : BitVec 32) (b : Bool) (h : (stepB c b).toNat < 2 ^ 31) : c.toNat = b.toNat + 2 * (stepB c b).toNat := by
  have h1 := lsb_mod c
  unfold stepB at h ⊢
  split at h
  · exfalso
    have h2 : ((c >>> 1) ^^^ 0xedb88320 : BitVec 32).getLsbD 31 = false := Nat.testBit_lt_two_pow h
    rw [BitVec.getLsbD_xor, BitVec.getLsbD_ushiftRight] at h2
    have h3 : (0xedb88320 : BitVec 32).getLsbD 31 = true := by decide
    have h4 : c.getLsbD (1 + 31) = false := BitVec.getLsbD_of_ge c 32 (by omega)
    rw [h3, h4] at h2
    cases h2
  · rename_i h2
    rw [if_neg h2, shr1]
    have h3 : b = c.getLsbD 0 := by
      revert h2
      cases b <;> cases c.getLsbD 0 <;> simp
    rw [h3, ← h1]
    omega
theorem step_fwd (c : BitVec 32) (b : Bool) (m : Nat) (h : c.toNat = b.toNat + 2 * m) : (stepB c b).toNat = m := by
  have h1 := lsb_mod c
  have h3 : b = c.getLsbD 0 := by
    revert h1 h
    cases b <;> cases c.getLsbD 0 <;> simp <;> omega
  unfold stepB
  rw [h3]
  simp only [bne_self_eq_false, Bool.false_eq_true, if_false]
  rw [shr1, h]
  cases b <;> simp <;> omega
theorem run_back (g : Nat → Bool) : ∀ (n : Nat) (c : BitVec 32) (a : Nat), n ≤ 32 → runB c g a n = 0 → c.toNat = valF g a n
  | 0, c, a, _, h => by
    simp only [runB] at h
    rw [h]; rfl
  | n + 1, c, a, hn, h => by
    simp only [runB] at h
    have ih := run_back g n (stepB c (g a)) (a + 1) (by omega) h
    have hlt := valF_lt g n (a + 1)
    have h2 : (2 : Nat) ^ n ≤ 2 ^ 31 := Nat.pow_le_pow_right (by decide) (by omega)
    have := step_back c (g a) (by omega)
    rw [this, ih, valF]
theorem run_fwd (g : Nat → Bool) : ∀ (n : Nat) (c : BitVec 32) (a : Nat), c.toNat = valF g a n → runB c g a n = 0
  | 0, c, a, h => BitVec.eq_of_toNat_eq h
  | n + 1, c, a, h => by
    simp only [runB]
    exact run_fwd g n _ _ (step_fwd c (g a) _ h)
/-- Bits that are all nought. -/
theorem run_zero (g : Nat → Bool) : ∀ (n a : Nat), (∀ t, a ≤ t → t < a + n → g t = false) → runB 0 g a n = 0
  | 0, _, _ => rfl
  | n + 1, a, h => by
    simp only [runB]
    rw [h a (Nat.le_refl _) (by omega)]
    have : stepB 0 false = 0 := by decide
    rw [this]
    exact run_zero g n (a + 1) fun t h1 h2 => h t (by omega) (by omega)
theorem run_inj (g : Nat → Bool) : ∀ (n a : Nat) (c : BitVec 32), (∀ t, a ≤ t → t < a + n → g t = false) → runB c g a n = 0 → c = 0
  | 0, _, _, _, h => h
  | n + 1, a, c, h, h0 => by
    simp only [runB] at h0
    have h1 := run_inj g n (a + 1) _ (fun t h1 h2 => h t (by omega) (by omega)) h0
    have h2 := step_back c (g a) (by rw [h1]; decide)
    rw [h1, h a (Nat.le_refl _) (by omega)] at h2
    exact BitVec.eq_of_toNat_eq h2

/-- A difference within 32 bits that leaves no mark is none. -/
theorem burst_none (g : Nat → Bool) (k N : Nat) (hk : k ≤ N) (hg : ∀ t, t < N → g t = true → k ≤ t ∧ t < k + 32) (h : runB 0 g 0 N = 0) : ∀ t, t < N → g t = false := by
  have e1 : N = k + (min 32 (N - k) + (N - k - min 32 (N - k))) := by omega
  rw [e1, run_add, run_add, Nat.zero_add, run_zero g k 0 fun t _ h2 => by
    cases hgt : g t
    · rfl
    · have := hg t (by omega) hgt; omega] at h
  have h3 := run_inj g _ _ _ (fun t h1 h2 => by
    cases hgt : g t
    · rfl
    · have := hg t (by omega) hgt; omega) h
  have h4 := run_back g _ 0 k (by omega) h3
  have h5 := valF_zero g _ k h4.symm
  intro t ht
  cases hgt : g t
  · rfl
  · have h6 := hg t ht hgt
    have := h5 t h6.1 (by omega)
    rw [this] at hgt
    exact hgt.symm

/-! ### Bytes -/

def bitAt (l : List UInt8) (t : Nat) : Bool := (l.getD (t / 8) 0).toNat.testBit (t % 8)

theorem refStep_eq (c : BitVec 32) (m : Nat) : ∀ β : BitVec 32, β.toNat = (m.testBit 0).toNat → refStep c β = stepB c (m.testBit 0) := by
  intro β hβ
  have h1 := lsb_mod c
  have h2 : (c &&& 1).toNat = (c.getLsbD 0).toNat := by
    rw [← h1, BitVec.toNat_and]
    have h3 : (1 : BitVec 32).toNat = 2 ^ 1 - 1 := by decide
    rw [h3, Nat.and_two_pow_sub_one_eq_mod]
  unfold refStep stepB
  have h5 : (β ^^^ (c &&& 1) = 1) ↔ (m.testBit 0 != c.getLsbD 0) = true := by
    have : c &&& 1 = if c.getLsbD 0 = true then 1 else 0 := by
      apply BitVec.eq_of_toNat_eq
      rw [h2]
      cases c.getLsbD 0 <;> rfl
    have h6 : β = if m.testBit 0 = true then 1 else 0 := by
      apply BitVec.eq_of_toNat_eq
      rw [hβ]
      cases m.testBit 0 <;> rfl
    rw [this, h6]
    cases m.testBit 0 <;> cases c.getLsbD 0 <;> decide
  simp only [h5]
theorem run_byte (c : BitVec 32) (x : UInt8) (g : Nat → Bool) (a : Nat) (hg : ∀ j, j < 8 → g (a + j) = x.toNat.testBit j) : ∀ n, n ≤ 8 → runB c g a n = refBits (x.toBitVec.setWidth 32) n c
  | 0, _ => rfl
  | n + 1, h => by
    rw [run_add, run_byte c x g a hg n (by omega)]
    simp only [runB, refBits]
    have h1 := beta_eq x n
    have e : x.toNat.testBit n = (x.toNat / 2 ^ n).testBit 0 := by rw [Nat.testBit_div_two_pow, Nat.zero_add]
    rw [hg n (by omega), e]
    refine (refStep_eq _ (x.toNat / 2 ^ n) _ ?_).symm
    have h2 : ((x.toBitVec.setWidth 32 : BitVec 32) >>> n &&& 1).toNat = x.toNat / 2 ^ n % 2 := by exact_mod_cast h1
    rw [h2, Nat.testBit_zero]
    rcases Nat.mod_two_eq_zero_or_one (x.toNat / 2 ^ n) with h | h <;> simp [h]
theorem bitAt_cons (x : UInt8) (r : List UInt8) (t : Nat) : bitAt (x :: r) (t + 8) = bitAt r t := by
  unfold bitAt
  rw [show (t + 8) / 8 = t / 8 + 1 by omega, show (t + 8) % 8 = t % 8 by omega]
  rfl
theorem crc_run : ∀ (l : List UInt8) (c : BitVec 32), crcL c l = runB c (bitAt l) 0 (8 * l.length)
  | [], _ => rfl
  | x :: r, c => by
    rw [List.length_cons, show 8 * (r.length + 1) = 8 + 8 * r.length by omega, run_add]
    rw [run_byte c x (bitAt (x :: r)) 0 (fun j hj => by
      unfold bitAt
      rw [Nat.zero_add, show j / 8 = 0 by omega, show j % 8 = j by omega]
      rfl) 8 (Nat.le_refl _), refBits_8]
    have h1 := run_shift 8 (8 * r.length) (crcB c x) (bitAt (x :: r)) 0
    rw [h1]
    have h2 : (fun t => bitAt (x :: r) (t + 8)) = bitAt r := funext fun t => bitAt_cons x r t
    rw [h2, ← crc_run r]
    rfl
theorem valF_congr (g g' : Nat → Bool) : ∀ (n a : Nat), (∀ t, a ≤ t → t < a + n → g t = g' t) → valF g a n = valF g' a n
  | 0, _, _ => rfl
  | n + 1, a, h => by
    simp only [valF]
    rw [h a (Nat.le_refl _) (by omega), valF_congr g g' n (a + 1) fun t h1 h2 => h t (by omega) (by omega)]
theorem valF_add (g : Nat → Bool) : ∀ (n m a : Nat), valF g a (n + m) = valF g a n + 2 ^ n * valF g (a + n) m
  | 0, m, a => by simp [valF]
  | n + 1, m, a => by
    rw [Nat.add_right_comm]
    simp only [valF]
    rw [valF_add g n m, show a + 1 + n = a + (n + 1) by omega, Nat.pow_succ, Nat.mul_add]
    rw [Nat.mul_comm (2 ^ n) 2, Nat.mul_assoc]
    omega
theorem valF_shift (k : Nat) (g : Nat → Bool) : ∀ (n a : Nat), valF g (a + k) n = valF (fun t => g (t + k)) a n
  | 0, _ => rfl
  | n + 1, a => by
    simp only [valF]
    rw [show a + k + 1 = (a + 1) + k by omega, valF_shift k g n (a + 1)]
theorem valF_nat (m : Nat) (g : Nat → Bool) : ∀ (n a j : Nat), (∀ i, i < n → g (a + i) = m.testBit (j + i)) → valF g a n = m / 2 ^ j % 2 ^ n
  | 0, _, _, _ => by simp [valF, Nat.mod_one]
  | n + 1, a, j, h => by
    have h0 := h 0 (by omega)
    rw [Nat.add_zero, Nat.add_zero] at h0
    simp only [valF]
    rw [valF_nat m g n (a + 1) (j + 1) (fun i hi => by have := h (i + 1) (by omega); rw [show a + 1 + i = a + (i + 1) by omega, show j + 1 + i = j + (i + 1) by omega]; exact this), h0]
    rw [Nat.pow_succ 2 n, Nat.mul_comm (2 ^ n) 2, Nat.mod_mul, Nat.pow_succ, ← Nat.div_div_eq_div_mul]
    have e : m.testBit j = (m / 2 ^ j).testBit 0 := by rw [Nat.testBit_div_two_pow, Nat.zero_add]
    rw [e, Nat.testBit_zero]
    rcases Nat.mod_two_eq_zero_or_one (m / 2 ^ j) with h1 | h1 <;> simp [h1]
theorem valF_bytes : ∀ l : List UInt8, valF (bitAt l) 0 (8 * l.length) = leN l
  | [] => rfl
  | x :: r => by
    rw [List.length_cons, show 8 * (r.length + 1) = 8 + 8 * r.length by omega, valF_add, leN]
    have h1 := valF_shift 8 (bitAt (x :: r)) (8 * r.length) 0
    have h2 : (fun t => bitAt (x :: r) (t + 8)) = bitAt r := funext fun t => bitAt_cons x r t
    rw [h2, valF_bytes r] at h1
    rw [h1, valF_nat x.toNat (bitAt (x :: r)) 8 0 0 (fun i hi => by
      unfold bitAt
      rw [Nat.zero_add, show i / 8 = 0 by omega, show i % 8 = i by omega]
      rfl)]
    have := x.toNat_lt
    rw [Nat.pow_zero, Nat.div_one, Nat.mod_eq_of_lt this]
theorem valF_not (g : Nat → Bool) : ∀ (n a : Nat), valF (fun t => !g t) a n + valF g a n + 1 = 2 ^ n
  | 0, _ => rfl
  | n + 1, a => by
    have := valF_not g n (a + 1)
    simp only [valF, Nat.pow_succ]
    cases g a <;> simp <;> omega

/-- All sealed strings leave one mark. -/
theorem crc_seal (l : List UInt8) : crcL (~~~ 0) (sealB l) = runB 0 (fun _ => true) 0 32 := by
  have e : crcL (~~~ 0) (sealB l) = crcL (crcL (~~~ 0) l) (leB 4 (crc l).toNat) := by
    unfold sealB crcL
    rw [List.foldl_append]
  rw [e, crc_run, leB_length]
  have hv := valF_bytes (leB 4 (crc l).toNat)
  rw [leB_length, leN_leB 4 _ (crc l).isLt] at hv
  have hn := valF_not (bitAt (leB 4 (crc l).toNat)) (8 * 4) 0
  rw [hv] at hn
  have hc : (crcL (~~~ 0) l).toNat = valF (fun t => !bitAt (leB 4 (crc l).toNat) t) 0 (8 * 4) := by
    have : (crc l).toNat = 2 ^ 32 - 1 - (crcL (~~~ 0) l).toNat := by unfold crc; rw [BitVec.toNat_not]
    have := (crcL (~~~ 0) l).isLt
    omega
  have h0 := run_fwd _ _ _ _ hc
  have h1 := run_lin (8 * 4) (crcL (~~~ 0) l) (crcL (~~~ 0) l) (bitAt (leB 4 (crc l).toNat)) (fun t => !bitAt (leB 4 (crc l).toNat) t) 0
  have hz : ∀ x : BitVec 32, x ^^^ 0 = x := fun x => BitVec.xor_zero
  rw [h0, BitVec.xor_self, hz] at h1
  rw [h1]
  refine run_congr 32 0 _ _ 0 fun t _ _ => ?_
  cases bitAt (leB 4 (crc l).toNat) t <;> rfl

theorem list_of_bits (l m : List UInt8) (h : l.length = m.length) (hb : ∀ t, t < 8 * l.length → bitAt l t = bitAt m t) : l = m := by
  apply List.ext_getElem h
  intro i h1 h2
  apply UInt8.toNat_inj.1
  apply Nat.eq_of_testBit_eq
  intro j
  rcases Nat.lt_or_ge j 8 with hj | hj
  · have := hb (8 * i + j) (by omega)
    unfold bitAt at this
    rw [show (8 * i + j) / 8 = i by omega, show (8 * i + j) % 8 = j by omega] at this
    simpa [List.getD, List.getElem?_eq_getElem h1, List.getElem?_eq_getElem h2] using this
  · have e1 : (256 : Nat) ≤ 2 ^ j := by
      have : (2 : Nat) ^ 8 ≤ 2 ^ j := Nat.pow_le_pow_right (by decide) hj
      simpa using this
    have a1 := l[i].toNat_lt
    have a2 := m[i].toNat_lt
    rw [Nat.testBit_lt_two_pow (by omega), Nat.testBit_lt_two_pow (by omega)]

/-- Two sealed strings of one length that differ within 32 bits are one. -/
theorem burst (a l m : List UInt8) (hm : sealB a = m) (hlen : m.length = (sealB l).length) (k : Nat) (hk : k ≤ 8 * m.length) (hd : ∀ t, t < 8 * m.length → bitAt m t ≠ bitAt (sealB l) t → k ≤ t ∧ t < k + 32) : m = sealB l := by
  have h1 : runB (~~~ 0) (bitAt m) 0 (8 * m.length) = runB (~~~ 0) (bitAt (sealB l)) 0 (8 * m.length) := by
    rw [← crc_run, hlen, ← crc_run, crc_seal, ← hm, crc_seal]
  have h2 := run_lin (8 * m.length) (~~~ 0) (~~~ 0) (bitAt m) (bitAt (sealB l)) 0
  rw [h1, BitVec.xor_self, BitVec.xor_self] at h2
  have h3 := burst_none _ k _ hk (fun t ht hg => hd t ht (by simpa using hg)) h2.symm
  exact list_of_bits m (sealB l) hlen fun t ht => by simpa using h3 t ht
end Go.SX
