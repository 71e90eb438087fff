/-
  Contracts of package octet (and of its reference).
-/
import Derived.Test.YtdmpnpcpnhcioaaSxMore
import Derived.Test.YtdmpnpcpnhcioaaFn
import Derived.Test.YtdmpnpcpnhcioaaSxLaw
namespace Go.SX
open Go Go.Proofs
set_option maxRecDepth 4000

/-! ### Numbers as bytes -/



theorem oct_lay (O : World) (F : Fz) (a : Nat) (bf : Bf) (l m : List UInt8) (v : Value) (H1 : List Ent) (hok : bf.ok l.length) (hv : SlB F (.mem a [bf.val l.length] 1 :: (bf.ents 1 (bytesV l) ++ H1)) v m) (hn : l.length + m.length ≤ 140737488355328) :
    Does Try.prog O 49 #[ptrV a, v] F (.mem a [bf.val l.length] 1 :: (bf.ents 1 (bytesV l) ++ H1))
      (fun r F' H' => r = ptrV a ∧ F' = F ∧ ∃ bf' : Bf, bf'.ok (l ++ m).length ∧ H' = .mem a [bf'.val (l ++ m).length] 1 :: (bf'.ents 1 (bytesV (l ++ m)) ++ H1)) := by
  refine does_of_run (args := [_, _]) Try.func49 rfl rfl ?_
  refine r_seq ?_
  refine r_region rfl ?_
  refine o_val rfl rfl rfl rfl (v_assign rfl) ?_
  refine o_end ?_
  refine r_seq ?_
  refine r_region rfl ?_
  refine o_val rfl rfl rfl rfl (v_move rfl) ?_
  refine o_val rfl rfl rfl rfl (v_move rfl) ?_
  refine o_val rfl rfl rfl rfl (v_nilCheck rfl) ?_
  refine o_val rfl rfl rfl rfl (v_field (k := 0) rfl rfl rfl) ?_
  refine o_val rfl rfl rfl rfl (v_load rfl rfl (cell_at (j := 0) rfl rfl)) ?_
  refine o_val rfl rfl rfl rfl (v_move rfl) ?_
  refine o_act rfl rfl rfl rfl (a_appendP (sz := 1) (bytes := 1) [.mem a [bf.val l.length] 1] ⟨⟨_, _, _, rfl, rfl, rfl, rfl, rfl, rfl⟩, by decide⟩ rfl hok (by simp) rfl rfl hv (bytes_one m) (by unfold maxLen; omega) (by omega)) ?_
  rintro v' H' ⟨bf', rfl, hok', rfl⟩
  refine o_val rfl rfl rfl rfl (v_nilCheck rfl) ?_
  refine o_val rfl rfl rfl rfl (v_field (k := 0) rfl rfl rfl) ?_
  refine o_act0 rfl rfl rfl (a_store1 0 rfl rfl (Bf.oneCell _ _) rfl rfl (by simp)) ?_
  refine o_end ?_
  refine r_seq ?_
  refine r_region rfl ?_
  refine o_val rfl rfl rfl rfl (v_move rfl) ?_
  refine o_val rfl rfl rfl rfl (v_assign rfl) ?_
  refine o_end ?_
  refine r_ret1 Try.func49 rfl rfl ⟨⟨rfl, rfl, bf', by simpa using hok', ?_⟩, Fz.le_refl _⟩
  simp

/-- A number in so many bytes, the lowest first. -/
def leB : Nat → Nat → List UInt8
  | 0, _ => []
  | k + 1, n => UInt8.ofNat n :: leB k (n / 256)

@[simp] theorem leB_length : ∀ k n, (leB k n).length = k
  | 0, _ => rfl
  | k + 1, n => by simp [leB, leB_length k]

theorem leB_snoc : ∀ k n, leB (k + 1) n = leB k n ++ [UInt8.ofNat (n / 256 ^ k)]
  | 0, n => by simp [leB]
  | k + 1, n => by
    rw [leB, leB_snoc k (n / 256)]
    simp only [leB, List.cons_append]
    rw [Nat.div_div_eq_div_mul, Nat.pow_succ, Nat.mul_comm 256]

theorem u8_of (m : Nat) : IntKind.u8.wrap (m : Int) = ((UInt8.ofNat m).toNat : Int) := by
  rw [wrap_u8']
  simp
theorem u64_shr (n i : Nat) (hi : i ≤ 8) : Int.fdiv (n : Int) (2 ^ (min (8 * (i : Int)).toNat IntKind.u64.bits)) = ((n / 256 ^ i : Nat) : Int) := by
  have h1 : (8 * (i : Int)).toNat = 8 * i := by omega
  have h2 : min (8 * i) IntKind.u64.bits = 8 * i := by show min (8 * i) 64 = 8 * i; omega
  rw [h1, h2, Int.fdiv_eq_ediv_of_nonneg _ (by exact_mod_cast Nat.zero_le _)]
  have h3 : (2 : Int) ^ (8 * i) = ((256 ^ i : Nat) : Int) := by
    rw [Int.pow_mul]
    simp
  rw [h3]
  exact (Int.natCast_ediv n (256 ^ i)).symm

theorem perm_in {α : Type} (x y : α) (l m : List α) : (x :: y :: (l ++ m)).Perm (y :: (l ++ x :: m)) := (List.Perm.swap _ _ _).trans (List.perm_middle.symm.cons _)
theorem drop_in {α : Type} (x y : α) (l m : List α) : (y :: (l ++ m)).Sublist (y :: (l ++ x :: m)) := ((List.Sublist.refl l).append (List.sublist_cons_self x m)).cons_cons y

theorem oct_Num (O : World) (F : Fz) (a : Nat) (bf : Bf) (l : List UInt8) (n k : Nat) (Fr : List Ent) (hok : bf.ok l.length) (hk : k ≤ 8) (hl : l.length ≤ 140737488355000) :
    Does Try.prog O 39 #[ptrV a, .int .u64 n, .int .i64 k] F (.mem a [bf.val l.length] 1 :: (bf.ents 1 (bytesV l) ++ Fr))
      (fun r F' H' => r = ptrV a ∧ F' = F ∧ ∃ bf' : Bf, bf'.ok (l ++ leB k n).length ∧ H' = .mem a [bf'.val (l ++ leB k n).length] 1 :: (bf'.ents 1 (bytesV (l ++ leB k n)) ++ Fr)) := by
  refine does_of_run (args := [_, _, _]) Try.func39 rfl rfl ?_
  refine r_seq ?_
  refine r_region rfl ?_
  refine o_val rfl rfl rfl rfl (v_assign rfl) ?_
  refine o_end ?_
  refine r_seq ?_
  refine r_seq ?_
  refine r_region rfl ?_
  refine o_val rfl rfl rfl rfl (v_move rfl) ?_
  refine o_val rfl rfl rfl rfl (v_move rfl) ?_
  refine o_end ?_
  refine r_block ?_
  refine r_loop (fun i : Nat × Bf => i.1 ≤ k ∧ i.2.ok (l ++ leB i.1 n).length) (fun i => [(9, .int .i64 i.1), (8, .int .i64 k), (0, ptrV a), (1, .int .u64 n)]) (fun _ => F)
    (fun i => .mem a [i.2.val (l ++ leB i.1 n).length] 1 :: (i.2.ents 1 (bytesV (l ++ leB i.1 n)) ++ Fr)) (fun i => k - i.1) (0, bf) ⟨Nat.zero_le _, by simpa [leB] using hok⟩ ⟨rfl, rfl, rfl, rfl, trivial⟩ rfl (by simp [leB]) ?_
  rintro ⟨i, bf1⟩ ⟨hi, hok1⟩ IH
  dsimp only at hi hok1
  refine r_seq ?_
  refine r_region rfl ?_
  refine o_val rfl rfl rfl rfl (v_lss rfl rfl) ?_
  refine o_end ?_
  refine r_seq ?_
  refine r_if rfl (fun h => ?_) (fun h => ?_)
  · refine r_skip ?_
    refine r_seq ?_
    refine r_block ?_
    refine r_seq ?_
    refine r_region rfl ?_
    refine o_val rfl rfl rfl rfl (v_move rfl) ?_
    refine o_val rfl rfl rfl rfl (v_assign rfl) ?_
    refine o_end ?_
    refine r_region rfl ?_
    refine o_val rfl rfl rfl rfl (v_move rfl) ?_
    refine o_val rfl rfl rfl rfl (v_move rfl) ?_
    refine o_val rfl rfl rfl rfl (v_move rfl) ?_
    refine o_val rfl rfl rfl rfl (v_mul rfl rfl (wrap_i64 (by omega) (by omega))) ?_
    refine o_val rfl rfl rfl rfl (v_shr rfl rfl (by omega) (u64_shr n i (by omega))) ?_
    refine o_val rfl rfl rfl rfl (v_conv rfl rfl rfl (u8_of _)) ?_
    refine o_act rfl rfl rfl rfl (a_buildS (sz := 1) (cs := [byteV (UInt8.ofNat (n / 256 ^ i))]) [.tmp 17] rfl rfl rfl rfl rfl rfl rfl rfl rfl rfl) ?_
    rintro v H' ⟨bb, rfl, rfl⟩
    refine j_perm (perm_in _ _ _ _) ?_
    refine o_call rfl rfl rfl rfl (c_call callable49 rfl) (oct_lay _ _ _ _ _ [UInt8.ofNat (n / 256 ^ i)] _ _ hok1 ⟨_, 1, rfl, rfl, by simp, by simp, fun j c hj => ⟨bb, 0, rfl, cell_own (cs := [byteV (UInt8.ofNat (n / 256 ^ i))]) (n := 1) (by simp) (by simpa [bytesV] using hj)⟩⟩ (by simp; omega)) ?_
    rintro v' F' H' ⟨rfl, rfl, bf2, hok2, rfl⟩ _
    refine j_drop (drop_in _ _ _ _) ?_
    refine o_end ?_
    refine r_inBlock ?_
    refine r_region rfl ?_
    refine o_val rfl rfl rfl rfl (v_add rfl rfl (wrap_i64 (by omega) (by omega))) ?_
    refine o_val rfl rfl rfl rfl (v_move rfl) ?_
    refine o_end ?_
    have e : l ++ leB i n ++ [UInt8.ofNat (n / 256 ^ i)] = l ++ leB (i + 1) n := by simp [leB_snoc]
    dsimp only at hok2 ⊢
    rw [e] at hok2 ⊢
    refine j_keep ?_ (IH (i + 1, bf2) ⟨by dsimp only; omega, hok2⟩ (by dsimp only; omega))
    exact ⟨rfl, rfl, rfl, rfl, trivial⟩
  · obtain rfl : i = k := by omega
    refine r_exit rfl ?_
    refine r_seq ?_
    refine r_region rfl ?_
    refine o_val rfl rfl rfl rfl (v_move rfl) ?_
    refine o_val rfl rfl rfl rfl (v_assign rfl) ?_
    refine o_end ?_
    exact r_ret1 Try.func39 rfl rfl ⟨⟨rfl, rfl, bf1, hok1, rfl⟩, Fz.le_refl _⟩

theorem oct_Done (O : World) (F : Fz) (a : Nat) (v : Value) (Fr : List Ent) :
    Does Try.prog O 40 #[ptrV a] F (.mem a [v] 1 :: Fr) (fun r F' H' => r = v ∧ F' = F ∧ H' = .mem a [v] 1 :: Fr) := by
  refine does_of_run (args := [_]) Try.func40 rfl rfl ?_
  refine r_seq ?_
  refine r_region rfl ?_
  refine o_val rfl rfl rfl rfl (v_assign rfl) ?_
  refine o_end ?_
  refine r_seq ?_
  refine r_region rfl ?_
  refine o_val rfl rfl rfl rfl (v_move rfl) ?_
  refine o_val rfl rfl rfl rfl (v_nilCheck rfl) ?_
  refine o_val rfl rfl rfl rfl (v_field (k := 0) rfl rfl rfl) ?_
  refine o_val rfl rfl rfl rfl (v_load rfl rfl (cell_at (j := 0) rfl rfl)) ?_
  refine o_val rfl rfl rfl rfl (v_assign rfl) ?_
  refine o_end ?_
  exact r_ret1 Try.func40 rfl rfl ⟨⟨rfl, rfl, rfl⟩, Fz.le_refl _⟩

def u32V (x : BitVec 32) : Value := .int .u32 (x.toNat : Int)
def bit (c : BitVec 32) : BitVec 32 := if c &&& 1 = 1 then (c >>> 1) ^^^ 0xedb88320 else c >>> 1
def bits8 : Nat → BitVec 32 → BitVec 32
  | 0, c => c
  | n + 1, c => bit (bits8 n c)
def crcB (c : BitVec 32) (b : UInt8) : BitVec 32 := bits8 8 (c ^^^ b.toBitVec.setWidth 32)
def crcL (c : BitVec 32) (l : List UInt8) : BitVec 32 := l.foldl crcB c
def crc (l : List UInt8) : BitVec 32 := ~~~ (crcL (~~~ 0) l)

theorem u32_ofInt (a : BitVec 32) : BitVec.ofInt 32 (a.toNat : Int) = a := by
  apply BitVec.eq_of_toNat_eq
  simp
theorem u32_xor (a b : BitVec 32) : bitOp .xor .u32 (a.toNat : Int) (b.toNat : Int) = ((a ^^^ b).toNat : Int) := by
  show IntKind.u32.wrap ((BitVec.ofInt 32 (a.toNat : Int) ^^^ BitVec.ofInt 32 (b.toNat : Int)).toNat : Int) = _
  rw [u32_ofInt, u32_ofInt]
  exact wrap_u32 (by omega) (by have := (a ^^^ b).isLt; omega)
theorem u32_and (a b : BitVec 32) : bitOp .and .u32 (a.toNat : Int) (b.toNat : Int) = ((a &&& b).toNat : Int) := by
  show IntKind.u32.wrap ((BitVec.ofInt 32 (a.toNat : Int) &&& BitVec.ofInt 32 (b.toNat : Int)).toNat : Int) = _
  rw [u32_ofInt, u32_ofInt]
  exact wrap_u32 (by omega) (by have := (a &&& b).isLt; omega)
theorem u32_compl (a : BitVec 32) : bitOp .xor .u32 (if IntKind.u32.signed then -1 else IntKind.u32.max) (a.toNat : Int) = ((~~~ a).toNat : Int) := by
  show IntKind.u32.wrap ((BitVec.ofInt 32 4294967295 ^^^ BitVec.ofInt 32 (a.toNat : Int)).toNat : Int) = _
  rw [u32_ofInt]
  have : BitVec.ofInt 32 4294967295 = BitVec.allOnes 32 := by decide
  rw [this, BitVec.allOnes_xor]
  exact wrap_u32 (by omega) (by have := (~~~ a).isLt; omega)
theorem u32_shr1 (a : BitVec 32) : Int.fdiv (a.toNat : Int) (2 ^ (min (1 : Int).toNat IntKind.u32.bits)) = ((a >>> 1).toNat : Int) := by
  show Int.fdiv (a.toNat : Int) 2 = _
  rw [BitVec.toNat_ushiftRight, Nat.shiftRight_eq_div_pow]
  simp [Int.fdiv_eq_ediv]
theorem u32_bit (a : BitVec 32) : ((a &&& 1).toNat : Int) = 1 ↔ a &&& 1 = 1 := by
  constructor
  · intro h; apply BitVec.eq_of_toNat_eq; simp at h ⊢; omega
  · intro h; rw [h]; rfl

theorem crcL_take (l : List UInt8) (i : Nat) (hil : i < l.length) : crcL (~~~ 0) (l.take (i + 1)) = bits8 8 (crcL (~~~ 0) (l.take i) ^^^ l[i].toBitVec.setWidth 32) := by
  rw [List.take_succ_eq_append_getElem hil]; unfold crcL; rw [List.foldl_append]; rfl

theorem oct_Sum (O : World) (F : Fz) (H : List Ent) (v : Value) (l : List UInt8) (hv : SlB F H v l) (hn : l.length < 9223372036854775807) :
    Does Try.prog O 42 #[v] F H (fun r F' H' => r = u32V (crc l) ∧ F' = F ∧ H' = H) := by
  obtain ⟨a0, cap, rfl, hcap⟩ := Sl.shape hv
  refine does_of_run (args := [_]) Try.func42 rfl rfl ?_
  refine r_seq ?_
  refine r_region rfl ?_
  refine o_val rfl rfl rfl rfl (v_assign rfl) ?_
  refine o_end ?_
  refine r_seq ?_
  refine r_region rfl ?_
  refine o_val rfl rfl rfl rfl (v_assign rfl) ?_
  refine o_end ?_
  refine r_seq ?_
  refine r_seq ?_
  refine r_region rfl ?_
  refine o_val rfl rfl rfl rfl (v_move rfl) ?_
  refine o_val rfl rfl rfl rfl (v_len rfl rfl) ?_
  refine o_val rfl rfl rfl rfl (v_move rfl) ?_
  refine o_end ?_
  refine r_block ?_
  refine r_loop (fun i : Nat => i ≤ l.length) (fun i => [(8, .int .i64 i), (7, .int .i64 l.length), (6, .slice a0 l.length cap), (3, u32V (crcL (~~~ 0) (l.take i)))]) (fun _ => F) (fun _ => H) (fun i => l.length - i) 0 (Nat.zero_le _) ⟨rfl, rfl, rfl, rfl, trivial⟩ rfl rfl ?_
  intro i hi IH
  refine r_seq ?_
  refine r_region rfl ?_
  refine o_val rfl rfl rfl rfl (v_lss rfl rfl) ?_
  refine o_end ?_
  refine r_seq ?_
  refine r_if rfl (fun h => ?_) (fun h => ?_)
  · have hil : i < l.length := by omega
    obtain ⟨b, off, cap', hab, _, hcell⟩ := Sl.view hv (by omega)
    simp only [Value.slice.injEq] at hab
    obtain ⟨rfl, _, rfl⟩ := hab
    refine r_skip ?_
    refine r_seq ?_
    refine r_block ?_
    refine r_seq ?_
    refine r_region rfl ?_
    refine o_val rfl rfl rfl rfl (v_index1 rfl rfl rfl rfl hil) ?_
    refine o_val rfl rfl rfl rfl (v_load rfl rfl (hcell i (byteV l[i]) (by rw [bytesV_get, List.getElem?_eq_getElem hil]; rfl))) ?_
    refine o_val rfl rfl rfl rfl (v_assign rfl) ?_
    refine o_end ?_
    refine r_seq ?_
    refine r_region rfl ?_
    refine o_val rfl rfl rfl rfl (v_move rfl) ?_
    refine o_val rfl rfl rfl rfl (v_move rfl) ?_
    refine o_val rfl rfl rfl rfl (v_conv rfl rfl rfl (wrap_u32 (by omega) (by have := l[i].toNat_lt; omega))) ?_
    refine o_val rfl rfl rfl rfl (v_xor rfl rfl (u32_xor _ (l[i].toBitVec.setWidth 32))) ?_
    refine o_val rfl rfl rfl rfl (v_assign rfl) ?_
    refine o_end ?_
    refine r_seq ?_
    refine r_region rfl ?_
    refine o_val rfl rfl rfl rfl (v_move rfl) ?_
    refine o_end ?_
    refine r_block ?_
    have hc8 := crcL_take l i hil
    generalize crcL (~~~ 0) (l.take i) ^^^ l[i].toBitVec.setWidth 32 = c0 at *
    refine r_loop (fun k : Nat => k ≤ 8) (fun k => [(16, .int .i64 k), (3, u32V (bits8 k c0)), (8, .int .i64 i), (7, .int .i64 l.length), (6, .slice (some ⟨b, off, none⟩) l.length cap)]) (fun _ => F) (fun _ => H) (fun k => 8 - k) 0 (Nat.zero_le _) ⟨rfl, rfl, rfl, rfl, rfl, trivial⟩ rfl rfl ?_
    intro k hk IH2
    refine r_seq ?_
    refine r_region rfl ?_
    refine o_val rfl rfl rfl rfl (v_lss rfl rfl) ?_
    refine o_end ?_
    refine r_seq ?_
    refine r_if rfl (fun hk8 => ?_) (fun hk8 => ?_)
    · refine r_skip ?_
      refine r_seq ?_
      refine r_block ?_
      refine r_seq ?_
      refine r_region rfl ?_
      refine o_val rfl rfl rfl rfl (v_move rfl) ?_
      refine o_val rfl rfl rfl rfl (v_and rfl rfl (u32_and _ 1)) ?_
      refine o_val rfl rfl rfl rfl (v_eql rfl rfl) ?_
      refine o_end ?_
      refine r_if rfl (fun hbit => ?_) (fun hbit => ?_)
      · refine r_region rfl ?_
        refine o_val rfl rfl rfl rfl (v_move rfl) ?_
        refine o_val rfl rfl rfl rfl (v_shr rfl rfl (by decide) (u32_shr1 _)) ?_
        refine o_val rfl rfl rfl rfl (v_xor rfl rfl (u32_xor _ 0xedb88320)) ?_
        refine o_val rfl rfl rfl rfl (v_assign rfl) ?_
        refine o_end ?_
        refine r_inBlock ?_
        refine r_region rfl ?_
        refine o_val rfl rfl rfl rfl (v_add rfl rfl (wrap_i64 (by omega) (by omega))) ?_
        refine o_val rfl rfl rfl rfl (v_move rfl) ?_
        refine o_end ?_
        refine j_keep ?_ (IH2 (k + 1) (by omega) (by omega))
        refine ⟨rfl, ?_, rfl, rfl, rfl, trivial⟩
        simp only [bits8, bit, if_pos ((u32_bit _).1 hbit)]
        rfl
      · refine r_region rfl ?_
        refine o_val rfl rfl rfl rfl (v_move rfl) ?_
        refine o_val rfl rfl rfl rfl (v_shr rfl rfl (by decide) (u32_shr1 _)) ?_
        refine o_val rfl rfl rfl rfl (v_assign rfl) ?_
        refine o_end ?_
        refine r_inBlock ?_
        refine r_region rfl ?_
        refine o_val rfl rfl rfl rfl (v_add rfl rfl (wrap_i64 (by omega) (by omega))) ?_
        refine o_val rfl rfl rfl rfl (v_move rfl) ?_
        refine o_end ?_
        refine j_keep ?_ (IH2 (k + 1) (by omega) (by omega))
        refine ⟨rfl, ?_, rfl, rfl, rfl, trivial⟩
        simp only [bits8, bit, if_neg (fun h => hbit ((u32_bit _).2 h))]
        rfl
    · obtain rfl : k = 8 := by omega
      refine r_exit rfl ?_
      refine r_inBlock ?_
      refine r_region rfl ?_
      refine o_val rfl rfl rfl rfl (v_add rfl rfl (wrap_i64 (by omega) (by omega))) ?_
      refine o_val rfl rfl rfl rfl (v_move rfl) ?_
      refine o_end ?_
      refine j_keep ?_ (IH (i + 1) (by omega) (by omega))
      refine ⟨rfl, rfl, rfl, ?_, trivial⟩
      rw [hc8]; rfl
  · obtain rfl : i = l.length := by omega
    refine r_exit rfl ?_
    refine r_seq ?_
    refine r_region rfl ?_
    refine o_val rfl rfl rfl rfl (v_move rfl) ?_
    refine o_val rfl rfl rfl rfl (v_compl rfl (u32_compl _)) ?_
    refine o_val rfl rfl rfl rfl (v_assign rfl) ?_
    refine o_end ?_
    refine r_ret1 Try.func42 rfl rfl ⟨⟨?_, rfl, rfl⟩, Fz.le_refl _⟩
    simp [u32V, crc]

/-- Bytes and their sum. -/
def sealB (l : List UInt8) : List UInt8 := l ++ leB 4 (crc l).toNat
@[simp] theorem sealB_length (l : List UInt8) : (sealB l).length = l.length + 4 := by simp [sealB]

theorem oct_Seal (O : World) (F : Fz) (v : Value) (l : List UInt8) (Fr : List Ent) (hv : SlB F Fr v l) (hn : l.length ≤ 140737488354000) :
    Does Try.prog O 23 #[v] F Fr (fun r F' H' => F' = F ∧ ∃ bf : Bf, bf.ok (sealB l).length ∧ r = bf.val (sealB l).length ∧ H' = bf.ents 1 (bytesV (sealB l)) ++ Fr) := by
  refine does_of_run (args := [_]) Try.func23 rfl rfl ?_
  refine r_seq ?_
  refine r_region rfl ?_
  refine o_val rfl rfl rfl rfl (v_assign rfl) ?_
  refine o_end ?_
  refine r_seq ?_
  refine r_region rfl ?_
  refine o_val rfl rfl rfl rfl (v_move rfl) ?_
  refine o_act rfl rfl rfl rfl (a_append (bf := .nil) (n := 0) (sz := 1) (bytes := 1) (xs := []) ⟨⟨_, _, _, rfl, rfl, rfl, rfl, rfl, rfl⟩, by decide⟩ rfl rfl rfl rfl rfl hv (bytes_one l) (by unfold maxLen; omega) (by omega)) ?_
  rintro v' H' ⟨bf, rfl, hok, rfl⟩
  simp only [Nat.zero_add, List.nil_append] at hok ⊢
  refine o_val rfl rfl rfl rfl (v_build rfl rfl) ?_
  refine o_act rfl rfl rfl rfl (a_box rfl) ?_
  rintro v' H' ⟨a, rfl, rfl⟩
  refine o_val rfl rfl rfl rfl (v_assign rfl) ?_
  refine o_end ?_
  refine r_seq ?_
  refine r_region rfl ?_
  refine o_val rfl rfl rfl rfl (v_move rfl) ?_
  refine o_val rfl rfl rfl rfl (v_move rfl) ?_
  refine o_call rfl rfl rfl rfl (c_call callable42 rfl) (oct_Sum _ _ _ _ l (hv.mono (Fz.le_refl _) (by simp)) (by omega)) ?_
  rintro v' F' H' ⟨rfl, rfl, rfl⟩ _
  refine o_val rfl rfl rfl rfl (v_conv rfl rfl rfl (wrap_u64 (by omega) (by have := (crc l).isLt; omega))) ?_
  refine o_call rfl rfl rfl rfl (c_call callable39 rfl) (oct_Num _ _ _ bf l _ 4 _ hok (by omega) (by omega)) ?_
  rintro v' F' H' ⟨rfl, rfl, bf', hok', rfl⟩ _
  refine o_call rfl rfl rfl rfl (c_call callable40 rfl) (oct_Done _ _ _ _ _) ?_
  rintro v' F' H' ⟨rfl, rfl, rfl⟩ _
  refine o_val rfl rfl rfl rfl (v_assign rfl) ?_
  refine o_end ?_
  refine j_drop (List.sublist_cons_self _ _) ?_
  exact r_ret1 Try.func23 rfl rfl ⟨⟨rfl, bf', hok', rfl, rfl⟩, Fz.le_refl _⟩

/-! ### The reference -/

theorem u64_and255 (m : Nat) : bitOp .and .u64 (m : Int) 255 = ((m % 256 : Nat) : Int) := by
  show IntKind.u64.wrap ((BitVec.ofInt 64 (m : Int) &&& BitVec.ofInt 64 255).toNat : Int) = _
  have h1 : BitVec.ofInt 64 255 = BitVec.ofNat 64 255 := by decide
  have h2 : (BitVec.ofInt 64 (m : Int)).toNat = m % 2 ^ 64 := by
    rw [BitVec.ofInt_natCast, BitVec.toNat_ofNat]
  rw [BitVec.toNat_and, h1, h2]
  have h3 : (BitVec.ofNat 64 255).toNat = 2 ^ 8 - 1 := by decide
  rw [h3, Nat.and_two_pow_sub_one_eq_mod]
  have h4 : m % 2 ^ 64 % 2 ^ 8 = m % 256 := by omega
  rw [h4]
  exact wrap_u64 (by omega) (by omega)
theorem u8_of' (m : Nat) : IntKind.u8.wrap ((m % 256 : Nat) : Int) = ((UInt8.ofNat m).toNat : Int) := by
  rw [wrap_u8']
  simp
theorem u64_shr8 (m : Nat) : Int.fdiv (m : Int) (2 ^ (min (8 : Int).toNat IntKind.u64.bits)) = ((m / 256 : Nat) : Int) := by
  show Int.fdiv (m : Int) 256 = _
  rw [Int.fdiv_eq_ediv_of_nonneg _ (by decide)]
  exact (Int.natCast_ediv m 256).symm

theorem ref_Num (O : World) (F : Fz) (v : Value) (l : List UInt8) (n k : Nat) (Fr : List Ent) (hv : SlB F Fr v l) (hk : k ≤ 9223372036854775807) (hl : l.length + k ≤ 140737488355000) :
    Does Try.prog O 41 #[v, .int .u64 n, .int .i64 k] F Fr
      (fun r F' H' => F' = F ∧ ∃ bf : Bf, bf.ok (l ++ leB k n).length ∧ r = bf.val (l ++ leB k n).length ∧ H' = bf.ents 1 (bytesV (l ++ leB k n)) ++ Fr) := by
  refine does_of_run (args := [_, _, _]) Try.func41 rfl rfl ?_
  refine r_seq ?_
  refine r_region rfl ?_
  refine o_val rfl rfl rfl rfl (v_assign rfl) ?_
  refine o_end ?_
  refine r_seq ?_
  refine r_region rfl ?_
  refine o_val rfl rfl rfl rfl (v_assign rfl) ?_
  refine o_end ?_
  refine r_seq ?_
  refine r_region rfl ?_
  refine o_val rfl rfl rfl rfl (v_move rfl) ?_
  refine o_val rfl rfl rfl rfl (v_move rfl) ?_
  refine o_act rfl rfl rfl rfl (a_append (bf := .nil) (n := 0) (sz := 1) (bytes := 1) (xs := []) ⟨⟨_, _, _, rfl, rfl, rfl, rfl, rfl, rfl⟩, by decide⟩ rfl rfl rfl rfl rfl hv (bytes_one l) (by unfold maxLen; omega) (by omega)) ?_
  rintro v' H' ⟨bf0, rfl, hok0, rfl⟩
  simp only [Nat.zero_add, List.nil_append] at hok0 ⊢
  refine o_val rfl rfl rfl rfl (v_assign rfl) ?_
  refine o_end ?_
  refine r_seq ?_
  refine r_seq ?_
  refine r_region rfl ?_
  refine o_val rfl rfl rfl rfl (v_assign rfl) ?_
  refine o_end ?_
  refine r_block ?_
  refine r_loop (fun i : Nat × Bf => i.1 ≤ k ∧ i.2.ok (l ++ leB i.1 n).length) (fun i => [(8, .int .i64 i.1), (2, .int .i64 k), (1, .int .u64 ((n / 256 ^ i.1 : Nat) : Int)), (7, i.2.val (l ++ leB i.1 n).length)]) (fun _ => F)
    (fun i => i.2.ents 1 (bytesV (l ++ leB i.1 n)) ++ Fr) (fun i => k - i.1) (0, bf0) ⟨Nat.zero_le _, by simpa [leB] using hok0⟩ ⟨rfl, rfl, by rw [Nat.pow_zero, Nat.div_one]; rfl, by simp only [leB, List.append_nil]; rfl, trivial⟩ rfl (by simp [leB]) ?_
  rintro ⟨i, bf1⟩ ⟨hi, hok1⟩ IH
  dsimp only at hi hok1
  refine r_seq ?_
  refine r_seq ?_
  refine r_region rfl ?_
  refine o_val rfl rfl rfl rfl (v_move rfl) ?_
  refine o_val rfl rfl rfl rfl (v_move rfl) ?_
  refine o_val rfl rfl rfl rfl (v_lss rfl rfl) ?_
  refine o_end ?_
  refine r_if rfl (fun h => ?_) (fun h => ?_)
  · refine r_skip ?_
    refine r_seq ?_
    refine r_block ?_
    refine r_seq ?_
    refine r_region rfl ?_
    refine o_val rfl rfl rfl rfl (v_move rfl) ?_
    refine o_val rfl rfl rfl rfl (v_move rfl) ?_
    refine o_val rfl rfl rfl rfl (v_and rfl rfl (u64_and255 _)) ?_
    refine o_val rfl rfl rfl rfl (v_conv rfl rfl rfl (u8_of' _)) ?_
    refine o_act rfl rfl rfl rfl (a_buildS (sz := 1) (cs := [byteV (UInt8.ofNat (n / 256 ^ i))]) [.tmp 20] rfl rfl rfl rfl rfl rfl rfl rfl rfl rfl) ?_
    rintro v H' ⟨bb, rfl, rfl⟩
    refine o_act rfl rfl rfl rfl (a_appendP (sz := 1) (bytes := 1) (ys := [byteV (UInt8.ofNat (n / 256 ^ i))]) [_] ⟨⟨_, _, _, rfl, rfl, rfl, rfl, rfl, rfl⟩, by decide⟩ rfl hok1 (by simp) rfl rfl ⟨_, 1, rfl, rfl, by simp, by simp, fun j c hj => ⟨bb, 0, rfl, cell_at (j := 0) rfl (by simpa using hj)⟩⟩ rfl (by unfold maxLen; simp; omega) (by simp; omega)) ?_
    rintro v' H' ⟨bf2, rfl, hok2, rfl⟩
    refine j_drop (List.sublist_cons_self _ _) ?_
    refine o_val rfl rfl rfl rfl (v_assign rfl) ?_
    refine o_end ?_
    refine r_region rfl ?_
    refine o_val rfl rfl rfl rfl (v_move rfl) ?_
    refine o_val rfl rfl rfl rfl (v_shr rfl rfl (by decide) (u64_shr8 _)) ?_
    refine o_val rfl rfl rfl rfl (v_assign rfl) ?_
    refine o_end ?_
    refine r_inBlock ?_
    refine r_region rfl ?_
    refine o_val rfl rfl rfl rfl (v_move rfl) ?_
    refine o_val rfl rfl rfl rfl (v_add rfl rfl (wrap_i64 (by omega) (by omega))) ?_
    refine o_val rfl rfl rfl rfl (v_assign rfl) ?_
    refine o_end ?_
    have e : l ++ leB i n ++ [UInt8.ofNat (n / 256 ^ i)] = l ++ leB (i + 1) n := by simp [leB_snoc]
    have e1 : (l ++ leB i n).length + 1 = (l ++ leB (i + 1) n).length := by simp; omega
    have e2 : bytesV (l ++ leB i n) ++ [byteV (UInt8.ofNat (n / 256 ^ i))] = bytesV (l ++ leB (i + 1) n) := by rw [← e]; simp [bytesV]
    have e3 : n / 256 ^ i / 256 = n / 256 ^ (i + 1) := by rw [Nat.div_div_eq_div_mul, Nat.pow_succ]
    dsimp only at hok2 ⊢
    rw [e1] at hok2 ⊢
    rw [e2, e3]
    refine j_keep ?_ (IH (i + 1, bf2) ⟨by dsimp only; omega, hok2⟩ (by dsimp only; omega))
    exact ⟨rfl, rfl, rfl, rfl, trivial⟩
  · obtain rfl : i = k := by omega
    refine r_exit rfl ?_
    refine r_seq ?_
    refine r_region rfl ?_
    refine o_val rfl rfl rfl rfl (v_move rfl) ?_
    refine o_val rfl rfl rfl rfl (v_assign rfl) ?_
    refine o_end ?_
    exact r_ret1 Try.func41 rfl rfl ⟨⟨rfl, bf1, hok1, rfl, rfl⟩, Fz.le_refl _⟩

/-- One bit of a byte, as the reference takes it. -/
def refStep (c β : BitVec 32) : BitVec 32 := if β ^^^ (c &&& 1) = 1 then (c >>> 1) ^^^ 0xedb88320 else c >>> 1
def refBits (b : BitVec 32) : Nat → BitVec 32 → BitVec 32
  | 0, c => c
  | k + 1, c => refStep (refBits b k c) ((b >>> k) &&& 1)
theorem refBits_eq (b c : BitVec 32) : ∀ k, refBits b k c ^^^ (b >>> k) = bits8 k (c ^^^ b)
  | 0 => by simp [refBits, bits8]
  | k + 1 => by
    have ih := refBits_eq b c k
    simp only [refBits, bits8, ← ih, bit, refStep]
    have h1 : (refBits b k c ^^^ b >>> k) &&& 1 = (b >>> k &&& 1) ^^^ (refBits b k c &&& 1) := by
      apply BitVec.eq_of_getLsbD_eq
      intro i _
      rw [BitVec.getLsbD_and, BitVec.getLsbD_xor, BitVec.getLsbD_xor, BitVec.getLsbD_and, BitVec.getLsbD_and]
      generalize (refBits b k c).getLsbD i = x
      generalize (b >>> k).getLsbD i = y
      generalize (1 : BitVec 32).getLsbD i = z
      cases x <;> cases y <;> cases z <;> rfl
    have h2 : (refBits b k c ^^^ b >>> k) >>> 1 = (refBits b k c >>> 1) ^^^ (b >>> (k + 1)) := by
      rw [BitVec.ushiftRight_xor_distrib, BitVec.shiftRight_add]
    rw [h1, h2]
    split
    · rw [BitVec.xor_assoc, BitVec.xor_assoc, BitVec.xor_comm 3988292384 (b >>> (k + 1))]
    · rfl
theorem refBits_8 (c : BitVec 32) (x : UInt8) : refBits (x.toBitVec.setWidth 32) 8 c = crcB c x := by
  have := refBits_eq (x.toBitVec.setWidth 32) c 8
  have h0 : (x.toBitVec.setWidth 32) >>> 8 = 0 := by
    apply BitVec.eq_of_toNat_eq
    rw [BitVec.toNat_ushiftRight, Nat.shiftRight_eq_div_pow]
    have := x.toNat_lt
    simp
    omega
  rw [h0] at this
  simpa [crcB] using this

theorem u8_shr (x : UInt8) (k : Nat) (hk : k < 8) : Int.fdiv (x.toNat : Int) (2 ^ (min (k : Int).toNat IntKind.u8.bits)) = ((x.toNat / 2 ^ k : Nat) : Int) := by
  have h2 : min (k : Int).toNat IntKind.u8.bits = k := by show min (k : Int).toNat 8 = k; omega
  rw [h2, Int.fdiv_eq_ediv_of_nonneg _ (Int.pow_nonneg (by decide))]
  rw [Int.natCast_ediv]
  simp
theorem u8_and1 (m : Nat) (hm : m < 256) : bitOp .and .u8 (m : Int) 1 = ((m % 2 : Nat) : Int) := by
  show IntKind.u8.wrap ((BitVec.ofInt 8 (m : Int) &&& BitVec.ofInt 8 1).toNat : Int) = _
  have h1 : BitVec.ofInt 8 1 = BitVec.ofNat 8 1 := by decide
  have h2 : (BitVec.ofInt 8 (m : Int)).toNat = m := by
    rw [BitVec.ofInt_natCast, BitVec.toNat_ofNat]; omega
  rw [BitVec.toNat_and, h1, h2]
  have h3 : (BitVec.ofNat 8 1).toNat = 2 ^ 1 - 1 := by decide
  rw [h3, Nat.and_two_pow_sub_one_eq_mod]
  exact wrap_u8 (by omega) (by omega)
theorem beta_eq (x : UInt8) (k : Nat) : (((x.toBitVec.setWidth 32) >>> k &&& 1).toNat : Int) = ((x.toNat / 2 ^ k % 2 : Nat) : Int) := by
  rw [BitVec.toNat_and, BitVec.toNat_ushiftRight, Nat.shiftRight_eq_div_pow]
  have h3 : (1 : BitVec 32).toNat = 2 ^ 1 - 1 := by decide
  rw [h3, Nat.and_two_pow_sub_one_eq_mod]
  have h4 : (x.toBitVec.setWidth 32).toNat = x.toNat := by
    have := x.toNat_lt
    simp
  rw [h4]

theorem u32_is1 (a : BitVec 32) : (a.toNat : Int) = 1 ↔ a = 1 := by
  constructor
  · intro h; apply BitVec.eq_of_toNat_eq; simp at h ⊢; omega
  · intro h; rw [h]; rfl

theorem ref_Sum (O : World) (F : Fz) (H : List Ent) (v : Value) (l : List UInt8) (hv : SlB F H v l) (hn : l.length < 9223372036854775807) :
    Does Try.prog O 43 #[v] F H (fun r F' H' => r = u32V (crc l) ∧ F' = F ∧ H' = H) := by
  obtain ⟨a0, cap, rfl, hcap⟩ := Sl.shape hv
  refine does_of_run (args := [_]) Try.func43 rfl rfl ?_
  refine r_seq ?_
  refine r_region rfl ?_
  refine o_val rfl rfl rfl rfl (v_assign rfl) ?_
  refine o_end ?_
  refine r_seq ?_
  refine r_region rfl ?_
  refine o_val rfl rfl rfl rfl (v_assign rfl) ?_
  refine o_end ?_
  refine r_seq ?_
  refine r_seq ?_
  refine r_region rfl ?_
  refine o_val rfl rfl rfl rfl (v_assign rfl) ?_
  refine o_end ?_
  refine r_block ?_
  refine r_loop (fun i : Nat => i ≤ l.length) (fun i => [(4, .int .i64 i), (0, .slice a0 l.length cap), (3, u32V (crcL (~~~ 0) (l.take i)))]) (fun _ => F) (fun _ => H) (fun i => l.length - i) 0 (Nat.zero_le _) ⟨rfl, rfl, rfl, trivial⟩ rfl rfl ?_
  intro i hi IH
  refine r_seq ?_
  refine r_seq ?_
  refine r_region rfl ?_
  refine o_val rfl rfl rfl rfl (v_move rfl) ?_
  refine o_val rfl rfl rfl rfl (v_move rfl) ?_
  refine o_val rfl rfl rfl rfl (v_len rfl rfl) ?_
  refine o_val rfl rfl rfl rfl (v_lss rfl rfl) ?_
  refine o_end ?_
  refine r_if rfl (fun h => ?_) (fun h => ?_)
  · have hil : i < l.length := by omega
    obtain ⟨b, off, cap', hab, _, hcell⟩ := Sl.view hv (by omega)
    simp only [Value.slice.injEq] at hab
    obtain ⟨rfl, _, rfl⟩ := hab
    refine r_skip ?_
    refine r_seq ?_
    refine r_block ?_
    refine r_seq ?_
    refine r_region rfl ?_
    refine o_val rfl rfl rfl rfl (v_assign rfl) ?_
    refine o_end ?_
    refine r_block ?_
    have hc8 := crcL_take l i hil
    have hr8 := refBits_8 (crcL (~~~ 0) (l.take i)) l[i]
    simp only [crcB] at hr8
    generalize crcL (~~~ 0) (l.take i) = c0 at *
    refine r_loop (fun k : Nat => k ≤ 8) (fun k => [(5, .int .i64 k), (3, u32V (refBits (l[i].toBitVec.setWidth 32) k c0)), (4, .int .i64 i), (0, .slice (some ⟨b, off, none⟩) l.length cap)]) (fun _ => F) (fun _ => H) (fun k => 8 - k) 0 (Nat.zero_le _) ⟨rfl, rfl, rfl, rfl, trivial⟩ rfl rfl ?_
    intro k hk IH2
    refine r_seq ?_
    refine r_seq ?_
    refine r_region rfl ?_
    refine o_val rfl rfl rfl rfl (v_move rfl) ?_
    refine o_val rfl rfl rfl rfl (v_lss rfl rfl) ?_
    refine o_end ?_
    refine r_if rfl (fun hk8 => ?_) (fun hk8 => ?_)
    · have hx := l[i].toNat_lt
      have hd : l[i].toNat / 2 ^ k < 256 := Nat.lt_of_le_of_lt (Nat.div_le_self _ _) hx
      refine r_skip ?_
      refine r_seq ?_
      refine r_block ?_
      refine r_seq ?_
      refine r_region rfl ?_
      refine o_val rfl rfl rfl rfl (v_move rfl) ?_
      refine o_val rfl rfl rfl rfl (v_move rfl) ?_
      refine o_val rfl rfl rfl rfl (v_index1 rfl rfl rfl rfl hil) ?_
      refine o_val rfl rfl rfl rfl (v_load rfl rfl (hcell i (byteV l[i]) (by rw [bytesV_get, List.getElem?_eq_getElem hil]; rfl))) ?_
      refine o_val rfl rfl rfl rfl (v_move rfl) ?_
      refine o_val rfl rfl rfl rfl (v_shr rfl rfl (by omega) (u8_shr l[i] k (by omega))) ?_
      refine o_val rfl rfl rfl rfl (v_and rfl rfl (u8_and1 _ hd)) ?_
      refine o_val rfl rfl rfl rfl (v_conv rfl rfl rfl ((wrap_u32 (by omega) (by omega)).trans (beta_eq l[i] k).symm)) ?_
      refine o_val rfl rfl rfl rfl (v_move rfl) ?_
      refine o_val rfl rfl rfl rfl (v_and rfl rfl (u32_and _ 1)) ?_
      refine o_val rfl rfl rfl rfl (v_xor rfl rfl (u32_xor _ _)) ?_
      refine o_val rfl rfl rfl rfl (v_assign rfl) ?_
      refine o_end ?_
      refine r_seq ?_
      refine r_region rfl ?_
      refine o_val rfl rfl rfl rfl (v_move rfl) ?_
      refine o_val rfl rfl rfl rfl (v_shr rfl rfl (by decide) (u32_shr1 _)) ?_
      refine o_val rfl rfl rfl rfl (v_assign rfl) ?_
      refine o_end ?_
      refine r_seq ?_
      refine r_region rfl ?_
      refine o_val rfl rfl rfl rfl (v_move rfl) ?_
      refine o_val rfl rfl rfl rfl (v_eql rfl rfl) ?_
      refine o_end ?_
      refine r_if rfl (fun hbit => ?_) (fun hbit => ?_)
      · refine r_region rfl ?_
        refine o_val rfl rfl rfl rfl (v_move rfl) ?_
        refine o_val rfl rfl rfl rfl (v_xor rfl rfl (u32_xor _ 0xedb88320)) ?_
        refine o_val rfl rfl rfl rfl (v_assign rfl) ?_
        refine o_end ?_
        refine r_inBlock ?_
        refine r_region rfl ?_
        refine o_val rfl rfl rfl rfl (v_move rfl) ?_
        refine o_val rfl rfl rfl rfl (v_add rfl rfl (wrap_i64 (by omega) (by omega))) ?_
        refine o_val rfl rfl rfl rfl (v_assign rfl) ?_
        refine o_end ?_
        refine j_keep ?_ (IH2 (k + 1) (by omega) (by omega))
        refine ⟨rfl, ?_, rfl, rfl, trivial⟩
        simp only [refBits, refStep, if_pos ((u32_is1 _).1 hbit)]
        rfl
      · refine r_skip ?_
        refine r_inBlock ?_
        refine r_region rfl ?_
        refine o_val rfl rfl rfl rfl (v_move rfl) ?_
        refine o_val rfl rfl rfl rfl (v_add rfl rfl (wrap_i64 (by omega) (by omega))) ?_
        refine o_val rfl rfl rfl rfl (v_assign rfl) ?_
        refine o_end ?_
        refine j_keep ?_ (IH2 (k + 1) (by omega) (by omega))
        refine ⟨rfl, ?_, rfl, rfl, trivial⟩
        simp only [refBits, refStep, if_neg (fun h => hbit ((u32_is1 _).2 h))]
        rfl
    · obtain rfl : k = 8 := by omega
      refine r_exit rfl ?_
      refine r_inBlock ?_
      refine r_region rfl ?_
      refine o_val rfl rfl rfl rfl (v_move rfl) ?_
      refine o_val rfl rfl rfl rfl (v_add rfl rfl (wrap_i64 (by omega) (by omega))) ?_
      refine o_val rfl rfl rfl rfl (v_assign rfl) ?_
      refine o_end ?_
      refine j_keep ?_ (IH (i + 1) (by omega) (by omega))
      refine ⟨rfl, rfl, ?_, trivial⟩
      rw [hc8, ← hr8]; rfl
  · obtain rfl : i = l.length := by omega
    refine r_exit rfl ?_
    refine r_seq ?_
    refine r_region rfl ?_
    refine o_val rfl rfl rfl rfl (v_move rfl) ?_
    refine o_val rfl rfl rfl rfl (v_xor rfl rfl (u32_xor _ 0xffffffff)) ?_
    refine o_val rfl rfl rfl rfl (v_assign rfl) ?_
    refine o_end ?_
    refine r_ret1 Try.func43 rfl rfl ⟨⟨?_, rfl, rfl⟩, Fz.le_refl _⟩
    have h1 : (0xffffffff : BitVec 32) = BitVec.allOnes 32 := by decide
    simp only [u32V, crc, List.take_length, h1, BitVec.xor_allOnes]

theorem ref_Seal (O : World) (F : Fz) (v : Value) (l : List UInt8) (Fr : List Ent) (hv : SlB F Fr v l) (hn : l.length ≤ 140737488354000) :
    Does Try.prog O 24 #[v] F Fr (fun r F' H' => F' = F ∧ ∃ bf : Bf, bf.ok (sealB l).length ∧ r = bf.val (sealB l).length ∧ H' = bf.ents 1 (bytesV (sealB l)) ++ Fr) := by
  refine does_of_run (args := [_]) Try.func24 rfl rfl ?_
  refine r_seq ?_
  refine r_region rfl ?_
  refine o_val rfl rfl rfl rfl (v_assign rfl) ?_
  refine o_end ?_
  refine r_seq ?_
  refine r_region rfl ?_
  refine o_val rfl rfl rfl rfl (v_move rfl) ?_
  refine o_val rfl rfl rfl rfl (v_move rfl) ?_
  refine o_call rfl rfl rfl rfl (c_call callable43 rfl) (ref_Sum _ _ _ _ l hv (by omega)) ?_
  rintro v' F' H' ⟨rfl, rfl, rfl⟩ _
  refine o_val rfl rfl rfl rfl (v_conv rfl rfl rfl (wrap_u64 (by omega) (by have := (crc l).isLt; omega))) ?_
  refine o_call rfl rfl rfl rfl (c_call callable41 rfl) (ref_Num _ _ _ l _ 4 _ hv (by omega) (by omega)) ?_
  rintro v' F' H' ⟨rfl, bf', hok', rfl, rfl⟩ _
  refine o_val rfl rfl rfl rfl (v_assign rfl) ?_
  refine o_end ?_
  exact r_ret1 Try.func24 rfl rfl ⟨⟨rfl, bf', hok', rfl, rfl⟩, Fz.le_refl _⟩
end Go.SX
