/-
  Contracts of package octet: bytes that are read, opening what is sealed, bytes and truths that are laid.
-/
import Derived.Test.YtdmpnpcpnhcioaaOct2
namespace Go.SX
open Go Go.Proofs
set_option maxRecDepth 4000

/-! ### Opening -/

theorem leN_lt4 (l : List UInt8) (h : l.length = 4) : leN l < 4294967296 := by have := leN_lt l; rw [h] at this; exact this
theorem leN_leB : ∀ k n, n < 256 ^ k → leN (leB k n) = n
  | 0, n, h => by simp at h; subst h; rfl
  | k + 1, n, h => by
    have : n / 256 < 256 ^ k := by rw [Nat.pow_succ] at h; omega
    simp only [leB, leN, leN_leB k _ this]
    simp
    omega
theorem leB_leN : ∀ l : List UInt8, leB l.length (leN l) = l
  | [] => rfl
  | b :: r => by
    have hb := b.toNat_lt
    simp only [List.length_cons, leB, leN]
    have h1 : (b.toNat + 256 * leN r) / 256 = leN r := by omega
    have h2 : UInt8.ofNat (b.toNat + 256 * leN r) = b := by
      apply UInt8.toNat_inj.1
      simp
    rw [h1, h2, leB_leN r]

/-- Opening: the error's number, the bytes. -/
def openB (l : List UInt8) : Nat × List UInt8 :=
  if l.length < 4 then (5, []) else if sealB (l.take (l.length - 4)) = l then (0, l.take (l.length - 4)) else (4, [])

theorem open_cond (l : List UInt8) (h : 4 ≤ l.length) : leN (l.drop (l.length - 4)) = (crc (l.take (l.length - 4))).toNat ↔ sealB (l.take (l.length - 4)) = l := by
  have hd : (l.drop (l.length - 4)).length = 4 := by simp; omega
  constructor
  · intro he
    have := leB_leN (l.drop (l.length - 4))
    rw [hd, he] at this
    unfold sealB
    rw [this, List.take_append_drop]
  · intro he
    have h1 : leB 4 (crc (l.take (l.length - 4))).toNat = l.drop (l.length - 4) := by
      have : sealB (l.take (l.length - 4)) = l.take (l.length - 4) ++ l.drop (l.length - 4) := by rw [List.take_append_drop]; exact he
      exact List.append_cancel_left this
    rw [← h1]
    exact leN_leB 4 _ (crc (l.take (l.length - 4))).isLt

theorem oct_Open (O : World) (F : Fz) (v : Value) (l : List UInt8) (Fr : List Ent) (hv : SlB F [] v l) (hl : l.length ≤ 140737488355328) :
    Does Try.prog O 25 #[v] F Fr (fun r F' H' => F' = F ∧ H' = Fr ∧ ∃ v', r = .tuple #[v', .int .i64 (openB l).1] ∧ SlB F [] v' (openB l).2) := by
  obtain ⟨a0, cap, rfl, hcap⟩ := Sl.shape hv
  refine does_of_run (args := [_]) Try.func25 rfl rfl ?_
  refine r_seq ?_
  refine r_region rfl ?_
  refine o_val rfl rfl rfl rfl (v_assign rfl) ?_
  refine o_val rfl rfl rfl rfl (v_assign rfl) ?_
  refine o_end ?_
  refine r_seq ?_
  refine r_region rfl ?_
  refine o_val rfl rfl rfl rfl (v_move rfl) ?_
  refine o_val rfl rfl rfl rfl (v_len rfl rfl) ?_
  refine o_val rfl rfl rfl rfl (v_sub rfl rfl (wrap_i64 (by omega) (by omega))) ?_
  refine o_val rfl rfl rfl rfl (v_assign rfl) ?_
  refine o_end ?_
  refine r_seq ?_
  refine r_seq ?_
  refine r_region rfl ?_
  refine o_val rfl rfl rfl rfl (v_move rfl) ?_
  refine o_val rfl rfl rfl rfl (v_lss rfl rfl) ?_
  refine o_end ?_
  refine r_if rfl (fun h => ?_) (fun h => ?_)
  · refine r_seq ?_
    refine r_region rfl ?_
    refine o_val rfl rfl rfl rfl (v_assign rfl) ?_
    refine o_val rfl rfl rfl rfl (v_assign rfl) ?_
    refine o_end ?_
    have hr : openB l = (5, []) := by simp only [openB]; rw [if_pos (by omega)]
    rw [hr]
    exact r_ret2 Try.func25 rfl rfl rfl ⟨⟨rfl, rfl, _, rfl, Sl.nil _ _ _⟩, Fz.le_refl _⟩
  · have h4 : 4 ≤ l.length := by omega
    have hn : ((l.length : Int) - 4) = ((l.length - 4 : Nat) : Int) := by omega
    have hd := SlB.drop hv (k := l.length - 4) (by omega)
    have ht := SlB.take hv (k := l.length - 4) (by omega)
    refine j_slot 4 rfl (v' := .int .i64 ((l.length - 4 : Nat) : Int)) (by rw [hn]) ?_
    refine r_skip ?_
    refine r_seq ?_
    refine r_seq ?_
    refine d_region 1000000 rfl ([]) ?_
    refine d_take (i := 0) rfl rfl rfl (by decide +kernel) (by decide +kernel) (by decide +kernel) (Fz.le_refl _) (by simp) rfl (v_move rfl) ?_
    refine d_take (i := 1) rfl rfl rfl (by decide +kernel) (by decide +kernel) (by decide +kernel) (Fz.le_refl _) (by simp) rfl (v_move rfl) ?_
    refine d_take (i := 2) rfl rfl rfl (by decide +kernel) (by decide +kernel) (by decide +kernel) (Fz.le_refl _) (by simp) rfl (v_sliceL (sz := 1) rfl rfl rfl rfl rfl (by omega)) ?_
    refine d_take (i := 5) rfl rfl rfl (by decide +kernel) (by decide +kernel) (by decide +kernel) (Fz.le_refl _) (by simp) rfl (v_move rfl) ?_
    refine d_take (i := 6) rfl rfl rfl (by decide +kernel) (by decide +kernel) (by decide +kernel) (Fz.le_refl _) (by simp) rfl (v_move rfl) ?_
    refine d_take (i := 7) rfl rfl rfl (by decide +kernel) (by decide +kernel) (by decide +kernel) (Fz.le_refl _) (by simp) rfl (v_sliceH (sz := 1) rfl rfl rfl rfl rfl (by omega)) ?_
    refine d_one (i := 3) (by decide +kernel) ?_
    refine d1_call rfl rfl rfl rfl (c_call callable26 rfl) (oct_Read _ _ _ _ _ hd) ?_
    rintro v' F' H' ⟨rfl, a, rfl, rfl⟩ _
    refine ⟨fun w hw => held_of hw (by first | exact Fz.le_refl _ | assumption) (by simp), ?_⟩
    refine d_one (i := 4) (by decide +kernel) ?_
    refine d1_call rfl rfl rfl rfl (c_call callable27 rfl) (oct_RNum _ _ _ _ _ false 4 _ hd (by simp; omega)) ?_
    rintro v' F' H' ⟨rfl, rfl, v2, hv2, rfl⟩ _
    refine ⟨fun w hw => held_of hw (by first | exact Fz.le_refl _ | assumption) (by simp), ?_⟩
    refine d_one (i := 8) (by decide +kernel) ?_
    refine d1_call rfl rfl rfl rfl (c_call callable42 rfl) (oct_Sum _ _ _ _ _ (ht.frz (Fz.le_refl _)) (by simp; omega)) ?_
    rintro v' F' H' ⟨rfl, rfl, rfl⟩ _
    refine ⟨fun w hw => held_of hw (by first | exact Fz.le_refl _ | assumption) (by simp), ?_⟩
    have hr4 : (rdNum (l.drop (l.length - 4)) false 4).1 = leN (l.drop (l.length - 4)) := by
      have hd4 : (l.drop (l.length - 4)).length = 4 := by simp; omega
      unfold rdNum
      rw [hd4]
      rw [if_neg (by decide)]
      show leN ((l.drop (l.length - 4)).take 4) = _
      rw [List.take_of_length_le (by omega)]
    rw [hr4]
    refine j_drop (List.sublist_cons_self _ _) ?_
    refine d_take (i := 9) rfl rfl rfl (by decide +kernel) (by decide +kernel) (by decide +kernel) (Fz.le_refl _) (by simp) rfl (v_conv rfl rfl rfl (wrap_u64 (by omega) (by have := (crc (l.take (l.length - 4))).isLt; omega))) ?_
    refine d_take (i := 10) rfl rfl rfl (by decide +kernel) (by decide +kernel) (by decide +kernel) (Fz.le_refl _) (by simp) rfl (v_neq rfl rfl) ?_
    refine d_end (by decide +kernel) ?_
    refine r_if rfl (fun h5 => ?_) (fun h5 => ?_)
    · refine r_seq ?_
      refine r_region rfl ?_
      refine o_val rfl rfl rfl rfl (v_assign rfl) ?_
      refine o_val rfl rfl rfl rfl (v_assign rfl) ?_
      refine o_end ?_
      have hr : openB l = (4, []) := by
        simp only [openB]
        rw [if_neg (by omega), if_neg (fun he => h5 (by exact_mod_cast (open_cond l h4).2 he))]
      rw [hr]
      exact r_ret2 Try.func25 rfl rfl rfl ⟨⟨rfl, rfl, _, rfl, Sl.nil _ _ _⟩, Fz.le_refl _⟩
    · refine r_skip ?_
      refine r_seq ?_
      refine r_region rfl ?_
      refine o_val rfl rfl rfl rfl (v_move rfl) ?_
      refine o_val rfl rfl rfl rfl (v_move rfl) ?_
      refine o_val rfl rfl rfl rfl (v_move rfl) ?_
      refine o_val rfl rfl rfl rfl (v_sliceHM (sz := 1) rfl rfl rfl rfl rfl rfl rfl (Nat.le_refl _) (by omega)) ?_
      refine o_val rfl rfl rfl rfl (v_assign rfl) ?_
      refine o_val rfl rfl rfl rfl (v_assign rfl) ?_
      refine o_end ?_
      have hr : openB l = (0, l.take (l.length - 4)) := by
        simp only [openB]
        rw [if_neg (by omega), if_pos ((open_cond l h4).1 (by have := Decidable.not_not.1 h5; exact_mod_cast this))]
      rw [hr]
      exact r_ret2 Try.func25 rfl rfl rfl ⟨⟨rfl, rfl, _, rfl, SlB.takeM hv (by omega)⟩, Fz.le_refl _⟩

theorem ref_Open (O : World) (F : Fz) (v : Value) (l : List UInt8) (Fr : List Ent) (hv : SlB F [] v l) (hl : l.length ≤ 140737488350000) :
    Does Try.prog O 47 #[v] F Fr (fun r F' H' => F.le F' ∧ H' = Fr ∧ ∃ v', r = .tuple #[v', .int .i64 (openB l).1] ∧ SlB F [] v' (openB l).2) := by
  obtain ⟨a0, cap, rfl, hcap⟩ := Sl.shape hv
  refine does_of_run (args := [_]) Try.func47 rfl rfl ?_
  refine r_seq ?_
  refine r_region rfl ?_
  refine o_val rfl rfl rfl rfl (v_assign rfl) ?_
  refine o_val rfl rfl rfl rfl (v_assign rfl) ?_
  refine o_end ?_
  refine r_seq ?_
  refine r_region rfl ?_
  refine o_val rfl rfl rfl rfl (v_move rfl) ?_
  refine o_val rfl rfl rfl rfl (v_len rfl rfl) ?_
  refine o_val rfl rfl rfl rfl (v_sub rfl rfl (wrap_i64 (by omega) (by omega))) ?_
  refine o_val rfl rfl rfl rfl (v_assign rfl) ?_
  refine o_end ?_
  refine r_seq ?_
  refine r_seq ?_
  refine r_region rfl ?_
  refine o_val rfl rfl rfl rfl (v_move rfl) ?_
  refine o_val rfl rfl rfl rfl (v_lss rfl rfl) ?_
  refine o_end ?_
  refine r_if rfl (fun h => ?_) (fun h => ?_)
  · refine r_seq ?_
    refine r_region rfl ?_
    refine o_val rfl rfl rfl rfl (v_assign rfl) ?_
    refine o_val rfl rfl rfl rfl (v_assign rfl) ?_
    refine o_end ?_
    have hr : openB l = (5, []) := by simp only [openB]; rw [if_pos (by omega)]
    rw [hr]
    exact r_ret2 Try.func47 rfl rfl rfl ⟨⟨Fz.le_refl _, rfl, _, rfl, Sl.nil _ _ _⟩, Fz.le_refl _⟩
  · have h4 : 4 ≤ l.length := by omega
    have hn : ((l.length : Int) - 4) = ((l.length - 4 : Nat) : Int) := by omega
    have ht := SlB.take hv (k := l.length - 4) (by omega)
    refine j_slot 4 rfl (v' := .int .i64 ((l.length - 4 : Nat) : Int)) (by rw [hn]) ?_
    refine r_skip ?_
    refine r_seq ?_
    refine r_seq ?_
    refine d_region 1000000 rfl ([]) ?_
    refine d_take (i := 0) rfl rfl rfl (by decide +kernel) (by decide +kernel) (by decide +kernel) (Fz.le_refl _) (by simp) rfl (v_move rfl) ?_
    refine d_take (i := 1) rfl rfl rfl (by decide +kernel) (by decide +kernel) (by decide +kernel) (Fz.le_refl _) (by simp) rfl (v_move rfl) ?_
    refine d_take (i := 2) rfl rfl rfl (by decide +kernel) (by decide +kernel) (by decide +kernel) (Fz.le_refl _) (by simp) rfl (v_sliceH (sz := 1) rfl rfl rfl rfl rfl (by omega)) ?_
    refine d_take (i := 5) rfl rfl rfl (by decide +kernel) (by decide +kernel) (by decide +kernel) (Fz.le_refl _) (by simp) rfl (v_move rfl) ?_
    refine d_take (i := 6) rfl rfl rfl (by decide +kernel) (by decide +kernel) (by decide +kernel) (Fz.le_refl _) (by simp) rfl (v_bytesString rfl rfl rfl rfl (l := l) hv) ?_
    refine d_one (i := 3) (by decide +kernel) ?_
    refine d1_call rfl rfl rfl rfl (c_call callable24 rfl) (ref_Seal _ _ _ (l.take (l.length - 4)) _ (ht.frz (Fz.le_refl _)) (by simp; omega)) ?_
    rintro v' F' H' ⟨rfl, bf, hok, rfl, rfl⟩ _
    refine ⟨fun w hw => held_of hw (by first | exact Fz.le_refl _ | assumption) (by simp), ?_⟩
    refine j_freezeBf hok (by simp) fun F1 hF1 hs1 => ?_
    refine d_more ([]) hF1 (by simp) ?_
    refine d_take (i := 4) rfl rfl rfl (by decide +kernel) (by decide +kernel) (by decide +kernel) (Fz.le_refl _) (by simp) rfl (v_bytesString rfl rfl rfl rfl (l := sealB (l.take (l.length - 4))) (hs1.mono (Fz.le_refl _) (by simp))) ?_
    refine d_take (i := 7) rfl rfl rfl (by decide +kernel) (by decide +kernel) (by decide +kernel) (Fz.le_refl _) (by simp) rfl (v_sneq rfl rfl) ?_
    refine d_end (by decide +kernel) ?_
    refine r_if rfl (fun h5 => ?_) (fun h5 => ?_)
    · refine r_seq ?_
      refine r_region rfl ?_
      refine o_val rfl rfl rfl rfl (v_assign rfl) ?_
      refine o_val rfl rfl rfl rfl (v_assign rfl) ?_
      refine o_end ?_
      have hr : openB l = (4, []) := by
        simp only [openB]
        rw [if_neg (by omega), if_neg h5]
      rw [hr]
      exact r_ret2 Try.func47 rfl rfl rfl ⟨⟨hF1, rfl, _, rfl, Sl.nil _ _ _⟩, hF1⟩
    · refine r_skip ?_
      refine r_seq ?_
      refine r_region rfl ?_
      refine o_val rfl rfl rfl rfl (v_move rfl) ?_
      refine o_val rfl rfl rfl rfl (v_move rfl) ?_
      refine o_val rfl rfl rfl rfl (v_sliceH (sz := 1) rfl rfl rfl rfl rfl (by omega)) ?_
      refine o_val rfl rfl rfl rfl (v_assign rfl) ?_
      refine o_val rfl rfl rfl rfl (v_assign rfl) ?_
      refine o_end ?_
      have hr : openB l = (0, l.take (l.length - 4)) := by
        simp only [openB]
        rw [if_neg (by omega), if_pos (Decidable.not_not.1 h5)]
      rw [hr]
      exact r_ret2 Try.func47 rfl rfl rfl ⟨⟨hF1, rfl, _, rfl, ht⟩, hF1⟩

/-! ### Bytes and truths that are laid -/

/-- How many, in four bytes, and they. -/
def lenB (l : List UInt8) : List UInt8 := leB 4 l.length ++ l
def flagB (b : Bool) : List UInt8 := if b = true then [1] else [0]

theorem openB_seal (l : List UInt8) : openB (sealB l) = (0, l) := by
  unfold openB
  have h1 : (sealB l).length - 4 = l.length := by simp
  have h2 : (sealB l).take l.length = l := by simp [sealB]
  rw [if_neg (by simp), h1, h2, if_pos rfl]
theorem dec_true {p : Prop} [Decidable p] (h : p) : Value.bool (decide p) = .bool true := by rw [decide_eq_true h]
end Go.SX
