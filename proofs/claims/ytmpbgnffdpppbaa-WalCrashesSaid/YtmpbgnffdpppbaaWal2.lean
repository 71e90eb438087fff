/-
  Contracts of package wal: a record is taken, an image grows by one; what bytes come to.
-/
import Derived.Test.YtmpbgnffdpppbaaWal
namespace Go.SX
open Go Go.Proofs
set_option maxRecDepth 4000
set_option linter.unusedSimpArgs false
set_option linter.unusedVariables false

theorem sliced0 (a : Option Addr) (h m sz : Nat) : Go.sliced a 0 h m sz = .slice a h m := by
  cases a with
  | none => simp [Go.sliced]
  | some x => simp [Go.sliced, Addr.add]
theorem Sl.cut4 {F : Fz} {H : List Ent} {a : Option Addr} {n cap k c : Nat} {l : List En} (hv : Sl F H 4 (.slice a n cap) l.length (enV l)) (hk : k ≤ l.length) (hc : k ≤ c) (hc2 : c ≤ cap) : Sl F H 4 (.slice a k c) (l.take k).length (enV (l.take k)) := by
  have hl : (l.take k).length = k := by simp; omega
  have hlen := hv.len
  obtain ⟨a', cap', h1, h2, h3, h4, h5⟩ := hv
  simp only [Value.slice.injEq] at h1
  obtain ⟨rfl, rfl, rfl⟩ := h1
  refine ⟨a, c, by rw [hl], en_len _, by rw [hl]; exact hc, fun ha => ?_, fun i q hq => ?_⟩
  · have := h4 ha
    omega
  · refine h5 i q ?_
    have : enV (l.take k) = (enV l).take (k * 4) := (vec_take (c := En.cells) En.cl l k hk).symm
    rw [this, List.getElem?_take] at hq
    split at hq
    · exact hq
    · cases hq

def takeB (b : List UInt8) : Option (Nat × List UInt8 × List UInt8) :=
  if b.length < 5 then none else
  if 1048576 < leN (b.take 4) ∨ b.length < leN (b.take 4) + 9 then none else
  if (openB (b.take (leN (b.take 4) + 9))).1 = 0 then some (leN ((b.drop 4).take 1), (openB (b.take (leN (b.take 4) + 9))).2.drop 5, b.drop (leN (b.take 4) + 9)) else none
theorem rdNum_ok {l : List UInt8} {n : Nat} (h : n ≤ l.length) (h8 : n ≤ 8) : rdNum l false n = (leN (l.take n), l.drop n, false) := by
  unfold rdNum
  rw [if_neg (by simp; omega)]
  simp
  congr 2
  omega
theorem rdNum_bad {l : List UInt8} {n : Nat} {b : Bool} (h : l.length < n ∨ b = true) : rdNum l b n = (0, l, true) := by
  unfold rdNum
  rw [if_pos]
  rcases h with h | h
  · right; right; omega
  · left; exact h
theorem openB_len {l : List UInt8} (h : 4 ≤ l.length) (h0 : (openB l).1 = 0) : (openB l).2.length = l.length - 4 := by
  unfold openB at *
  rw [if_neg (by omega)] at *
  split at h0
  · rename_i h1; rw [if_pos h1]; simp
  · cases h0

theorem wal_take (O : World) (F : Fz) (v : Value) (b : List UInt8) (Fr : List Ent) (hv : SlB F [] v b) (hl : b.length ≤ 140737488350000) :
    Does Try.prog O 32 #[v] F Fr (fun r F' H' => F' = F ∧ H' = Fr ∧ ((takeB b = none ∧ r = .tuple #[.int .u8 0, .slice none 0 0, .slice none 0 0, .bool false]) ∨ ∃ k d rest v1 v2, takeB b = some (k, d, rest) ∧ k < 256 ∧ r = .tuple #[.int .u8 k, v1, v2, .bool true] ∧ SlB F [] v1 d ∧ SlB F [] v2 rest)) := by
  obtain ⟨a0, cap, rfl, hcap⟩ := Sl.shape hv
  refine does_of_run (args := [_]) Try.func32 rfl rfl ?_
  have hlt1 : (rdNum (rdNum b false 4).2.1 (rdNum b false 4).2.2 1).1 < 256 := rdNum_lt _ _ 1
  have hlt0 : (rdNum b false 4).1 < 4294967296 := rdNum_lt b false 4
  have hln0 := rdNum_len b false 4
  refine r_seq ?_
  refine r_region rfl ?_
  refine o_val rfl rfl rfl rfl (v_assign rfl) ?_
  refine o_val rfl rfl rfl rfl (v_assign rfl) ?_
  refine o_val rfl rfl rfl rfl (v_assign rfl) ?_
  refine o_val rfl rfl rfl rfl (v_assign rfl) ?_
  refine o_end ?_
  refine r_seq ?_
  refine r_region rfl ?_
  refine o_val rfl rfl rfl rfl (v_move rfl) ?_
  refine o_call rfl rfl rfl rfl (c_call callable45 rfl) (oct_Read _ _ _ b _ hv) ?_
  rintro v' F H' ⟨rfl, a, rfl, rfl⟩ _
  refine o_val rfl rfl rfl rfl (v_assign rfl) ?_
  refine o_end ?_
  refine r_seq ?_
  refine r_region rfl ?_
  refine o_val rfl rfl rfl rfl (v_move rfl) ?_
  refine o_call rfl rfl rfl rfl (c_call callable46 rfl) (oct_RNum _ _ a _ b false 4 Fr hv (by omega)) ?_
  rintro v' F H' ⟨rfl, rfl, v1, hv1, rfl⟩ _
  refine o_val rfl rfl rfl rfl (v_move rfl) ?_
  refine o_call rfl rfl rfl rfl (c_call callable46 rfl) (oct_RNum _ _ a _ _ _ 1 Fr hv1 (by omega)) ?_
  rintro v' F H' ⟨rfl, rfl, v2, hv2, rfl⟩ _
  refine o_val rfl rfl rfl rfl (v_conv rfl rfl rfl (wrap_u8 (by omega) (by omega))) ?_
  refine o_val rfl rfl rfl rfl (v_assign rfl) ?_
  refine o_val rfl rfl rfl rfl (v_assign rfl) ?_
  refine o_end ?_
  refine r_seq ?_
  refine r_seq ?_
  refine r_region rfl ?_
  refine o_val rfl rfl rfl rfl (v_move rfl) ?_
  refine o_call rfl rfl rfl rfl (c_call callable47 rfl) (oct_RBad _ _ a _ _ Fr) ?_
  rintro v' F H' ⟨rfl, rfl, rfl⟩ _
  by_cases h5 : b.length < 5
  · have hb : (rdNum (rdNum b false 4).2.1 (rdNum b false 4).2.2 1).2.2 = true := by
      by_cases h4 : b.length < 4
      · have e1 : rdNum b false 4 = (0, b, true) := rdNum_bad (n := 4) (.inl h4)
        rw [e1]
        have e2 : rdNum b true 1 = (0, b, true) := rdNum_bad (n := 1) (.inr rfl)
        rw [e2]
      · have e1 : rdNum b false 4 = (leN (b.take 4), b.drop 4, false) := rdNum_ok (n := 4) (by omega) (by omega)
        rw [e1]
        have e2 : rdNum (b.drop 4) false 1 = (0, b.drop 4, true) := rdNum_bad (n := 1) (.inl (by simp; omega))
        rw [e2]
    rw [hb]
    refine o_val rfl rfl rfl rfl (v_move rfl) ?_
    refine o_skip rfl rfl rfl rfl ?_
    refine o_skip rfl rfl rfl rfl ?_
    refine o_val rfl rfl rfl rfl (v_pick1 rfl rfl) ?_
    refine o_val rfl rfl rfl rfl (v_move rfl) ?_
    refine o_skip rfl rfl rfl rfl ?_
    refine o_skip rfl rfl rfl rfl ?_
    refine o_skip rfl rfl rfl rfl ?_
    refine o_skip rfl rfl rfl rfl ?_
    refine o_skip rfl rfl rfl rfl ?_
    refine o_skip rfl rfl rfl rfl ?_
    refine o_val rfl rfl rfl rfl (v_pick1 rfl rfl) ?_
    refine o_end ?_
    refine r_true rfl ?_
    refine r_seq ?_
    refine r_region rfl ?_
    refine o_val rfl rfl rfl rfl (v_assign rfl) ?_
    refine o_val rfl rfl rfl rfl (v_assign rfl) ?_
    refine o_val rfl rfl rfl rfl (v_assign rfl) ?_
    refine o_val rfl rfl rfl rfl (v_assign rfl) ?_
    refine o_end ?_
    refine j_drop (List.sublist_cons_self _ _) ?_
    exact r_ret4 Try.func32 rfl rfl rfl rfl rfl ⟨⟨rfl, rfl, .inl ⟨by rw [takeB, if_pos h5], rfl⟩⟩, Fz.le_refl _⟩
  · have e1 : rdNum b false 4 = (leN (b.take 4), b.drop 4, false) := rdNum_ok (n := 4) (by omega) (by omega)
    have e2 : rdNum (b.drop 4) false 1 = (leN ((b.drop 4).take 1), (b.drop 4).drop 1, false) := rdNum_ok (n := 1) (by simp; omega) (by omega)
    rw [e1] at hlt1 hlt0 hln0 hv1 hv2 ⊢
    dsimp only at hlt1 hlt0 hln0 hv1 hv2 ⊢
    rw [e2] at hlt1 hv2 ⊢
    dsimp only at hlt1 hv2 ⊢
    rw [List.drop_drop] at hv2
    clear e1 e2
    have hkb : leN ((b.drop 4).take 1) < 256 := by omega
    have tk : takeB b = if 1048576 < leN (b.take 4) ∨ b.length < leN (b.take 4) + 9 then none else
      if (openB (b.take (leN (b.take 4) + 9))).1 = 0 then some (leN ((b.drop 4).take 1), (openB (b.take (leN (b.take 4) + 9))).2.drop 5, b.drop (leN (b.take 4) + 9)) else none := by rw [takeB, if_neg h5]
    have hdl : (b.drop (4 + 1)).length = b.length - 5 := by simp
    generalize leN (b.take 4) = n at *
    generalize leN ((b.drop 4).take 1) = k at *
    refine o_val rfl rfl rfl rfl (v_move rfl) ?_
    refine o_val rfl rfl rfl rfl (v_move rfl) ?_
    refine o_val rfl rfl rfl rfl (v_gtr rfl rfl) ?_
    refine o_val rfl rfl rfl rfl (v_pick0 rfl rfl) ?_
    refine j_prop 23 rfl (fun h1 => ?_) (fun h1 => ?_)
    · refine o_val rfl rfl rfl rfl (v_move rfl) ?_
      refine o_skip rfl rfl rfl rfl ?_
      refine o_skip rfl rfl rfl rfl ?_
      refine o_skip rfl rfl rfl rfl ?_
      refine o_skip rfl rfl rfl rfl ?_
      refine o_skip rfl rfl rfl rfl ?_
      refine o_skip rfl rfl rfl rfl ?_
      refine o_val rfl rfl rfl rfl (v_pick1 rfl rfl) ?_
      refine o_end ?_
      refine r_true rfl ?_
      refine r_seq ?_
      refine r_region rfl ?_
      refine o_val rfl rfl rfl rfl (v_assign rfl) ?_
      refine o_val rfl rfl rfl rfl (v_assign rfl) ?_
      refine o_val rfl rfl rfl rfl (v_assign rfl) ?_
      refine o_val rfl rfl rfl rfl (v_assign rfl) ?_
      refine o_end ?_
      refine j_drop (List.sublist_cons_self _ _) ?_
      exact r_ret4 Try.func32 rfl rfl rfl rfl rfl ⟨⟨rfl, rfl, .inl ⟨by rw [tk, if_pos (.inl (by omega))], rfl⟩⟩, Fz.le_refl _⟩
    · refine o_val rfl rfl rfl rfl (v_move rfl) ?_
      refine o_val rfl rfl rfl rfl (v_move rfl) ?_
      refine o_call rfl rfl rfl rfl (c_call callable48 rfl) (oct_RLeft _ _ a _ _ _ Fr hv2) ?_
      rintro v' F H' ⟨rfl, rfl, rfl⟩ _
      refine j_slot 26 rfl (v' := .int .i64 ((b.length - 5 : Nat) : Int)) (by simp) ?_
      refine o_val rfl rfl rfl rfl (v_conv rfl rfl rfl (wrap_u64 (by omega) (by omega))) ?_
      refine o_val rfl rfl rfl rfl (v_move rfl) ?_
      refine o_val rfl rfl rfl rfl (v_add rfl rfl (r := ((n + 4 : Nat) : Int)) (wrap_u64 (by omega) (by omega))) ?_
      refine o_val rfl rfl rfl rfl (v_lss rfl rfl) ?_
      refine o_val rfl rfl rfl rfl (v_pick0 rfl rfl) ?_
      refine o_end ?_
      refine j_drop (List.sublist_cons_self _ _) ?_
      refine r_if rfl (fun h2 => ?_) (fun h2 => ?_)
      · refine r_seq ?_
        refine r_region rfl ?_
        refine o_val rfl rfl rfl rfl (v_assign rfl) ?_
        refine o_val rfl rfl rfl rfl (v_assign rfl) ?_
        refine o_val rfl rfl rfl rfl (v_assign rfl) ?_
        refine o_val rfl rfl rfl rfl (v_assign rfl) ?_
        refine o_end ?_
        exact r_ret4 Try.func32 rfl rfl rfl rfl rfl ⟨⟨rfl, rfl, .inl ⟨by rw [tk, if_pos (.inr (by omega))], rfl⟩⟩, Fz.le_refl _⟩
      · have hn9 : n + 9 ≤ b.length := by omega
        rw [if_neg (by omega)] at tk
        refine r_skip ?_
        refine r_seq ?_
        refine r_region rfl ?_
        refine o_val rfl rfl rfl rfl (v_move rfl) ?_
        refine o_val rfl rfl rfl rfl (v_move rfl) ?_
        refine o_val rfl rfl rfl rfl (v_add rfl rfl (r := ((n + 9 : Nat) : Int)) (wrap_u64 (by omega) (by omega))) ?_
        refine o_val rfl rfl rfl rfl (v_sliceH (sz := 1) rfl rfl rfl rfl rfl (by omega)) ?_
        have hvt : SlB F [] (Go.sliced a0 0 (n + 9) cap 1) (b.take (n + 9)) := SlB.take hv hn9
        refine o_call rfl rfl rfl rfl (c_call callable49 rfl) (oct_Open _ _ _ (b.take (n + 9)) Fr hvt (by simp; omega)) ?_
        rintro v' F H' ⟨rfl, rfl, v3, rfl, hv3⟩ _
        refine o_val rfl rfl rfl rfl (v_move rfl) ?_
        refine o_val rfl rfl rfl rfl (v_extract rfl rfl) ?_
        refine o_val rfl rfl rfl rfl (v_extract rfl rfl) ?_
        refine o_val rfl rfl rfl rfl (v_assign rfl) ?_
        refine o_val rfl rfl rfl rfl (v_assign rfl) ?_
        refine o_end ?_
        refine r_seq ?_
        refine r_seq ?_
        refine r_region rfl ?_
        refine o_val rfl rfl rfl rfl (v_move rfl) ?_
        refine o_val rfl rfl rfl rfl (v_neq rfl rfl) ?_
        refine o_end ?_
        refine r_if rfl (fun h3 => ?_) (fun h3 => ?_)
        · rw [if_neg (by omega)] at tk
          refine r_seq ?_
          refine r_region rfl ?_
          refine o_val rfl rfl rfl rfl (v_assign rfl) ?_
          refine o_val rfl rfl rfl rfl (v_assign rfl) ?_
          refine o_val rfl rfl rfl rfl (v_assign rfl) ?_
          refine o_val rfl rfl rfl rfl (v_assign rfl) ?_
          refine o_end ?_
          exact r_ret4 Try.func32 rfl rfl rfl rfl rfl ⟨⟨rfl, rfl, .inl ⟨tk, rfl⟩⟩, Fz.le_refl _⟩
        · have h0 : (openB (b.take (n + 9))).1 = 0 := by omega
          rw [if_pos h0] at tk
          have hol := openB_len (l := b.take (n + 9)) (by simp; omega) h0
          have hol2 : (openB (b.take (n + 9))).2.length = n + 5 := by rw [hol]; simp; omega
          generalize openB (b.take (n + 9)) = q at *
          obtain ⟨a1, c1, rfl, hc1⟩ := Sl.shape hv3
          refine r_skip ?_
          refine r_seq ?_
          refine d_region 1000000 rfl ([]) ?_
          refine d_take (i := 0) rfl rfl rfl (by decide +kernel) (by decide +kernel) (by decide +kernel) (Fz.le_refl _) (by simp) rfl (v_move rfl) ?_
          refine d_take (i := 1) rfl rfl rfl (by decide +kernel) (by decide +kernel) (by decide +kernel) (Fz.le_refl _) (by simp) rfl (v_move rfl) ?_
          refine d_take (i := 2) rfl rfl rfl (by decide +kernel) (by decide +kernel) (by decide +kernel) (Fz.le_refl _) (by simp) rfl (v_sliceL (sz := 1) (l := 5) rfl rfl rfl rfl rfl (by omega)) ?_
          refine d_take (i := 3) rfl rfl rfl (by decide +kernel) (by decide +kernel) (by decide +kernel) (Fz.le_refl _) (by simp) rfl (v_move rfl) ?_
          refine d_take (i := 4) rfl rfl rfl (by decide +kernel) (by decide +kernel) (by decide +kernel) (Fz.le_refl _) (by simp) rfl (v_move rfl) ?_
          refine d_take (i := 5) rfl rfl rfl (by decide +kernel) (by decide +kernel) (by decide +kernel) (Fz.le_refl _) (by simp) rfl (v_add rfl rfl (r := ((n + 9 : Nat) : Int)) (wrap_u64 (by omega) (by omega))) ?_
          refine d_take (i := 6) rfl rfl rfl (by decide +kernel) (by decide +kernel) (by decide +kernel) (Fz.le_refl _) (by simp) rfl (v_sliceL (sz := 1) rfl rfl rfl rfl rfl (by omega)) ?_
          refine d_take (i := 7) rfl rfl rfl (by decide +kernel) (by decide +kernel) (by decide +kernel) (Fz.le_refl _) (by simp) rfl (v_assign rfl) ?_
          refine d_take (i := 8) rfl rfl rfl (by decide +kernel) (by decide +kernel) (by decide +kernel) (Fz.le_refl _) (by simp) rfl (v_assign rfl) ?_
          refine d_take (i := 9) rfl rfl rfl (by decide +kernel) (by decide +kernel) (by decide +kernel) (Fz.le_refl _) (by simp) rfl (v_assign rfl) ?_
          refine d_take (i := 10) rfl rfl rfl (by decide +kernel) (by decide +kernel) (by decide +kernel) (Fz.le_refl _) (by simp) rfl (v_assign rfl) ?_
          refine d_end (by decide +kernel) ?_
          exact r_ret4 Try.func32 rfl rfl rfl rfl rfl ⟨⟨rfl, rfl, .inr ⟨k, _, _, _, _, tk, hkb, rfl, SlB.drop (k := 5) hv3 (by rw [hol2]; omega), SlB.drop hv hn9⟩⟩, Fz.le_refl _⟩
end Go.SX
