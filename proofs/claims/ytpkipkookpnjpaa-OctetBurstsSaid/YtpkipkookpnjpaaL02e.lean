/-
  Chapter 02: the law OctetBursts.
-/
import Derived.Test.YtpkipkookpnjpaaOct3
import Derived.Test.YtpkipkookpnjpaaL02a
import Derived.Test.YtpkipkookpnjpaaBurst
namespace Go.SX
open Go Go.Proofs
set_option linter.unusedSimpArgs false
set_option linter.unusedVariables false

theorem u32_shrN (p i : Nat) (hi : i < 32) : Int.fdiv (p : Int) (2 ^ (min (i : Int).toNat IntKind.u32.bits)) = ((p / 2 ^ i : Nat) : Int) := by
  have h2 : min (i : Int).toNat IntKind.u32.bits = i := by show min (i : Int).toNat 32 = i; omega
  rw [h2, Int.fdiv_eq_ediv_of_nonneg _ (Int.pow_nonneg (by decide))]
  rw [Int.natCast_ediv]
  simp
theorem u32_and1 (m : Nat) (hm : m < 4294967296) : bitOp .and .u32 (m : Int) 1 = ((m % 2 : Nat) : Int) := by
  show IntKind.u32.wrap ((BitVec.ofInt 32 (m : Int) &&& BitVec.ofInt 32 1).toNat : Int) = _
  have h1 : BitVec.ofInt 32 1 = BitVec.ofNat 32 1 := by decide
  have h2 : (BitVec.ofInt 32 (m : Int)).toNat = m := by
    rw [BitVec.ofInt_natCast, BitVec.toNat_ofNat]; omega
  rw [BitVec.toNat_and, h1, h2]
  have h3 : (BitVec.ofNat 32 1).toNat = 2 ^ 1 - 1 := by decide
  rw [h3, Nat.and_two_pow_sub_one_eq_mod]
  exact wrap_u32 (by omega) (by omega)
theorem u8_nat (m : Nat) (h : m < 256) : (UInt8.ofNat m).toNat = m := by
  show (UInt8.ofNat m).toNat = m
  rw [UInt8.toNat_ofNat']
  exact Nat.mod_eq_of_lt h
theorem u8_xorN (x y : Nat) (hx : x < 256) (hy : y < 256) : bitOp .xor .u8 (x : Int) (y : Int) = ((UInt8.ofNat (x ^^^ y)).toNat : Int) := by
  have h0 : x ^^^ y < 2 ^ 8 := Nat.xor_lt_two_pow (by omega) (by omega)
  show IntKind.u8.wrap ((BitVec.ofInt 8 (x : Int) ^^^ BitVec.ofInt 8 (y : Int)).toNat : Int) = _
  rw [BitVec.toNat_xor, BitVec.ofInt_natCast, BitVec.ofInt_natCast, BitVec.toNat_ofNat, BitVec.toNat_ofNat, Nat.mod_eq_of_lt (by omega), Nat.mod_eq_of_lt (by omega), wrap_u8 (by omega) (by omega)]
  rw [u8_nat _ (by omega)]
theorem u8_shl1 (r : Nat) (hr : r < 8) : IntKind.u8.wrap ((1 : Int) * 2 ^ (min (r : Int).toNat IntKind.u8.bits)) = ((2 ^ r : Nat) : Int) := by
  have h2 : min (r : Int).toNat IntKind.u8.bits = r := by show min (r : Int).toNat 8 = r; omega
  have h3 : (2 : Nat) ^ r ≤ 2 ^ 7 := Nat.pow_le_pow_right (by decide) (by omega)
  have e7 : (2 : Nat) ^ 7 = 128 := by decide
  rw [h2, Int.one_mul]
  have h4 : (2 : Int) ^ r = ((2 ^ r : Nat) : Int) := by simp
  rw [h4]
  rw [e7] at h3
  generalize (2 : Nat) ^ r = z at h3
  exact wrap_u8 (by omega) (by omega)
theorem bytesV_set (m : List UInt8) (j : Nat) (x : UInt8) : bytesV (m.set j x) = (bytesV m).set j (byteV x) := by simp [bytesV, List.map_set]
theorem bitAt_set (m : List UInt8) (p t : Nat) (hp : p / 8 < m.length) (ht : t / 8 < m.length) : bitAt (m.set (p / 8) (UInt8.ofNat (m[p / 8].toNat ^^^ 2 ^ (p % 8)))) t = (bitAt m t != decide (t = p)) := by
  unfold bitAt
  have e0 : (m.set (p / 8) (UInt8.ofNat (m[p / 8].toNat ^^^ 2 ^ (p % 8)))).getD (t / 8) 0 = if p / 8 = t / 8 then UInt8.ofNat (m[p / 8].toNat ^^^ 2 ^ (p % 8)) else m[t / 8] := by
    rw [List.getD, List.getElem?_set]
    split
    · rfl
    · rw [List.getElem?_eq_getElem ht]; rfl
  have e1 : m.getD (t / 8) 0 = m[t / 8] := by rw [List.getD, List.getElem?_eq_getElem ht]; rfl
  rw [e0, e1]
  split
  · rename_i h
    have h0 : m[p / 8].toNat ^^^ 2 ^ (p % 8) < 2 ^ 8 := Nat.xor_lt_two_pow (m[p / 8].toNat_lt) (Nat.pow_lt_pow_right (by decide) (by omega))
    rw [u8_nat _ (by omega), Nat.testBit_xor, Nat.testBit_two_pow]
    have h5 : m[p / 8] = m[t / 8] := by simp only [h]
    rw [h5]
    have h6 : (p % 8 = t % 8) ↔ (t = p) := by omega
    simp only [h6]
  · rename_i h
    have h6 : ¬ t = p := by rintro rfl; exact h rfl
    rw [decide_eq_false h6]
    cases m[t / 8].toNat.testBit (t % 8) <;> rfl

theorem law_OctetBursts (O : World) (F : Fz) (v : Value) (l : List UInt8) (A P : Nat) (hv : SlB F [] v l) (hA : A < 65536) (hP : P < 4294967296) : Does Try.prog O 5 #[v, .int .u16 A, .int .u32 P] F [] (fun r _ _ => r = .bool true) := by
  obtain ⟨a0, cap, rfl, hcap⟩ := Sl.shape hv
  refine does_of_run (args := [_, _, _]) Try.func5 rfl rfl ?_
  refine r_seq ?_
  refine r_region rfl ?_
  refine o_val rfl rfl rfl rfl (v_assign rfl) ?_
  refine o_end ?_
  refine r_seq ?_
  refine r_seq ?_
  refine r_region rfl ?_
  refine o_call rfl rfl rfl rfl (c_call callable9 rfl) (law_awake _ _ _) ?_
  rintro v' F1 H' ⟨rfl, rfl⟩ hF1
  refine o_val rfl rfl rfl rfl (v_not rfl) ?_
  refine o_val rfl rfl rfl rfl (v_move rfl) ?_
  refine o_val rfl rfl rfl rfl (v_move rfl) ?_
  refine o_val rfl rfl rfl rfl (v_eql rfl rfl) ?_
  refine o_val rfl rfl rfl rfl (v_pick0 rfl rfl) ?_
  refine o_val rfl rfl rfl rfl (v_move rfl) ?_
  refine j_prop 18 rfl (fun h0 => ?_) (fun h0 => ?_)
  · refine o_skip rfl rfl rfl rfl ?_
    refine o_skip rfl rfl rfl rfl ?_
    refine o_skip rfl rfl rfl rfl ?_
    refine o_val rfl rfl rfl rfl (v_pick1 rfl rfl) ?_
    refine o_end ?_
    refine r_true rfl ?_
    refine r_seq ?_
    refine r_region rfl ?_
    refine o_call rfl rfl rfl rfl (c_call callable9 rfl) (law_awake _ _ _) ?_
    rintro v' F2 H' ⟨rfl, rfl⟩ hF2
    refine o_val rfl rfl rfl rfl (v_assign rfl) ?_
    refine o_end ?_
    exact r_ret1 Try.func5 rfl rfl ⟨rfl, Fz.le_trans hF1 hF2⟩
  · refine o_val rfl rfl rfl rfl (v_move rfl) ?_
    refine o_val rfl rfl rfl rfl (v_len rfl rfl) ?_
    refine o_val rfl rfl rfl rfl (v_gtr rfl rfl) ?_
    refine o_val rfl rfl rfl rfl (v_pick0 rfl rfl) ?_
    refine o_end ?_
    refine r_if rfl (fun h => ?_) (fun h => ?_)
    · refine r_seq ?_
      refine r_region rfl ?_
      refine o_call rfl rfl rfl rfl (c_call callable9 rfl) (law_awake _ _ _) ?_
      rintro v' F2 H' ⟨rfl, rfl⟩ hF2
      refine o_val rfl rfl rfl rfl (v_assign rfl) ?_
      refine o_end ?_
      exact r_ret1 Try.func5 rfl rfl ⟨rfl, Fz.le_trans hF1 hF2⟩
    · have hl : l.length ≤ 3000 := by omega
      refine r_skip ?_
      refine r_seq ?_
      refine r_region rfl ?_
      refine o_val rfl rfl rfl rfl (v_move rfl) ?_
      refine o_call rfl rfl rfl rfl (c_call callable12 rfl) (oct_Seal _ _ _ l [] (hv.frz hF1) (by omega)) ?_
      rintro v' F1 H' ⟨rfl, bf, hok, rfl, rfl⟩ _
      obtain ⟨s, hs⟩ : ∃ s, s = sealB l := ⟨_, rfl⟩
      have hsl : s.length = l.length + 4 := by rw [hs]; simp
      rw [← hs] at hok ⊢
      obtain ⟨n, hn⟩ : ∃ n, n = s.length := ⟨_, rfl⟩
      have hs0 : bytesV s = bytesV s := rfl
      rw [← hn] at hok ⊢
      cases bf with
      | nil =>
        have : n = 0 := hok
        omega
      | «at» b c =>
        have hmod : (A : Int).tmod (8 * (n : Int)) = ((A % (8 * n) : Nat) : Int) := by
          rw [show (8 * (n : Int)) = ((8 * n : Nat) : Int) by omega]
          rfl
        have hkl : A % (8 * n) < 8 * n := Nat.mod_lt _ (by omega)
        refine o_val rfl rfl rfl rfl (v_assign rfl) ?_
        refine o_end ?_
        refine r_seq ?_
        refine r_region rfl ?_
        refine o_val rfl rfl rfl rfl (v_move rfl) ?_
        refine o_val rfl rfl rfl rfl (v_conv rfl rfl rfl (wrap_i64 (by omega) (by omega))) ?_
        refine o_val rfl rfl rfl rfl (v_move rfl) ?_
        refine o_val rfl rfl rfl rfl (v_len rfl rfl) ?_
        refine o_val rfl rfl rfl rfl (v_mul rfl rfl (wrap_i64 (by omega) (by omega))) ?_
        refine o_val rfl rfl rfl rfl (v_rem rfl rfl (by omega) hmod) ?_
        refine o_val rfl rfl rfl rfl (v_assign rfl) ?_
        refine o_end ?_
        generalize A % (8 * n) = k at *
        refine r_seq ?_
        refine r_join (fun m : List UInt8 => m.length = n ∧ ∀ t, t < 8 * n → bitAt m t ≠ bitAt s t → k ≤ t ∧ t < k + 32) (fun m => [(0, .slice a0 l.length cap), (7, .slice (some ⟨b, 0, none⟩) n c)]) (fun _ => F1) (fun m => (Bf.at b c).ents 1 (bytesV m) ++ []) ?_ ?_
        · intro J
          refine r_seq ?_
          refine r_region rfl ?_
          refine o_val rfl rfl rfl rfl (v_assign rfl) ?_
          refine o_end ?_
          refine r_block ?_
          refine r_loop (fun g : Nat × List UInt8 => g.1 ≤ 32 ∧ g.2.length = n ∧ ∀ t, t < 8 * n → bitAt g.2 t = (bitAt s t != (decide (k ≤ t ∧ t < k + g.1) && P.testBit (t - k)))) (fun g => [(0, .slice a0 l.length cap), (2, .int .u32 P), (7, .slice (some ⟨b, 0, none⟩) n c), (8, .int .i64 k), (9, .int .i64 g.1)]) (fun _ => F1) (fun g => [.mem b (bytesV g.2) (c * 1)]) (fun g => 32 - g.1)
            (0, s) ⟨Nat.zero_le _, hn.symm, fun t ht => by
              have : ¬ (k ≤ t ∧ t < k + 0) := by omega
              dsimp only
              rw [decide_eq_false this]
              simp⟩ ⟨rfl, rfl, rfl, rfl, rfl, trivial⟩ rfl rfl ?_
          rintro ⟨i, m⟩ ⟨hi, hml, hbits⟩ IH
          dsimp only at hi hml hbits ⊢
          have hdone : ∀ t, t < 8 * n → bitAt m t ≠ bitAt s t → k ≤ t ∧ t < k + 32 := by
            intro t ht hne
            rw [hbits t ht] at hne
            by_cases hk : k ≤ t ∧ t < k + i
            · omega
            · rw [decide_eq_false hk] at hne
              simp at hne
          refine r_seq ?_
          refine r_seq ?_
          refine r_region rfl ?_
          refine o_val rfl rfl rfl rfl (v_move rfl) ?_
          refine o_val rfl rfl rfl rfl (v_lss rfl rfl) ?_
          refine o_val rfl rfl rfl rfl (v_move rfl) ?_
          refine j_prop 34 rfl (fun h1 => ?_) (fun h1 => ?_)
          · refine o_val rfl rfl rfl rfl (v_move rfl) ?_
            refine o_val rfl rfl rfl rfl (v_move rfl) ?_
            refine o_val rfl rfl rfl rfl (v_add rfl rfl (wrap_i64 (by omega) (by omega))) ?_
            refine o_val rfl rfl rfl rfl (v_move rfl) ?_
            refine o_val rfl rfl rfl rfl (v_len rfl rfl) ?_
            refine o_val rfl rfl rfl rfl (v_mul rfl rfl (wrap_i64 (by omega) (by omega))) ?_
            refine o_val rfl rfl rfl rfl (v_lss rfl rfl) ?_
            refine o_val rfl rfl rfl rfl (v_pick1 rfl rfl) ?_
            refine o_end ?_
            refine r_if rfl (fun h2 => ?_) (fun h2 => ?_)
            · have hi32 : i < 32 := by omega
              have hp : (k + i) / 8 < m.length := by omega
              have hbit : (P / 2 ^ i % 2 = 1) ↔ P.testBit i = true := by
                rw [Nat.testBit_eq_decide_div_mod_eq]
                simp
              have hstep : ∀ t, t < 8 * n → ¬ t = k + i → (decide (k ≤ t ∧ t < k + i) && P.testBit (t - k)) = (decide (k ≤ t ∧ t < k + (i + 1)) && P.testBit (t - k)) := by
                intro t _ hne
                have : (k ≤ t ∧ t < k + i) ↔ (k ≤ t ∧ t < k + (i + 1)) := by omega
                simp only [this]
              have hpi : P / 2 ^ i < 4294967296 := Nat.lt_of_le_of_lt (Nat.div_le_self _ _) hP
              refine r_skip ?_
              refine r_seq ?_
              refine r_block ?_
              refine r_seq ?_
              refine r_region rfl ?_
              refine o_val rfl rfl rfl rfl (v_move rfl) ?_
              refine o_val rfl rfl rfl rfl (v_move rfl) ?_
              refine o_val rfl rfl rfl rfl (v_shr rfl rfl (by omega) (u32_shrN P i hi32)) ?_
              refine o_val rfl rfl rfl rfl (v_and rfl rfl (u32_and1 _ hpi)) ?_
              refine o_val rfl rfl rfl rfl (v_eql rfl rfl) ?_
              refine o_end ?_
              refine r_if rfl (fun h3 => ?_) (fun h3 => ?_)
              · have hb1 : P.testBit i = true := hbit.1 (by omega)
                have hmj := m[(k + i) / 8].toNat_lt
                have h2r : 2 ^ ((k + i) % 8) < 256 := by
                  have : (2 : Nat) ^ ((k + i) % 8) < 2 ^ 8 := Nat.pow_lt_pow_right (by decide) (by omega)
                  simpa using this
                have hquo : IntKind.i64.wrap (((k + i : Nat) : Int).tdiv 8) = (((k + i) / 8 : Nat) : Int) := by
                  have : ((k + i : Nat) : Int).tdiv 8 = (((k + i) / 8 : Nat) : Int) := rfl
                  rw [this]
                  exact wrap_i64 (by omega) (by omega)
                refine d_region rfl ([]) ?_
                refine d_take (i := 0) rfl rfl rfl (by decide +kernel) (by decide +kernel) (by decide +kernel) (Fz.le_refl _) (by simp) rfl (v_move rfl) ?_
                refine d_take (i := 1) rfl rfl rfl (by decide +kernel) (by decide +kernel) (by decide +kernel) (Fz.le_refl _) (by simp) rfl (v_move rfl) ?_
                refine d_take (i := 2) rfl rfl rfl (by decide +kernel) (by decide +kernel) (by decide +kernel) (Fz.le_refl _) (by simp) rfl (v_move rfl) ?_
                refine d_take (i := 3) rfl rfl rfl (by decide +kernel) (by decide +kernel) (by decide +kernel) (Fz.le_refl _) (by simp) rfl (v_add rfl rfl (r := ((k + i : Nat) : Int)) (wrap_i64 (by omega) (by omega))) ?_
                refine d_take (i := 4) rfl rfl rfl (by decide +kernel) (by decide +kernel) (by decide +kernel) (Fz.le_refl _) (by simp) rfl (v_quo rfl rfl (by decide) hquo) ?_
                refine d_take (i := 5) rfl rfl rfl (by decide +kernel) (by decide +kernel) (by decide +kernel) (Fz.le_refl _) (by simp) rfl (v_move rfl) ?_
                refine d_take (i := 6) rfl rfl rfl (by decide +kernel) (by decide +kernel) (by decide +kernel) (Fz.le_refl _) (by simp) rfl (v_move rfl) ?_
                refine d_take (i := 7) rfl rfl rfl (by decide +kernel) (by decide +kernel) (by decide +kernel) (Fz.le_refl _) (by simp) rfl (v_move rfl) ?_
                refine d_take (i := 8) rfl rfl rfl (by decide +kernel) (by decide +kernel) (by decide +kernel) (Fz.le_refl _) (by simp) rfl (v_add rfl rfl (r := ((k + i : Nat) : Int)) (wrap_i64 (by omega) (by omega))) ?_
                refine d_take (i := 9) rfl rfl rfl (by decide +kernel) (by decide +kernel) (by decide +kernel) (Fz.le_refl _) (by simp) rfl (v_quo rfl rfl (by decide) hquo) ?_
                refine d_take (i := 10) rfl rfl rfl (by decide +kernel) (by decide +kernel) (by decide +kernel) (Fz.le_refl _) (by simp) rfl (v_index1 rfl rfl rfl rfl (by omega)) ?_
                refine d_take (i := 12) rfl rfl rfl (by decide +kernel) (by decide +kernel) (by decide +kernel) (Fz.le_refl _) (by simp) rfl (v_move rfl) ?_
                refine d_take (i := 13) rfl rfl rfl (by decide +kernel) (by decide +kernel) (by decide +kernel) (Fz.le_refl _) (by simp) rfl (v_move rfl) ?_
                refine d_take (i := 14) rfl rfl rfl (by decide +kernel) (by decide +kernel) (by decide +kernel) (Fz.le_refl _) (by simp) rfl (v_add rfl rfl (r := ((k + i : Nat) : Int)) (wrap_i64 (by omega) (by omega))) ?_
                refine d_take (i := 15) rfl rfl rfl (by decide +kernel) (by decide +kernel) (by decide +kernel) (Fz.le_refl _) (by simp) rfl (v_rem rfl rfl (by decide) (r := (((k + i) % 8 : Nat) : Int)) rfl) ?_
                refine d_take (i := 16) rfl rfl rfl (by decide +kernel) (by decide +kernel) (by decide +kernel) (Fz.le_refl _) (by simp) rfl (v_shl rfl rfl (by omega) (u8_shl1 _ (by omega))) ?_
                refine d_one (i := 11) (by decide +kernel) ?_
                refine d1_act rfl rfl rfl rfl (a_val (v_load rfl rfl (cell_at (j := 0) (v := byteV m[(k + i) / 8]) rfl (by rw [Nat.zero_add, bytesV_get, List.getElem?_eq_getElem hp]; rfl)))) ?_
                rintro v' H' ⟨rfl, rfl⟩
                refine ⟨fun w hw => held_of hw (Fz.le_refl _) (by simp), ?_⟩
                refine d_take (i := 17) rfl rfl rfl (by decide +kernel) (by decide +kernel) (by decide +kernel) (Fz.le_refl _) (by simp) rfl (v_xor rfl rfl (u8_xorN _ _ hmj h2r)) ?_
                refine d_take (i := 18) rfl rfl rfl (by decide +kernel) (by decide +kernel) (by decide +kernel) (Fz.le_refl _) (by simp) rfl (v_index1 rfl rfl rfl rfl (by omega)) ?_
                refine d_one (i := 19) (by decide +kernel) ?_
                refine d1_act0 rfl rfl rfl (a_store1 0 rfl rfl rfl rfl rfl (by rw [Nat.zero_add]; simpa using hp)) (fun w hw => held_of hw (Fz.le_refl _) (by simp)) ?_
                refine j_heap (H' := [.mem b (bytesV (m.set ((k + i) / 8) (UInt8.ofNat (m[(k + i) / 8].toNat ^^^ 2 ^ ((k + i) % 8))))) (c * 1)]) (by rw [bytesV_set, Nat.zero_add]; rfl) ?_
                refine d_end (by decide +kernel) ?_
                refine r_inBlock ?_
                refine r_region rfl ?_
                refine o_val rfl rfl rfl rfl (v_move rfl) ?_
                refine o_val rfl rfl rfl rfl (v_add rfl rfl (wrap_i64 (by omega) (by omega))) ?_
                refine o_val rfl rfl rfl rfl (v_assign rfl) ?_
                refine o_end ?_
                refine j_keep ?_ (IH (i + 1, _) ⟨hi32, by simpa using hml, fun t ht => ?_⟩ (by dsimp only; omega))
                · exact ⟨rfl, rfl, rfl, rfl, rfl, trivial⟩
                · dsimp only
                  rw [bitAt_set m (k + i) t hp (by omega), hbits t ht]
                  by_cases he : t = k + i
                  · subst he
                    have e1 : ¬ (k ≤ k + i ∧ k + i < k + i) := by omega
                    have e2 : (k ≤ k + i ∧ k + i < k + (i + 1)) := by omega
                    rw [decide_eq_false e1, decide_eq_true e2, Nat.add_sub_cancel_left, hb1]
                    cases bitAt s (k + i) <;> simp
                  · rw [decide_eq_false he, hstep t ht he]
                    simp
              · have hb1 : P.testBit i = false := by
                  cases hb : P.testBit i
                  · rfl
                  · have := hbit.2 hb; omega
                refine r_skip ?_
                refine r_inBlock ?_
                refine r_region rfl ?_
                refine o_val rfl rfl rfl rfl (v_move rfl) ?_
                refine o_val rfl rfl rfl rfl (v_add rfl rfl (wrap_i64 (by omega) (by omega))) ?_
                refine o_val rfl rfl rfl rfl (v_assign rfl) ?_
                refine o_end ?_
                refine j_keep ?_ (IH (i + 1, m) ⟨hi32, hml, fun t ht => ?_⟩ (by dsimp only; omega))
                · exact ⟨rfl, rfl, rfl, rfl, rfl, trivial⟩
                · dsimp only
                  rw [hbits t ht]
                  by_cases he : t = k + i
                  · subst he
                    rw [Nat.add_sub_cancel_left, hb1]
                    simp
                  · rw [hstep t ht he]
            · refine r_exit rfl ?_
              refine j_keep ?_ (J m ⟨hml, hdone⟩)
              exact ⟨rfl, rfl, trivial⟩
          · refine o_skip rfl rfl rfl rfl ?_
            refine o_skip rfl rfl rfl rfl ?_
            refine o_skip rfl rfl rfl rfl ?_
            refine o_skip rfl rfl rfl rfl ?_
            refine o_skip rfl rfl rfl rfl ?_
            refine o_skip rfl rfl rfl rfl ?_
            refine o_skip rfl rfl rfl rfl ?_
            refine o_val rfl rfl rfl rfl (v_pick0 rfl rfl) ?_
            refine o_end ?_
            refine r_false rfl ?_
            refine r_exit rfl ?_
            refine j_keep ?_ (J m ⟨hml, hdone⟩)
            exact ⟨rfl, rfl, trivial⟩
        · rintro m ⟨hml, hm⟩
          subst hml
          refine j_freezeBf hok (by simp) fun F2 hF2 hs2 => ?_
          have hs2' : SlB F2 [] (.slice (some ⟨b, 0, none⟩) m.length c) m := hs2
          refine r_seq ?_
          refine r_region rfl ?_
          refine o_val rfl rfl rfl rfl (v_move rfl) ?_
          refine o_call rfl rfl rfl rfl (c_call callable14 rfl) (oct_Open _ _ _ m _ hs2' (by omega)) ?_
          rintro v' F2 H' ⟨rfl, rfl, vd, rfl, hvd⟩ _
          refine o_val rfl rfl rfl rfl (v_move rfl) ?_
          refine o_val rfl rfl rfl rfl (v_extract rfl rfl) ?_
          refine o_val rfl rfl rfl rfl (v_extract rfl rfl) ?_
          refine o_val rfl rfl rfl rfl (v_assign rfl) ?_
          refine o_val rfl rfl rfl rfl (v_assign rfl) ?_
          refine o_end ?_
          refine r_seq ?_
          refine d_region rfl ([]) ?_
          by_cases he : m = s
          · have hop : openB m = (0, l) := by rw [he, hs, openB_seal]
            rw [hop] at hvd ⊢
            refine d_take (i := 0) rfl rfl rfl (by decide +kernel) (by decide +kernel) (by decide +kernel) (Fz.le_refl _) (by simp) rfl (v_move rfl) ?_
            refine d_take (i := 1) rfl rfl rfl (by decide +kernel) (by decide +kernel) (by decide +kernel) (Fz.le_refl _) (by simp) rfl (v_eql rfl rfl) ?_
            refine j_slot 75 rfl (v' := .bool false) rfl ?_
            refine d_take (i := 2) rfl rfl rfl (by decide +kernel) (by decide +kernel) (by decide +kernel) (Fz.le_refl _) (by simp) rfl (v_move rfl) ?_
            refine d_take (i := 3) rfl rfl rfl (by decide +kernel) (by decide +kernel) (by decide +kernel) (Fz.le_refl _) (by simp) rfl (v_move rfl) ?_
            refine d_take (i := 4) rfl rfl rfl (by decide +kernel) (by decide +kernel) (by decide +kernel) (Fz.le_refl _) (by simp) rfl (v_bytesString rfl rfl rfl rfl (l := m) hs2') ?_
            refine d_take (i := 5) rfl rfl rfl (by decide +kernel) (by decide +kernel) (by decide +kernel) (Fz.le_refl _) (by simp) rfl (v_move rfl) ?_
            refine d_one (i := 6) (by decide +kernel) ?_
            refine d1_call rfl rfl rfl rfl (c_call callable12 rfl) (oct_Seal _ _ _ l [] (hv.frz (Fz.le_trans hF1 hF2)) (by omega)) ?_
            rintro v' F2 H' ⟨rfl, bf3, hok3, rfl, rfl⟩ _
            refine ⟨fun w hw => held_of hw (Fz.le_refl _) (by simp), ?_⟩
            refine j_freezeBf hok3 (by simp) fun F3 hF3 hs3 => ?_
            refine d_more ([]) hF3 (by simp) ?_
            refine d_take (i := 7) rfl rfl rfl (by decide +kernel) (by decide +kernel) (by decide +kernel) (Fz.le_refl _) (by simp) rfl (v_bytesString rfl rfl rfl rfl (l := sealB l) (hs3.mono (Fz.le_refl _) (by simp))) ?_
            refine d_take (i := 8) rfl rfl rfl (by decide +kernel) (by decide +kernel) (by decide +kernel) (Fz.le_refl _) (by simp) rfl (v_seql rfl rfl) ?_
            refine d_take (i := 9) rfl rfl rfl (by decide +kernel) (by decide +kernel) (by decide +kernel) (Fz.le_refl _) (by simp) rfl (v_pick0 rfl rfl) ?_
            refine d_take (i := 10) rfl rfl rfl (by decide +kernel) (by decide +kernel) (by decide +kernel) (Fz.le_refl _) (by simp) rfl (v_assign rfl) ?_
            refine d_end (by decide +kernel) ?_
            refine r_ret1 Try.func5 rfl rfl ⟨?_, Fz.le_trans hF1 (Fz.le_trans hF2 hF3)⟩
            rw [he, hs]
            exact dec_true rfl
          · have hop : openB m = (4, []) := by
              unfold openB
              rw [if_neg (by omega)]
              split
              · rename_i h4
                exact absurd (burst _ l m h4 (by rw [← hs]; exact hn) k (by omega) (by rw [← hs]; exact hm)) (by rw [← hs]; exact he)
              · rfl
            rw [hop] at hvd ⊢
            refine d_take (i := 0) rfl rfl rfl (by decide +kernel) (by decide +kernel) (by decide +kernel) (Fz.le_refl _) (by simp) rfl (v_move rfl) ?_
            refine d_take (i := 1) rfl rfl rfl (by decide +kernel) (by decide +kernel) (by decide +kernel) (Fz.le_refl _) (by simp) rfl (v_eql rfl rfl) ?_
            refine j_slot 75 rfl (v' := .bool true) rfl ?_
            refine d_take (i := 2) rfl rfl rfl (by decide +kernel) (by decide +kernel) (by decide +kernel) (Fz.le_refl _) (by simp) rfl (v_move rfl) ?_
            refine d_skip (i := 3) rfl rfl rfl (by decide +kernel) (by decide +kernel) (by decide +kernel) (Fz.le_refl _) (by simp) rfl ?_
            refine d_skip (i := 4) rfl rfl rfl (by decide +kernel) (by decide +kernel) (by decide +kernel) (Fz.le_refl _) (by simp) rfl ?_
            refine d_skip (i := 5) rfl rfl rfl (by decide +kernel) (by decide +kernel) (by decide +kernel) (Fz.le_refl _) (by simp) rfl ?_
            refine d_skip (i := 6) rfl rfl rfl (by decide +kernel) (by decide +kernel) (by decide +kernel) (Fz.le_refl _) (by simp) rfl ?_
            refine d_skip (i := 7) rfl rfl rfl (by decide +kernel) (by decide +kernel) (by decide +kernel) (Fz.le_refl _) (by simp) rfl ?_
            refine d_skip (i := 8) rfl rfl rfl (by decide +kernel) (by decide +kernel) (by decide +kernel) (Fz.le_refl _) (by simp) rfl ?_
            refine d_take (i := 9) rfl rfl rfl (by decide +kernel) (by decide +kernel) (by decide +kernel) (Fz.le_refl _) (by simp) rfl (v_pick1 rfl rfl) ?_
            refine d_take (i := 10) rfl rfl rfl (by decide +kernel) (by decide +kernel) (by decide +kernel) (Fz.le_refl _) (by simp) rfl (v_assign rfl) ?_
            refine d_end (by decide +kernel) ?_
            exact r_ret1 Try.func5 rfl rfl ⟨rfl, Fz.le_trans hF1 hF2⟩

theorem in_OctetBursts (W : World) (v : Value) (zs : List Int) (h : InInts .u8 W v zs) (hn : zs.length * 1 ≤ 140737488351232) (A : Int) (hA : (Lit.int .u16 A).wf = true) (P : Int) (hP : (Lit.int .u32 P).wf = true) :
    Calls Try.prog 5 #[v, .int .u16 A, .int .u32 P] W fun e w' => e = .returned (.bool true) ∧ Go.RowKit.Below W.heap.size W w' := by
  obtain ⟨l, hl, hv⟩ := inBytes h
  simp [Lit.wf, IntKind.min, IntKind.max, IntKind.signed, IntKind.bits] at hA hP
  obtain ⟨A, rfl⟩ := Int.eq_ofNat_of_zero_le hA.1
  obtain ⟨P, rfl⟩ := Int.eq_ofNat_of_zero_le hP.1
  exact below_of_does (law_OctetBursts _ _ _ l A P hv (by omega) (by omega))
end Go.SX
