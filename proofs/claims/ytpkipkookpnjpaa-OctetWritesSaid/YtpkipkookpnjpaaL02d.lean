/-
  Chapter 02: the law OctetWrites.
-/
import Derived.Test.YtpkipkookpnjpaaOct3
import Derived.Test.YtpkipkookpnjpaaL02a
import Derived.Test.YtpkipkookpnjpaaSxRows
namespace Go.SX
open Go Go.Proofs
set_option linter.unusedSimpArgs false
set_option linter.unusedVariables false

structure WG where
  i : Nat
  bf : Bf
  v : Value
  L : List UInt8
  F : Fz
def encN (ws : List (Nat × Nat)) : List UInt8 := ws.flatMap fun p => leB p.2 p.1
def encR (b : Bool) (rs : List (Value × List UInt8)) : List UInt8 := rs.flatMap fun r => lenB r.2 ++ flagB b
def WG.ok (F : Fz) (n : Nat) (L : Nat → List UInt8) (g : WG) : Prop := F.le g.F ∧ g.i ≤ n ∧ g.bf.ok g.L.length ∧ SlB g.F [] g.v g.L ∧ g.L = L g.i

theorem leN_leB_mod : ∀ k n, leN (leB k n) = n % 256 ^ k
  | 0, n => by simp [leB, leN, Nat.mod_one]
  | k + 1, n => by
    simp only [leB, leN, leN_leB_mod k]
    have h1 : (UInt8.ofNat n).toNat = n % 256 := by simp
    rw [h1, Nat.pow_succ, Nat.mul_comm (256 ^ k) 256, Nat.mod_mul]
theorem u64_mask (n k : Nat) (hn : n < 18446744073709551616) (hk : k < 8) : bitOp .and .u64 (n : Int) ((256 ^ k - 1 : Nat) : Int) = ((n % 256 ^ k : Nat) : Int) := by
  have h4 : (256 : Nat) ^ k ≤ 256 ^ 7 := Nat.pow_le_pow_right (by decide) (by omega)
  have e7 : (256 : Nat) ^ 7 = 72057594037927936 := by decide
  rw [e7] at h4
  show IntKind.u64.wrap ((BitVec.ofInt 64 (n : Int) &&& BitVec.ofInt 64 ((256 ^ k - 1 : Nat) : Int)).toNat : Int) = _
  rw [BitVec.toNat_and, BitVec.ofInt_natCast, BitVec.ofInt_natCast, BitVec.toNat_ofNat, BitVec.toNat_ofNat, Nat.mod_eq_of_lt (by omega), Nat.mod_eq_of_lt (by omega)]
  have h5 : n &&& (256 ^ k - 1) = n % 256 ^ k := by
    have : (256 : Nat) ^ k = 2 ^ (8 * k) := by rw [Nat.pow_mul]
    rw [this, Nat.and_two_pow_sub_one_eq_mod]
  rw [h5]
  have := Nat.mod_le n (256 ^ k)
  exact wrap_u64 (by omega) (by omega)
theorem rdNum_app (l m : List UInt8) (hk : l.length ≤ 8) : rdNum (l ++ m) false (l.length : Int) = (leN l, m, false) := by
  unfold rdNum
  rw [if_neg (by rintro (h | h | h); · cases h
                 · omega
                 · simp at h; omega)]
  simp only [Int.toNat_natCast, Nat.min_eq_left hk]
  simp
theorem rdBytes_lenB (m r : List UInt8) (hm : m.length ≤ 2000) : rdBytes (lenB m ++ r) false 2000 = (m, r, false) := by
  have h := rdNum_app (leB 4 m.length) (m ++ r) (by simp)
  rw [leB_length, leN_leB 4 _ (by simp; omega)] at h
  have h4 : ((4 : Nat) : Int) = 4 := rfl
  rw [h4] at h
  unfold rdBytes lenB
  rw [List.append_assoc, h]
  dsimp only
  rw [if_neg (by rintro (h | h | h | h); · cases h
                 · omega
                 · omega
                 · simp at h; omega)]
  simp
theorem rdFlag_flagB (b : Bool) (r : List UInt8) : rdFlag (flagB b ++ r) false = (b, r, false) := by
  have h := rdNum_app (flagB b) r (by cases b <;> simp [flagB])
  have h1 : ((flagB b).length : Int) = 1 := by cases b <;> rfl
  rw [h1] at h
  unfold rdFlag
  rw [h]
  cases b <;> rfl

theorem encN_take (ws : List (Nat × Nat)) (i : Nat) (h : i < ws.length) : encN (ws.take (i + 1)) = encN (ws.take i) ++ leB ws[i].2 ws[i].1 := by
  rw [List.take_succ_eq_append_getElem h]
  simp only [encN, List.flatMap_append, List.flatMap_cons, List.flatMap_nil, List.append_nil, List.append_assoc]
theorem encN_drop (ws : List (Nat × Nat)) (i : Nat) (h : i < ws.length) : encN (ws.drop i) = leB ws[i].2 ws[i].1 ++ encN (ws.drop (i + 1)) := by
  rw [List.drop_eq_getElem_cons h]
  simp only [encN, List.flatMap_append, List.flatMap_cons, List.flatMap_nil, List.append_nil, List.append_assoc]
theorem encR_take (b : Bool) (rs : List (Value × List UInt8)) (i : Nat) (h : i < rs.length) : encR b (rs.take (i + 1)) = encR b (rs.take i) ++ lenB rs[i].2 ++ flagB b := by
  rw [List.take_succ_eq_append_getElem h]
  simp only [encR, List.flatMap_append, List.flatMap_cons, List.flatMap_nil, List.append_nil, List.append_assoc]
theorem encR_drop (b : Bool) (rs : List (Value × List UInt8)) (i : Nat) (h : i < rs.length) : encR b (rs.drop i) = lenB rs[i].2 ++ (flagB b ++ encR b (rs.drop (i + 1))) := by
  rw [List.drop_eq_getElem_cons h]
  simp only [encR, List.flatMap_append, List.flatMap_cons, List.flatMap_nil, List.append_nil, List.append_assoc]
theorem encN_len (ws : List (Nat × Nat)) (h : ∀ p ∈ ws, p.2 ≤ 8) : (encN ws).length ≤ 8 * ws.length := by
  induction ws with
  | nil => simp [encN]
  | cons p r ih =>
    have h1 := h p (by simp)
    have h2 := ih fun q hq => h q (by simp [hq])
    simp only [encN, List.flatMap_cons, List.length_append, leB_length, List.length_cons] at h2 ⊢
    omega
theorem flagB_len (b : Bool) : (flagB b).length = 1 := by cases b <;> rfl
theorem encR_len (b : Bool) (rs : List (Value × List UInt8)) (h : ∀ r ∈ rs, r.2.length ≤ 2000) : (encR b rs).length ≤ 2005 * rs.length := by
  induction rs with
  | nil => simp [encR]
  | cons p r ih =>
    have h1 := h p (by simp)
    have h2 := ih fun q hq => h q (by simp [hq])
    simp only [encR, List.flatMap_cons, List.length_append, lenB, leB_length, List.length_cons, flagB_len] at h2 ⊢
    omega

theorem law_OctetWrites (O : World) (F : Fz) (v u t : Value) (xs : List Nat) (ks : List UInt8) (rs : List (Value × List UInt8)) (b : Bool)
    (hv : Sl F [] 1 v xs.length (xs.map fun (n : Nat) => .int .u64 (n : Int))) (hx : ∀ n ∈ xs, n < 18446744073709551616) (hu : SlB F [] u ks) (ht : Sl F [] 1 t rs.length (rs.map (·.1))) (hr : ∀ r ∈ rs, SlB F [] r.1 r.2) :
    Does Try.prog O 8 #[v, u, t, .bool b] F [] (fun r _ _ => r = .bool true) := by
  obtain ⟨a0, cap, rfl, hcap⟩ := Sl.shape hv
  obtain ⟨a1, cap1, rfl, hcap1⟩ := Sl.shape hu
  obtain ⟨a2, cap2, rfl, hcap2⟩ := Sl.shape ht
  refine does_of_run (args := [_, _, _, _]) Try.func8 rfl rfl ?_
  refine r_seq ?_
  refine r_region rfl ?_
  refine o_val rfl rfl rfl rfl (v_assign rfl) ?_
  refine o_end ?_
  refine r_seq ?_
  refine r_seq ?_
  refine r_region rfl ?_
  refine o_call rfl rfl rfl rfl (c_call callable9 rfl) (law_awake _ _ _) ?_
  rintro v' F1 H' ⟨rfl, rfl⟩ hF1
  refine o_val rfl rfl rfl rfl (v_not rfl) ?_
  refine o_val rfl rfl rfl rfl (v_move rfl) ?_
  refine o_val rfl rfl rfl rfl (v_move rfl) ?_
  refine o_val rfl rfl rfl rfl (v_len rfl rfl) ?_
  refine o_val rfl rfl rfl rfl (v_gtr rfl rfl) ?_
  refine o_val rfl rfl rfl rfl (v_pick0 rfl rfl) ?_
  refine o_val rfl rfl rfl rfl (v_move rfl) ?_
  refine j_prop 27 rfl (fun h0 => ?_) (fun h0 => ?_)
  · refine o_skip rfl rfl rfl rfl ?_
    refine o_skip rfl rfl rfl rfl ?_
    refine o_skip rfl rfl rfl rfl ?_
    refine o_val rfl rfl rfl rfl (v_pick1 rfl rfl) ?_
    refine o_end ?_
    refine r_true rfl ?_
    refine r_seq ?_
    refine r_region rfl ?_
    refine o_call rfl rfl rfl rfl (c_call callable9 rfl) (law_awake _ _ _) ?_
    rintro v' F2 H' ⟨rfl, rfl⟩ hF2
    refine o_val rfl rfl rfl rfl (v_assign rfl) ?_
    refine o_end ?_
    exact r_ret1 Try.func8 rfl rfl ⟨rfl, Fz.le_trans hF1 hF2⟩
  · refine o_val rfl rfl rfl rfl (v_move rfl) ?_
    refine o_val rfl rfl rfl rfl (v_len rfl rfl) ?_
    refine o_val rfl rfl rfl rfl (v_gtr rfl rfl) ?_
    refine o_val rfl rfl rfl rfl (v_pick0 rfl rfl) ?_
    refine o_end ?_
    refine r_if rfl (fun h => ?_) (fun h => ?_)
    · refine r_seq ?_
      refine r_region rfl ?_
      refine o_call rfl rfl rfl rfl (c_call callable9 rfl) (law_awake _ _ _) ?_
      rintro v' F2 H' ⟨rfl, rfl⟩ hF2
      refine o_val rfl rfl rfl rfl (v_assign rfl) ?_
      refine o_end ?_
      exact r_ret1 Try.func8 rfl rfl ⟨rfl, Fz.le_trans hF1 hF2⟩
    · have hl2 : xs.length ≤ 40 := by omega
      have ha2 : rs.length ≤ 20 := by omega
      clear h0 h
      refine r_skip ?_
      refine r_seq ?_
      refine r_region rfl ?_
      refine o_val rfl rfl rfl rfl (v_build rfl rfl) ?_
      refine o_act rfl rfl rfl rfl (a_box rfl) ?_
      rintro v' H' ⟨a, rfl, rfl⟩
      obtain ⟨ws, hws⟩ : ∃ ws, ws = List.zipWith (fun (x : Nat) (k : UInt8) => (x, k.toNat % 9)) xs ks := ⟨_, rfl⟩
      have hwl : ws.length = min xs.length ks.length := by rw [hws]; simp
      have hwk : ∀ p ∈ ws, p.2 ≤ 8 := by
        rw [hws]
        intro p hp
        obtain ⟨i, hi, rfl⟩ := List.getElem_of_mem hp
        simp
        omega
      have hwi : ∀ (i : Nat) (h1 : i < xs.length) (h2 : i < ks.length), ws[i]? = some (xs[i], ks[i].toNat % 9) := by
        intro i h1 h2
        rw [hws, List.getElem?_zipWith, List.getElem?_eq_getElem h1, List.getElem?_eq_getElem h2]
      have hwn := encN_len ws hwk
      refine o_val rfl rfl rfl rfl (v_assign rfl) ?_
      refine o_end ?_
      refine r_seq ?_
      refine r_region rfl ?_
      refine o_val rfl rfl rfl rfl (v_assign rfl) ?_
      refine o_end ?_
      refine r_seq ?_
      refine r_join (fun g : WG => WG.ok F1 0 (fun _ => encN ws) g) (fun g => [(0, .slice a0 xs.length cap), (1, .slice a1 ks.length cap1), (2, .slice a2 rs.length cap2), (3, .bool b), (9, ptrV a), (10, g.v)]) (fun g => g.F) (fun g => .mem a [g.bf.val g.L.length] 1 :: (g.bf.ents 1 (bytesV g.L) ++ [])) ?_ ?_
      · intro J
        refine r_seq ?_
        refine r_region rfl ?_
        refine o_val rfl rfl rfl rfl (v_assign rfl) ?_
        refine o_end ?_
        refine r_block ?_
        refine r_loop (WG.ok F1 (min xs.length ks.length) (fun i => encN (ws.take i))) (fun g => [(0, .slice a0 xs.length cap), (1, .slice a1 ks.length cap1), (2, .slice a2 rs.length cap2), (3, .bool b), (9, ptrV a), (10, g.v), (11, .int .i64 g.i)]) (fun g => g.F) (fun g => .mem a [g.bf.val g.L.length] 1 :: (g.bf.ents 1 (bytesV g.L) ++ [])) (fun g => min xs.length ks.length - g.i)
          ⟨0, .nil, .slice none 0 0, [], F1⟩ ⟨Fz.le_refl _, Nat.zero_le _, rfl, Sl.nil _ _ _, rfl⟩ ⟨rfl, rfl, rfl, rfl, rfl, rfl, rfl, trivial⟩ rfl rfl ?_
        rintro ⟨i, bf, v10, L, F2⟩ ⟨hF2, hi, hok, hv10, hL⟩ IH
        dsimp only at hF2 hi hok hv10 hL ⊢
        have hF02 := Fz.le_trans hF1 hF2
        refine r_seq ?_
        refine r_seq ?_
        refine r_region rfl ?_
        refine o_val rfl rfl rfl rfl (v_move rfl) ?_
        refine o_val rfl rfl rfl rfl (v_move rfl) ?_
        refine o_val rfl rfl rfl rfl (v_len rfl rfl) ?_
        refine o_val rfl rfl rfl rfl (v_lss rfl rfl) ?_
        refine o_val rfl rfl rfl rfl (v_move rfl) ?_
        refine j_prop 39 rfl (fun h1 => ?_) (fun h1 => ?_)
        · refine o_val rfl rfl rfl rfl (v_move rfl) ?_
          refine o_val rfl rfl rfl rfl (v_move rfl) ?_
          refine o_val rfl rfl rfl rfl (v_len rfl rfl) ?_
          refine o_val rfl rfl rfl rfl (v_lss rfl rfl) ?_
          refine o_val rfl rfl rfl rfl (v_pick1 rfl rfl) ?_
          refine o_end ?_
          refine r_if rfl (fun h2 => ?_) (fun h2 => ?_)
          · have hi1 : i < xs.length := by omega
            have hi2 : i < ks.length := by omega
            have hiw : i < ws.length := by omega
            have hwe : ws[i] = (xs[i], ks[i].toNat % 9) := by
              have := hwi i hi1 hi2
              rw [List.getElem?_eq_getElem hiw] at this
              exact Option.some.inj this
            have hLl : L.length ≤ 8 * ws.length := by
              rw [hL]
              refine Nat.le_trans (encN_len _ fun p hp => hwk p (List.mem_of_mem_take hp)) ?_
              rw [List.length_take]
              omega
            obtain ⟨b0, off0, c0, hab, _, hcell0⟩ := Sl.view (hv.frz (H := []) hF02) (by omega)
            simp only [Value.slice.injEq] at hab
            obtain ⟨rfl, _, rfl⟩ := hab
            obtain ⟨b1, off1, c1, hab, _, hcell1⟩ := Sl.view (hu.frz (H := []) hF02) (by omega)
            simp only [Value.slice.injEq] at hab
            obtain ⟨rfl, _, rfl⟩ := hab
            have hk1 : Cell F2 [] b1 (off1 + i) (.int .u8 ks[i].toNat) := hcell1 i (byteV ks[i]) (by rw [bytesV_get, List.getElem?_eq_getElem hi2]; rfl)
            have hx1 : Cell F2 [] b0 (off0 + i) (.int .u64 xs[i]) := hcell0 i (.int .u64 xs[i]) (by rw [List.getElem?_map, List.getElem?_eq_getElem hi1]; rfl)
            have hx64 := hx xs[i] (List.getElem_mem _)
            have hEnc := encN_take ws i hiw
            rw [hwe] at hEnc
            dsimp only at hEnc
            generalize xs[i] = x at *
            generalize ks[i].toNat = k at *
            have hk9 : (k : Int).tmod 9 = ((k % 9 : Nat) : Int) := rfl
            refine r_skip ?_
            refine r_seq ?_
            refine r_block ?_
            refine r_seq ?_
            refine r_region rfl ?_
            refine o_val rfl rfl rfl rfl (v_move rfl) ?_
            refine o_val rfl rfl rfl rfl (v_move rfl) ?_
            refine o_val rfl rfl rfl rfl (v_index1 rfl rfl rfl rfl hi2) ?_
            refine o_val rfl rfl rfl rfl (v_load rfl rfl (hk1.mono (Fz.le_refl _) (by simp))) ?_
            refine o_val rfl rfl rfl rfl (v_rem rfl rfl (by decide) hk9) ?_
            refine o_val rfl rfl rfl rfl (v_conv rfl rfl rfl (wrap_i64 (by omega) (by omega))) ?_
            refine o_val rfl rfl rfl rfl (v_assign rfl) ?_
            refine o_end ?_
            refine r_seq ?_
            refine r_region rfl ?_
            refine o_val rfl rfl rfl rfl (v_move rfl) ?_
            refine o_val rfl rfl rfl rfl (v_move rfl) ?_
            refine o_val rfl rfl rfl rfl (v_move rfl) ?_
            refine o_val rfl rfl rfl rfl (v_index1 rfl rfl rfl rfl hi1) ?_
            refine o_val rfl rfl rfl rfl (v_load rfl rfl (hx1.mono (Fz.le_refl _) (by simp))) ?_
            refine o_val rfl rfl rfl rfl (v_move rfl) ?_
            refine o_call rfl rfl rfl rfl (c_call callable25 rfl) (oct_Num _ _ _ bf L x (k % 9) _ hok (by omega) (by omega)) ?_
            rintro v' F2 H' ⟨rfl, rfl, bf1, hok1, rfl⟩ _
            refine o_val rfl rfl rfl rfl (v_assign rfl) ?_
            refine o_end ?_
            refine r_region rfl ?_
            refine o_val rfl rfl rfl rfl (v_move rfl) ?_
            refine o_val rfl rfl rfl rfl (v_move rfl) ?_
            refine o_val rfl rfl rfl rfl (v_move rfl) ?_
            refine o_val rfl rfl rfl rfl (v_index1 rfl rfl rfl rfl hi1) ?_
            refine o_val rfl rfl rfl rfl (v_load rfl rfl (hx1.mono (Fz.le_refl _) (by simp))) ?_
            refine o_val rfl rfl rfl rfl (v_move rfl) ?_
            refine o_call rfl rfl rfl rfl (c_call callable26 rfl) (ref_Num _ _ _ L x (k % 9) _ (hv10.frz (Fz.le_refl _)) (by omega) (by omega)) ?_
            rintro v' F2 H' ⟨rfl, bf2, hok2, rfl, rfl⟩ _
            refine j_freezeBf hok2 (by simp) fun F3 hF3 hs3 => ?_
            refine o_val rfl rfl rfl rfl (v_assign rfl) ?_
            refine o_end ?_
            refine r_inBlock ?_
            refine r_region rfl ?_
            refine o_val rfl rfl rfl rfl (v_move rfl) ?_
            refine o_val rfl rfl rfl rfl (v_add rfl rfl (wrap_i64 (by omega) (by omega))) ?_
            refine o_val rfl rfl rfl rfl (v_assign rfl) ?_
            refine o_end ?_
            refine j_keep ?_ (IH ⟨i + 1, bf1, bf2.val (L ++ leB (k % 9) x).length, L ++ leB (k % 9) x, F3⟩ ⟨Fz.le_trans hF2 hF3, by dsimp only; omega, hok1, by unfold SlB; exact hs3, by dsimp only; rw [hEnc, hL]⟩ (by dsimp only; omega))
            exact ⟨rfl, rfl, rfl, rfl, rfl, rfl, rfl, trivial⟩
          · have hLe : L = encN ws := by rw [hL, List.take_of_length_le (by omega)]
            refine r_exit rfl ?_
            refine j_keep ?_ (J ⟨0, bf, v10, L, F2⟩ ⟨hF2, Nat.le_refl _, hok, hv10, hLe⟩)
            exact ⟨rfl, rfl, rfl, rfl, rfl, rfl, trivial⟩
        · have hLe : L = encN ws := by rw [hL, List.take_of_length_le (by omega)]
          refine o_skip rfl rfl rfl rfl ?_
          refine o_skip rfl rfl rfl rfl ?_
          refine o_skip rfl rfl rfl rfl ?_
          refine o_skip rfl rfl rfl rfl ?_
          refine o_val rfl rfl rfl rfl (v_pick0 rfl rfl) ?_
          refine o_end ?_
          refine r_false rfl ?_
          refine r_exit rfl ?_
          refine j_keep ?_ (J ⟨0, bf, v10, L, F2⟩ ⟨hF2, Nat.le_refl _, hok, hv10, hLe⟩)
          exact ⟨rfl, rfl, rfl, rfl, rfl, rfl, trivial⟩
      · rintro ⟨i0, bf, v10, L, F2⟩ ⟨hF2, hi0, hok, hv10, hL⟩
        dsimp only at hF2 hok hv10 hL ⊢
        have hF02 := Fz.le_trans hF1 hF2
        refine r_seq ?_
        refine r_seq ?_
        refine r_region rfl ?_
        refine o_val rfl rfl rfl rfl (v_assign rfl) ?_
        refine o_end ?_
        refine r_block ?_
        have hcells : ∀ (G : Fz) (j : Nat) (hj : j < rs.length), F.le G → ∃ b2 off2, a2 = some ⟨b2, off2, none⟩ ∧ Cell G [] b2 (off2 + j) rs[j].1 := by
          intro G j hj hG
          obtain ⟨b2, off2, c2, hab, _, hcell2⟩ := Sl.view (ht.frz (H := []) hG) (by omega)
          simp only [Value.slice.injEq] at hab
          exact ⟨b2, off2, hab.1, hcell2 j rs[j].1 (by rw [List.getElem?_map, List.getElem?_eq_getElem hj]; rfl)⟩
        refine r_loop (fun g : WG => WG.ok F1 rs.length (fun j => encN ws ++ encR b (rs.take j)) g ∧ ∀ r ∈ rs.take g.i, r.2.length ≤ 2000) (fun g => [(0, .slice a0 xs.length cap), (1, .slice a1 ks.length cap1), (2, .slice a2 rs.length cap2), (3, .bool b), (9, ptrV a), (10, g.v), (13, .int .i64 g.i)]) (fun g => g.F) (fun g => .mem a [g.bf.val g.L.length] 1 :: (g.bf.ents 1 (bytesV g.L) ++ [])) (fun g => rs.length - g.i)
          ⟨0, bf, v10, L, F2⟩ ⟨⟨hF2, Nat.zero_le _, hok, hv10, by dsimp only; rw [hL]; simp [encR]⟩, by simp⟩ ⟨rfl, rfl, rfl, rfl, rfl, rfl, rfl, trivial⟩ rfl rfl ?_
        clear hF02 hF2 hok hv10 hL hi0
        clear F2 bf v10 L i0
        rintro ⟨i, bf, v10, L, F2⟩ ⟨⟨hF2, hi, hok, hv10, hL⟩, hsm⟩ IH
        dsimp only at hF2 hi hok hv10 hL hsm ⊢
        have hF02 := Fz.le_trans hF1 hF2
        have hLl : L.length ≤ 8 * ws.length + 2005 * rs.length := by
          rw [hL, List.length_append]
          have := encR_len b (rs.take i) hsm
          rw [List.length_take] at this
          omega
        refine r_seq ?_
        refine r_seq ?_
        refine r_region rfl ?_
        refine o_val rfl rfl rfl rfl (v_move rfl) ?_
        refine o_val rfl rfl rfl rfl (v_move rfl) ?_
        refine o_val rfl rfl rfl rfl (v_len rfl rfl) ?_
        refine o_val rfl rfl rfl rfl (v_lss rfl rfl) ?_
        refine o_end ?_
        refine r_if rfl (fun h1 => ?_) (fun h1 => ?_)
        · have hil : i < rs.length := by omega
          obtain ⟨b2, off2, hab, hcell⟩ := hcells F2 i hil hF02
          have hrow := hr rs[i] (List.getElem_mem _)
          have hEnc := encR_take b rs i hil
          have hsm1 : rs[i].2.length ≤ 2000 → ∀ r ∈ rs.take (i + 1), r.2.length ≤ 2000 := by
            intro h2 r hr
            rw [List.take_succ_eq_append_getElem hil] at hr
            rcases List.mem_append.1 hr with h3 | h3
            · exact hsm r h3
            · rw [List.mem_singleton.1 h3]; exact h2
          generalize rs[i] = row at *
          obtain ⟨rv, m⟩ := row
          dsimp only at hrow hEnc hsm1 hcell
          subst hab
          refine r_skip ?_
          refine r_seq ?_
          refine r_block ?_
          refine r_seq ?_
          refine r_seq ?_
          refine r_region rfl ?_
          refine o_val rfl rfl rfl rfl (v_move rfl) ?_
          refine o_val rfl rfl rfl rfl (v_move rfl) ?_
          refine o_val rfl rfl rfl rfl (v_index1 rfl rfl rfl rfl hil) ?_
          refine o_val rfl rfl rfl rfl (v_load rfl rfl (hcell.mono (Fz.le_refl _) (by simp))) ?_
          refine o_val rfl rfl rfl rfl (v_lenS (hrow.frz hF02) rfl rfl) ?_
          refine o_val rfl rfl rfl rfl (v_gtr rfl rfl) ?_
          refine o_end ?_
          refine r_if rfl (fun h2 => ?_) (fun h2 => ?_)
          · refine r_seq ?_
            refine r_region rfl ?_
            refine o_val rfl rfl rfl rfl (v_assign rfl) ?_
            refine o_end ?_
            exact r_ret1 Try.func8 rfl rfl ⟨rfl, hF02⟩
          · refine r_skip ?_
            refine r_seq ?_
            refine r_region rfl ?_
            refine o_val rfl rfl rfl rfl (v_move rfl) ?_
            refine o_val rfl rfl rfl rfl (v_move rfl) ?_
            refine o_val rfl rfl rfl rfl (v_move rfl) ?_
            refine o_val rfl rfl rfl rfl (v_index1 rfl rfl rfl rfl hil) ?_
            refine o_val rfl rfl rfl rfl (v_load rfl rfl (hcell.mono (Fz.le_refl _) (by simp))) ?_
            refine o_call rfl rfl rfl rfl (c_call callable27 rfl) (oct_WBytes _ _ _ bf L m rv _ hok (hrow.frz hF02) (by omega)) ?_
            rintro v' F2 H' ⟨rfl, rfl, bf1, hok1, rfl⟩ _
            have hl1 : (L ++ lenB m).length = L.length + (4 + m.length) := by simp [lenB]
            refine o_val rfl rfl rfl rfl (v_move rfl) ?_
            refine o_call rfl rfl rfl rfl (c_call callable28 rfl) (oct_WFlag _ _ _ bf1 (L ++ lenB m) b _ hok1 (by omega)) ?_
            rintro v' F2 H' ⟨rfl, rfl, bf2, hok2, rfl⟩ _
            refine o_val rfl rfl rfl rfl (v_assign rfl) ?_
            refine o_end ?_
            refine r_region rfl ?_
            refine o_val rfl rfl rfl rfl (v_move rfl) ?_
            refine o_val rfl rfl rfl rfl (v_move rfl) ?_
            refine o_val rfl rfl rfl rfl (v_move rfl) ?_
            refine o_val rfl rfl rfl rfl (v_index1 rfl rfl rfl rfl hil) ?_
            refine o_val rfl rfl rfl rfl (v_load rfl rfl (hcell.mono (Fz.le_refl _) (by simp))) ?_
            refine o_call rfl rfl rfl rfl (c_call callable24 rfl) (ref_Bytes _ _ v10 rv L m _ (hv10.frz (Fz.le_refl _)) (hrow.frz hF02) (by omega)) ?_
            rintro v' F2 H' ⟨rfl, bf3, hok3, rfl, rfl⟩ _
            refine j_freezeBf hok3 (by simp) fun F3 hF3 hs3 => ?_
            have hs3' : SlB F3 [] (bf3.val (L ++ lenB m).length) (L ++ lenB m) := by unfold SlB; exact hs3
            refine o_val rfl rfl rfl rfl (v_move rfl) ?_
            refine o_call rfl rfl rfl rfl (c_call callable29 rfl) (ref_Flag _ _ _ (L ++ lenB m) b _ (hs3'.frz (Fz.le_refl _)) (by omega)) ?_
            rintro v' F3 H' ⟨rfl, bf4, hok4, rfl, rfl⟩ _
            refine j_freezeBf hok4 (by simp) fun F4 hF4 hs4 => ?_
            refine o_val rfl rfl rfl rfl (v_assign rfl) ?_
            refine o_end ?_
            refine r_inBlock ?_
            refine r_region rfl ?_
            refine o_val rfl rfl rfl rfl (v_move rfl) ?_
            refine o_val rfl rfl rfl rfl (v_add rfl rfl (wrap_i64 (by omega) (by omega))) ?_
            refine o_val rfl rfl rfl rfl (v_assign rfl) ?_
            refine o_end ?_
            refine j_keep ?_ (IH ⟨i + 1, bf2, bf4.val (L ++ lenB m ++ flagB b).length, L ++ lenB m ++ flagB b, F4⟩ ⟨⟨Fz.le_trans hF2 (Fz.le_trans hF3 hF4), hil, hok2, by unfold SlB; exact hs4, by dsimp only; rw [hEnc, hL]; simp⟩, hsm1 (by omega)⟩ (by dsimp only; omega))
            exact ⟨rfl, rfl, rfl, rfl, rfl, rfl, rfl, trivial⟩
        · have hLe : L = encN ws ++ encR b rs := by rw [hL, List.take_of_length_le (by omega)]
          have hall : ∀ r ∈ rs, r.2.length ≤ 2000 := by
            rw [List.take_of_length_le (by omega)] at hsm
            exact hsm
          clear hsm hL
          refine r_exit rfl ?_
          refine r_seq ?_
          refine r_region rfl ?_
          refine o_val rfl rfl rfl rfl (v_move rfl) ?_
          refine o_call rfl rfl rfl rfl (c_call callable30 rfl) (oct_Done _ _ a _ _) ?_
          rintro v' F2 H' ⟨rfl, rfl, rfl⟩ _
          refine j_drop (List.sublist_cons_self _ _) ?_
          refine j_freezeBf hok (by simp) fun F3 hF3 hs3 => ?_
          have hs3' : SlB F3 [] (bf.val L.length) L := by unfold SlB; exact hs3
          have hF03 := Fz.le_trans hF02 hF3
          refine o_val rfl rfl rfl rfl (v_assign rfl) ?_
          refine o_end ?_
          refine r_seq ?_
          refine r_seq ?_
          refine r_region rfl ?_
          refine o_val rfl rfl rfl rfl (v_move rfl) ?_
          refine o_val rfl rfl rfl rfl (v_bytesString rfl rfl rfl rfl (l := L) hs3') ?_
          refine o_val rfl rfl rfl rfl (v_move rfl) ?_
          refine o_val rfl rfl rfl rfl (v_bytesString rfl rfl rfl rfl (l := L) (hv10.frz hF3)) ?_
          refine o_val rfl rfl rfl rfl (v_sneq rfl rfl) ?_
          refine o_end ?_
          refine j_slot 101 rfl (v' := .bool false) (by simp) ?_
          refine r_false rfl ?_
          refine r_skip ?_
          refine r_seq ?_
          refine r_region rfl ?_
          refine o_val rfl rfl rfl rfl (v_move rfl) ?_
          refine o_call rfl rfl rfl rfl (c_call callable16 rfl) (oct_Read _ _ _ L _ hs3') ?_
          rintro v' F3 H' ⟨rfl, a3, rfl, rfl⟩ _
          have hfull : L.length ≤ 140737488355328 := by omega
          have hends : ∀ (i : Nat), (encN (ws.drop i) ++ encR b rs).length ≤ 140737488355328 := by
            intro i
            have h2 := encN_len (ws.drop i) fun p hp => hwk p (List.mem_of_mem_drop hp)
            have h3 := encR_len b rs hall
            rw [List.length_append]
            rw [List.length_drop] at h2
            omega
          clear IH
          refine o_val rfl rfl rfl rfl (v_assign rfl) ?_
          refine o_end ?_
          refine r_seq ?_
          refine r_join (fun g : Value => SlB F3 [] g (encR b rs)) (fun g => [(2, .slice a2 rs.length cap2), (3, .bool b), (15, ptrV a3)]) (fun _ => F3) (fun g => [.mem a3 [g, .bool false] 2]) ?_ ?_
          · intro J
            refine r_seq ?_
            refine r_region rfl ?_
            refine o_val rfl rfl rfl rfl (v_assign rfl) ?_
            refine o_end ?_
            refine r_block ?_
            refine r_loop (fun g : Nat × Value => g.1 ≤ min xs.length ks.length ∧ SlB F3 [] g.2 (encN (ws.drop g.1) ++ encR b rs)) (fun g => [(0, .slice a0 xs.length cap), (1, .slice a1 ks.length cap1), (2, .slice a2 rs.length cap2), (3, .bool b), (15, ptrV a3), (16, .int .i64 g.1)]) (fun _ => F3) (fun g => [.mem a3 [g.2, .bool false] 2]) (fun g => min xs.length ks.length - g.1)
              (0, bf.val L.length) ⟨Nat.zero_le _, by dsimp only; rw [List.drop_zero, ← hLe]; exact hs3'⟩ ⟨rfl, rfl, rfl, rfl, rfl, rfl, trivial⟩ rfl rfl ?_
            rintro ⟨i, vr⟩ ⟨hi, hvr⟩ IH
            dsimp only at hi hvr ⊢
            refine r_seq ?_
            refine r_seq ?_
            refine r_region rfl ?_
            refine o_val rfl rfl rfl rfl (v_move rfl) ?_
            refine o_val rfl rfl rfl rfl (v_move rfl) ?_
            refine o_val rfl rfl rfl rfl (v_len rfl rfl) ?_
            refine o_val rfl rfl rfl rfl (v_lss rfl rfl) ?_
            refine o_val rfl rfl rfl rfl (v_move rfl) ?_
            refine j_prop 108 rfl (fun h3 => ?_) (fun h3 => ?_)
            · refine o_val rfl rfl rfl rfl (v_move rfl) ?_
              refine o_val rfl rfl rfl rfl (v_move rfl) ?_
              refine o_val rfl rfl rfl rfl (v_len rfl rfl) ?_
              refine o_val rfl rfl rfl rfl (v_lss rfl rfl) ?_
              refine o_val rfl rfl rfl rfl (v_pick1 rfl rfl) ?_
              refine o_end ?_
              refine r_if rfl (fun h4 => ?_) (fun h4 => ?_)
              · have hi1 : i < xs.length := by omega
                have hi2 : i < ks.length := by omega
                have hiw : i < ws.length := by omega
                have hwe : ws[i] = (xs[i], ks[i].toNat % 9) := by
                  have := hwi i hi1 hi2
                  rw [List.getElem?_eq_getElem hiw] at this
                  exact Option.some.inj this
                obtain ⟨b0, off0, c0, hab, _, hcell0⟩ := Sl.view (hv.frz (H := []) hF03) (by omega)
                simp only [Value.slice.injEq] at hab
                obtain ⟨rfl, _, rfl⟩ := hab
                obtain ⟨b1, off1, c1, hab, _, hcell1⟩ := Sl.view (hu.frz (H := []) hF03) (by omega)
                simp only [Value.slice.injEq] at hab
                obtain ⟨rfl, _, rfl⟩ := hab
                have hk1 : Cell F3 [] b1 (off1 + i) (.int .u8 ks[i].toNat) := hcell1 i (byteV ks[i]) (by rw [bytesV_get, List.getElem?_eq_getElem hi2]; rfl)
                have hx1 : Cell F3 [] b0 (off0 + i) (.int .u64 xs[i]) := hcell0 i (.int .u64 xs[i]) (by rw [List.getElem?_map, List.getElem?_eq_getElem hi1]; rfl)
                have hx64 := hx xs[i] (List.getElem_mem _)
                have hEnc := encN_drop ws i hiw
                rw [hwe] at hEnc
                dsimp only at hEnc
                have hlen := hends i
                generalize xs[i] = x at *
                generalize ks[i].toNat = k at *
                have hk9 : (k : Int).tmod 9 = ((k % 9 : Nat) : Int) := rfl
                have hn8 : k % 9 ≤ 8 := by omega
                rw [hEnc, List.append_assoc] at hvr
                rw [hEnc, List.append_assoc] at hlen
                have hrd := rdNum_app (leB (k % 9) x) (encN (ws.drop (i + 1)) ++ encR b rs) (by simp; omega)
                rw [leB_length, leN_leB_mod] at hrd
                refine r_skip ?_
                refine r_seq ?_
                refine r_block ?_
                refine r_seq ?_
                refine r_region rfl ?_
                refine o_val rfl rfl rfl rfl (v_move rfl) ?_
                refine o_val rfl rfl rfl rfl (v_move rfl) ?_
                refine o_val rfl rfl rfl rfl (v_index1 rfl rfl rfl rfl hi2) ?_
                refine o_val rfl rfl rfl rfl (v_load rfl rfl (hk1.mono (Fz.le_refl _) (by simp))) ?_
                refine o_val rfl rfl rfl rfl (v_rem rfl rfl (by decide) hk9) ?_
                refine o_val rfl rfl rfl rfl (v_conv rfl rfl rfl (wrap_i64 (by omega) (by omega))) ?_
                refine o_val rfl rfl rfl rfl (v_assign rfl) ?_
                refine o_end ?_
                refine r_seq ?_
                refine r_region rfl ?_
                refine o_val rfl rfl rfl rfl (v_move rfl) ?_
                refine o_val rfl rfl rfl rfl (v_move rfl) ?_
                refine o_val rfl rfl rfl rfl (v_index1 rfl rfl rfl rfl hi1) ?_
                refine o_val rfl rfl rfl rfl (v_load rfl rfl (hx1.mono (Fz.le_refl _) (by simp))) ?_
                refine o_val rfl rfl rfl rfl (v_assign rfl) ?_
                refine o_end ?_
                generalize k % 9 = n at *
                refine r_seq ?_
                refine r_join (fun _ : Unit => True) (fun _ => [(0, .slice (some ⟨b0, off0, none⟩) xs.length cap), (1, .slice (some ⟨b1, off1, none⟩) ks.length cap1), (2, .slice a2 rs.length cap2), (3, .bool b), (15, ptrV a3), (16, .int .i64 i), (17, .int .i64 n), (18, .int .u64 (x % 256 ^ n : Nat))]) (fun _ => F3) (fun _ => [.mem a3 [vr, .bool false] 2]) ?_ ?_
                · intro J2
                  have e8 : (256 : Nat) ^ 8 = 18446744073709551616 := by decide
                  refine r_seq ?_
                  refine r_region rfl ?_
                  refine o_val rfl rfl rfl rfl (v_move rfl) ?_
                  refine o_val rfl rfl rfl rfl (v_lss rfl rfl) ?_
                  refine o_end ?_
                  refine r_if rfl (fun h5 => ?_) (fun h5 => ?_)
                  · have hn7 : n < 8 := by omega
                    have h47 : (256 : Nat) ^ n ≤ 256 ^ 7 := Nat.pow_le_pow_right (by decide) (by omega)
                    have e7 : (256 : Nat) ^ 7 = 72057594037927936 := by decide
                    have h1p : 0 < (256 : Nat) ^ n := Nat.pow_pos (by decide)
                    rw [e7] at h47
                    have hsh := u64_shl 1 n hn7
                    have e1 : (1 : UInt8).toNat = 1 := rfl
                    rw [e1, Nat.one_mul] at hsh
                    refine r_region rfl ?_
                    refine o_val rfl rfl rfl rfl (v_move rfl) ?_
                    refine o_val rfl rfl rfl rfl (v_move rfl) ?_
                    refine o_val rfl rfl rfl rfl (v_mul rfl rfl (wrap_i64 (by omega) (by omega))) ?_
                    refine o_val rfl rfl rfl rfl (v_shl rfl rfl (by omega) hsh) ?_
                    refine o_val rfl rfl rfl rfl (v_sub rfl rfl (r := ((256 ^ n - 1 : Nat) : Int)) (by rw [← Int.natCast_one, ← Int.ofNat_sub (by omega)]; exact wrap_u64 (by omega) (by omega))) ?_
                    refine o_val rfl rfl rfl rfl (v_and rfl rfl (u64_mask x n hx64 hn7)) ?_
                    refine o_val rfl rfl rfl rfl (v_assign rfl) ?_
                    refine o_end ?_
                    refine j_keep ?_ (J2 () trivial)
                    exact ⟨rfl, rfl, rfl, rfl, rfl, rfl, rfl, rfl, trivial⟩
                  · obtain rfl : n = 8 := by omega
                    have hxm : x = x % 256 ^ 8 := by rw [e8]; exact (Nat.mod_eq_of_lt hx64).symm
                    refine r_skip ?_
                    refine j_keep ?_ (J2 () trivial)
                    rw [← hxm]
                    exact ⟨rfl, rfl, rfl, rfl, rfl, rfl, rfl, rfl, trivial⟩
                · rintro _ _
                  refine r_seq ?_
                  refine r_region rfl ?_
                  refine o_val rfl rfl rfl rfl (v_move rfl) ?_
                  refine o_val rfl rfl rfl rfl (v_move rfl) ?_
                  refine o_call rfl rfl rfl rfl (c_call callable17 rfl) (oct_RNum _ _ _ vr _ false n _ hvr hlen) ?_
                  rintro v' F4 H' ⟨rfl, rfl, v4, hv4, rfl⟩ _
                  rw [hrd] at hv4 ⊢
                  refine o_val rfl rfl rfl rfl (v_move rfl) ?_
                  refine o_val rfl rfl rfl rfl (v_neq rfl rfl) ?_
                  refine o_end ?_
                  refine j_slot 138 rfl (v' := .bool false) (by simp) ?_
                  refine r_false rfl ?_
                  refine r_skip ?_
                  refine r_inBlock ?_
                  refine r_region rfl ?_
                  refine o_val rfl rfl rfl rfl (v_move rfl) ?_
                  refine o_val rfl rfl rfl rfl (v_add rfl rfl (wrap_i64 (by omega) (by omega))) ?_
                  refine o_val rfl rfl rfl rfl (v_assign rfl) ?_
                  refine o_end ?_
                  refine j_keep ?_ (IH (i + 1, v4) ⟨by dsimp only; omega, hv4⟩ (by dsimp only; omega))
                  exact ⟨rfl, rfl, rfl, rfl, rfl, rfl, trivial⟩
              · refine r_exit rfl ?_
                refine j_keep ?_ (J vr ?_)
                · exact ⟨rfl, rfl, rfl, trivial⟩
                · rw [List.drop_eq_nil_of_le (by omega)] at hvr
                  exact hvr
            · refine o_skip rfl rfl rfl rfl ?_
              refine o_skip rfl rfl rfl rfl ?_
              refine o_skip rfl rfl rfl rfl ?_
              refine o_skip rfl rfl rfl rfl ?_
              refine o_val rfl rfl rfl rfl (v_pick0 rfl rfl) ?_
              refine o_end ?_
              refine r_false rfl ?_
              refine r_exit rfl ?_
              refine j_keep ?_ (J vr ?_)
              · exact ⟨rfl, rfl, rfl, trivial⟩
              · rw [List.drop_eq_nil_of_le (by omega)] at hvr
                exact hvr
          · rintro vr hvr
            refine r_seq ?_
            refine r_seq ?_
            refine r_region rfl ?_
            refine o_val rfl rfl rfl rfl (v_assign rfl) ?_
            refine o_end ?_
            refine r_block ?_
            have hends4 : ∀ (i : Nat), (encR b (rs.drop i)).length ≤ 140737488355328 := by
              intro i
              have h3 := encR_len b (rs.drop i) fun p hp => hall p (List.mem_of_mem_drop hp)
              rw [List.length_drop] at h3
              omega
            refine r_loop (fun g : Nat × Value × Fz => F3.le g.2.2 ∧ g.1 ≤ rs.length ∧ SlB g.2.2 [] g.2.1 (encR b (rs.drop g.1))) (fun g => [(2, .slice a2 rs.length cap2), (3, .bool b), (15, ptrV a3), (19, .int .i64 g.1)]) (fun g => g.2.2) (fun g => [.mem a3 [g.2.1, .bool false] 2]) (fun g => rs.length - g.1)
              (0, vr, F3) ⟨Fz.le_refl _, Nat.zero_le _, hvr⟩ ⟨rfl, rfl, rfl, rfl, trivial⟩ rfl rfl ?_
            clear hvr
            clear vr
            rintro ⟨i, vr, F5⟩ ⟨hF5, hi, hvr⟩ IH
            dsimp only at hF5 hi hvr ⊢
            have hF05 := Fz.le_trans hF03 hF5
            refine r_seq ?_
            refine r_seq ?_
            refine r_region rfl ?_
            refine o_val rfl rfl rfl rfl (v_move rfl) ?_
            refine o_val rfl rfl rfl rfl (v_move rfl) ?_
            refine o_val rfl rfl rfl rfl (v_len rfl rfl) ?_
            refine o_val rfl rfl rfl rfl (v_lss rfl rfl) ?_
            refine o_end ?_
            refine r_if rfl (fun h4 => ?_) (fun h4 => ?_)
            · have hil : i < rs.length := by omega
              obtain ⟨b2, off2, hab, hcell⟩ := hcells F5 i hil hF05
              have hrow := hr rs[i] (List.getElem_mem _)
              have hm2 := hall rs[i] (List.getElem_mem _)
              have hEnc := encR_drop b rs i hil
              have hlen := hends4 i
              have hlen1 := hends4 (i + 1)
              generalize rs[i] = row at *
              obtain ⟨rv, m⟩ := row
              dsimp only at hrow hEnc hm2 hcell
              subst hab
              rw [hEnc] at hvr hlen
              refine r_skip ?_
              refine r_seq ?_
              refine r_block ?_
              refine r_seq ?_
              refine d_region rfl ([]) ?_
              refine d_take (i := 0) rfl rfl rfl (by decide +kernel) (by decide +kernel) (by decide +kernel) (Fz.le_refl _) (by simp) rfl (v_move rfl) ?_
              refine d_take (i := 3) rfl rfl rfl (by decide +kernel) (by decide +kernel) (by decide +kernel) (Fz.le_refl _) (by simp) rfl (v_move rfl) ?_
              refine d_take (i := 4) rfl rfl rfl (by decide +kernel) (by decide +kernel) (by decide +kernel) (Fz.le_refl _) (by simp) rfl (v_move rfl) ?_
              refine d_take (i := 5) rfl rfl rfl (by decide +kernel) (by decide +kernel) (by decide +kernel) (Fz.le_refl _) (by simp) rfl (v_index1 rfl rfl rfl rfl hil) ?_
              refine d_take (i := 6) rfl rfl rfl (by decide +kernel) (by decide +kernel) (by decide +kernel) (Fz.le_refl _) (by simp) rfl (v_load rfl rfl (hcell.mono (Fz.le_refl _) (by simp))) ?_
              refine d_take (i := 7) rfl rfl rfl (by decide +kernel) (by decide +kernel) (by decide +kernel) (Fz.le_refl _) (by simp) rfl (v_bytesString rfl rfl rfl rfl (l := m) (hrow.frz hF05)) ?_
              refine d_one (i := 1) (by decide +kernel) ?_
              refine d1_call rfl rfl rfl rfl (c_call callable18 rfl) (oct_RBytes _ _ _ vr _ false 2000 _ hvr hlen (by decide)) ?_
              rintro v' F6 H' ⟨hF6, hgot, v6, hv6, rfl⟩ _
              refine ⟨fun w hw => held_of hw hF6 (by simp), ?_⟩
              rw [rdBytes_lenB m _ hm2] at hgot hv6 ⊢
              dsimp only at hgot hv6 ⊢
              refine d_more ([]) hF6 (by simp) ?_
              refine d_take (i := 2) rfl rfl rfl (by decide +kernel) (by decide +kernel) (by decide +kernel) (Fz.le_refl _) (by simp) rfl (v_bytesString rfl rfl rfl rfl (l := m) hgot) ?_
              refine d_take (i := 8) rfl rfl rfl (by decide +kernel) (by decide +kernel) (by decide +kernel) (Fz.le_refl _) (by simp) rfl (v_sneq rfl rfl) ?_
              refine d_take (i := 9) rfl rfl rfl (by decide +kernel) (by decide +kernel) (by decide +kernel) (Fz.le_refl _) (by simp) rfl (v_move rfl) ?_
              refine j_slot 154 rfl (v' := .bool false) (by simp) ?_
              refine d_take (i := 10) rfl rfl rfl (by decide +kernel) (by decide +kernel) (by decide +kernel) (Fz.le_refl _) (by simp) rfl (v_move rfl) ?_
              refine d_take (i := 12) rfl rfl rfl (by decide +kernel) (by decide +kernel) (by decide +kernel) (Fz.le_refl _) (by simp) rfl (v_move rfl) ?_
              refine d_one (i := 11) (by decide +kernel) ?_
              refine d1_call rfl rfl rfl rfl (c_call callable19 rfl) (oct_RFlag _ _ _ v6 _ false _ hv6 (by rw [List.length_append] at hlen; omega)) ?_
              rintro v' F7 H' ⟨rfl, rfl, v7, hv7, rfl⟩ _
              refine ⟨fun w hw => held_of hw (Fz.le_refl _) (by simp), ?_⟩
              rw [rdFlag_flagB] at hv7 ⊢
              dsimp only at hv7 ⊢
              refine d_take (i := 13) rfl rfl rfl (by decide +kernel) (by decide +kernel) (by decide +kernel) (Fz.le_refl _) (by simp) rfl (v_bneq rfl rfl rfl) ?_
              refine d_take (i := 14) rfl rfl rfl (by decide +kernel) (by decide +kernel) (by decide +kernel) (Fz.le_refl _) (by simp) rfl (v_pick0 rfl rfl) ?_
              refine d_end (by decide +kernel) ?_
              refine j_slot 159 rfl (v' := .bool false) (by simp) ?_
              refine r_false rfl ?_
              refine r_skip ?_
              refine r_inBlock ?_
              refine r_region rfl ?_
              refine o_val rfl rfl rfl rfl (v_move rfl) ?_
              refine o_val rfl rfl rfl rfl (v_add rfl rfl (wrap_i64 (by omega) (by omega))) ?_
              refine o_val rfl rfl rfl rfl (v_assign rfl) ?_
              refine o_end ?_
              refine j_keep ?_ (IH (i + 1, v7, F7) ⟨Fz.le_trans hF5 hF6, hil, hv7⟩ (by dsimp only; omega))
              exact ⟨rfl, rfl, rfl, rfl, trivial⟩
            · obtain rfl : i = rs.length := by omega
              rw [List.drop_length] at hvr
              refine r_exit rfl ?_
              refine r_seq ?_
              refine r_region rfl ?_
              refine o_val rfl rfl rfl rfl (v_move rfl) ?_
              refine o_call rfl rfl rfl rfl (c_call callable23 rfl) (oct_REnd _ _ _ vr (encR b []) false _ hvr) ?_
              rintro v' F6 H' ⟨rfl, rfl, rfl⟩ _
              refine j_slot 161 rfl (v' := .bool true) rfl ?_
              refine o_val rfl rfl rfl rfl (v_move rfl) ?_
              refine o_val rfl rfl rfl rfl (v_move rfl) ?_
              refine o_call rfl rfl rfl rfl (c_call callable21 rfl) (oct_RBad _ _ _ _ _ _) ?_
              rintro v' F6 H' ⟨rfl, rfl, rfl⟩ _
              refine o_val rfl rfl rfl rfl (v_not rfl) ?_
              refine o_val rfl rfl rfl rfl (v_pick1 rfl rfl) ?_
              refine o_val rfl rfl rfl rfl (v_move rfl) ?_
              refine o_val rfl rfl rfl rfl (v_move rfl) ?_
              refine o_call rfl rfl rfl rfl (c_call callable22 rfl) (oct_RLeft _ _ _ vr (encR b []) false _ hvr) ?_
              rintro v' F6 H' ⟨rfl, rfl, rfl⟩ _
              rw [if_neg (by decide)]
              refine o_val rfl rfl rfl rfl (v_eql rfl rfl) ?_
              refine o_val rfl rfl rfl rfl (v_pick1 rfl rfl) ?_
              refine o_val rfl rfl rfl rfl (v_assign rfl) ?_
              refine o_end ?_
              exact r_ret1 Try.func8 rfl rfl ⟨rfl, hF05⟩

theorem in_OctetWrites (W : World) (v : Value) (zs : List Int) (h : InInts .u64 W v zs) (hn : zs.length * 8 ≤ 140737488351232) (u : Value) (ys : List Int) (hu : InInts .u8 W u ys) (hm : ys.length * 1 ≤ 140737488351232)
    (t : Value) (rs : List (Value × List UInt8)) (ht : InRows W t rs) (hr : rs.length ≤ 9223372036854775807) (b : Bool) :
    Calls Try.prog 8 #[v, u, t, .bool b] W fun e w' => e = .returned (.bool true) ∧ Go.RowKit.Below W.heap.size W w' := by
  obtain ⟨ns, _, hv, hx⟩ := inNats h
  obtain ⟨m, _, hu⟩ := inBytes hu
  exact below_of_does (law_OctetWrites _ _ _ _ _ ns m rs b hv hx hu ht.1 ht.2)
end Go.SX
