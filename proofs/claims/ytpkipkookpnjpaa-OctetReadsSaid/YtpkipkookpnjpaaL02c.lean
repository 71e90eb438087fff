/-
  Chapter 02: the law OctetReads.
-/
import Derived.Test.YtpkipkookpnjpaaOct3
import Derived.Test.YtpkipkookpnjpaaL02a
namespace Go.SX
open Go Go.Proofs

structure RG where
  i : Nat
  p : Nat
  bad : Bool
  v : Value
  rem : List UInt8
  F : Fz
def RG.ok (F : Fz) (l : List UInt8) (n : Nat) (g : RG) : Prop := F.le g.F ∧ g.i ≤ n ∧ SlB g.F [] g.v g.rem ∧ g.rem.length ≤ l.length ∧ g.p ≤ l.length ∧ (g.bad = false → g.rem = l.drop g.p)
structure RH where
  x : Nat
  p : Nat
  bad : Bool
def RH.ok (l : List UInt8) (q : Nat × List UInt8 × Bool) (g : RH) : Prop := g.x < 18446744073709551616 ∧ q.1 = g.x ∧ q.2.2 = g.bad ∧ g.p ≤ l.length ∧ (g.bad = false → q.2.1 = l.drop g.p)

theorem u64_or' (x b : Nat) (hb : b < 256) (hx : x < 256 ^ 7) : bitOp .or .u64 ((x * 256 : Nat) : Int) (b : Int) = ((b + 256 * x : Nat) : Int) := by
  have e7 : (256 : Nat) ^ 7 = 72057594037927936 := by decide
  rw [e7] at hx
  show IntKind.u64.wrap ((BitVec.ofInt 64 ((x * 256 : Nat) : Int) ||| BitVec.ofInt 64 (b : Int)).toNat : Int) = _
  rw [BitVec.toNat_or, BitVec.ofInt_natCast, BitVec.ofInt_natCast, BitVec.toNat_ofNat, BitVec.toNat_ofNat, Nat.mod_eq_of_lt (by omega), Nat.mod_eq_of_lt (by omega)]
  have h7 : x * 256 ||| b = b + 256 * x := by
    have := Nat.two_pow_add_eq_or_of_lt (i := 8) (b := b) (by omega) x
    have e8 : (2 : Nat) ^ 8 = 256 := by decide
    rw [e8] at this
    rw [Nat.mul_comm x, ← this, Nat.add_comm]
  rw [h7]
  exact wrap_u64 (by omega) (by omega)

theorem u64_shl8 (x : Nat) (hx : x < 256 ^ 7) : IntKind.u64.wrap ((x : Int) * 2 ^ (min (8 : Int).toNat IntKind.u64.bits)) = ((x * 256 : Nat) : Int) := by
  have e7 : (256 : Nat) ^ 7 = 72057594037927936 := by decide
  have e8 : (2 : Int) ^ (min (8 : Int).toNat IntKind.u64.bits) = 256 := by decide
  rw [e7] at hx
  rw [e8]
  exact wrap_u64 (by omega) (by omega)
theorem SlB.mid {F : Fz} {H : List Ent} {a : Option Addr} {cap k m : Nat} {l : List UInt8} (hv : SlB F H (.slice a l.length cap) l) (hk : k ≤ m) (hm : m ≤ l.length) : SlB F H (Go.sliced a k m cap 1) ((l.drop k).take (m - k)) := by
  have := Sl.sliced hv hk hm
  rw [Nat.mul_one, Nat.mul_one] at this
  unfold SlB
  have e : ((l.drop k).take (m - k)).length = m - k := by simp; omega
  rw [e]
  have hd : bytesV ((l.drop k).take (m - k)) = ((bytesV l).drop k).take (m - k) := by simp [bytesV]
  rw [hd]
  exact this

theorem law_OctetReads (O : World) (F : Fz) (v u : Value) (l asks : List UInt8) (hv : SlB F [] v l) (hu : SlB F [] u asks) (hl : l.length ≤ 140737488351232) : Does Try.prog O 6 #[v, u] F [] (fun r _ _ => r = .bool true) := by
  obtain ⟨a0, cap, rfl, hcap⟩ := Sl.shape hv
  obtain ⟨a1, cap1, rfl, hcap1⟩ := Sl.shape hu
  refine does_of_run (args := [_, _]) Try.func6 rfl rfl ?_
  refine r_seq ?_
  refine r_region rfl ?_
  refine o_val rfl rfl rfl rfl (v_assign rfl) ?_
  refine o_end ?_
  refine r_seq ?_
  refine r_seq ?_
  refine r_region rfl ?_
  refine o_call rfl rfl rfl rfl (c_call callable9 rfl) (law_awake _ _ _) ?_
  rintro v' F1 H' ⟨rfl, rfl⟩ hF1
  refine o_val rfl rfl rfl rfl (v_not rfl) ?_
  refine o_val rfl rfl rfl rfl (v_move rfl) ?_
  refine o_val rfl rfl rfl rfl (v_move rfl) ?_
  refine o_val rfl rfl rfl rfl (v_len rfl rfl) ?_
  refine o_val rfl rfl rfl rfl (v_gtr rfl rfl) ?_
  refine o_val rfl rfl rfl rfl (v_pick0 rfl rfl) ?_
  refine o_val rfl rfl rfl rfl (v_move rfl) ?_
  refine j_prop 25 rfl (fun h0 => ?_) (fun h0 => ?_)
  · refine o_skip rfl rfl rfl rfl ?_
    refine o_skip rfl rfl rfl rfl ?_
    refine o_skip rfl rfl rfl rfl ?_
    refine o_val rfl rfl rfl rfl (v_pick1 rfl rfl) ?_
    refine o_end ?_
    refine r_true rfl ?_
    refine r_seq ?_
    refine r_region rfl ?_
    refine o_call rfl rfl rfl rfl (c_call callable9 rfl) (law_awake _ _ _) ?_
    rintro v' F2 H' ⟨rfl, rfl⟩ hF2
    refine o_val rfl rfl rfl rfl (v_assign rfl) ?_
    refine o_end ?_
    exact r_ret1 Try.func6 rfl rfl ⟨rfl, Fz.le_trans hF1 hF2⟩
  · refine o_val rfl rfl rfl rfl (v_move rfl) ?_
    refine o_val rfl rfl rfl rfl (v_len rfl rfl) ?_
    refine o_val rfl rfl rfl rfl (v_gtr rfl rfl) ?_
    refine o_val rfl rfl rfl rfl (v_pick0 rfl rfl) ?_
    refine o_end ?_
    refine r_if rfl (fun h => ?_) (fun h => ?_)
    · refine r_seq ?_
      refine r_region rfl ?_
      refine o_call rfl rfl rfl rfl (c_call callable9 rfl) (law_awake _ _ _) ?_
      rintro v' F2 H' ⟨rfl, rfl⟩ hF2
      refine o_val rfl rfl rfl rfl (v_assign rfl) ?_
      refine o_end ?_
      exact r_ret1 Try.func6 rfl rfl ⟨rfl, Fz.le_trans hF1 hF2⟩
    · have hl2 : l.length ≤ 3000 := by omega
      have ha2 : asks.length ≤ 60 := by omega
      refine r_skip ?_
      refine r_seq ?_
      refine r_region rfl ?_
      refine o_val rfl rfl rfl rfl (v_move rfl) ?_
      refine o_call rfl rfl rfl rfl (c_call callable16 rfl) (oct_Read _ _ _ l _ (hv.frz hF1)) ?_
      rintro v' F1 H' ⟨rfl, a, rfl, rfl⟩ _
      refine o_val rfl rfl rfl rfl (v_assign rfl) ?_
      refine o_end ?_
      refine r_seq ?_
      refine r_region rfl ?_
      refine o_val rfl rfl rfl rfl (v_assign rfl) ?_
      refine o_end ?_
      refine r_seq ?_
      refine r_region rfl ?_
      refine o_val rfl rfl rfl rfl (v_assign rfl) ?_
      refine o_end ?_
      refine r_seq ?_
      refine r_seq ?_
      refine r_region rfl ?_
      refine o_val rfl rfl rfl rfl (v_assign rfl) ?_
      refine o_end ?_
      refine r_block ?_
      refine r_loop (RG.ok F1 l asks.length) (fun g => [(0, .slice a0 l.length cap), (1, .slice a1 asks.length cap1), (5, ptrV a), (6, .int .i64 g.p), (7, .bool g.bad), (8, .int .i64 g.i)]) (fun g => g.F) (fun g => [.mem a [g.v, .bool g.bad] 2]) (fun g => asks.length - g.i)
        ⟨0, 0, false, .slice a0 l.length cap, l, F1⟩ ⟨Fz.le_refl _, Nat.zero_le _, hv.frz hF1, Nat.le_refl _, Nat.zero_le _, fun _ => rfl⟩ ⟨rfl, rfl, rfl, rfl, rfl, rfl, trivial⟩ rfl rfl ?_
      rintro ⟨i, p, bad, vr, rem, F3⟩ ⟨hF3, hi, hvr, hrem, hp, hbad⟩ IH
      dsimp only at hF3 hi hvr hrem hp hbad ⊢
      have hF03 := Fz.le_trans hF1 hF3
      refine r_seq ?_
      refine r_seq ?_
      refine r_region rfl ?_
      refine o_val rfl rfl rfl rfl (v_move rfl) ?_
      refine o_val rfl rfl rfl rfl (v_move rfl) ?_
      refine o_val rfl rfl rfl rfl (v_len rfl rfl) ?_
      refine o_val rfl rfl rfl rfl (v_lss rfl rfl) ?_
      refine o_end ?_
      refine r_if rfl (fun h2 => ?_) (fun h2 => ?_)
      · have hil : i < asks.length := by omega
        obtain ⟨b1, off1, cap2, hab, _, hcell⟩ := Sl.view (hu.frz (H := []) hF03) (by omega)
        simp only [Value.slice.injEq] at hab
        obtain ⟨rfl, _, rfl⟩ := hab
        have hask : Cell F3 [] b1 (off1 + i) (.int .u8 asks[i].toNat) := hcell i (byteV asks[i]) (by rw [bytesV_get, List.getElem?_eq_getElem hil]; rfl)
        have hq256 := asks[i].toNat_lt
        generalize asks[i].toNat = q at hask hq256
        have hq4 : IntKind.u8.wrap ((q : Int).tdiv 4) = ((q / 4 : Nat) : Int) := by
          have : (q : Int).tdiv 4 = ((q / 4 : Nat) : Int) := rfl
          rw [this]
          exact wrap_u8 (by omega) (by omega)
        have hask' : ∀ H, Cell F3 H b1 (off1 + i) (.int .u8 q) := fun H => hask.mono (Fz.le_refl _) (by simp)
        refine r_skip ?_
        refine r_seq ?_
        refine r_block ?_
        refine r_seq ?_
        refine r_region rfl ?_
        refine o_val rfl rfl rfl rfl (v_move rfl) ?_
        refine o_val rfl rfl rfl rfl (v_move rfl) ?_
        refine o_val rfl rfl rfl rfl (v_index1 rfl rfl rfl rfl hil) ?_
        refine o_val rfl rfl rfl rfl (v_load rfl rfl (hask' _)) ?_
        refine o_val rfl rfl rfl rfl (v_quo rfl rfl (by decide) hq4) ?_
        refine o_val rfl rfl rfl rfl (v_rem rfl rfl (by decide) (r := ((q / 4 % 9 : Nat) : Int)) rfl) ?_
        refine o_val rfl rfl rfl rfl (v_conv rfl rfl rfl (wrap_i64 (by omega) (by omega))) ?_
        refine o_val rfl rfl rfl rfl (v_assign rfl) ?_
        refine o_end ?_
        have h4 : (q : Int).tmod 4 = ((q % 4 : Nat) : Int) := rfl
        refine r_seq ?_
        refine r_join (fun n : Nat => n ≤ 8 ∧ (q % 4 ≠ 0 → n = 4)) (fun n => [(0, .slice a0 l.length cap), (1, .slice (some ⟨b1, off1, none⟩) asks.length cap1), (5, ptrV a), (6, .int .i64 p), (7, .bool bad), (8, .int .i64 i), (9, .int .i64 n)]) (fun _ => F3) (fun _ => [.mem a [vr, .bool bad] 2]) ?_ ?_
        · intro J
          refine r_seq ?_
          refine r_region rfl ?_
          refine o_val rfl rfl rfl rfl (v_move rfl) ?_
          refine o_val rfl rfl rfl rfl (v_move rfl) ?_
          refine o_val rfl rfl rfl rfl (v_index1 rfl rfl rfl rfl hil) ?_
          refine o_val rfl rfl rfl rfl (v_load rfl rfl (hask' _)) ?_
          refine o_val rfl rfl rfl rfl (v_rem rfl rfl (by decide) h4) ?_
          refine o_val rfl rfl rfl rfl (v_neq rfl rfl) ?_
          refine o_end ?_
          refine r_if rfl (fun h3 => ?_) (fun h3 => ?_)
          · refine r_region rfl ?_
            refine o_val rfl rfl rfl rfl (v_assign rfl) ?_
            refine o_end ?_
            refine j_keep ?_ (J 4 ⟨by omega, fun _ => rfl⟩)
            exact ⟨rfl, rfl, rfl, rfl, rfl, rfl, rfl, trivial⟩
          · refine r_skip ?_
            refine j_keep ?_ (J (q / 4 % 9) ⟨by omega, fun h => absurd h3 (fun h3 => h3 (by omega))⟩)
            exact ⟨rfl, rfl, rfl, rfl, rfl, rfl, rfl, trivial⟩
        · rintro n0 ⟨hn0, hn1⟩
          refine r_seq ?_
          refine r_join (fun n : Nat => n ≤ 8 ∧ (q % 4 = 2 → n = 1) ∧ (q % 4 = 1 ∨ q % 4 = 3 → n = 4)) (fun n => [(0, .slice a0 l.length cap), (1, .slice (some ⟨b1, off1, none⟩) asks.length cap1), (5, ptrV a), (6, .int .i64 p), (7, .bool bad), (8, .int .i64 i), (9, .int .i64 n)]) (fun _ => F3) (fun _ => [.mem a [vr, .bool bad] 2]) ?_ ?_
          · intro J
            refine r_seq ?_
            refine r_region rfl ?_
            refine o_val rfl rfl rfl rfl (v_move rfl) ?_
            refine o_val rfl rfl rfl rfl (v_move rfl) ?_
            refine o_val rfl rfl rfl rfl (v_index1 rfl rfl rfl rfl hil) ?_
            refine o_val rfl rfl rfl rfl (v_load rfl rfl (hask' _)) ?_
            refine o_val rfl rfl rfl rfl (v_rem rfl rfl (by decide) h4) ?_
            refine o_val rfl rfl rfl rfl (v_eql rfl rfl) ?_
            refine o_end ?_
            refine r_if rfl (fun h3 => ?_) (fun h3 => ?_)
            · refine r_region rfl ?_
              refine o_val rfl rfl rfl rfl (v_assign rfl) ?_
              refine o_end ?_
              refine j_keep ?_ (J 1 ⟨by omega, fun _ => rfl, fun h => by omega⟩)
              exact ⟨rfl, rfl, rfl, rfl, rfl, rfl, rfl, trivial⟩
            · refine r_skip ?_
              refine j_keep ?_ (J n0 ⟨by omega, fun h => by omega, fun h => by omega⟩)
              exact ⟨rfl, rfl, rfl, rfl, rfl, rfl, rfl, trivial⟩
          · clear hn0 hn1 n0
            rintro n ⟨hn8, hn2, hn4⟩
            refine r_seq ?_
            refine r_region rfl ?_
            refine o_val rfl rfl rfl rfl (v_assign rfl) ?_
            refine o_end ?_
            refine r_seq ?_
            refine r_join (RH.ok l (rdNum rem bad n)) (fun g => [(0, .slice a0 l.length cap), (1, .slice (some ⟨b1, off1, none⟩) asks.length cap1), (5, ptrV a), (6, .int .i64 g.p), (7, .bool g.bad), (8, .int .i64 i), (9, .int .i64 n), (10, .int .u64 g.x)]) (fun _ => F3) (fun _ => [.mem a [vr, .bool bad] 2]) ?_ ?_
            · intro J
              cases bad with
              | true =>
                refine r_seq ?_
                refine r_region rfl ?_
                refine o_val rfl rfl rfl rfl (v_move rfl) ?_
                refine o_val rfl rfl rfl rfl (v_move rfl) ?_
                refine o_skip rfl rfl rfl rfl ?_
                refine o_skip rfl rfl rfl rfl ?_
                refine o_skip rfl rfl rfl rfl ?_
                refine o_skip rfl rfl rfl rfl ?_
                refine o_skip rfl rfl rfl rfl ?_
                refine o_skip rfl rfl rfl rfl ?_
                refine o_val rfl rfl rfl rfl (v_pick1 rfl rfl) ?_
                refine o_end ?_
                refine r_true rfl ?_
                refine r_region rfl ?_
                refine o_val rfl rfl rfl rfl (v_assign rfl) ?_
                refine o_end ?_
                refine j_keep ?_ (J ⟨0, p, true⟩ ⟨by show 0 < 18446744073709551616; decide, rfl, rfl, hp, fun h => by cases h⟩)
                exact ⟨rfl, rfl, rfl, rfl, rfl, rfl, rfl, rfl, trivial⟩
              | false =>
                obtain rfl := hbad rfl
                have hrl : (l.drop p).length = l.length - p := by simp
                refine r_seq ?_
                refine r_region rfl ?_
                refine o_val rfl rfl rfl rfl (v_move rfl) ?_
                refine o_val rfl rfl rfl rfl (v_move rfl) ?_
                refine o_val rfl rfl rfl rfl (v_move rfl) ?_
                refine o_val rfl rfl rfl rfl (v_len rfl rfl) ?_
                refine o_val rfl rfl rfl rfl (v_move rfl) ?_
                refine o_val rfl rfl rfl rfl (v_sub rfl rfl (wrap_i64 (by omega) (by omega))) ?_
                refine o_val rfl rfl rfl rfl (v_move rfl) ?_
                refine o_val rfl rfl rfl rfl (v_lss rfl rfl) ?_
                refine o_val rfl rfl rfl rfl (v_pick0 rfl rfl) ?_
                refine o_end ?_
                refine r_if rfl (fun h3 => ?_) (fun h3 => ?_)
                · refine r_region rfl ?_
                  refine o_val rfl rfl rfl rfl (v_assign rfl) ?_
                  refine o_end ?_
                  have hr : rdNum (l.drop p) false n = (0, l.drop p, true) := by unfold rdNum; rw [if_pos (.inr (.inr (by omega)))]
                  rw [hr] at J
                  refine j_keep ?_ (J ⟨0, p, true⟩ ⟨by show 0 < 18446744073709551616; decide, rfl, rfl, hp, fun h => by cases h⟩)
                  exact ⟨rfl, rfl, rfl, rfl, rfl, rfl, rfl, rfl, trivial⟩
                · have hpn : p + n ≤ l.length := by omega
                  have hr : rdNum (l.drop p) false n = (leN ((l.drop p).take n), (l.drop p).drop n, false) := by
                    unfold rdNum
                    rw [if_neg (by rintro (h | h | h); · cases h
                                   · omega
                                   · omega)]
                    simp only [Int.toNat_natCast]
                    rw [Nat.min_eq_left hn8]
                  have htl : ((l.drop p).take n).length = n := by simp; omega
                  refine r_seq ?_
                  refine r_seq ?_
                  refine r_region rfl ?_
                  refine o_val rfl rfl rfl rfl (v_move rfl) ?_
                  refine o_val rfl rfl rfl rfl (v_sub rfl rfl (wrap_i64 (by omega) (by omega))) ?_
                  refine o_val rfl rfl rfl rfl (v_assign rfl) ?_
                  refine o_end ?_
                  refine r_block ?_
                  refine r_loop (fun k : Nat => k ≤ n) (fun k => [(0, .slice a0 l.length cap), (1, .slice (some ⟨b1, off1, none⟩) asks.length cap1), (5, ptrV a), (6, .int .i64 p), (7, .bool false), (8, .int .i64 i), (9, .int .i64 n), (10, .int .u64 (leN (((l.drop p).take n).drop k))), (11, .int .i64 ((k : Int) - 1))]) (fun _ => F3) (fun _ => [.mem a [vr, .bool false] 2]) (fun k => k)
                    n (Nat.le_refl _) ⟨rfl, rfl, rfl, rfl, rfl, rfl, rfl, by rw [List.drop_eq_nil_of_le (by omega)]; rfl, rfl, trivial⟩ rfl rfl ?_
                  intro k hk IHk
                  refine r_seq ?_
                  refine r_seq ?_
                  refine r_region rfl ?_
                  refine o_val rfl rfl rfl rfl (v_move rfl) ?_
                  refine o_val rfl rfl rfl rfl (v_geq rfl rfl) ?_
                  refine o_end ?_
                  refine r_if rfl (fun h5 => ?_) (fun h5 => ?_)
                  · obtain ⟨k, rfl⟩ : ∃ m, k = m + 1 := ⟨k - 1, by omega⟩
                    have hkl : p + k < l.length := by omega
                    obtain ⟨b0, off0, cap0, hab, _, hcell0⟩ := Sl.view (hv.frz (H := []) hF03) (by omega)
                    simp only [Value.slice.injEq] at hab
                    obtain ⟨rfl, _, rfl⟩ := hab
                    have hc0 : Cell F3 [.mem a [vr, .bool false] 2] b0 (off0 + (p + k)) (byteV l[p + k]) := (hcell0 (p + k) (byteV l[p + k]) (by rw [bytesV_get, List.getElem?_eq_getElem hkl]; rfl)).mono (Fz.le_refl _) (by simp)
                    have hx : leN (((l.drop p).take n).drop k) = l[p + k].toNat + 256 * leN (((l.drop p).take n).drop (k + 1)) := by
                      rw [List.drop_eq_getElem_cons (by omega)]
                      simp only [leN, List.getElem_take, List.getElem_drop]
                    have hlt := leN_lt (((l.drop p).take n).drop (k + 1))
                    have h7 : leN (((l.drop p).take n).drop (k + 1)) < 256 ^ 7 := Nat.lt_of_lt_of_le hlt (Nat.pow_le_pow_right (by decide) (by simp; omega))
                    have e7 : (256 : Nat) ^ 7 = 72057594037927936 := by decide
                    have e8 : ((k + 1 : Nat) : Int) - 1 = k := by omega
                    have hb := l[p + k].toNat_lt
                    rw [e8]
                    refine r_skip ?_
                    refine r_seq ?_
                    refine r_block ?_
                    refine r_region rfl ?_
                    refine o_val rfl rfl rfl rfl (v_move rfl) ?_
                    refine o_val rfl rfl rfl rfl (v_shl rfl rfl (by decide) (r := ((leN (((l.drop p).take n).drop (k + 1)) * 256 : Nat) : Int)) (u64_shl8 _ h7)) ?_
                    refine o_val rfl rfl rfl rfl (v_move rfl) ?_
                    refine o_val rfl rfl rfl rfl (v_move rfl) ?_
                    refine o_val rfl rfl rfl rfl (v_move rfl) ?_
                    refine o_val rfl rfl rfl rfl (v_add rfl rfl (r := ((p + k : Nat) : Int)) (wrap_i64 (by omega) (by omega))) ?_
                    refine o_val rfl rfl rfl rfl (v_index1 rfl rfl rfl rfl hkl) ?_
                    refine o_val rfl rfl rfl rfl (v_load rfl rfl hc0) ?_
                    refine o_val rfl rfl rfl rfl (v_conv rfl rfl rfl (wrap_u64 (by omega) (by omega))) ?_
                    refine o_val rfl rfl rfl rfl (v_or rfl rfl (u64_or' _ _ hb h7)) ?_
                    refine o_val rfl rfl rfl rfl (v_assign rfl) ?_
                    refine o_end ?_
                    refine r_inBlock ?_
                    refine r_region rfl ?_
                    refine o_val rfl rfl rfl rfl (v_move rfl) ?_
                    refine o_val rfl rfl rfl rfl (v_sub rfl rfl (wrap_i64 (by omega) (by omega))) ?_
                    refine o_val rfl rfl rfl rfl (v_assign rfl) ?_
                    refine o_end ?_
                    rw [← hx]
                    refine j_keep ?_ (IHk k (by omega) (by omega))
                    exact ⟨rfl, rfl, rfl, rfl, rfl, rfl, rfl, rfl, rfl, trivial⟩
                  · obtain rfl : k = 0 := by omega
                    rw [List.drop_zero]
                    rw [hr] at J
                    refine r_exit rfl ?_
                    refine r_region rfl ?_
                    refine o_val rfl rfl rfl rfl (v_move rfl) ?_
                    refine o_val rfl rfl rfl rfl (v_move rfl) ?_
                    refine o_val rfl rfl rfl rfl (v_add rfl rfl (r := ((p + n : Nat) : Int)) (wrap_i64 (by omega) (by omega))) ?_
                    refine o_val rfl rfl rfl rfl (v_assign rfl) ?_
                    refine o_end ?_
                    have hlt := leN_lt ((l.drop p).take n)
                    have h7 : leN ((l.drop p).take n) < 256 ^ 8 := Nat.lt_of_lt_of_le hlt (Nat.pow_le_pow_right (by decide) (by omega))
                    have e8 : (256 : Nat) ^ 8 = 18446744073709551616 := by decide
                    rw [e8] at h7
                    refine j_keep ?_ (J ⟨leN ((l.drop p).take n), p + n, false⟩ ⟨h7, rfl, rfl, hpn, fun _ => by rw [List.drop_drop]⟩)
                    exact ⟨rfl, rfl, rfl, rfl, rfl, rfl, rfl, rfl, trivial⟩
            · rintro ⟨x, p2, bad2⟩ ⟨hx, hr1, hr2, hp2, hr3⟩
              dsimp only at hx hr1 hr2 hp2 hr3 ⊢
              refine r_seq ?_
              refine r_join (fun g => g.i = i ∧ RG.ok F1 l asks.length g) (fun g => [(0, .slice a0 l.length cap), (1, .slice (some ⟨b1, off1, none⟩) asks.length cap1), (5, ptrV a), (6, .int .i64 g.p), (7, .bool g.bad), (8, .int .i64 g.i)]) (fun g => g.F) (fun g => [.mem a [g.v, .bool g.bad] 2]) ?_ ?_
              · intro J
                have hrl1 := rdNum_len rem bad n
                have hx4 := rdNum_lt rem bad n
                refine r_seq ?_
                refine r_region rfl ?_
                refine o_val rfl rfl rfl rfl (v_move rfl) ?_
                refine o_val rfl rfl rfl rfl (v_move rfl) ?_
                refine o_val rfl rfl rfl rfl (v_index1 rfl rfl rfl rfl hil) ?_
                refine o_val rfl rfl rfl rfl (v_load rfl rfl (hask' _)) ?_
                refine o_val rfl rfl rfl rfl (v_rem rfl rfl (by decide) h4) ?_
                refine o_end ?_
                refine r_block ?_
                refine r_seq ?_
                refine r_region rfl ?_
                refine o_val rfl rfl rfl rfl (v_eql rfl rfl) ?_
                refine o_val rfl rfl rfl rfl (v_assign rfl) ?_
                refine o_end ?_
                refine r_if rfl (fun h5 => ?_) (fun h5 => ?_)
                · refine r_seq ?_
                  refine r_region rfl ?_
                  refine o_val rfl rfl rfl rfl (v_move rfl) ?_
                  refine o_val rfl rfl rfl rfl (v_move rfl) ?_
                  refine o_call rfl rfl rfl rfl (c_call callable17 rfl) (oct_RNum _ _ _ vr rem bad n _ hvr (by omega)) ?_
                  rintro v' F4 H' ⟨rfl, rfl, v4, hv4, rfl⟩ _
                  rw [hr1, hr2]
                  refine o_val rfl rfl rfl rfl (v_move rfl) ?_
                  refine o_val rfl rfl rfl rfl (v_neq rfl rfl) ?_
                  refine o_end ?_
                  refine j_slot 119 rfl (v' := .bool false) (by simp) ?_
                  refine r_false rfl ?_
                  refine r_skip ?_
                  refine r_inBlock ?_
                  refine j_keep ?_ (J ⟨i, p2, bad2, v4, _, F4⟩ ⟨rfl, hF3, by omega, hv4, Nat.le_trans hrl1 hrem, hp2, hr3⟩)
                  exact ⟨rfl, rfl, rfl, rfl, rfl, rfl, trivial⟩
                · refine r_seq ?_
                  refine r_region rfl ?_
                  refine o_val rfl rfl rfl rfl (v_eql rfl rfl) ?_
                  refine o_val rfl rfl rfl rfl (v_assign rfl) ?_
                  refine o_end ?_
                  refine r_if rfl (fun h6 => ?_) (fun h6 => ?_)
                  · obtain rfl : n = 4 := hn4 (.inl (by omega))
                    have hmin : min ((4 : Nat) : Int).toNat 8 = 4 := by decide
                    have e4 : (256 : Nat) ^ 4 = 4294967296 := by decide
                    rw [hmin, e4] at hx4
                    have e44 : ((4 : Nat) : Int) = 4 := rfl
                    rw [e44] at hr1 hr2 hr3 hrl1 hx4
                    have hrd : rdBytes rem bad q = if bad2 = true ∨ (q : Int) < 0 ∨ (q : Int) < x ∨ (rdNum rem bad 4).2.1.length < x then ([], (rdNum rem bad 4).2.1, true) else ((rdNum rem bad 4).2.1.take x, (rdNum rem bad 4).2.1.drop x, false) := by
                      unfold rdBytes
                      rw [hr1, hr2]
                    rw [hr1] at hx4
                    refine r_seq ?_
                    refine r_region rfl ?_
                    refine o_val rfl rfl rfl rfl (v_move rfl) ?_
                    refine o_val rfl rfl rfl rfl (v_move rfl) ?_
                    refine o_val rfl rfl rfl rfl (v_index1 rfl rfl rfl rfl hil) ?_
                    refine o_val rfl rfl rfl rfl (v_load rfl rfl (hask' _)) ?_
                    refine o_val rfl rfl rfl rfl (v_conv rfl rfl rfl (wrap_i64 (by omega) (by omega))) ?_
                    refine o_val rfl rfl rfl rfl (v_assign rfl) ?_
                    refine o_end ?_
                    refine r_seq ?_
                    refine r_region rfl ?_
                    refine o_val rfl rfl rfl rfl (v_move rfl) ?_
                    refine o_val rfl rfl rfl rfl (v_move rfl) ?_
                    refine o_call rfl rfl rfl rfl (c_call callable18 rfl) (oct_RBytes _ _ _ vr rem bad q _ hvr (by omega) (by omega)) ?_
                    rintro v' F4 H' ⟨hF4, hgot, v4, hv4, rfl⟩ _
                    have hF14 := Fz.le_trans hF3 hF4
                    generalize (rdNum rem bad 4).2.1 = rem1 at *
                    rw [hrd] at hgot hv4 ⊢
                    cases bad2 with
                    | true =>
                      rw [if_pos (.inl rfl)] at hgot hv4 ⊢
                      obtain ⟨aq, cq, rfl, _⟩ := Sl.shape hgot
                      refine o_val rfl rfl rfl rfl (v_assign rfl) ?_
                      refine o_end ?_
                      refine r_seq ?_
                      refine r_region rfl ?_
                      refine o_val rfl rfl rfl rfl (v_move rfl) ?_
                      refine o_val rfl rfl rfl rfl (v_move rfl) ?_
                      refine o_skip rfl rfl rfl rfl ?_
                      refine o_skip rfl rfl rfl rfl ?_
                      refine o_skip rfl rfl rfl rfl ?_
                      refine o_skip rfl rfl rfl rfl ?_
                      refine o_val rfl rfl rfl rfl (v_pick1 rfl rfl) ?_
                      refine o_val rfl rfl rfl rfl (v_move rfl) ?_
                      refine o_skip rfl rfl rfl rfl ?_
                      refine o_skip rfl rfl rfl rfl ?_
                      refine o_skip rfl rfl rfl rfl ?_
                      refine o_skip rfl rfl rfl rfl ?_
                      refine o_skip rfl rfl rfl rfl ?_
                      refine o_skip rfl rfl rfl rfl ?_
                      refine o_skip rfl rfl rfl rfl ?_
                      refine o_val rfl rfl rfl rfl (v_pick1 rfl rfl) ?_
                      refine o_end ?_
                      refine r_true rfl ?_
                      refine r_seq ?_
                      refine r_region rfl ?_
                      refine o_val rfl rfl rfl rfl (v_assign rfl) ?_
                      refine o_end ?_
                      refine r_seq ?_
                      refine r_region rfl ?_
                      refine o_val rfl rfl rfl rfl (v_move rfl) ?_
                      refine o_val rfl rfl rfl rfl (v_len rfl rfl) ?_
                      refine o_val rfl rfl rfl rfl (v_neq rfl rfl) ?_
                      refine o_end ?_
                      refine j_slot 148 rfl (v' := .bool false) rfl ?_
                      refine r_false rfl ?_
                      refine r_skip ?_
                      refine r_inBlock ?_
                      refine j_keep ?_ (J ⟨i, p2, true, v4, rem1, F4⟩ ⟨rfl, hF14, by omega, hv4, (by dsimp only; omega), hp2, fun h => by cases h⟩)
                      exact ⟨rfl, rfl, rfl, rfl, rfl, rfl, trivial⟩
                    | false =>
                      obtain rfl := hr3 rfl
                      have hrl : (l.drop p2).length = l.length - p2 := by simp
                      refine o_val rfl rfl rfl rfl (v_assign rfl) ?_
                      refine o_end ?_
                      refine r_seq ?_
                      refine r_region rfl ?_
                      refine o_val rfl rfl rfl rfl (v_move rfl) ?_
                      refine o_val rfl rfl rfl rfl (v_move rfl) ?_
                      refine o_val rfl rfl rfl rfl (v_move rfl) ?_
                      refine o_val rfl rfl rfl rfl (v_move rfl) ?_
                      refine o_val rfl rfl rfl rfl (v_conv rfl rfl rfl (wrap_u64 (by omega) (by omega))) ?_
                      refine o_val rfl rfl rfl rfl (v_gtr rfl rfl) ?_
                      refine o_val rfl rfl rfl rfl (v_pick0 rfl rfl) ?_
                      refine o_val rfl rfl rfl rfl (v_move rfl) ?_
                      refine j_prop 137 rfl (fun h7 => ?_) (fun h7 => ?_)
                      · rw [if_pos (.inr (.inr (.inl h7)))] at hgot hv4 ⊢
                        obtain ⟨aq, cq, rfl, _⟩ := Sl.shape hgot
                        refine o_skip rfl rfl rfl rfl ?_
                        refine o_skip rfl rfl rfl rfl ?_
                        refine o_skip rfl rfl rfl rfl ?_
                        refine o_skip rfl rfl rfl rfl ?_
                        refine o_skip rfl rfl rfl rfl ?_
                        refine o_skip rfl rfl rfl rfl ?_
                        refine o_skip rfl rfl rfl rfl ?_
                        refine o_val rfl rfl rfl rfl (v_pick1 rfl rfl) ?_
                        refine o_end ?_
                        refine r_true rfl ?_
                        refine r_seq ?_
                        refine r_region rfl ?_
                        refine o_val rfl rfl rfl rfl (v_assign rfl) ?_
                        refine o_end ?_
                        refine r_seq ?_
                        refine r_region rfl ?_
                        refine o_val rfl rfl rfl rfl (v_move rfl) ?_
                        refine o_val rfl rfl rfl rfl (v_len rfl rfl) ?_
                        refine o_val rfl rfl rfl rfl (v_neq rfl rfl) ?_
                        refine o_end ?_
                        refine j_slot 148 rfl (v' := .bool false) rfl ?_
                        refine r_false rfl ?_
                        refine r_skip ?_
                        refine r_inBlock ?_
                        refine j_keep ?_ (J ⟨i, p2, true, v4, l.drop p2, F4⟩ ⟨rfl, hF14, by omega, hv4, (by dsimp only; omega), hp2, fun h => by cases h⟩)
                        exact ⟨rfl, rfl, rfl, rfl, rfl, rfl, trivial⟩
                      · refine o_val rfl rfl rfl rfl (v_move rfl) ?_
                        refine o_val rfl rfl rfl rfl (v_move rfl) ?_
                        refine o_val rfl rfl rfl rfl (v_len rfl rfl) ?_
                        refine o_val rfl rfl rfl rfl (v_move rfl) ?_
                        refine o_val rfl rfl rfl rfl (v_sub rfl rfl (wrap_i64 (by omega) (by omega))) ?_
                        refine o_val rfl rfl rfl rfl (v_conv rfl rfl rfl (wrap_u64 (by omega) (by omega))) ?_
                        refine o_val rfl rfl rfl rfl (v_gtr rfl rfl) ?_
                        refine o_val rfl rfl rfl rfl (v_pick0 rfl rfl) ?_
                        refine o_end ?_
                        refine r_if rfl (fun h8 => ?_) (fun h8 => ?_)
                        · rw [if_pos (.inr (.inr (.inr (by omega))))] at hgot hv4 ⊢
                          obtain ⟨aq, cq, rfl, _⟩ := Sl.shape hgot
                          refine r_seq ?_
                          refine r_region rfl ?_
                          refine o_val rfl rfl rfl rfl (v_assign rfl) ?_
                          refine o_end ?_
                          refine r_seq ?_
                          refine r_region rfl ?_
                          refine o_val rfl rfl rfl rfl (v_move rfl) ?_
                          refine o_val rfl rfl rfl rfl (v_len rfl rfl) ?_
                          refine o_val rfl rfl rfl rfl (v_neq rfl rfl) ?_
                          refine o_end ?_
                          refine j_slot 148 rfl (v' := .bool false) rfl ?_
                          refine r_false rfl ?_
                          refine r_skip ?_
                          refine r_inBlock ?_
                          refine j_keep ?_ (J ⟨i, p2, true, v4, l.drop p2, F4⟩ ⟨rfl, hF14, by omega, hv4, (by dsimp only; omega), hp2, fun h => by cases h⟩)
                          exact ⟨rfl, rfl, rfl, rfl, rfl, rfl, trivial⟩
                        · rw [if_neg (by rintro (h | h | h | h); · cases h
                                         · omega
                                         · omega
                                         · omega)] at hgot hv4 ⊢
                          have hmid : SlB F4 [] (Go.sliced a0 p2 (p2 + x) cap 1) ((l.drop p2).take x) := by
                            have := SlB.mid (hv.frz (H := []) (Fz.le_trans hF1 hF14)) (k := p2) (m := p2 + x) (by omega) (by omega)
                            rw [Nat.add_sub_cancel_left] at this
                            exact this
                          refine r_seq ?_
                          refine r_seq ?_
                          refine d_region rfl ([]) ?_
                          refine d_take (i := 0) rfl rfl rfl (by decide +kernel) (by decide +kernel) (by decide +kernel) (Fz.le_refl _) (by simp) rfl (v_move rfl) ?_
                          refine d_take (i := 1) rfl rfl rfl (by decide +kernel) (by decide +kernel) (by decide +kernel) (Fz.le_refl _) (by simp) rfl (v_bytesString rfl rfl rfl rfl (l := (l.drop p2).take x) hgot) ?_
                          refine d_take (i := 2) rfl rfl rfl (by decide +kernel) (by decide +kernel) (by decide +kernel) (Fz.le_refl _) (by simp) rfl (v_move rfl) ?_
                          refine d_take (i := 3) rfl rfl rfl (by decide +kernel) (by decide +kernel) (by decide +kernel) (Fz.le_refl _) (by simp) rfl (v_move rfl) ?_
                          refine d_take (i := 4) rfl rfl rfl (by decide +kernel) (by decide +kernel) (by decide +kernel) (Fz.le_refl _) (by simp) rfl (v_move rfl) ?_
                          refine d_take (i := 5) rfl rfl rfl (by decide +kernel) (by decide +kernel) (by decide +kernel) (Fz.le_refl _) (by simp) rfl (v_move rfl) ?_
                          refine d_take (i := 6) rfl rfl rfl (by decide +kernel) (by decide +kernel) (by decide +kernel) (Fz.le_refl _) (by simp) rfl (v_conv rfl rfl rfl (wrap_i64 (by omega) (by omega))) ?_
                          refine d_take (i := 7) rfl rfl rfl (by decide +kernel) (by decide +kernel) (by decide +kernel) (Fz.le_refl _) (by simp) rfl (v_add rfl rfl (r := ((p2 + x : Nat) : Int)) (wrap_i64 (by omega) (by omega))) ?_
                          refine d_take (i := 8) rfl rfl rfl (by decide +kernel) (by decide +kernel) (by decide +kernel) (Fz.le_refl _) (by simp) rfl (v_slice2 (sz := 1) rfl rfl rfl rfl rfl rfl rfl (by omega) (by omega)) ?_
                          refine d_take (i := 9) rfl rfl rfl (by decide +kernel) (by decide +kernel) (by decide +kernel) (Fz.le_refl _) (by simp) rfl (v_bytesString rfl rfl rfl rfl (l := (l.drop p2).take x) hmid) ?_
                          refine d_take (i := 10) rfl rfl rfl (by decide +kernel) (by decide +kernel) (by decide +kernel) (Fz.le_refl _) (by simp) rfl (v_sneq rfl rfl) ?_
                          refine d_end (by decide +kernel) ?_
                          refine j_slot 159 rfl (v' := .bool false) (by simp) ?_
                          refine r_false rfl ?_
                          refine r_skip ?_
                          refine r_region rfl ?_
                          refine o_val rfl rfl rfl rfl (v_move rfl) ?_
                          refine o_val rfl rfl rfl rfl (v_move rfl) ?_
                          refine o_val rfl rfl rfl rfl (v_conv rfl rfl rfl (wrap_i64 (by omega) (by omega))) ?_
                          refine o_val rfl rfl rfl rfl (v_add rfl rfl (r := ((p2 + x : Nat) : Int)) (wrap_i64 (by omega) (by omega))) ?_
                          refine o_val rfl rfl rfl rfl (v_assign rfl) ?_
                          refine o_end ?_
                          refine r_inBlock ?_
                          refine j_keep ?_ (J ⟨i, p2 + x, false, v4, (l.drop p2).drop x, F4⟩ ⟨rfl, hF14, by omega, hv4, (by simp), (by dsimp only; omega), fun h => by rw [List.drop_drop]⟩)
                          exact ⟨rfl, rfl, rfl, rfl, rfl, rfl, trivial⟩
                  · refine r_seq ?_
                    refine r_region rfl ?_
                    refine o_val rfl rfl rfl rfl (v_eql rfl rfl) ?_
                    refine o_val rfl rfl rfl rfl (v_assign rfl) ?_
                    refine o_end ?_
                    refine r_if rfl (fun h7 => ?_) (fun h7 => ?_)
                    · obtain rfl : n = 1 := hn2 (by omega)
                      have e1 : ((1 : Nat) : Int) = 1 := rfl
                      rw [e1] at hr1 hr2 hr3 hrl1 hx4
                      have hrd : rdFlag rem bad = if 1 < x then (false, (rdNum rem bad 1).2.1, true) else (decide (x = 1), (rdNum rem bad 1).2.1, bad2) := by
                        unfold rdFlag
                        rw [hr1, hr2]
                      have hx0 : bad2 = true → x = 0 := fun h => by
                        rw [← hr1]
                        unfold rdNum at hr2 ⊢
                        split at hr2
                        · rw [if_pos (by assumption)]
                        · rw [← hr2] at h; cases h
                      refine r_seq ?_
                      refine r_region rfl ?_
                      refine o_val rfl rfl rfl rfl (v_move rfl) ?_
                      refine o_call rfl rfl rfl rfl (c_call callable19 rfl) (oct_RFlag _ _ _ vr rem bad _ hvr (by omega)) ?_
                      rintro v' F4 H' ⟨rfl, rfl, v4, hv4, rfl⟩ _
                      generalize (rdNum rem bad 1).2.1 = rem1 at *
                      rw [hrd] at hv4 ⊢
                      cases bad2 with
                      | true =>
                        obtain rfl := hx0 rfl
                        rw [if_neg (by omega)] at hv4 ⊢
                        refine o_val rfl rfl rfl rfl (v_assign rfl) ?_
                        refine o_end ?_
                        refine r_seq ?_
                        refine r_region rfl ?_
                        refine o_val rfl rfl rfl rfl (v_move rfl) ?_
                        refine o_val rfl rfl rfl rfl (v_move rfl) ?_
                        refine o_skip rfl rfl rfl rfl ?_
                        refine o_skip rfl rfl rfl rfl ?_
                        refine o_val rfl rfl rfl rfl (v_pick1 rfl rfl) ?_
                        refine o_end ?_
                        refine r_true rfl ?_
                        refine j_slot 14 rfl (v' := .bool false) rfl ?_
                        refine r_seq ?_
                        refine r_region rfl ?_
                        refine o_val rfl rfl rfl rfl (v_assign rfl) ?_
                        refine o_end ?_
                        refine r_seq ?_
                        refine r_region rfl ?_
                        refine o_val rfl rfl rfl rfl (v_move rfl) ?_
                        refine o_end ?_
                        refine r_false rfl ?_
                        refine r_skip ?_
                        refine r_inBlock ?_
                        refine j_keep ?_ (J ⟨i, p2, true, v4, rem1, F4⟩ ⟨rfl, hF3, by omega, hv4, (by dsimp only; omega), hp2, fun h => by cases h⟩)
                        exact ⟨rfl, rfl, rfl, rfl, rfl, rfl, trivial⟩
                      | false =>
                        obtain rfl := hr3 rfl
                        refine o_val rfl rfl rfl rfl (v_assign rfl) ?_
                        refine o_end ?_
                        refine r_seq ?_
                        refine r_region rfl ?_
                        refine o_val rfl rfl rfl rfl (v_move rfl) ?_
                        refine o_val rfl rfl rfl rfl (v_move rfl) ?_
                        refine o_val rfl rfl rfl rfl (v_move rfl) ?_
                        refine o_val rfl rfl rfl rfl (v_gtr rfl rfl) ?_
                        refine o_val rfl rfl rfl rfl (v_pick0 rfl rfl) ?_
                        refine o_end ?_
                        refine r_if rfl (fun h8 => ?_) (fun h8 => ?_)
                        · rw [if_pos (by omega)] at hv4 ⊢
                          refine j_slot 14 rfl (v' := .bool false) rfl ?_
                          refine r_seq ?_
                          refine r_region rfl ?_
                          refine o_val rfl rfl rfl rfl (v_assign rfl) ?_
                          refine o_end ?_
                          refine r_seq ?_
                          refine r_region rfl ?_
                          refine o_val rfl rfl rfl rfl (v_move rfl) ?_
                          refine o_end ?_
                          refine r_false rfl ?_
                          refine r_skip ?_
                          refine r_inBlock ?_
                          refine j_keep ?_ (J ⟨i, p2, true, v4, l.drop p2, F4⟩ ⟨rfl, hF3, by omega, hv4, (by dsimp only; omega), hp2, fun h => by cases h⟩)
                          exact ⟨rfl, rfl, rfl, rfl, rfl, rfl, trivial⟩
                        · rw [if_neg (by omega)] at hv4 ⊢
                          refine r_seq ?_
                          refine r_region rfl ?_
                          refine o_val rfl rfl rfl rfl (v_move rfl) ?_
                          refine o_val rfl rfl rfl rfl (v_move rfl) ?_
                          refine o_val rfl rfl rfl rfl (v_eql rfl rfl) ?_
                          refine o_val rfl rfl rfl rfl (v_bneq rfl rfl rfl) ?_
                          refine o_end ?_
                          have hxi : ((x : Int) = 1) ↔ x = 1 := by omega
                          refine j_slot 177 rfl (v' := .bool false) (by simp only [hxi]; simp) ?_
                          refine r_false rfl ?_
                          refine r_skip ?_
                          refine r_inBlock ?_
                          refine j_keep ?_ (J ⟨i, p2, false, v4, l.drop p2, F4⟩ ⟨rfl, hF3, by omega, hv4, (by dsimp only; omega), hp2, fun h => rfl⟩)
                          exact ⟨rfl, rfl, rfl, rfl, rfl, rfl, trivial⟩
                    · obtain rfl : n = 4 := hn4 (.inr (by omega))
                      have hmin : min ((4 : Nat) : Int).toNat 8 = 4 := by decide
                      have e4 : (256 : Nat) ^ 4 = 4294967296 := by decide
                      rw [hmin, e4] at hx4
                      have e44 : ((4 : Nat) : Int) = 4 := rfl
                      rw [e44] at hr1 hr2 hr3 hrl1 hx4
                      have hrd : rdCount rem bad (q * 3) = if (q * 3 : Int) < 0 ∨ (q * 3 : Int) < x then (0, (rdNum rem bad 4).2.1, true) else (x, (rdNum rem bad 4).2.1, bad2) := by
                        unfold rdCount
                        rw [hr1, hr2]
                      have hx0 : bad2 = true → x = 0 := fun h => by
                        rw [← hr1]
                        unfold rdNum at hr2 ⊢
                        split at hr2
                        · rw [if_pos (by assumption)]
                        · rw [← hr2] at h; cases h
                      rw [hr1] at hx4
                      refine r_seq ?_
                      refine r_region rfl ?_
                      refine o_val rfl rfl rfl rfl (v_move rfl) ?_
                      refine o_val rfl rfl rfl rfl (v_move rfl) ?_
                      refine o_val rfl rfl rfl rfl (v_index1 rfl rfl rfl rfl hil) ?_
                      refine o_val rfl rfl rfl rfl (v_load rfl rfl (hask' _)) ?_
                      refine o_val rfl rfl rfl rfl (v_conv rfl rfl rfl (wrap_i64 (by omega) (by omega))) ?_
                      refine o_val rfl rfl rfl rfl (v_mul rfl rfl (wrap_i64 (by omega) (by omega))) ?_
                      refine o_val rfl rfl rfl rfl (v_assign rfl) ?_
                      refine o_end ?_
                      refine r_seq ?_
                      refine r_region rfl ?_
                      refine o_val rfl rfl rfl rfl (v_move rfl) ?_
                      refine o_val rfl rfl rfl rfl (v_move rfl) ?_
                      refine o_call rfl rfl rfl rfl (c_call callable20 rfl) (oct_RCount _ _ _ vr rem bad (q * 3) _ hvr (by omega) (by omega)) ?_
                      rintro v' F4 H' ⟨rfl, rfl, v4, hv4, rfl⟩ _
                      generalize (rdNum rem bad 4).2.1 = rem1 at *
                      rw [hrd] at hv4 ⊢
                      cases bad2 with
                      | true =>
                        obtain rfl := hx0 rfl
                        rw [if_neg (by omega)] at hv4 ⊢
                        refine o_val rfl rfl rfl rfl (v_assign rfl) ?_
                        refine o_end ?_
                        refine r_seq ?_
                        refine r_region rfl ?_
                        refine o_val rfl rfl rfl rfl (v_move rfl) ?_
                        refine o_val rfl rfl rfl rfl (v_move rfl) ?_
                        refine o_skip rfl rfl rfl rfl ?_
                        refine o_skip rfl rfl rfl rfl ?_
                        refine o_skip rfl rfl rfl rfl ?_
                        refine o_skip rfl rfl rfl rfl ?_
                        refine o_val rfl rfl rfl rfl (v_pick1 rfl rfl) ?_
                        refine o_end ?_
                        refine r_true rfl ?_
                        refine r_seq ?_
                        refine r_region rfl ?_
                        refine o_val rfl rfl rfl rfl (v_assign rfl) ?_
                        refine o_end ?_
                        refine r_seq ?_
                        refine r_region rfl ?_
                        refine o_val rfl rfl rfl rfl (v_move rfl) ?_
                        refine o_val rfl rfl rfl rfl (v_neq rfl rfl) ?_
                        refine o_end ?_
                        refine j_slot 108 rfl (v' := .bool false) rfl ?_
                        refine r_false rfl ?_
                        refine r_skip ?_
                        refine r_inBlock ?_
                        refine j_keep ?_ (J ⟨i, p2, true, v4, rem1, F4⟩ ⟨rfl, hF3, by omega, hv4, (by dsimp only; omega), hp2, fun h => by cases h⟩)
                        exact ⟨rfl, rfl, rfl, rfl, rfl, rfl, trivial⟩
                      | false =>
                        obtain rfl := hr3 rfl
                        refine o_val rfl rfl rfl rfl (v_assign rfl) ?_
                        refine o_end ?_
                        refine r_seq ?_
                        refine r_region rfl ?_
                        refine o_val rfl rfl rfl rfl (v_move rfl) ?_
                        refine o_val rfl rfl rfl rfl (v_move rfl) ?_
                        refine o_val rfl rfl rfl rfl (v_move rfl) ?_
                        refine o_val rfl rfl rfl rfl (v_move rfl) ?_
                        refine o_val rfl rfl rfl rfl (v_conv rfl rfl rfl (wrap_u64 (by omega) (by omega))) ?_
                        refine o_val rfl rfl rfl rfl (v_gtr rfl rfl) ?_
                        refine o_val rfl rfl rfl rfl (v_pick0 rfl rfl) ?_
                        refine o_end ?_
                        refine r_if rfl (fun h8 => ?_) (fun h8 => ?_)
                        · rw [if_pos (by omega)] at hv4 ⊢
                          refine r_seq ?_
                          refine r_region rfl ?_
                          refine o_val rfl rfl rfl rfl (v_assign rfl) ?_
                          refine o_end ?_
                          refine r_seq ?_
                          refine r_region rfl ?_
                          refine o_val rfl rfl rfl rfl (v_move rfl) ?_
                          refine o_val rfl rfl rfl rfl (v_neq rfl rfl) ?_
                          refine o_end ?_
                          refine j_slot 108 rfl (v' := .bool false) rfl ?_
                          refine r_false rfl ?_
                          refine r_skip ?_
                          refine r_inBlock ?_
                          refine j_keep ?_ (J ⟨i, p2, true, v4, l.drop p2, F4⟩ ⟨rfl, hF3, by omega, hv4, (by dsimp only; omega), hp2, fun h => by cases h⟩)
                          exact ⟨rfl, rfl, rfl, rfl, rfl, rfl, trivial⟩
                        · rw [if_neg (by omega)] at hv4 ⊢
                          refine r_seq ?_
                          refine r_region rfl ?_
                          refine o_val rfl rfl rfl rfl (v_move rfl) ?_
                          refine o_val rfl rfl rfl rfl (v_conv rfl rfl rfl (wrap_u64 (by omega) (by omega))) ?_
                          refine o_val rfl rfl rfl rfl (v_move rfl) ?_
                          refine o_val rfl rfl rfl rfl (v_neq rfl rfl) ?_
                          refine o_end ?_
                          refine j_slot 112 rfl (v' := .bool false) (by simp) ?_
                          refine r_false rfl ?_
                          refine r_skip ?_
                          refine r_inBlock ?_
                          refine j_keep ?_ (J ⟨i, p2, false, v4, l.drop p2, F4⟩ ⟨rfl, hF3, by omega, hv4, (by dsimp only; omega), hp2, fun h => rfl⟩)
                          exact ⟨rfl, rfl, rfl, rfl, rfl, rfl, trivial⟩
              · rintro ⟨i', p3, bad3, v3, rem3, F4⟩ ⟨hii, hF4, _, hv3, hrem3, hp3, hbad3⟩
                dsimp only at hii hF4 hv3 hrem3 hp3 hbad3 ⊢
                subst hii
                refine r_seq ?_
                refine r_region rfl ?_
                refine o_val rfl rfl rfl rfl (v_move rfl) ?_
                refine o_call rfl rfl rfl rfl (c_call callable21 rfl) (oct_RBad _ _ _ _ _ _) ?_
                rintro v' F5 H' ⟨rfl, rfl, rfl⟩ _
                refine o_val rfl rfl rfl rfl (v_move rfl) ?_
                refine o_val rfl rfl rfl rfl (v_bneq rfl rfl rfl) ?_
                refine o_end ?_
                refine j_slot 181 rfl (v' := .bool false) (by simp) ?_
                refine r_false rfl ?_
                refine r_skip ?_
                refine r_inBlock ?_
                refine r_region rfl ?_
                refine o_val rfl rfl rfl rfl (v_move rfl) ?_
                refine o_val rfl rfl rfl rfl (v_add rfl rfl (wrap_i64 (by omega) (by omega))) ?_
                refine o_val rfl rfl rfl rfl (v_assign rfl) ?_
                refine o_end ?_
                refine j_keep ?_ (IH ⟨i' + 1, p3, bad3, v3, rem3, F5⟩ ⟨hF4, hil, hv3, hrem3, hp3, hbad3⟩ (by dsimp only; omega))
                exact ⟨rfl, rfl, rfl, rfl, rfl, rfl, trivial⟩
      · refine r_exit rfl ?_
        refine r_seq ?_
        refine r_region rfl ?_
        refine o_val rfl rfl rfl rfl (v_move rfl) ?_
        refine o_val rfl rfl rfl rfl (v_len rfl rfl) ?_
        refine o_val rfl rfl rfl rfl (v_move rfl) ?_
        refine o_val rfl rfl rfl rfl (v_sub rfl rfl (wrap_i64 (by omega) (by omega))) ?_
        refine o_val rfl rfl rfl rfl (v_assign rfl) ?_
        refine o_end ?_
        refine r_seq ?_
        refine r_seq ?_
        refine r_region rfl ?_
        refine o_val rfl rfl rfl rfl (v_move rfl) ?_
        refine o_end ?_
        cases bad with
        | true =>
          refine r_true rfl ?_
          refine r_region rfl ?_
          refine o_val rfl rfl rfl rfl (v_assign rfl) ?_
          refine o_end ?_
          refine r_seq ?_
          refine r_region rfl ?_
          refine o_val rfl rfl rfl rfl (v_move rfl) ?_
          refine o_call rfl rfl rfl rfl (c_call callable22 rfl) (oct_RLeft _ _ _ vr rem true _ hvr) ?_
          rintro v' F4 H' ⟨rfl, rfl, rfl⟩ _
          rw [if_pos rfl]
          refine o_val rfl rfl rfl rfl (v_move rfl) ?_
          refine o_val rfl rfl rfl rfl (v_eql rfl rfl) ?_
          refine j_slot 190 rfl (v' := .bool true) rfl ?_
          refine o_val rfl rfl rfl rfl (v_move rfl) ?_
          refine o_val rfl rfl rfl rfl (v_move rfl) ?_
          refine o_call rfl rfl rfl rfl (c_call callable23 rfl) (oct_REnd _ _ _ vr rem true _ hvr) ?_
          rintro v' F4 H' ⟨rfl, rfl, rfl⟩ _
          refine j_slot 193 rfl (v' := .bool false) rfl ?_
          refine o_val rfl rfl rfl rfl (v_move rfl) ?_
          refine o_val rfl rfl rfl rfl (v_not rfl) ?_
          refine o_val rfl rfl rfl rfl (v_move rfl) ?_
          refine o_skip rfl rfl rfl rfl ?_
          refine o_skip rfl rfl rfl rfl ?_
          refine o_val rfl rfl rfl rfl (v_pick0 rfl rfl) ?_
          refine o_val rfl rfl rfl rfl (v_beql rfl rfl rfl) ?_
          refine o_val rfl rfl rfl rfl (v_pick1 rfl rfl) ?_
          refine o_val rfl rfl rfl rfl (v_assign rfl) ?_
          refine o_end ?_
          refine r_ret1 Try.func6 rfl rfl ⟨rfl, hF03⟩
        | false =>
          obtain rfl := hbad rfl
          have hrl : (l.drop p).length = l.length - p := by simp
          refine r_false rfl ?_
          refine r_skip ?_
          refine r_seq ?_
          refine r_region rfl ?_
          refine o_val rfl rfl rfl rfl (v_move rfl) ?_
          refine o_call rfl rfl rfl rfl (c_call callable22 rfl) (oct_RLeft _ _ _ vr (l.drop p) false _ hvr) ?_
          rintro v' F4 H' ⟨rfl, rfl, rfl⟩ _
          refine o_val rfl rfl rfl rfl (v_move rfl) ?_
          refine o_val rfl rfl rfl rfl (v_eql rfl rfl) ?_
          refine j_slot 190 rfl (v' := .bool true) (by rw [if_neg (by decide)]; exact dec_true (by omega)) ?_
          refine o_val rfl rfl rfl rfl (v_move rfl) ?_
          refine o_val rfl rfl rfl rfl (v_move rfl) ?_
          refine o_call rfl rfl rfl rfl (c_call callable23 rfl) (oct_REnd _ _ _ vr (l.drop p) false _ hvr) ?_
          rintro v' F4 H' ⟨rfl, rfl, rfl⟩ _
          refine o_val rfl rfl rfl rfl (v_move rfl) ?_
          refine o_val rfl rfl rfl rfl (v_not rfl) ?_
          refine o_val rfl rfl rfl rfl (v_move rfl) ?_
          refine o_val rfl rfl rfl rfl (v_move rfl) ?_
          refine o_val rfl rfl rfl rfl (v_eql rfl rfl) ?_
          refine o_val rfl rfl rfl rfl (v_pick1 rfl rfl) ?_
          refine o_val rfl rfl rfl rfl (v_beql rfl rfl rfl) ?_
          refine o_val rfl rfl rfl rfl (v_pick1 rfl rfl) ?_
          refine o_val rfl rfl rfl rfl (v_assign rfl) ?_
          refine o_end ?_
          refine r_ret1 Try.func6 rfl rfl ⟨?_, hF03⟩
          have he : l.drop p = [] ↔ (l.length : Int) - p = 0 := by
            rw [List.drop_eq_nil_iff]
            omega
          rw [decide_eq_decide.2 he]
          exact dec_true rfl

theorem in_OctetReads (W : World) (v : Value) (zs : List Int) (h : InInts .u8 W v zs) (hn : zs.length * 1 ≤ 140737488351232) (u : Value) (ys : List Int) (hu : InInts .u8 W u ys) (hm : ys.length * 1 ≤ 140737488351232) :
    Calls Try.prog 6 #[v, u] W fun e w' => e = .returned (.bool true) ∧ Go.RowKit.Below W.heap.size W w' := by
  obtain ⟨l, hl, hv⟩ := inBytes h
  obtain ⟨m, hm, hu⟩ := inBytes hu
  exact below_of_does (law_OctetReads _ _ _ _ l m hv hu (by omega))
end Go.SX
