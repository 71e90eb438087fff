/-
  Chapter 06: the law QueueSizes.
-/
import Derived.Test.YtkckfmbecbleaaaL06b

namespace Go.SX
open Go Go.Proofs
set_option linter.unusedSimpArgs false
set_option linter.unusedVariables false

structure QG where
  i : Nat
  nx : Nat
  bf : Bf
  rs : List Row
  F : Fz
structure QG.ok (F : Fz) (size : Nat) (n : Nat) (g : QG) : Prop where
  le : F.le g.F
  i : g.i ≤ n
  nx : g.nx < 18446744073709551616
  bf : g.bf.ok g.rs.length
  few : g.rs.length ≤ 100
  fz : ∀ r ∈ g.rs, SlB g.F [] r.1 r.2
  sz : ∀ r ∈ g.rs, r.2.length = size
theorem splitR_len {size next : Nat} {p : List UInt8} {l : List UInt8} (h1 : 64 ≤ size) (h : l ∈ splitR size next p) : l.length = size := by
  unfold splitR at h
  split at h
  · unfold splitL at h
    obtain ⟨i, _, rfl⟩ := List.mem_map.1 h
    have := chunk_len size i p
    exact frB_length (by simp only [Int.toNat_natCast]; omega)
  · cases h
theorem slotB_len {size : Nat} {rs : List Row} (h1 : 64 ≤ size) (h2 : size ≤ 4096) (h : ∀ r ∈ rs, r.2.length = size) : (slotB size rs).length = size := by
  match rs, h with
  | [], _ =>
    show (dummyB size).length = size
    unfold dummyB
    rw [if_neg (by omega)]
    simp [dumB]
    omega
  | x :: r, h => exact h x List.mem_cons_self

set_option maxHeartbeats 1000000 in
theorem law_QueueSizes (O : World) (F : Fz) (n : Nat) (v : Value) (ps : List Row) (slots : Nat) (hn : n < 65536) (hsl : slots < 256) (hv : Sl F [] 1 v ps.length (ps.map (·.1))) (hps : ∀ r ∈ ps, SlB F [] r.1 r.2) :
    Does Try.prog O 3 #[.int .u16 n, v, .int .u8 slots] F [] (fun r _ _ => r = .bool true) := by
  obtain ⟨a0, cap, rfl, hcap⟩ := Sl.shape hv
  have hm500 : (n : Int).tmod 500 = ((n % 500 : Nat) : Int) := rfl
  have hm40 : (slots : Int).tmod 40 = ((slots % 40 : Nat) : Int) := rfl
  refine does_of_run (args := [_, _, _]) Try.func3 rfl rfl ?_
  refine r_seq ?_
  refine r_region rfl ?_
  refine o_val rfl rfl rfl rfl (v_assign rfl) ?_
  refine o_end ?_
  refine r_seq ?_
  refine r_seq ?_
  refine r_region rfl ?_
  refine o_call rfl rfl rfl rfl (c_call callable7 rfl) (law6_awake _ _ _) ?_
  rintro v' F1 H' ⟨rfl, rfl⟩ hF1
  refine o_val rfl rfl rfl rfl (v_not rfl) ?_
  refine o_val rfl rfl rfl rfl (v_move rfl) ?_
  refine o_val rfl rfl rfl rfl (v_move rfl) ?_
  refine o_val rfl rfl rfl rfl (v_len rfl rfl) ?_
  refine o_val rfl rfl rfl rfl (v_gtr rfl rfl) ?_
  refine o_val rfl rfl rfl rfl (v_pick0 rfl rfl) ?_
  refine o_end ?_
  refine r_if rfl (fun h => ?_) (fun h => ?_)
  · refine r_seq ?_
    refine r_region rfl ?_
    refine o_call rfl rfl rfl rfl (c_call callable7 rfl) (law6_awake _ _ _) ?_
    rintro v' F2 H' ⟨rfl, rfl⟩ hF2
    refine o_val rfl rfl rfl rfl (v_assign rfl) ?_
    refine o_end ?_
    exact r_ret1 Try.func3 rfl rfl ⟨rfl, Fz.le_trans hF1 hF2⟩
  · obtain ⟨m, hm⟩ : ∃ m, m = 64 + n % 500 := ⟨_, rfl⟩
    refine r_skip ?_
    refine r_seq ?_
    refine r_region rfl ?_
    refine o_val rfl rfl rfl rfl (v_move rfl) ?_
    refine o_val rfl rfl rfl rfl (v_conv rfl rfl rfl (wrap_i64 (by omega) (by omega))) ?_
    refine o_val rfl rfl rfl rfl (v_rem rfl rfl (by decide) hm500) ?_
    refine o_val rfl rfl rfl rfl (v_add rfl rfl (r := (m : Int)) ((wrap_i64 (by omega) (by omega)).trans (by omega))) ?_
    refine o_val rfl rfl rfl rfl (v_assign rfl) ?_
    refine o_end ?_
    refine r_seq ?_
    refine r_region rfl ?_
    refine o_val rfl rfl rfl rfl (v_move rfl) ?_
    refine o_call rfl rfl rfl rfl (c_call callable8 rfl) (q_New _ _ m 100 0 _) ?_
    rintro v' F1 H' ⟨rfl, hnew⟩ _
    rcases hnew with ⟨hbad, _⟩ | ⟨_, q, rfl, rfl⟩
    · exact absurd hbad (by unfold qBad; omega)
    · refine o_val rfl rfl rfl rfl (v_move rfl) ?_
      refine o_val rfl rfl rfl rfl (v_extract rfl rfl) ?_
      refine o_val rfl rfl rfl rfl (v_extract rfl rfl) ?_
      refine o_val rfl rfl rfl rfl (v_assign rfl) ?_
      refine o_val rfl rfl rfl rfl (v_assign rfl) ?_
      refine o_end ?_
      refine r_seq ?_
      refine r_seq ?_
      refine r_region rfl ?_
      refine o_val rfl rfl rfl rfl (v_move rfl) ?_
      refine o_val rfl rfl rfl rfl (v_neq rfl rfl) ?_
      refine o_end ?_
      refine r_false rfl ?_
      refine r_skip ?_
      refine r_seq ?_
      refine r_seq ?_
      refine r_region rfl ?_
      refine o_val rfl rfl rfl rfl (v_assign rfl) ?_
      refine o_end ?_
      refine r_block ?_
      refine r_loop (QG.ok F1 m ps.length) (fun g => [(1, .slice a0 ps.length cap), (2, .int .u8 slots), (7, .int .i64 m), (8, ptrV q), (10, .int .i64 g.i)]) (fun g => g.F) (fun g => QH q m 100 g.nx g.bf g.rs []) (fun g => ps.length - g.i)
        ⟨0, 0, .nil, [], F1⟩ ⟨Fz.le_refl _, Nat.zero_le _, by dsimp only; omega, rfl, by simp, by simp, by simp⟩ ⟨rfl, rfl, rfl, rfl, rfl, trivial⟩ rfl rfl ?_
      rintro ⟨i, nx, bf, rs, F2⟩ ⟨hF2, hi, hnx, hok, hfew, hfz, hsz⟩ IH
      dsimp only at hF2 hi hnx hok hfew hfz hsz ⊢
      refine r_seq ?_
      refine r_seq ?_
      refine r_region rfl ?_
      refine o_val rfl rfl rfl rfl (v_move rfl) ?_
      refine o_val rfl rfl rfl rfl (v_move rfl) ?_
      refine o_val rfl rfl rfl rfl (v_len rfl rfl) ?_
      refine o_val rfl rfl rfl rfl (v_lss rfl rfl) ?_
      refine o_end ?_
      refine r_if rfl (fun h1 => ?_) (fun h1 => ?_)
      · have hil : i < ps.length := by omega
        obtain ⟨b0, off0, c0, hab, hc0⟩ := row_cell (hv.frz (F' := F2) (H := []) (Fz.le_trans hF1 hF2)) hil
        simp only [Value.slice.injEq] at hab
        obtain ⟨rfl, _, rfl⟩ := hab
        have hpi := (hps ps[i] (List.getElem_mem _)).frz (H := []) (Fz.le_trans hF1 hF2)
        generalize ps[i] = x at *
        obtain ⟨ax, cx, hx, _⟩ := Sl.shape hpi
        rw [hx] at hc0 hpi
        refine r_skip ?_
        refine r_seq ?_
        refine r_block ?_
        refine r_seq ?_
        refine r_seq ?_
        refine r_region rfl ?_
        refine o_val rfl rfl rfl rfl (v_move rfl) ?_
        refine o_val rfl rfl rfl rfl (v_move rfl) ?_
        refine o_val rfl rfl rfl rfl (v_index1 rfl rfl rfl rfl hil) ?_
        refine o_val rfl rfl rfl rfl (v_load rfl rfl (hc0.mono (Fz.le_refl _) (by simp))) ?_
        refine o_val rfl rfl rfl rfl (v_len rfl rfl) ?_
        refine o_val rfl rfl rfl rfl (v_gtr rfl rfl) ?_
        refine o_end ?_
        refine r_if rfl (fun h2 => ?_) (fun h2 => ?_)
        · refine r_seq ?_
          refine r_region rfl ?_
          refine o_val rfl rfl rfl rfl (v_assign rfl) ?_
          refine o_end ?_
          exact r_ret1 Try.func3 rfl rfl ⟨rfl, Fz.le_trans hF1 hF2⟩
        · refine r_skip ?_
          refine r_region rfl ?_
          refine o_val rfl rfl rfl rfl (v_move rfl) ?_
          refine o_val rfl rfl rfl rfl (v_move rfl) ?_
          refine o_val rfl rfl rfl rfl (v_move rfl) ?_
          refine o_val rfl rfl rfl rfl (v_index1 rfl rfl rfl rfl hil) ?_
          refine o_val rfl rfl rfl rfl (v_load rfl rfl (hc0.mono (Fz.le_refl _) (by simp))) ?_
          refine o_call rfl rfl rfl rfl (c_call callable9 rfl) (q_Put _ _ q m 100 nx bf rs _ x.2 _ hok hpi (by omega) (by decide) (by omega) (by omega) hnx hfz) ?_
          rintro v' F3 H' ⟨hF3, rfl, hput⟩ _
          rcases hput with ⟨_, rfl⟩ | ⟨_, ns, bf2, hns, hfn, hok2, hfew2, rfl⟩
          · skip
            refine o_end ?_
            refine r_inBlock ?_
            refine r_region rfl ?_
            refine o_val rfl rfl rfl rfl (v_move rfl) ?_
            refine o_val rfl rfl rfl rfl (v_add rfl rfl (wrap_i64 (by omega) (by omega))) ?_
            refine o_val rfl rfl rfl rfl (v_assign rfl) ?_
            refine o_end ?_
            refine j_keep ?_ (IH ⟨i + 1, nx, bf, rs, F3⟩ ⟨Fz.le_trans hF2 hF3, hil, hnx, hok, hfew, fun r hr => (hfz r hr).frz hF3, hsz⟩ (by dsimp only; omega))
            exact ⟨rfl, rfl, rfl, rfl, rfl, trivial⟩
          · skip
            refine o_end ?_
            refine r_inBlock ?_
            refine r_region rfl ?_
            refine o_val rfl rfl rfl rfl (v_move rfl) ?_
            refine o_val rfl rfl rfl rfl (v_add rfl rfl (wrap_i64 (by omega) (by omega))) ?_
            refine o_val rfl rfl rfl rfl (v_assign rfl) ?_
            refine o_end ?_
            refine j_keep ?_ (IH ⟨i + 1, (nx + 1) % 18446744073709551616, bf2, rs ++ ns, F3⟩ ⟨Fz.le_trans hF2 hF3, hil, Nat.mod_lt _ (by decide), hok2, hfew2, fun r hr => by
              rcases List.mem_append.1 hr with hr | hr
              · exact (hfz r hr).frz hF3
              · exact hfn r hr, fun r hr => by
              rcases List.mem_append.1 hr with hr | hr
              · exact hsz r hr
              · exact splitR_len (by omega) (by rw [← hns]; exact List.mem_map.2 ⟨r, hr, rfl⟩)⟩ (by dsimp only; omega))
            exact ⟨rfl, rfl, rfl, rfl, rfl, trivial⟩
      · clear IH
        refine r_exit rfl ?_
        refine r_seq ?_
        refine r_seq ?_
        refine r_region rfl ?_
        refine o_val rfl rfl rfl rfl (v_assign rfl) ?_
        refine o_end ?_
        refine r_block ?_
        refine r_loop (QG.ok F1 m 40) (fun g => [(2, .int .u8 slots), (7, .int .i64 m), (8, ptrV q), (11, .int .i64 g.i)]) (fun g => g.F) (fun g => QH q m 100 g.nx g.bf g.rs []) (fun g => 40 - g.i)
          ⟨0, nx, bf, rs, F2⟩ ⟨hF2, Nat.zero_le _, hnx, hok, hfew, hfz, hsz⟩ ⟨rfl, rfl, rfl, rfl, trivial⟩ rfl rfl ?_
        clear hF2 hi hnx hok hfew hfz hsz
        rintro ⟨j, nx, bf, rs, F3⟩ ⟨hF3, hj, hnx, hok, hfew, hfz, hsz⟩ IH
        dsimp only at hF3 hj hnx hok hfew hfz hsz ⊢
        refine r_seq ?_
        refine r_seq ?_
        refine r_region rfl ?_
        refine o_val rfl rfl rfl rfl (v_move rfl) ?_
        refine o_val rfl rfl rfl rfl (v_move rfl) ?_
        refine o_val rfl rfl rfl rfl (v_conv rfl rfl rfl (wrap_i64 (by omega) (by omega))) ?_
        refine o_val rfl rfl rfl rfl (v_rem rfl rfl (by decide) hm40) ?_
        refine o_val rfl rfl rfl rfl (v_lss rfl rfl) ?_
        refine o_end ?_
        refine r_if rfl (fun h2 => ?_) (fun h2 => ?_)
        · refine r_skip ?_
          refine r_seq ?_
          refine r_block ?_
          refine r_seq ?_
          refine r_region rfl ?_
          refine o_val rfl rfl rfl rfl (v_move rfl) ?_
          refine o_call rfl rfl rfl rfl (c_call callable10 rfl) (q_Slot _ _ q m 100 nx bf rs _ hok (by omega) hfz) ?_
          rintro v' F4 H' ⟨hF4, hs4, bf2, hok2, rfl⟩ _
          have hlen := slotB_len (size := m) (by omega) (by omega) hsz
          obtain ⟨ax, cx, rfl, _⟩ := Sl.shape hs4
          refine o_val rfl rfl rfl rfl (v_len rfl rfl) ?_
          refine o_val rfl rfl rfl rfl (v_move rfl) ?_
          refine o_val rfl rfl rfl rfl (v_neq rfl rfl) ?_
          refine o_end ?_
          refine r_if rfl (fun h3 => ?_) (fun h3 => ?_)
          · omega
          · refine r_skip ?_
            refine r_inBlock ?_
            refine r_region rfl ?_
            refine o_val rfl rfl rfl rfl (v_move rfl) ?_
            refine o_val rfl rfl rfl rfl (v_add rfl rfl (wrap_i64 (by omega) (by omega))) ?_
            refine o_val rfl rfl rfl rfl (v_assign rfl) ?_
            refine o_end ?_
            refine j_keep ?_ (IH ⟨j + 1, nx, bf2, rs.tail, F4⟩ ⟨Fz.le_trans hF3 hF4, by dsimp only; omega, hnx, hok2, by simp; omega, fun r hr => (hfz r (List.mem_of_mem_tail hr)).frz hF4, fun r hr => hsz r (List.mem_of_mem_tail hr)⟩ (by dsimp only; omega))
            exact ⟨rfl, rfl, rfl, rfl, trivial⟩
        · refine r_exit rfl ?_
          refine r_seq ?_
          refine r_region rfl ?_
          refine o_val rfl rfl rfl rfl (v_assign rfl) ?_
          refine o_end ?_
          exact r_ret1 Try.func3 rfl rfl ⟨rfl, Fz.le_trans hF1 hF3⟩
theorem in_QueueSizes (W : World) (n : Int) (hn : (Lit.int .u16 n).wf = true) (t : Value) (rs : List (Value × List UInt8)) (ht : InRows W t rs) (hr : rs.length ≤ 9223372036854775807) (s : Int) (hs : (Lit.int .u8 s).wf = true) :
    Calls Try.prog 3 #[.int .u16 n, t, .int .u8 s] W fun e w' => e = .returned (.bool true) ∧ Go.RowKit.Below W.heap.size W w' := by
  simp [Lit.wf, IntKind.min, IntKind.max, IntKind.signed, IntKind.bits] at hn hs
  obtain ⟨n, rfl⟩ := Int.eq_ofNat_of_zero_le hn.1
  obtain ⟨s, rfl⟩ := Int.eq_ofNat_of_zero_le hs.1
  exact below_of_does (law_QueueSizes _ _ n _ rs s (by omega) (by omega) ht.1 ht.2)
end Go.SX
