/-
  Chapter 06: the laws QueueSizes, QueueLong, QueueErrs.
-/
import Derived.Test.YtkckfmbecbleaaaL06a
namespace Go.SX
open Go Go.Proofs
set_option linter.unusedSimpArgs false
set_option linter.unusedVariables false

set_option maxHeartbeats 1000000 in
set_option maxRecDepth 4000 in
theorem law_QueueErrs (O : World) (F : Fz) (size depth : Int) (v : Value) (p : List UInt8) (hv : SlB F [] v p) :
    Does Try.prog O 6 #[.int .i64 size, .int .i64 depth, v] F [] (fun r _ _ => r = .bool true) := by
  obtain ⟨a0, cap, rfl, hcap⟩ := Sl.shape hv
  refine does_of_run (args := [_, _, _]) Try.func6 rfl rfl ?_
  refine r_seq ?_
  refine r_region rfl ?_
  refine o_val rfl rfl rfl rfl (v_assign rfl) ?_
  refine o_end ?_
  refine r_seq ?_
  refine r_seq ?_
  refine r_region rfl ?_
  refine o_call rfl rfl rfl rfl (c_call callable7 rfl) (law6_awake _ _ _) ?_
  rintro v' F1 H' ⟨rfl, rfl⟩ hF1
  refine o_val rfl rfl rfl rfl (v_not rfl) ?_
  refine o_val rfl rfl rfl rfl (v_move rfl) ?_
  refine o_val rfl rfl rfl rfl (v_move rfl) ?_
  refine o_val rfl rfl rfl rfl (v_len rfl rfl) ?_
  refine o_val rfl rfl rfl rfl (v_gtr rfl rfl) ?_
  refine o_val rfl rfl rfl rfl (v_pick0 rfl rfl) ?_
  refine o_end ?_
  refine r_if rfl (fun h => ?_) (fun h => ?_)
  · refine r_seq ?_
    refine r_region rfl ?_
    refine o_call rfl rfl rfl rfl (c_call callable7 rfl) (law6_awake _ _ _) ?_
    rintro v' F2 H' ⟨rfl, rfl⟩ hF2
    refine o_val rfl rfl rfl rfl (v_assign rfl) ?_
    refine o_end ?_
    exact r_ret1 Try.func6 rfl rfl ⟨rfl, Fz.le_trans hF1 hF2⟩
  · refine r_skip ?_
    refine r_seq ?_
    refine r_region rfl ?_
    refine o_val rfl rfl rfl rfl (v_move rfl) ?_
    refine o_val rfl rfl rfl rfl (v_move rfl) ?_
    refine o_call rfl rfl rfl rfl (c_call callable8 rfl) (q_New _ _ size depth 0 _) ?_
    rintro v' F1 H' ⟨rfl, hnew⟩ _
    obtain ⟨pq, en, hpe⟩ : ∃ (pq : Option Addr) (en : Int), v' = .tuple #[.pointer pq, .int .i64 en] ∧ ((qBad size depth ∧ pq = none ∧ en = 1) ∨ (¬ qBad size depth ∧ ∃ a, pq = some a ∧ en = 0)) := by
      rcases hnew with ⟨hb, rfl, _⟩ | ⟨hb, q, rfl, _⟩
      · exact ⟨none, 1, rfl, .inl ⟨hb, rfl, rfl⟩⟩
      · exact ⟨_, 0, rfl, .inr ⟨hb, _, rfl, rfl⟩⟩
    obtain ⟨rfl, hpe⟩ := hpe
    refine j_drop (H' := []) (List.nil_sublist _) ?_
    refine o_val rfl rfl rfl rfl (v_move rfl) ?_
    refine o_val rfl rfl rfl rfl (v_extract rfl rfl) ?_
    refine o_val rfl rfl rfl rfl (v_extract rfl rfl) ?_
    refine o_val rfl rfl rfl rfl (v_assign rfl) ?_
    refine o_val rfl rfl rfl rfl (v_assign rfl) ?_
    refine o_end ?_
    refine r_seq ?_
    refine r_join (fun _ : Unit => True) (fun _ => [(2, .slice a0 p.length cap), (7, .pointer pq), (8, .int .i64 en), (9, .bool (decide (¬ qBad size depth)))]) (fun _ => F1) (fun _ => []) ?_ ?_
    · intro J
      refine r_region rfl ?_
      refine o_val rfl rfl rfl rfl (v_move rfl) ?_
      refine o_val rfl rfl rfl rfl (v_geq rfl rfl) ?_
      refine j_prop 26 rfl (fun h1 => ?_) (fun h1 => ?_)
      · refine o_val rfl rfl rfl rfl (v_move rfl) ?_
        refine o_val rfl rfl rfl rfl (v_move rfl) ?_
        refine o_val rfl rfl rfl rfl (v_leq rfl rfl) ?_
        refine o_val rfl rfl rfl rfl (v_pick1 rfl rfl) ?_
        refine j_prop 30 rfl (fun h2 => ?_) (fun h2 => ?_)
        · refine o_val rfl rfl rfl rfl (v_move rfl) ?_
          refine o_val rfl rfl rfl rfl (v_move rfl) ?_
          refine o_val rfl rfl rfl rfl (v_geq rfl rfl) ?_
          refine o_val rfl rfl rfl rfl (v_pick1 rfl rfl) ?_
          refine j_prop 34 rfl (fun h3 => ?_) (fun h3 => ?_)
          · refine o_val rfl rfl rfl rfl (v_move rfl) ?_
            refine o_val rfl rfl rfl rfl (v_move rfl) ?_
            refine o_val rfl rfl rfl rfl (v_leq rfl rfl) ?_
            refine o_val rfl rfl rfl rfl (v_pick1 rfl rfl) ?_
            refine o_val rfl rfl rfl rfl (v_assign rfl) ?_
            refine o_end ?_
            have e6 : depth ≤ 65536 ↔ ¬ qBad size depth := by unfold qBad; omega
            refine j_slot 9 rfl (v' := .bool (decide (¬ qBad size depth))) (by congr 1; exact decide_eq_decide.2 e6) ?_
            refine j_keep ?_ (J () trivial)
            exact ⟨rfl, rfl, rfl, rfl, trivial⟩
          · refine o_val rfl rfl rfl rfl (v_move rfl) ?_
            refine o_skip rfl rfl rfl rfl ?_
            refine o_skip rfl rfl rfl rfl ?_
            refine o_val rfl rfl rfl rfl (v_pick0 rfl rfl) ?_
            refine o_val rfl rfl rfl rfl (v_assign rfl) ?_
            refine o_end ?_
            refine j_slot 9 rfl (v' := .bool (decide (¬ qBad size depth))) (by rw [decide_eq_false (p := ¬ qBad size depth) (by unfold qBad; omega)]) ?_
            refine j_keep ?_ (J () trivial)
            exact ⟨rfl, rfl, rfl, rfl, trivial⟩
        · refine o_val rfl rfl rfl rfl (v_move rfl) ?_
          refine o_skip rfl rfl rfl rfl ?_
          refine o_skip rfl rfl rfl rfl ?_
          refine o_val rfl rfl rfl rfl (v_pick0 rfl rfl) ?_
          refine o_val rfl rfl rfl rfl (v_move rfl) ?_
          refine o_skip rfl rfl rfl rfl ?_
          refine o_skip rfl rfl rfl rfl ?_
          refine o_val rfl rfl rfl rfl (v_pick0 rfl rfl) ?_
          refine o_val rfl rfl rfl rfl (v_assign rfl) ?_
          refine o_end ?_
          refine j_slot 9 rfl (v' := .bool (decide (¬ qBad size depth))) (by rw [decide_eq_false (p := ¬ qBad size depth) (by unfold qBad; omega)]) ?_
          refine j_keep ?_ (J () trivial)
          exact ⟨rfl, rfl, rfl, rfl, trivial⟩
      · refine o_val rfl rfl rfl rfl (v_move rfl) ?_
        refine o_skip rfl rfl rfl rfl ?_
        refine o_skip rfl rfl rfl rfl ?_
        refine o_val rfl rfl rfl rfl (v_pick0 rfl rfl) ?_
        refine o_val rfl rfl rfl rfl (v_move rfl) ?_
        refine o_skip rfl rfl rfl rfl ?_
        refine o_skip rfl rfl rfl rfl ?_
        refine o_val rfl rfl rfl rfl (v_pick0 rfl rfl) ?_
        refine o_val rfl rfl rfl rfl (v_move rfl) ?_
        refine o_skip rfl rfl rfl rfl ?_
        refine o_skip rfl rfl rfl rfl ?_
        refine o_val rfl rfl rfl rfl (v_pick0 rfl rfl) ?_
        refine o_val rfl rfl rfl rfl (v_assign rfl) ?_
        refine o_end ?_
        refine j_slot 9 rfl (v' := .bool (decide (¬ qBad size depth))) (by rw [decide_eq_false (p := ¬ qBad size depth) (by unfold qBad; omega)]) ?_
        refine j_keep ?_ (J () trivial)
        exact ⟨rfl, rfl, rfl, rfl, trivial⟩
    · rintro _ _
      refine r_seq ?_
      refine r_region rfl ?_
      refine o_val rfl rfl rfl rfl (v_assign rfl) ?_
      refine o_end ?_
      refine r_seq ?_
      refine r_region rfl ?_
      refine o_val rfl rfl rfl rfl (v_move rfl) ?_
      refine o_call rfl rfl rfl rfl (c_call callable14 rfl) (q_Clear0 _ _ _) ?_
      rintro v' F1 H' ⟨rfl, rfl, rfl⟩ _
      rcases hpe with ⟨hb, rfl, rfl⟩ | ⟨hb, ⟨a, rfl, rfl⟩⟩
      · rw [decide_eq_false (p := ¬ qBad size depth) (fun h => h hb)]
        refine o_end ?_
        refine r_seq ?_
        refine r_region rfl ?_
        refine o_val rfl rfl rfl rfl (v_move rfl) ?_
        refine o_val rfl rfl rfl rfl (v_move rfl) ?_
        refine o_val rfl rfl rfl rfl (v_eql rfl rfl) ?_
        refine o_val rfl rfl rfl rfl (v_beql rfl rfl rfl) ?_
        refine o_val rfl rfl rfl rfl (v_move rfl) ?_
        refine o_val rfl rfl rfl rfl (v_move rfl) ?_
        refine o_val rfl rfl rfl rfl (v_pneqnil rfl rfl rfl) ?_
        refine o_val rfl rfl rfl rfl (v_move rfl) ?_
        refine o_val rfl rfl rfl rfl (v_beql rfl rfl rfl) ?_
        refine o_val rfl rfl rfl rfl (v_pick1 rfl rfl) ?_
        refine o_val rfl rfl rfl rfl (v_move rfl) ?_
        refine o_val rfl rfl rfl rfl (v_move rfl) ?_
        refine o_val rfl rfl rfl rfl (v_move rfl) ?_
        refine o_val rfl rfl rfl rfl (v_move rfl) ?_
        refine o_val rfl rfl rfl rfl (v_eql rfl rfl) ?_
        refine o_val rfl rfl rfl rfl (v_pick0 rfl rfl) ?_
        refine o_val rfl rfl rfl rfl (v_pick1 rfl rfl) ?_
        refine o_val rfl rfl rfl rfl (v_move rfl) ?_
        refine o_val rfl rfl rfl rfl (v_move rfl) ?_
        refine o_val rfl rfl rfl rfl (v_move rfl) ?_
        refine o_call rfl rfl rfl rfl (c_call callable9 rfl) (q_Put0 _ _ _ _) ?_
        rintro v' F1 H' ⟨rfl, rfl, rfl⟩ _
        refine o_val rfl rfl rfl rfl (v_eql rfl rfl) ?_
        refine o_val rfl rfl rfl rfl (v_pick1 rfl rfl) ?_
        refine o_val rfl rfl rfl rfl (v_move rfl) ?_
        refine o_val rfl rfl rfl rfl (v_move rfl) ?_
        refine o_call rfl rfl rfl rfl (c_call callable10 rfl) (q_Slot0 _ _ _) ?_
        rintro v' F1 H' ⟨rfl, rfl, rfl⟩ _
        refine o_val rfl rfl rfl rfl (v_len rfl rfl) ?_
        refine o_val rfl rfl rfl rfl (v_eql rfl rfl) ?_
        refine o_val rfl rfl rfl rfl (v_pick1 rfl rfl) ?_
        refine o_val rfl rfl rfl rfl (v_move rfl) ?_
        refine o_val rfl rfl rfl rfl (v_move rfl) ?_
        refine o_call rfl rfl rfl rfl (c_call callable11 rfl) (q_Len0 _ _ _) ?_
        rintro v' F1 H' ⟨rfl, rfl, rfl⟩ _
        refine o_val rfl rfl rfl rfl (v_eql rfl rfl) ?_
        refine o_val rfl rfl rfl rfl (v_pick1 rfl rfl) ?_
        refine o_val rfl rfl rfl rfl (v_assign rfl) ?_
        refine o_end ?_
        exact r_ret1 Try.func6 rfl rfl ⟨rfl, hF1⟩
      · skip
        rw [decide_eq_true (p := ¬ qBad size depth) hb]
        refine o_end ?_
        refine r_seq ?_
        refine r_region rfl ?_
        refine o_val rfl rfl rfl rfl (v_move rfl) ?_
        refine o_val rfl rfl rfl rfl (v_move rfl) ?_
        refine o_val rfl rfl rfl rfl (v_eql rfl rfl) ?_
        refine o_val rfl rfl rfl rfl (v_beql rfl rfl rfl) ?_
        refine o_val rfl rfl rfl rfl (v_move rfl) ?_
        refine o_val rfl rfl rfl rfl (v_move rfl) ?_
        refine o_val rfl rfl rfl rfl (v_pneqnil rfl rfl rfl) ?_
        refine o_val rfl rfl rfl rfl (v_move rfl) ?_
        refine o_val rfl rfl rfl rfl (v_beql rfl rfl rfl) ?_
        refine o_val rfl rfl rfl rfl (v_pick1 rfl rfl) ?_
        refine o_val rfl rfl rfl rfl (v_move rfl) ?_
        refine o_val rfl rfl rfl rfl (v_move rfl) ?_
        refine o_val rfl rfl rfl rfl (v_move rfl) ?_
        refine o_skip rfl rfl rfl rfl ?_
        refine o_skip rfl rfl rfl rfl ?_
        refine o_val rfl rfl rfl rfl (v_pick1 rfl rfl) ?_
        refine o_val rfl rfl rfl rfl (v_pick1 rfl rfl) ?_
        refine o_val rfl rfl rfl rfl (v_move rfl) ?_
        refine o_val rfl rfl rfl rfl (v_move rfl) ?_
        refine o_val rfl rfl rfl rfl (v_move rfl) ?_
        refine o_call rfl rfl rfl rfl (c_call callable9 rfl) (q_Put0 _ _ _ _) ?_
        rintro v' F1 H' ⟨rfl, rfl, rfl⟩ _
        refine o_val rfl rfl rfl rfl (v_eql rfl rfl) ?_
        refine o_val rfl rfl rfl rfl (v_pick1 rfl rfl) ?_
        refine o_val rfl rfl rfl rfl (v_move rfl) ?_
        refine o_val rfl rfl rfl rfl (v_move rfl) ?_
        refine o_call rfl rfl rfl rfl (c_call callable10 rfl) (q_Slot0 _ _ _) ?_
        rintro v' F1 H' ⟨rfl, rfl, rfl⟩ _
        refine o_val rfl rfl rfl rfl (v_len rfl rfl) ?_
        refine o_val rfl rfl rfl rfl (v_eql rfl rfl) ?_
        refine o_val rfl rfl rfl rfl (v_pick1 rfl rfl) ?_
        refine o_val rfl rfl rfl rfl (v_move rfl) ?_
        refine o_val rfl rfl rfl rfl (v_move rfl) ?_
        refine o_call rfl rfl rfl rfl (c_call callable11 rfl) (q_Len0 _ _ _) ?_
        rintro v' F1 H' ⟨rfl, rfl, rfl⟩ _
        refine o_val rfl rfl rfl rfl (v_eql rfl rfl) ?_
        refine o_val rfl rfl rfl rfl (v_pick1 rfl rfl) ?_
        refine o_val rfl rfl rfl rfl (v_assign rfl) ?_
        refine o_end ?_
        exact r_ret1 Try.func6 rfl rfl ⟨rfl, hF1⟩

theorem parts_long : partsN 64 1048576 = 23302 := by
  have h : (1048576 + (64 - 19) - 1) / (64 - 19) = 23302 := by decide
  unfold partsN
  rw [h]
  rfl

set_option maxHeartbeats 1000000 in
theorem law_QueueLong (O : World) (F : Fz) (n : Nat) (hn : n < 256) : Does Try.prog O 4 #[.int .u8 n] F [] (fun r _ _ => r = .bool true) := by
  have hm3 : (n : Int).tmod 3 = ((n % 3 : Nat) : Int) := rfl
  refine does_of_run (args := [_]) Try.func4 rfl rfl ?_
  refine r_seq ?_
  refine r_region rfl ?_
  refine o_val rfl rfl rfl rfl (v_assign rfl) ?_
  refine o_end ?_
  refine r_seq ?_
  refine r_region rfl ?_
  refine o_call rfl rfl rfl rfl (c_call callable8 rfl) (q_New _ _ 64 65536 9 _) ?_
  rintro v' F H' ⟨rfl, hnew⟩ _
  rcases hnew with ⟨hbad, _⟩ | ⟨_, q, rfl, rfl⟩
  · exact absurd hbad (by decide)
  · obtain ⟨m, hm⟩ : ∃ m, m = 1048576 + n % 3 := ⟨_, rfl⟩
    refine o_val rfl rfl rfl rfl (v_move rfl) ?_
    refine o_val rfl rfl rfl rfl (v_extract rfl rfl) ?_
    refine o_val rfl rfl rfl rfl (v_extract rfl rfl) ?_
    refine o_val rfl rfl rfl rfl (v_assign rfl) ?_
    refine o_val rfl rfl rfl rfl (v_assign rfl) ?_
    refine o_end ?_
    refine r_seq ?_
    refine r_region rfl ?_
    refine o_val rfl rfl rfl rfl (v_move rfl) ?_
    refine o_val rfl rfl rfl rfl (v_conv rfl rfl rfl (wrap_i64 (by omega) (by omega))) ?_
    refine o_val rfl rfl rfl rfl (v_rem rfl rfl (by decide) hm3) ?_
    refine o_val rfl rfl rfl rfl (v_add rfl rfl (r := (m : Int)) ((wrap_i64 (by omega) (by omega)).trans (by omega))) ?_
    refine o_act rfl rfl rfl rfl (a_make (zc := [byteV 0]) (bytes := 1) (l := m) (c := m) ⟨⟨_, _, _, rfl, rfl, rfl, rfl, rfl, rfl⟩, by decide⟩ rfl rfl rfl rfl (Nat.le_refl _) (by omega) (by omega)) ?_
    rintro v' H' ⟨b, rfl, rfl⟩
    refine j_heap (H' := (Bf.at b m).ents 1 (bytesV (List.replicate m 0)) ++ QH q 64 65536 9 .nil [] []) (by rw [zeros_bytes]; rfl) ?_
    refine j_freezeBf (n := m) (Nat.le_refl _) (by simp) fun F1 hF1 hs1 => ?_
    have hs : SlB F1 [] (.slice (some ⟨b, 0, none⟩) m m) (List.replicate m 0) := by
      unfold SlB
      rw [List.length_replicate]
      exact hs1
    have hse : splitE ((64 : Nat) : Int) (List.replicate m 0) = if 1048576 < m ∨ 65536 ≤ partsN 64 m then 6 else 0 := by
      unfold splitE
      rw [if_neg (by decide), List.length_replicate]
      rfl
    have hp0 : n % 3 = 0 → partsN 64 m = 23302 := fun h0 => by
      have hm0 : m = 1048576 := by omega
      rw [hm0]
      exact parts_long
    have hse0 : n % 3 = 0 → splitE ((64 : Nat) : Int) (List.replicate m 0) = 0 := fun h0 => by
      have := hp0 h0
      exact hse.trans (if_neg (by omega))
    have hlen : n % 3 = 0 → (splitR ((64 : Nat) : Int) 9 (List.replicate m 0)).length = 23302 := fun h0 => by
      unfold splitR splitL
      rw [if_pos (hse0 h0), List.length_map, List.length_range, List.length_replicate]
      exact hp0 h0
    have hpe : putE 64 65536 9 ([] : List Row).length (List.replicate m 0) = if n % 3 = 0 then 0 else 6 := by
      by_cases h0 : n % 3 = 0
      · unfold putE
        rw [if_neg (by rw [hse0 h0]; simp), if_neg (by rw [hlen h0]; simp), if_pos h0]
      · have hse6 : splitE ((64 : Nat) : Int) (List.replicate m 0) = 6 := hse.trans (if_pos (.inl (by omega)))
        unfold putE
        rw [if_pos (by rw [hse6]; simp), hse6, if_neg h0]
    refine o_val rfl rfl rfl rfl (v_assign rfl) ?_
    refine o_end ?_
    refine r_seq ?_
    refine r_region rfl ?_
    refine o_val rfl rfl rfl rfl (v_move rfl) ?_
    refine o_val rfl rfl rfl rfl (v_move rfl) ?_
    refine o_call rfl rfl rfl rfl (c_call callable9 rfl) (q_Put _ _ q 64 65536 9 .nil [] _ (List.replicate m 0) _ rfl hs (by simp; omega) (by decide) (by simp) (by decide) (by decide) (by simp)) ?_
    rintro v' F2 H' ⟨hF2, rfl, hput⟩ _
    rw [hpe] at hput ⊢
    by_cases h0 : n % 3 = 0
    · rw [if_pos h0] at hput ⊢
      rcases hput with ⟨hne, _⟩ | ⟨_, ns, bf, hns, hfz, hok, hnd, rfl⟩
      · exact absurd rfl hne
      · have hnl : ([] ++ ns : List Row).length = 23302 := by
          have h1 := congrArg List.length hns
          rw [hlen h0, List.length_map] at h1
          rw [List.nil_append, h1]
        refine o_val rfl rfl rfl rfl (v_assign rfl) ?_
        refine o_end ?_
        refine r_seq ?_
        refine r_seq ?_
        refine r_region rfl ?_
        refine o_call rfl rfl rfl rfl (c_call callable7 rfl) (law6_awake _ _ _) ?_
        rintro v' F3 H' ⟨rfl, rfl⟩ hF3
        refine o_val rfl rfl rfl rfl (v_not rfl) ?_
        refine o_end ?_
        refine r_false rfl ?_
        refine r_skip ?_
        refine r_seq ?_
        refine r_seq ?_
        refine r_region rfl ?_
        refine o_val rfl rfl rfl rfl (v_move rfl) ?_
        refine o_val rfl rfl rfl rfl (v_conv rfl rfl rfl (wrap_i64 (by omega) (by omega))) ?_
        refine o_val rfl rfl rfl rfl (v_rem rfl rfl (by decide) hm3) ?_
        refine o_val rfl rfl rfl rfl (v_eql rfl rfl) ?_
        refine o_end ?_
        refine r_if rfl (fun h => ?_) (fun h => ?_)
        · refine r_seq ?_
          refine r_region rfl ?_
          refine o_val rfl rfl rfl rfl (v_move rfl) ?_
          refine o_val rfl rfl rfl rfl (v_eql rfl rfl) ?_
          refine o_val rfl rfl rfl rfl (v_move rfl) ?_
          refine o_val rfl rfl rfl rfl (v_move rfl) ?_
          refine o_call rfl rfl rfl rfl (c_call callable11 rfl) (q_Len _ _ q 64 65536 _ bf _ _) ?_
          rintro v' F3 H' ⟨rfl, rfl, rfl⟩ _
          rw [hnl]
          refine o_val rfl rfl rfl rfl (v_eql rfl rfl) ?_
          refine o_val rfl rfl rfl rfl (v_pick1 rfl rfl) ?_
          refine o_val rfl rfl rfl rfl (v_assign rfl) ?_
          refine o_end ?_
          exact r_ret1 Try.func4 rfl rfl ⟨rfl, Fz.le_trans hF1 (Fz.le_trans hF2 hF3)⟩
        · omega
    · skip
      rw [if_neg h0] at hput ⊢
      rcases hput with ⟨_, rfl⟩ | ⟨hne, _⟩
      · refine o_val rfl rfl rfl rfl (v_assign rfl) ?_
        refine o_end ?_
        refine r_seq ?_
        refine r_seq ?_
        refine r_region rfl ?_
        refine o_call rfl rfl rfl rfl (c_call callable7 rfl) (law6_awake _ _ _) ?_
        rintro v' F3 H' ⟨rfl, rfl⟩ hF3
        refine o_val rfl rfl rfl rfl (v_not rfl) ?_
        refine o_end ?_
        refine r_false rfl ?_
        refine r_skip ?_
        refine r_seq ?_
        refine r_seq ?_
        refine r_region rfl ?_
        refine o_val rfl rfl rfl rfl (v_move rfl) ?_
        refine o_val rfl rfl rfl rfl (v_conv rfl rfl rfl (wrap_i64 (by omega) (by omega))) ?_
        refine o_val rfl rfl rfl rfl (v_rem rfl rfl (by decide) hm3) ?_
        refine o_val rfl rfl rfl rfl (v_eql rfl rfl) ?_
        refine o_end ?_
        refine r_if rfl (fun h => ?_) (fun h => ?_)
        · omega
        · refine r_skip ?_
          refine r_seq ?_
          refine r_region rfl ?_
          refine o_val rfl rfl rfl rfl (v_move rfl) ?_
          refine o_val rfl rfl rfl rfl (v_eql rfl rfl) ?_
          refine o_val rfl rfl rfl rfl (v_move rfl) ?_
          refine o_val rfl rfl rfl rfl (v_move rfl) ?_
          refine o_call rfl rfl rfl rfl (c_call callable11 rfl) (q_Len _ _ q 64 65536 9 .nil _ _) ?_
          rintro v' F3 H' ⟨rfl, rfl, rfl⟩ _
          refine o_val rfl rfl rfl rfl (v_eql rfl rfl) ?_
          refine o_val rfl rfl rfl rfl (v_pick1 rfl rfl) ?_
          refine o_val rfl rfl rfl rfl (v_assign rfl) ?_
          refine o_end ?_
          exact r_ret1 Try.func4 rfl rfl ⟨rfl, Fz.le_trans hF1 (Fz.le_trans hF2 hF3)⟩
      · exact absurd hne (by decide)
theorem in_QueueErrs (W : World) (s : Int) (hs : (Lit.int .i64 s).wf = true) (d : Int) (hd : (Lit.int .i64 d).wf = true) (v : Value) (z0 : List Int) (h0 : InInts .u8 W v z0) (y0 : z0.length * 1 ≤ 140737488351232) :
    Calls Try.prog 6 #[.int .i64 s, .int .i64 d, v] W fun e w' => e = .returned (.bool true) ∧ Go.RowKit.Below W.heap.size W w' := by
  obtain ⟨l0, hl0, hv⟩ := inBytes h0
  exact below_of_does (law_QueueErrs _ _ s d _ l0 hv)
theorem in_QueueLong (W : World) (n : Int) (hn : (Lit.int .u8 n).wf = true) :
    Calls Try.prog 4 #[.int .u8 n] W fun e w' => e = .returned (.bool true) ∧ Go.RowKit.Below W.heap.size W w' := by
  simp [Lit.wf, IntKind.min, IntKind.max, IntKind.signed, IntKind.bits] at hn
  obtain ⟨n, rfl⟩ := Int.eq_ofNat_of_zero_le hn.1
  exact below_of_does (law_QueueLong _ _ n (by omega))
end Go.SX
