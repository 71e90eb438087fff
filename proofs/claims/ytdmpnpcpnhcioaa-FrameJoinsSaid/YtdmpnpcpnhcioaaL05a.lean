/-
  Chapter 05: what its laws use; the law FrameSplits.
-/
import Derived.Test.YtdmpnpcpnhcioaaFrame3
namespace Go.SX
open Go Go.Proofs
set_option maxRecDepth 4000
set_option linter.unusedSimpArgs false
set_option linter.unusedVariables false

theorem law5_same (O : World) (F : Fz) (va vb : Value) (rs qs : List (Value × List UInt8)) (H : List Ent) (ha : Sl F H 1 va rs.length (rs.map (·.1))) (hb : Sl F H 1 vb qs.length (qs.map (·.1))) (hr : ∀ r ∈ rs, SlB F [] r.1 r.2) (hq : ∀ r ∈ qs, SlB F [] r.1 r.2) (he : rs.map (·.2) = qs.map (·.2)) (hn : rs.length ≤ 9223372036854775000) :
    Does Try.prog O 11 #[va, vb] F H (fun r F' H' => r = .bool true ∧ F' = F ∧ H' = H) := by
  obtain ⟨a0, cap, rfl, hcap⟩ := Sl.shape ha
  obtain ⟨a1, cap1, rfl, hcap1⟩ := Sl.shape hb
  have hlen : rs.length = qs.length := by have := congrArg List.length he; simpa using this
  refine does_of_run (args := [_, _]) Try.func11 rfl rfl ?_
  refine r_seq ?_
  refine r_region rfl ?_
  refine o_val rfl rfl rfl rfl (v_assign rfl) ?_
  refine o_end ?_
  refine r_seq ?_
  refine r_seq ?_
  refine r_region rfl ?_
  refine o_val rfl rfl rfl rfl (v_move rfl) ?_
  refine o_val rfl rfl rfl rfl (v_len rfl rfl) ?_
  refine o_val rfl rfl rfl rfl (v_move rfl) ?_
  refine o_val rfl rfl rfl rfl (v_len rfl rfl) ?_
  refine o_val rfl rfl rfl rfl (v_neq rfl rfl) ?_
  refine o_end ?_
  refine j_slot 10 rfl (v' := .bool false) (by rw [decide_eq_false (by omega)]) ?_
  refine r_false rfl ?_
  refine r_skip ?_
  refine r_seq ?_
  refine r_seq ?_
  refine r_region rfl ?_
  refine o_val rfl rfl rfl rfl (v_assign rfl) ?_
  refine o_end ?_
  refine r_block ?_
  refine r_loop (fun i : Nat => i ≤ rs.length) (fun i => [(0, .slice a0 rs.length cap), (1, .slice a1 qs.length cap1), (5, .int .i64 i)]) (fun _ => F) (fun _ => H) (fun i => rs.length - i) 0 (Nat.zero_le _) ⟨rfl, rfl, rfl, trivial⟩ rfl rfl ?_
  intro i hi IH
  refine r_seq ?_
  refine r_seq ?_
  refine r_region rfl ?_
  refine o_val rfl rfl rfl rfl (v_move rfl) ?_
  refine o_val rfl rfl rfl rfl (v_move rfl) ?_
  refine o_val rfl rfl rfl rfl (v_len rfl rfl) ?_
  refine o_val rfl rfl rfl rfl (v_lss rfl rfl) ?_
  refine o_end ?_
  refine r_if rfl (fun h => ?_) (fun h => ?_)
  · have hil : i < rs.length := by omega
    have hiq : i < qs.length := by omega
    obtain ⟨b0, off0, c0, hab, hc0⟩ := row_cell ha hil
    simp only [Value.slice.injEq] at hab
    obtain ⟨rfl, _, rfl⟩ := hab
    obtain ⟨b1, off1, c1, hab, hc1⟩ := row_cell hb hiq
    simp only [Value.slice.injEq] at hab
    obtain ⟨rfl, _, rfl⟩ := hab
    have hr1 := hr rs[i] (List.getElem_mem _)
    have hq1 := hq qs[i] (List.getElem_mem _)
    have hee : rs[i].2 = qs[i].2 := by
      have h1 : (rs.map (·.2))[i]? = (qs.map (·.2))[i]? := by rw [he]
      rw [List.getElem?_map, List.getElem?_map, List.getElem?_eq_getElem hil, List.getElem?_eq_getElem hiq] at h1
      simpa using h1
    generalize rs[i] = x at *
    generalize qs[i] = y at *
    obtain ⟨ax, cx, hx, _⟩ := Sl.shape hr1
    obtain ⟨ay, cy, hy, _⟩ := Sl.shape hq1
    rw [hx] at hc0 hr1
    rw [hy] at hc1 hq1
    refine r_skip ?_
    refine r_seq ?_
    refine r_block ?_
    refine r_seq ?_
    refine d_region 1000000 rfl (H) ?_
    refine d_take (i := 0) rfl rfl rfl (by decide +kernel) (by decide +kernel) (by decide +kernel) (Fz.le_refl _) (fun e he => he) rfl (v_move rfl) ?_
    refine d_take (i := 1) rfl rfl rfl (by decide +kernel) (by decide +kernel) (by decide +kernel) (Fz.le_refl _) (fun e he => he) rfl (v_move rfl) ?_
    refine d_take (i := 2) rfl rfl rfl (by decide +kernel) (by decide +kernel) (by decide +kernel) (Fz.le_refl _) (fun e he => he) rfl (v_index1 rfl rfl rfl rfl hil) ?_
    refine d_take (i := 3) rfl rfl rfl (by decide +kernel) (by decide +kernel) (by decide +kernel) (Fz.le_refl _) (fun e he => he) rfl (v_load rfl rfl hc0) ?_
    refine d_take (i := 4) rfl rfl rfl (by decide +kernel) (by decide +kernel) (by decide +kernel) (Fz.le_refl _) (fun e he => he) rfl (v_bytesString rfl rfl rfl rfl (l := x.2) (hr1.frz (Fz.le_refl _))) ?_
    refine d_take (i := 5) rfl rfl rfl (by decide +kernel) (by decide +kernel) (by decide +kernel) (Fz.le_refl _) (fun e he => he) rfl (v_move rfl) ?_
    refine d_take (i := 6) rfl rfl rfl (by decide +kernel) (by decide +kernel) (by decide +kernel) (Fz.le_refl _) (fun e he => he) rfl (v_move rfl) ?_
    refine d_take (i := 7) rfl rfl rfl (by decide +kernel) (by decide +kernel) (by decide +kernel) (Fz.le_refl _) (fun e he => he) rfl (v_index1 rfl rfl rfl rfl hiq) ?_
    refine d_take (i := 8) rfl rfl rfl (by decide +kernel) (by decide +kernel) (by decide +kernel) (Fz.le_refl _) (fun e he => he) rfl (v_load rfl rfl hc1) ?_
    refine d_take (i := 9) rfl rfl rfl (by decide +kernel) (by decide +kernel) (by decide +kernel) (Fz.le_refl _) (fun e he => he) rfl (v_bytesString rfl rfl rfl rfl (l := y.2) (hq1.frz (Fz.le_refl _))) ?_
    refine d_take (i := 10) rfl rfl rfl (by decide +kernel) (by decide +kernel) (by decide +kernel) (Fz.le_refl _) (fun e he => he) rfl (v_sneq rfl rfl) ?_
    refine j_slot 27 rfl (v' := .bool false) (by rw [hee]; simp) ?_
    refine d_end (by decide +kernel) ?_
    refine r_false rfl ?_
    refine r_skip ?_
    refine r_inBlock ?_
    refine r_region rfl ?_
    refine o_val rfl rfl rfl rfl (v_move rfl) ?_
    refine o_val rfl rfl rfl rfl (v_add rfl rfl (wrap_i64 (by omega) (by omega))) ?_
    refine o_val rfl rfl rfl rfl (v_assign rfl) ?_
    refine o_end ?_
    refine j_keep ?_ (IH (i + 1) hil (by omega))
    exact ⟨rfl, rfl, rfl, trivial⟩
  · refine r_exit rfl ?_
    refine r_seq ?_
    refine r_region rfl ?_
    refine o_val rfl rfl rfl rfl (v_assign rfl) ?_
    refine o_end ?_
    exact r_ret1 Try.func11 rfl rfl ⟨⟨rfl, rfl, rfl⟩, Fz.le_refl _⟩

theorem law5_size (O : World) (F : Fz) (n : Nat) (Fr : List Ent) (hn : n < 65536) : Does Try.prog O 12 #[.int .u16 n] F Fr (fun r F' H' => r = .int .i64 (64 + n % 300 : Nat) ∧ F' = F ∧ H' = Fr) := by
  have hm : (n : Int).tmod 300 = ((n % 300 : Nat) : Int) := rfl
  refine does_of_run (args := [_]) Try.func12 rfl rfl ?_
  refine r_seq ?_
  refine r_region rfl ?_
  refine o_val rfl rfl rfl rfl (v_assign rfl) ?_
  refine o_end ?_
  refine r_seq ?_
  refine r_region rfl ?_
  refine o_val rfl rfl rfl rfl (v_move rfl) ?_
  refine o_val rfl rfl rfl rfl (v_conv rfl rfl rfl (wrap_i64 (by omega) (by omega))) ?_
  refine o_val rfl rfl rfl rfl (v_rem rfl rfl (by decide) hm) ?_
  refine o_val rfl rfl rfl rfl (v_add rfl rfl (r := ((64 + n % 300 : Nat) : Int)) (wrap_i64 (by omega) (by omega))) ?_
  refine o_val rfl rfl rfl rfl (v_assign rfl) ?_
  refine o_end ?_
  exact r_ret1 Try.func12 rfl rfl ⟨⟨rfl, rfl, rfl⟩, Fz.le_refl _⟩

theorem law5_awake (O : World) (F : Fz) (Fr : List Ent) : Does Try.prog O 8 #[] F Fr (fun r _ H' => r = .bool true ∧ H' = Fr) := by
  refine does_of_run (args := []) Try.func8 rfl rfl ?_
  refine r_seq ?_
  refine r_region rfl ?_
  refine o_val rfl rfl rfl rfl (v_assign rfl) ?_
  refine o_end ?_
  refine r_seq ?_
  refine r_region rfl ?_
  refine o_act rfl rfl rfl rfl (a_buildS (sz := 1) (cs := [byteV 97, byteV 98]) [.const (.int .u8 97), .const (.int .u8 98)] rfl rfl rfl rfl rfl rfl rfl rfl rfl rfl) ?_
  rintro v' H' ⟨y, rfl, rfl⟩
  refine o_actF rfl rfl rfl rfl (a_same 0 rfl rfl rfl rfl) ?_
  rintro v' F1 H' ⟨rfl, ⟨all, el, fz, hb, hall⟩, hH'⟩ hF1
  obtain rfl : H' = Fr := hH'
  have hs : SlB F1 [] (.slice (some ⟨y, 0, none⟩) 2 2) [97, 98] := ⟨_, _, rfl, rfl, by decide, by simp, fun i c hc => ⟨y, 0, rfl, cell_frz hb (by simpa using hall i c hc)⟩⟩
  refine o_call rfl rfl rfl rfl (c_call callable9 rfl) (fr_Split _ _ 64 7 _ [97, 98] H' hs (by decide)) ?_
  rintro v' F2 H2 ⟨hF2, rs, bf, hok, rfl, hrows, hfz, rfl⟩ _
  have h1 : splitE 64 [97, 98] = 0 := by decide
  have h2 : partsN 64 2 = 1 := by decide
  have h3 : splitR 64 7 [97, 98] = [frB 64 7 0 1 (chunk 64 0 [97, 98])] := by
    unfold splitR
    rw [if_pos h1]
    unfold splitL
    have : partsN (64 : Int).toNat [(97 : UInt8), 98].length = 1 := h2
    rw [this]
    rfl
  rw [h3] at hrows
  rw [h1]
  have hl1 : rs.length = 1 := by have := congrArg List.length hrows; simpa using this
  obtain ⟨r, rfl⟩ := List.length_eq_one_iff.1 hl1
  simp only [List.map_cons, List.map_nil, List.cons.injEq, and_true] at hrows
  have hlen : r.2.length = 64 := by rw [hrows]; exact frB_length (by decide)
  have hr := hfz r (List.mem_singleton.2 rfl)
  obtain ⟨a, c, hx, _⟩ := Sl.shape hr
  obtain ⟨b0, off0, c0, hab, hc0⟩ := row_cell (rs := [r]) (i := 0) (Bf.reads (bf := bf) (sz := 1) (n := 1) (F := F2) (H := bf.ents 1 ([r].map (·.1)) ++ H') hok rfl (by intro q hq; exact List.mem_append_left _ hq)) (by simp)
  have hab' : bf.val [r].length = .slice (some ⟨b0, off0, none⟩) 1 c0 := hab
  rw [hab']
  simp only [List.getElem_cons_zero] at hc0
  rw [hx] at hc0
  refine o_val rfl rfl rfl rfl (v_move rfl) ?_
  refine o_val rfl rfl rfl rfl (v_extract rfl rfl) ?_
  refine o_val rfl rfl rfl rfl (v_extract rfl rfl) ?_
  refine o_val rfl rfl rfl rfl (v_assign rfl) ?_
  refine o_val rfl rfl rfl rfl (v_assign rfl) ?_
  refine o_end ?_
  refine r_seq ?_
  refine r_region rfl ?_
  refine o_call rfl rfl rfl rfl (c_call callable14 rfl) (fr_Room _ _ 64 _ (by decide) (by decide)) ?_
  rintro v' F2 H2 ⟨rfl, rfl, rfl⟩ _
  refine o_val rfl rfl rfl rfl (v_eql rfl rfl) ?_
  refine o_val rfl rfl rfl rfl (v_move rfl) ?_
  refine o_call rfl rfl rfl rfl (c_call callable13 rfl) (fr_Parts _ _ 64 46 _ (by decide) (by decide) (by decide)) ?_
  rintro v' F2 H2 ⟨rfl, rfl, rfl⟩ _
  refine o_val rfl rfl rfl rfl (v_eql rfl rfl) ?_
  refine o_val rfl rfl rfl rfl (v_pick1 rfl rfl) ?_
  refine o_val rfl rfl rfl rfl (v_move rfl) ?_
  refine o_val rfl rfl rfl rfl (v_move rfl) ?_
  refine o_val rfl rfl rfl rfl (v_eql rfl rfl) ?_
  refine o_val rfl rfl rfl rfl (v_pick1 rfl rfl) ?_
  refine o_val rfl rfl rfl rfl (v_move rfl) ?_
  refine o_val rfl rfl rfl rfl (v_move rfl) ?_
  refine o_val rfl rfl rfl rfl (v_len rfl rfl) ?_
  refine o_val rfl rfl rfl rfl (v_eql rfl rfl) ?_
  refine o_val rfl rfl rfl rfl (v_pick1 rfl rfl) ?_
  refine o_val rfl rfl rfl rfl (v_move rfl) ?_
  refine o_val rfl rfl rfl rfl (v_move rfl) ?_
  refine o_val rfl rfl rfl rfl (v_index1 rfl rfl rfl rfl (by decide)) ?_
  refine o_val rfl rfl rfl rfl (v_load rfl rfl hc0) ?_
  refine o_val rfl rfl rfl rfl (v_len rfl rfl) ?_
  refine o_val rfl rfl rfl rfl (v_eql rfl rfl) ?_
  refine o_val rfl rfl rfl rfl (v_pick1 rfl rfl) ?_
  refine o_val rfl rfl rfl rfl (v_assign rfl) ?_
  refine o_end ?_
  refine j_drop (List.sublist_append_right _ _) ?_
  exact r_ret1 Try.func8 rfl rfl ⟨⟨by rw [hlen]; rfl, rfl⟩, Fz.le_trans hF1 hF2⟩
set_option maxHeartbeats 1000000 in
theorem law_FrameSplits (O : World) (F : Fz) (n : Int) (small id : Nat) (v : Value) (p : List UInt8) (hs : small < 65536) (hv : SlB F [] v p) :
    Does Try.prog O 3 #[.int .i64 n, .int .u16 small, .int .u64 id, v] F [] (fun r _ _ => r = .bool true) := by
  obtain ⟨a0, cap, rfl, hcap⟩ := Sl.shape hv
  refine does_of_run (args := [_, _, _, _]) Try.func3 rfl rfl ?_
  refine r_seq ?_
  refine r_region rfl ?_
  refine o_val rfl rfl rfl rfl (v_assign rfl) ?_
  refine o_end ?_
  refine r_seq ?_
  refine r_seq ?_
  refine r_region rfl ?_
  refine o_call rfl rfl rfl rfl (c_call callable8 rfl) (law5_awake _ _ _) ?_
  rintro v' F1 H' ⟨rfl, rfl⟩ hF1
  refine o_val rfl rfl rfl rfl (v_not rfl) ?_
  refine o_val rfl rfl rfl rfl (v_move rfl) ?_
  refine o_val rfl rfl rfl rfl (v_move rfl) ?_
  refine o_val rfl rfl rfl rfl (v_len rfl rfl) ?_
  refine o_val rfl rfl rfl rfl (v_gtr rfl rfl) ?_
  refine o_val rfl rfl rfl rfl (v_pick0 rfl rfl) ?_
  refine o_end ?_
  refine r_if rfl (fun h => ?_) (fun h => ?_)
  · refine r_seq ?_
    refine r_region rfl ?_
    refine o_call rfl rfl rfl rfl (c_call callable8 rfl) (law5_awake _ _ _) ?_
    rintro v' F2 H' ⟨rfl, rfl⟩ hF2
    refine o_val rfl rfl rfl rfl (v_assign rfl) ?_
    refine o_end ?_
    exact r_ret1 Try.func3 rfl rfl ⟨rfl, Fz.le_trans hF1 hF2⟩
  · refine r_skip ?_
    refine r_seq ?_
    refine r_region rfl ?_
    refine o_val rfl rfl rfl rfl (v_move rfl) ?_
    refine o_val rfl rfl rfl rfl (v_move rfl) ?_
    refine o_val rfl rfl rfl rfl (v_move rfl) ?_
    refine o_call rfl rfl rfl rfl (c_call callable9 rfl) (fr_Split _ _ n id _ p _ (hv.frz hF1) (by omega)) ?_
    rintro v' F2 H' ⟨hF2, rs, bf, hok, rfl, hrows, hfz, rfl⟩ _
    refine o_val rfl rfl rfl rfl (v_move rfl) ?_
    refine o_val rfl rfl rfl rfl (v_extract rfl rfl) ?_
    refine o_val rfl rfl rfl rfl (v_extract rfl rfl) ?_
    refine o_val rfl rfl rfl rfl (v_assign rfl) ?_
    refine o_val rfl rfl rfl rfl (v_assign rfl) ?_
    refine o_end ?_
    refine r_seq ?_
    refine r_region rfl ?_
    refine o_val rfl rfl rfl rfl (v_move rfl) ?_
    refine o_val rfl rfl rfl rfl (v_move rfl) ?_
    refine o_val rfl rfl rfl rfl (v_move rfl) ?_
    refine o_call rfl rfl rfl rfl (c_call callable10 rfl) (ref_Split _ _ n id _ p _ (hv.frz (Fz.le_trans hF1 hF2)) (by omega)) ?_
    rintro v' F3 H' ⟨hF3, qs, bq, hoq, rfl, hrowq, hfq, rfl⟩ _
    refine o_val rfl rfl rfl rfl (v_move rfl) ?_
    refine o_val rfl rfl rfl rfl (v_extract rfl rfl) ?_
    refine o_val rfl rfl rfl rfl (v_extract rfl rfl) ?_
    refine o_val rfl rfl rfl rfl (v_assign rfl) ?_
    refine o_val rfl rfl rfl rfl (v_assign rfl) ?_
    refine o_end ?_
    refine r_seq ?_
    refine r_seq ?_
    refine r_region rfl ?_
    refine o_val rfl rfl rfl rfl (v_move rfl) ?_
    refine o_val rfl rfl rfl rfl (v_move rfl) ?_
    refine o_val rfl rfl rfl rfl (v_neq rfl rfl) ?_
    refine j_slot 38 rfl (v' := .bool false) (by simp) ?_
    refine o_val rfl rfl rfl rfl (v_move rfl) ?_
    refine o_val rfl rfl rfl rfl (v_move rfl) ?_
    refine o_val rfl rfl rfl rfl (v_move rfl) ?_
    have hrl : rs.length ≤ 9223372036854775000 := by
      have := congrArg List.length hrows
      unfold splitR splitL at this
      rw [List.length_map] at this
      rw [this]
      split
      · rename_i he
        have : partsN n.toNat p.length < 65536 := by
          unfold splitE at he
          split at he
          · cases he
          · split at he
            · cases he
            · omega
        simp
        omega
      · simp
    refine o_call rfl rfl rfl rfl (c_call callable11 rfl) (law5_same _ _ _ _ rs qs _ (Bf.reads (bf := bf) (sz := 1) hok (by simp) (by intro q hq; simp [hq])) (Bf.reads (bf := bq) (sz := 1) hoq (by simp) (by intro q hq; simp [hq])) (fun r hr => (hfz r hr).frz hF3) hfq (hrows.trans hrowq.symm) hrl) ?_
    rintro v' F3 H' ⟨rfl, rfl, rfl⟩ _
    refine o_val rfl rfl rfl rfl (v_not rfl) ?_
    refine o_val rfl rfl rfl rfl (v_pick0 rfl rfl) ?_
    refine o_end ?_
    refine r_false rfl ?_
    refine j_drop (H' := []) (List.nil_sublist _) ?_
    refine r_skip ?_
    refine r_seq ?_
    refine r_region rfl ?_
    refine o_val rfl rfl rfl rfl (v_move rfl) ?_
    refine o_call rfl rfl rfl rfl (c_call callable12 rfl) (law5_size _ _ small _ hs) ?_
    rintro v' F3 H' ⟨rfl, rfl, rfl⟩ _
    obtain ⟨m, hm⟩ : ∃ m, m = 64 + small % 300 := ⟨_, rfl⟩
    rw [← hm]
    have hFF := Fz.le_trans hF1 (Fz.le_trans hF2 hF3)
    have hmm : m < 364 := by omega
    have hpm : partsN m p.length < 65536 := by
      have h1 : (p.length + (m - 19) - 1) / (m - 19) ≤ p.length + (m - 19) - 1 := Nat.div_le_self _ _
      unfold partsN
      generalize (p.length + (m - 19) - 1) / (m - 19) = q at *
      omega
    have he : splitE m p = 0 := by
      unfold splitE
      rw [if_neg (by omega), if_neg (by rw [Int.toNat_natCast]; omega)]
    refine o_val rfl rfl rfl rfl (v_assign rfl) ?_
    refine o_end ?_
    refine r_seq ?_
    refine r_region rfl ?_
    refine o_val rfl rfl rfl rfl (v_move rfl) ?_
    refine o_val rfl rfl rfl rfl (v_move rfl) ?_
    refine o_val rfl rfl rfl rfl (v_move rfl) ?_
    refine o_call rfl rfl rfl rfl (c_call callable9 rfl) (fr_Split _ _ m id _ p _ (hv.frz hFF) (by omega)) ?_
    rintro v' F4 H' ⟨hF4, rs2, bf2, hok2, rfl, hrows2, hfz2, rfl⟩ _
    refine o_val rfl rfl rfl rfl (v_move rfl) ?_
    refine o_val rfl rfl rfl rfl (v_extract rfl rfl) ?_
    refine o_val rfl rfl rfl rfl (v_extract rfl rfl) ?_
    refine o_val rfl rfl rfl rfl (v_assign rfl) ?_
    refine o_val rfl rfl rfl rfl (v_assign rfl) ?_
    refine o_end ?_
    refine r_seq ?_
    refine r_region rfl ?_
    refine o_val rfl rfl rfl rfl (v_move rfl) ?_
    refine o_val rfl rfl rfl rfl (v_move rfl) ?_
    refine o_val rfl rfl rfl rfl (v_move rfl) ?_
    refine o_call rfl rfl rfl rfl (c_call callable10 rfl) (ref_Split _ _ m id _ p _ (hv.frz (Fz.le_trans hFF hF4)) (by omega)) ?_
    rintro v' F5 H' ⟨hF5, qs2, bq2, hoq2, rfl, hrowq2, hfq2, rfl⟩ _
    rw [he]
    have hrl2 : rs2.length = partsN m p.length := by
      have := congrArg List.length hrows2
      unfold splitR splitL at this
      rw [if_pos he] at this
      simpa using this
    refine o_val rfl rfl rfl rfl (v_move rfl) ?_
    refine o_val rfl rfl rfl rfl (v_extract rfl rfl) ?_
    refine o_val rfl rfl rfl rfl (v_extract rfl rfl) ?_
    refine o_val rfl rfl rfl rfl (v_assign rfl) ?_
    refine o_end ?_
    refine r_seq ?_
    refine r_region rfl ?_
    refine o_val rfl rfl rfl rfl (v_move rfl) ?_
    refine o_val rfl rfl rfl rfl (v_eql rfl rfl) ?_
    refine o_val rfl rfl rfl rfl (v_move rfl) ?_
    refine o_val rfl rfl rfl rfl (v_move rfl) ?_
    refine o_val rfl rfl rfl rfl (v_move rfl) ?_
    refine o_call rfl rfl rfl rfl (c_call callable11 rfl) (law5_same _ _ _ _ rs2 qs2 _ (Bf.reads (bf := bf2) (sz := 1) hok2 (by simp) (by intro q hq; simp [hq])) (Bf.reads (bf := bq2) (sz := 1) hoq2 (by simp) (by intro q hq; simp [hq])) (fun r hr => (hfz2 r hr).frz hF5) hfq2 (hrows2.trans hrowq2.symm) (by omega)) ?_
    rintro v' F5 H' ⟨rfl, rfl, rfl⟩ _
    refine o_val rfl rfl rfl rfl (v_pick1 rfl rfl) ?_
    refine o_val rfl rfl rfl rfl (v_move rfl) ?_
    refine o_val rfl rfl rfl rfl (v_move rfl) ?_
    refine o_val rfl rfl rfl rfl (v_len rfl rfl) ?_
    refine o_val rfl rfl rfl rfl (v_move rfl) ?_
    refine o_val rfl rfl rfl rfl (v_move rfl) ?_
    refine o_val rfl rfl rfl rfl (v_len rfl rfl) ?_
    refine o_call rfl rfl rfl rfl (c_call callable13 rfl) (fr_Parts _ _ m p.length _ (by omega) (by omega) (by omega)) ?_
    rintro v' F5 H' ⟨rfl, rfl, rfl⟩ _
    refine o_val rfl rfl rfl rfl (v_eql rfl rfl) ?_
    refine j_slot 75 rfl (v' := .bool true) (by rw [hrl2, decide_eq_true rfl]) ?_
    refine o_val rfl rfl rfl rfl (v_pick1 rfl rfl) ?_
    refine o_val rfl rfl rfl rfl (v_move rfl) ?_
    refine o_val rfl rfl rfl rfl (v_move rfl) ?_
    refine o_call rfl rfl rfl rfl (c_call callable14 rfl) (fr_Room _ _ m _ (by omega) (by omega)) ?_
    rintro v' F5 H' ⟨rfl, rfl, rfl⟩ _
    refine o_val rfl rfl rfl rfl (v_move rfl) ?_
    refine o_val rfl rfl rfl rfl (v_sub rfl rfl (r := ((m - 19 : Nat) : Int)) ((wrap_i64 (by omega) (by omega)).trans (by omega))) ?_
    refine o_val rfl rfl rfl rfl (v_eql rfl rfl) ?_
    refine o_val rfl rfl rfl rfl (v_pick1 rfl rfl) ?_
    refine o_val rfl rfl rfl rfl (v_assign rfl) ?_
    refine o_end ?_
    exact r_ret1 Try.func3 rfl rfl ⟨by rw [decide_eq_true rfl], Fz.le_trans hFF (Fz.le_trans hF4 hF5)⟩
theorem in_FrameSplits (W : World) (n : Int) (hn : (Lit.int .i64 n).wf = true) (s : Int) (hs : (Lit.int .u16 s).wf = true) (i : Int) (hi : (Lit.int .u64 i).wf = true) (v : Value) (z0 : List Int) (h0 : InInts .u8 W v z0) (y0 : z0.length * 1 ≤ 140737488351232) :
    Calls Try.prog 3 #[.int .i64 n, .int .u16 s, .int .u64 i, v] W fun e w' => e = .returned (.bool true) ∧ Go.RowKit.Below W.heap.size W w' := by
  obtain ⟨l0, hl0, hv⟩ := inBytes h0
  simp [Lit.wf, IntKind.min, IntKind.max, IntKind.signed, IntKind.bits] at hs hi
  obtain ⟨s, rfl⟩ := Int.eq_ofNat_of_zero_le hs.1
  obtain ⟨i, rfl⟩ := Int.eq_ofNat_of_zero_le hi.1
  exact below_of_does (law_FrameSplits _ _ n s i _ l0 (by omega) hv)
end Go.SX
