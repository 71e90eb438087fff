/-
  The law WalJunk: any bytes come to what their records come to again; nothing behind is looked at.
-/
import Derived.Test.YtmpbgnffdpppbaaWal9
namespace Go.SX
open Go Go.Proofs
set_option maxRecDepth 4000
set_option linter.unusedSimpArgs false
set_option linter.unusedVariables false

theorem stepB_le (p : PI) (r : RecI) (h : r.fit) (hb : p.ix + p.l.length ≤ 9000000000000000000) : (stepB p r).length ≤ 310 := by
  obtain ⟨k, d, _, h1, h2, _⟩ := step_fed p r h hb
  rw [h2]
  simp
  omega
theorem v_xor8 (x f : UInt8) : ∃ y : UInt8, bitOp .xor .u8 (x.toNat : Int) (f.toNat : Int) = (y.toNat : Int) := by
  refine ⟨x ^^^ f, ?_⟩
  show IntKind.u8.wrap ((BitVec.ofInt 8 (x.toNat : Int) ^^^ BitVec.ofInt 8 (f.toNat : Int)).toNat : Int) = _
  rw [BitVec.ofInt_natCast, BitVec.ofInt_natCast]
  have h1 : (BitVec.ofNat 8 x.toNat ^^^ BitVec.ofNat 8 f.toNat).toNat = (x ^^^ f).toNat := by
    rw [UInt8.toNat_xor, BitVec.toNat_xor, BitVec.toNat_ofNat, BitVec.toNat_ofNat, Nat.mod_eq_of_lt x.toNat_lt, Nat.mod_eq_of_lt f.toNat_lt]
  rw [h1]
  exact wrap_u8 (by have := (x ^^^ f).toNat_lt; omega) (by have := (x ^^^ f).toNat_lt; omega)
theorem putAt_one (cs : List Value) (i : Nat) (v : Value) (h : i < cs.length) : putAt cs i [v] = cs.set i v := by
  unfold putAt
  rw [List.set_eq_take_append_cons_drop, if_pos h]
  simp
structure JkG where
  i : Nat
  F : Fz
  w : Im
  bf : Bf
  all : List UInt8
set_option maxHeartbeats 3200000 in
theorem law_WalJunk (O : World) (F : Fz) (v : Value) (b : List UInt8) (cut : Nat) (flip : UInt8) (vr : Value) (rs : List RecI) (hv : SlB F [] v b) (hbl : b.length ≤ 140737488351232) (hcut : cut < 65536) (hrv : Sl F [] 5 vr rs.length (rs.flatMap RecI.cells)) (hrl : rs.length ≤ 9223372036854775807)
    (hrs : ∀ r ∈ rs, (r.k < 256 ∧ r.a < 18446744073709551616 ∧ r.b < 18446744073709551616 ∧ -32768 ≤ r.v ∧ r.v ≤ 32767) ∧ SlB F [] r.dv r.d) :
    Does Try.prog O 4 #[v, .int .u16 cut, .int .u8 flip.toNat, vr] F [] (fun r _ _ => r = .bool true) := by
  obtain ⟨a0, cap, rfl, hcap⟩ := Sl.shape hv
  obtain ⟨a9, cap9, rfl, hcap9⟩ := Sl.shape hrv
  refine does_of_run (args := [_, _, _, _]) Try.func4 rfl rfl ?_
  refine r_seq ?_
  refine r_region rfl ?_
  refine o_val rfl rfl rfl rfl (v_assign rfl) ?_
  refine o_end ?_
  refine r_seq ?_
  refine r_seq ?_
  refine r_region rfl ?_
  refine o_call rfl rfl rfl rfl (c_call callable9 rfl) (law_awake _ _ _) ?_
  rintro v' F1 H' ⟨rfl, rfl⟩ hF1
  refine o_val rfl rfl rfl rfl (v_not rfl) ?_
  refine o_val rfl rfl rfl rfl (v_move rfl) ?_
  refine o_val rfl rfl rfl rfl (v_move rfl) ?_
  refine o_val rfl rfl rfl rfl (v_len rfl rfl) ?_
  refine o_val rfl rfl rfl rfl (v_gtr rfl rfl) ?_
  refine o_val rfl rfl rfl rfl (v_pick0 rfl rfl) ?_
  refine j_prop 29 rfl (fun g => ?_) (fun g => ?_)
  · refine o_val rfl rfl rfl rfl (v_move rfl) ?_
    refine o_skip rfl rfl rfl rfl ?_
    refine o_skip rfl rfl rfl rfl ?_
    refine o_skip rfl rfl rfl rfl ?_
    refine o_val rfl rfl rfl rfl (v_pick1 rfl rfl) ?_
    refine o_end ?_
    refine r_true rfl ?_
    refine r_seq ?_
    refine r_region rfl ?_
    refine o_call rfl rfl rfl rfl (c_call callable9 rfl) (law_awake _ _ _) ?_
    rintro v' F2 H' ⟨rfl, rfl⟩ hF2
    refine o_val rfl rfl rfl rfl (v_assign rfl) ?_
    refine o_end ?_
    exact r_ret1 Try.func4 rfl rfl ⟨rfl, Fz.le_trans hF1 hF2⟩
  · refine o_val rfl rfl rfl rfl (v_move rfl) ?_
    refine o_val rfl rfl rfl rfl (v_move rfl) ?_
    refine o_call rfl rfl rfl rfl (c_call callable10 rfl) (law_short _ _ _ rs _ (hrv.frz hF1) (fun r hr => (hrs r hr).2.frz hF1) hrl) ?_
    rintro v' F1 H' ⟨rfl, rfl, hsh⟩ _
    rcases hsh with rfl | ⟨rfl, hs60, hs200⟩
    · skip
      refine o_val rfl rfl rfl rfl (v_not rfl) ?_
      refine o_val rfl rfl rfl rfl (v_pick0 rfl rfl) ?_
      refine o_end ?_
      refine r_true rfl ?_
      refine r_seq ?_
      refine r_region rfl ?_
      refine o_call rfl rfl rfl rfl (c_call callable9 rfl) (law_awake _ _ _) ?_
      rintro v' F2 H' ⟨rfl, rfl⟩ hF2
      refine o_val rfl rfl rfl rfl (v_assign rfl) ?_
      refine o_end ?_
      exact r_ret1 Try.func4 rfl rfl ⟨rfl, Fz.le_trans hF1 hF2⟩
    · skip
      refine o_val rfl rfl rfl rfl (v_not rfl) ?_
      refine o_val rfl rfl rfl rfl (v_pick0 rfl rfl) ?_
      refine o_end ?_
      refine r_false rfl ?_
      refine r_skip ?_
      refine r_seq ?_
      refine r_region rfl ?_
      refine o_val rfl rfl rfl rfl (v_move rfl) ?_
      have hv1 := hv.frz hF1 (H := [])
      refine o_call rfl rfl rfl rfl (c_call callable12 rfl) (wal_Scan _ _ _ b _ hv1 (by omega)) ?_
      rintro v' F2 H' ⟨hF2, rfl, p1, hp1, hpl1, hpp1, rfl⟩ _
      obtain ⟨hsc1, hsc2⟩ := scanP_again b.length nilI b (Nat.le_refl _)
      generalize hn : (scanP nilI b).2 = n at *
      have hpo1 := hp1.one
      refine o_val rfl rfl rfl rfl (v_move rfl) ?_
      refine o_val rfl rfl rfl rfl (v_extract rfl rfl) ?_
      refine o_val rfl rfl rfl rfl (v_extract rfl rfl) ?_
      refine o_act rfl rfl rfl rfl (a_alloc rfl) ?_
      rintro v' H' ⟨m1, rfl, rfl⟩
      refine o_act0 rfl rfl rfl (a_store (sz := 7) 0 rfl rfl rfl (by simpa [Value.cells] using hpo1) rfl rfl (Nat.le_of_ble_eq_true rfl)) ?_
      refine j_heap (H' := [.mem m1 p1.cells 7]) rfl ?_
      refine o_val rfl rfl rfl rfl (v_assign rfl) ?_
      refine o_end ?_
      refine r_seq ?_
      refine r_region rfl ?_
      refine o_val rfl rfl rfl rfl (v_move rfl) ?_
      refine o_val rfl rfl rfl rfl (v_move rfl) ?_
      refine o_val rfl rfl rfl rfl (v_sliceH (sz := 1) rfl rfl rfl rfl rfl (by omega)) ?_
      have hv2 : SlB F2 [] (Go.sliced a0 0 n cap 1) (b.take n) := SlB.take (hv1.frz hF2) hsc1
      refine o_call rfl rfl rfl rfl (c_call callable12 rfl) (wal_Scan _ _ _ (b.take n) _ hv2 (by simp; omega)) ?_
      rintro v' F3 H' ⟨hF3, rfl, p2, hp2, hpl2, hpp2, rfl⟩ _
      rw [hsc2] at hpp2 ⊢
      rw [hn]
      have hpo2 := hp2.one
      refine o_val rfl rfl rfl rfl (v_move rfl) ?_
      refine o_val rfl rfl rfl rfl (v_extract rfl rfl) ?_
      refine o_val rfl rfl rfl rfl (v_extract rfl rfl) ?_
      refine o_act rfl rfl rfl rfl (a_alloc rfl) ?_
      rintro v' H' ⟨m2, rfl, rfl⟩
      refine o_act0 rfl rfl rfl (a_store (sz := 7) 0 rfl rfl rfl (by simpa [Value.cells] using hpo2) rfl rfl (Nat.le_of_ble_eq_true rfl)) ?_
      refine j_heap (H' := [.mem m2 p2.cells 7, .mem m1 p1.cells 7]) rfl ?_
      refine o_val rfl rfl rfl rfl (v_assign rfl) ?_
      refine o_end ?_
      refine r_seq ?_
      refine r_seq ?_
      refine d_region 1000000 rfl ([.mem m2 p2.cells 7, .mem m1 p1.cells 7]) ?_
      refine d_take (i := 0) rfl rfl rfl (by decide +kernel) (by decide +kernel) (by decide +kernel) (Fz.le_refl _) (by simp) rfl (v_move rfl) ?_
      refine d_take (i := 1) rfl rfl rfl (by decide +kernel) (by decide +kernel) (by decide +kernel) (Fz.le_refl _) (by simp) rfl (v_lss rfl rfl) ?_
      refine j_slot 49 rfl (v' := .bool false) (by rw [decide_eq_false (by omega)]) ?_
      refine d_take (i := 2) rfl rfl rfl (by decide +kernel) (by decide +kernel) (by decide +kernel) (Fz.le_refl _) (by simp) rfl (v_move rfl) ?_
      refine d_take (i := 3) rfl rfl rfl (by decide +kernel) (by decide +kernel) (by decide +kernel) (Fz.le_refl _) (by simp) rfl (v_move rfl) ?_
      refine d_take (i := 4) rfl rfl rfl (by decide +kernel) (by decide +kernel) (by decide +kernel) (Fz.le_refl _) (by simp) rfl (v_move rfl) ?_
      refine d_take (i := 5) rfl rfl rfl (by decide +kernel) (by decide +kernel) (by decide +kernel) (Fz.le_refl _) (by simp) rfl (v_len rfl rfl) ?_
      refine d_take (i := 6) rfl rfl rfl (by decide +kernel) (by decide +kernel) (by decide +kernel) (Fz.le_refl _) (by simp) rfl (v_gtr rfl rfl) ?_
      refine j_slot 54 rfl (v' := .bool false) (by rw [decide_eq_false (by omega)]) ?_
      refine d_take (i := 7) rfl rfl rfl (by decide +kernel) (by decide +kernel) (by decide +kernel) (Fz.le_refl _) (by simp) rfl (v_pick0 rfl rfl) ?_
      refine d_take (i := 8) rfl rfl rfl (by decide +kernel) (by decide +kernel) (by decide +kernel) (Fz.le_refl _) (by simp) rfl (v_move rfl) ?_
      refine d_take (i := 9) rfl rfl rfl (by decide +kernel) (by decide +kernel) (by decide +kernel) (Fz.le_refl _) (by simp) rfl (v_move rfl) ?_
      refine d_take (i := 10) rfl rfl rfl (by decide +kernel) (by decide +kernel) (by decide +kernel) (Fz.le_refl _) (by simp) rfl (v_move rfl) ?_
      refine d_take (i := 11) rfl rfl rfl (by decide +kernel) (by decide +kernel) (by decide +kernel) (Fz.le_refl _) (by simp) rfl (v_neq rfl rfl) ?_
      refine j_slot 59 rfl (v' := .bool false) (by rw [decide_eq_false (by omega)]) ?_
      refine d_take (i := 12) rfl rfl rfl (by decide +kernel) (by decide +kernel) (by decide +kernel) (Fz.le_refl _) (by simp) rfl (v_pick0 rfl rfl) ?_
      refine d_take (i := 13) rfl rfl rfl (by decide +kernel) (by decide +kernel) (by decide +kernel) (Fz.le_refl _) (by simp) rfl (v_move rfl) ?_
      refine d_take (i := 14) rfl rfl rfl (by decide +kernel) (by decide +kernel) (by decide +kernel) (Fz.le_refl _) (by simp) rfl (v_loadAgg (sz := 7) (cs := p1.cells) rfl rfl rfl rfl (cells_of (j := 1) _ _ rfl rfl)) ?_
      refine d_take (i := 16) rfl rfl rfl (by decide +kernel) (by decide +kernel) (by decide +kernel) (Fz.le_refl _) (by simp) rfl (v_loadAgg (sz := 7) (cs := p2.cells) rfl rfl rfl rfl (cells_of (j := 0) _ _ rfl rfl)) ?_
      refine d_one (i := 15) (by decide +kernel) ?_
      refine d1_call rfl rfl rfl rfl (c_call callable14 rfl) (law_image _ _ p1 _ (hp1.frz hF3)) ?_
      rintro v' F3 H' ⟨rfl, rfl, rfl⟩ _
      refine ⟨fun w hw => held_of hw (by first | exact Fz.le_refl _ | assumption) (by simp), ?_⟩
      refine d_one (i := 17) (by decide +kernel) ?_
      refine d1_call rfl rfl rfl rfl (c_call callable14 rfl) (law_image _ _ p2 _ hp2) ?_
      rintro v' F3 H' ⟨rfl, rfl, rfl⟩ _
      refine ⟨fun w hw => held_of hw (by first | exact Fz.le_refl _ | assumption) (by simp), ?_⟩
      refine d_one (i := 18) (by decide +kernel) ?_
      refine d1_call rfl rfl rfl rfl (c_call callable13 rfl) (ref_Same _ _ p1 p2 _ (hp1.frz hF3) hp2 (hpp1.trans hpp2.symm) (by omega)) ?_
      rintro v' F3 H' ⟨rfl, rfl, rfl⟩ _
      refine ⟨fun w hw => held_of hw (by first | exact Fz.le_refl _ | assumption) (by simp), ?_⟩
      refine d_take (i := 19) rfl rfl rfl (by decide +kernel) (by decide +kernel) (by decide +kernel) (Fz.le_refl _) (by simp) rfl (v_not rfl) ?_
      refine d_take (i := 20) rfl rfl rfl (by decide +kernel) (by decide +kernel) (by decide +kernel) (Fz.le_refl _) (by simp) rfl (v_pick0 rfl rfl) ?_
      refine d_end (by decide +kernel) ?_
      refine r_false rfl ?_
      refine j_drop (H' := []) (List.nil_sublist _) ?_
      refine r_skip ?_
      refine r_seq ?_
      refine r_region rfl ?_
      refine o_val rfl rfl rfl rfl (v_assign rfl) ?_
      refine o_end ?_
      refine r_seq ?_
      refine r_region rfl ?_
      refine o_val rfl rfl rfl rfl (v_build rfl rfl) ?_
      refine o_val rfl rfl rfl rfl (v_build rfl rfl) ?_
      refine o_act rfl rfl rfl rfl (a_alloc rfl) ?_
      rintro v' H' ⟨t, rfl, rfl⟩
      refine o_act0 rfl rfl rfl (a_store (sz := 7) 0 rfl rfl rfl rfl rfl rfl (Nat.le_of_ble_eq_true rfl)) ?_
      obtain ⟨p0, hp0⟩ : ∃ p0 : Im, p0 = ⟨0, -1, 0, 0, 0, .slice none 0 0, [], .slice none 0 0, []⟩ := ⟨_, rfl⟩
      refine j_heap (H' := .mem t p0.cells 7 :: (Bf.nil.ents 1 (bytesV []) ++ [])) (by rw [hp0]; rfl) ?_
      refine o_end ?_
      refine r_seq ?_
      refine r_seq ?_
      refine r_region rfl ?_
      refine o_val rfl rfl rfl rfl (v_assign rfl) ?_
      refine o_end ?_
      refine r_block ?_
      refine r_loop (fun g : JkG => F3.le g.F ∧ g.w.ok g.F ∧ Consec g.w.ix g.w.l ∧ g.w.ix ≤ 1000 ∧ g.w.l.length ≤ g.i ∧ g.i ≤ rs.length ∧ g.all.length ≤ g.i * 310 ∧ g.bf.ok g.all.length) (fun g => [(1, .int .u16 cut), (2, .int .u8 flip.toNat), (3, .slice a9 rs.length cap9), (13, g.bf.val g.all.length), (14, ptrV t), (15, .int .i64 g.i)]) (fun g => g.F) (fun g => .mem t g.w.cells 7 :: (g.bf.ents 1 (bytesV g.all) ++ [])) (fun g => rs.length - g.i) ⟨0, F3, p0, .nil, []⟩ ⟨Fz.le_refl _, ?_, ?_, ?_, ?_, Nat.zero_le _, by simp, rfl⟩ ⟨rfl, rfl, rfl, rfl, rfl, rfl, trivial⟩ rfl rfl ?_
      · dsimp only; rw [hp0]; exact ⟨by decide, by decide, by decide, by decide, by decide, by decide, Sl.nil _ _ _, by simp, Sl.nil _ _ _, by simp⟩
      · dsimp only; rw [hp0]; exact Consec.nil _
      · dsimp only; rw [hp0]; simp
      · dsimp only; rw [hp0]; simp
      rintro ⟨i, F4, w, bf, all⟩ ⟨hF4, hw, hwc, hwx, hwl, hi, hal, hok⟩ IH
      dsimp only at hF4 hw hwc hwx hwl hi hal hok ⊢
      have hF14 : F.le F4 := Fz.le_trans hF1 (Fz.le_trans hF2 (Fz.le_trans hF3 hF4))
      refine r_seq ?_
      refine r_seq ?_
      refine r_region rfl ?_
      refine o_val rfl rfl rfl rfl (v_move rfl) ?_
      refine o_val rfl rfl rfl rfl (v_move rfl) ?_
      refine o_val rfl rfl rfl rfl (v_len rfl rfl) ?_
      refine o_val rfl rfl rfl rfl (v_lss rfl rfl) ?_
      refine o_end ?_
      refine r_if rfl (fun h => ?_) (fun h => ?_)
      · have hil : i < rs.length := by omega
        obtain ⟨b0, off0, c0, hab, hcl⟩ := rec_cells hrv hil
        simp only [Value.slice.injEq] at hab
        obtain ⟨rfl, _, rfl⟩ := hab
        have hri := hrs rs[i] (List.getElem_mem _)
        have hdi := hs200 rs[i] (List.getElem_mem _)
        generalize rs[i] = r at *
        obtain ⟨⟨r1, r2, r3, r4, r5⟩, r6⟩ := hri
        obtain ⟨a1, c1, hdv, hc1⟩ := Sl.shape r6
        have hro : r.cells.all oneCellB = true := by simp [RecI.cells, hdv, oneCellB]
        refine r_skip ?_
        refine r_seq ?_
        refine r_block ?_
        refine r_seq ?_
        refine r_region rfl ?_
        refine o_val rfl rfl rfl rfl (v_move rfl) ?_
        refine o_val rfl rfl rfl rfl (v_move rfl) ?_
        refine o_val rfl rfl rfl rfl (v_indexN (sz := 5) rfl rfl rfl rfl hil) ?_
        refine o_val rfl rfl rfl rfl (v_loadAgg (sz := 5) (cs := r.cells) rfl rfl rfl rfl (fun j c hj => (hcl j c hj).mono hF14 (by simp))) ?_
        refine o_act rfl rfl rfl rfl (a_alloc rfl) ?_
        rintro v' H' ⟨x, rfl, rfl⟩
        refine o_act0 rfl rfl rfl (a_store (sz := 5) 0 rfl rfl rfl (by simpa [Value.cells] using hro) rfl rfl (Nat.le_of_ble_eq_true rfl)) ?_
        refine j_heap (H' := .mem x r.cells 5 :: .mem t w.cells 7 :: (bf.ents 1 (bytesV all) ++ [])) rfl ?_
        refine o_end ?_
        refine r_seq ?_
        refine r_join (fun r' : RecI => r'.fit ∧ SlB F4 [] r'.dv r'.d) (fun _ => [(1, .int .u16 cut), (2, .int .u8 flip.toNat), (3, .slice (some ⟨b0, off0, none⟩) rs.length cap9), (13, bf.val all.length), (14, ptrV t), (15, .int .i64 i), (16, ptrV x)]) (fun _ => F4) (fun r' => .mem x r'.cells 5 :: .mem t w.cells 7 :: (bf.ents 1 (bytesV all) ++ [])) ?_ ?_
        · intro J
          refine r_seq ?_
          refine r_region rfl ?_
          refine o_val rfl rfl rfl rfl (v_field (k := 0) rfl rfl rfl) ?_
          refine o_val rfl rfl rfl rfl (v_load (v := .int .u8 r.k) rfl rfl (cell_at (j := 0) rfl rfl)) ?_
          refine o_val rfl rfl rfl rfl (v_rem rfl rfl (by decide) (r := ((r.k % 4 : Nat) : Int)) rfl) ?_
          refine o_val rfl rfl rfl rfl (v_eql rfl rfl) ?_
          refine o_end ?_
          refine r_if rfl (fun h1 => ?_) (fun h1 => ?_)
          · refine r_region rfl ?_
            refine o_val rfl rfl rfl rfl (v_field (k := 0) rfl rfl rfl) ?_
            refine o_act0 rfl rfl rfl (a_store1 0 rfl rfl rfl rfl rfl (Nat.le_of_ble_eq_true rfl)) ?_
            refine o_end ?_
            refine j_keep ?_ (J { r with k := 2 } ⟨⟨by show (2 : Nat) < 256; decide, r2, r3, r4, r5, hdi⟩, r6.frz hF14⟩)
            exact ⟨rfl, rfl, rfl, rfl, rfl, rfl, rfl, trivial⟩
          · refine r_skip ?_
            refine j_keep ?_ (J r ⟨⟨r1, r2, r3, r4, r5, hdi⟩, r6.frz hF14⟩)
            exact ⟨rfl, rfl, rfl, rfl, rfl, rfl, rfl, trivial⟩
        rintro r' ⟨hfit, hrd⟩
        refine r_seq ?_
        refine r_region rfl ?_
        refine o_val rfl rfl rfl rfl (v_loadAgg (sz := 7) (cs := w.cells) rfl rfl rfl rfl (cells_of (j := 1) _ _ rfl rfl)) ?_
        refine o_val rfl rfl rfl rfl (v_loadAgg (sz := 5) (cs := r'.cells) rfl rfl rfl rfl (cells_of (j := 0) _ _ rfl rfl)) ?_
        refine o_call rfl rfl rfl rfl (c_call callable11 rfl) (law_bytes _ _ w r' _ hw hwc (by omega) hwx hfit hrd) ?_
        rintro v' F5 H' ⟨hF5, bf2, q, ok, hok2, rfl, rfl, hq, hqc, hqx, hql, _⟩ _
        have hsl := stepB_le w.pure r' hfit (by simp only [Im.pure, List.length_map]; omega)
        generalize stepB w.pure r' = pb at *
        have hqo := hq.one
        refine o_val rfl rfl rfl rfl (v_move rfl) ?_
        refine o_val rfl rfl rfl rfl (v_extract rfl rfl) ?_
        refine o_val rfl rfl rfl rfl (v_extract rfl rfl) ?_
        refine o_val rfl rfl rfl rfl (v_extract rfl rfl) ?_
        refine o_act rfl rfl rfl rfl (a_alloc rfl) ?_
        rintro v' H' ⟨n2, rfl, rfl⟩
        refine o_val rfl rfl rfl rfl (v_assign rfl) ?_
        refine o_act0 rfl rfl rfl (a_store (sz := 7) 0 rfl rfl rfl (by simpa [Value.cells] using hqo) rfl rfl (Nat.le_of_ble_eq_true rfl)) ?_
        refine j_heap (H' := .mem n2 q.cells 7 :: (bf2.ents 1 (bytesV pb) ++ (.mem x r'.cells 5 :: .mem t w.cells 7 :: (bf.ents 1 (bytesV all) ++ [])))) rfl ?_
        refine j_sel (H' := Ent.mem n2 q.cells 7 :: (Ent.mem t w.cells 7 :: (bf.ents 1 (bytesV all) ++ (bf2.ents 1 (bytesV pb) ++ ([]))))) [[Ent.mem n2 q.cells 7], bf2.ents 1 (bytesV pb), [Ent.mem x r'.cells 5], [Ent.mem t w.cells 7], bf.ents 1 (bytesV all), []] [0, 3, 4, 1, 5] rfl rfl rfl ?_
        refine o_val rfl rfl rfl rfl (v_assign rfl) ?_
        refine o_end ?_
        refine r_seq ?_
        refine r_region rfl ?_
        refine o_val rfl rfl rfl rfl (v_move rfl) ?_
        refine o_val rfl rfl rfl rfl (v_move rfl) ?_
        refine o_act rfl rfl rfl rfl (a_appendP (bf := bf) (n := all.length) (sz := 1) (bytes := 1) (m := pb.length) [.mem n2 q.cells 7, .mem t w.cells 7] ⟨⟨_, _, _, rfl, rfl, rfl, rfl, rfl, rfl⟩, by decide⟩ rfl hok (by simp) rfl rfl ((bf_reads hok2 (H := bf2.ents 1 (bytesV pb)) (by intro z hz; exact hz)).mono (Fz.le_refl _) (by intro z hz; simp [hz])) (bytes_one _) (by unfold maxLen; omega) (by omega)) ?_
        rintro v' H' ⟨bf3, rfl, hok3, rfl⟩
        rw [← List.length_append] at hok3 ⊢
        rw [← bytesV_append]
        refine o_val rfl rfl rfl rfl (v_assign rfl) ?_
        refine o_end ?_
        refine r_region rfl ?_
        refine o_val rfl rfl rfl rfl (v_loadAgg (sz := 7) (cs := q.cells) rfl rfl rfl rfl (cells_of (j := 0) _ _ rfl rfl)) ?_
        refine o_act0 rfl rfl rfl (a_store (sz := 7) 1 rfl rfl rfl (by simpa [Value.cells] using hqo) rfl rfl (Nat.le_of_ble_eq_true rfl)) ?_
        refine j_heap (H' := .mem n2 q.cells 7 :: .mem t q.cells 7 :: (bf3.ents 1 (bytesV (all ++ pb)) ++ (bf2.ents 1 (bytesV pb) ++ []))) rfl ?_
        refine j_sel (H' := Ent.mem t q.cells 7 :: (bf3.ents 1 (bytesV (all ++ pb)) ++ ([]))) [[Ent.mem n2 q.cells 7], [Ent.mem t q.cells 7], bf3.ents 1 (bytesV (all ++ pb)), bf2.ents 1 (bytesV pb), []] [1, 2, 4] rfl rfl rfl ?_
        refine o_end ?_
        refine r_inBlock ?_
        refine r_region rfl ?_
        refine o_val rfl rfl rfl rfl (v_move rfl) ?_
        refine o_val rfl rfl rfl rfl (v_add rfl rfl (wrap_i64 (by omega) (by omega))) ?_
        refine o_val rfl rfl rfl rfl (v_assign rfl) ?_
        refine o_end ?_
        refine j_keep ?_ (IH ⟨i + 1, F5, q, bf3, all ++ pb⟩ ⟨Fz.le_trans hF4 hF5, hq, hqc, hqx, by dsimp only; omega, by dsimp only; omega, by dsimp only; rw [List.length_append]; omega, hok3⟩ (by dsimp only; omega))
        exact ⟨rfl, rfl, rfl, rfl, rfl, rfl, trivial⟩
      · refine r_exit rfl ?_
        refine r_seq ?_
        refine r_seq ?_
        refine r_region rfl ?_
        refine o_val rfl rfl rfl rfl (v_move rfl) ?_
        refine o_val rfl rfl rfl rfl (v_len rfl rfl) ?_
        refine o_val rfl rfl rfl rfl (v_eql rfl rfl) ?_
        refine j_prop 99 rfl (fun g0 => ?_) (fun g0 => ?_)
        · refine o_val rfl rfl rfl rfl (v_move rfl) ?_
          refine o_skip rfl rfl rfl rfl ?_
          refine o_skip rfl rfl rfl rfl ?_
          refine o_val rfl rfl rfl rfl (v_pick1 rfl rfl) ?_
          refine o_end ?_
          refine r_true rfl ?_
          refine r_seq ?_
          refine r_region rfl ?_
          refine o_val rfl rfl rfl rfl (v_assign rfl) ?_
          refine o_end ?_
          exact r_ret1 Try.func4 rfl rfl ⟨rfl, hF14⟩
        · refine o_val rfl rfl rfl rfl (v_move rfl) ?_
          refine o_val rfl rfl rfl rfl (v_move rfl) ?_
          refine o_val rfl rfl rfl rfl (v_eql rfl rfl) ?_
          refine o_val rfl rfl rfl rfl (v_pick0 rfl rfl) ?_
          refine o_end ?_
          refine r_if rfl (fun g1 => ?_) (fun g1 => ?_)
          · refine r_seq ?_
            refine r_region rfl ?_
            refine o_val rfl rfl rfl rfl (v_assign rfl) ?_
            refine o_end ?_
            exact r_ret1 Try.func4 rfl rfl ⟨rfl, hF14⟩
          · cases bf with
            | nil =>
              have : all.length = 0 := hok
              omega
            | «at» bb cc =>
              have hcc : all.length ≤ cc := hok
              have hal0 : 0 < all.length := by omega
              have hat : cut % all.length < all.length := Nat.mod_lt _ hal0
              generalize hcm : cut % all.length = k at *
              obtain ⟨y, hy⟩ := v_xor8 all[k] flip
              refine j_sel (H' := .mem bb (bytesV all) (cc * 1) :: [.mem t w.cells 7]) [[Ent.mem t w.cells 7], [Ent.mem bb (bytesV all) (cc * 1)]] [1, 0] rfl rfl rfl ?_
              refine r_skip ?_
              refine r_seq ?_
              refine r_region rfl ?_
              refine o_val rfl rfl rfl rfl (v_move rfl) ?_
              refine o_val rfl rfl rfl rfl (v_conv rfl rfl rfl (wrap_i64 (by omega) (by omega))) ?_
              refine o_val rfl rfl rfl rfl (v_move rfl) ?_
              refine o_val rfl rfl rfl rfl (v_len rfl rfl) ?_
              refine o_val rfl rfl rfl rfl (v_rem rfl rfl (by omega) (r := (k : Int)) (by rw [← hcm]; rfl)) ?_
              refine o_val rfl rfl rfl rfl (v_assign rfl) ?_
              refine o_end ?_
              refine r_seq ?_
              refine r_region rfl ?_
              refine o_val rfl rfl rfl rfl (v_move rfl) ?_
              refine o_val rfl rfl rfl rfl (v_move rfl) ?_
              refine o_val rfl rfl rfl rfl (v_move rfl) ?_
              refine o_val rfl rfl rfl rfl (v_move rfl) ?_
              refine o_val rfl rfl rfl rfl (v_index1 rfl rfl rfl rfl hat) ?_
              refine o_val rfl rfl rfl rfl (v_load (v := byteV all[k]) rfl rfl (cell_at (j := 0) rfl (by rw [Nat.zero_add, bytesV_get, List.getElem?_eq_getElem hat]; rfl))) ?_
              refine o_val rfl rfl rfl rfl (v_move rfl) ?_
              refine o_val rfl rfl rfl rfl (v_xor rfl rfl hy) ?_
              refine o_val rfl rfl rfl rfl (v_index1 rfl rfl rfl rfl hat) ?_
              refine o_act0 rfl rfl rfl (a_store1 0 rfl rfl rfl rfl rfl (by simp; omega)) ?_
              refine j_heap (H' := (Bf.at bb cc).ents 1 (bytesV (all.set k y)) ++ [.mem t w.cells 7]) (by
                show _ = Ent.mem bb (bytesV (all.set k y)) (cc * 1) :: [Ent.mem t w.cells 7]
                have e : bytesV (all.set k y) = (bytesV all).set k (byteV y) := by simp [bytesV, List.map_set]
                rw [e]
                simp [byteV]) ?_
              refine j_freezeBf (n := all.length) hcc (by simp) fun F5 hF5 hs5 => ?_
              have hs5' : SlB F5 [] ((Bf.at bb cc).val all.length) (all.set k y) := by
                unfold SlB
                rw [List.length_set]
                exact hs5
              refine o_end ?_
              refine r_seq ?_
              refine r_region rfl ?_
              refine o_val rfl rfl rfl rfl (v_move rfl) ?_
              refine o_call rfl rfl rfl rfl (c_call callable12 rfl) (wal_Scan _ _ _ (all.set k y) _ hs5' (by rw [List.length_set]; omega)) ?_
              rintro v' F6 H' ⟨hF6, rfl, p3, hp3, hpl3, hpp3, rfl⟩ _
              obtain ⟨hsc3, _⟩ := scanP_again (all.set k y).length nilI (all.set k y) (Nat.le_refl _)
              rw [List.length_set] at hsc3
              generalize (scanP nilI (all.set k y)).2 = n3 at *
              have hpo3 := hp3.one
              refine o_val rfl rfl rfl rfl (v_move rfl) ?_
              refine o_val rfl rfl rfl rfl (v_extract rfl rfl) ?_
              refine o_val rfl rfl rfl rfl (v_extract rfl rfl) ?_
              refine o_act rfl rfl rfl rfl (a_alloc rfl) ?_
              rintro v' H' ⟨m3, rfl, rfl⟩
              refine o_act0 rfl rfl rfl (a_store (sz := 7) 0 rfl rfl rfl (by simpa [Value.cells] using hpo3) rfl rfl (Nat.le_of_ble_eq_true rfl)) ?_
              refine o_val rfl rfl rfl rfl (v_assign rfl) ?_
              refine o_end ?_
              refine r_seq ?_
              refine r_region rfl ?_
              refine o_val rfl rfl rfl rfl (v_move rfl) ?_
              refine o_val rfl rfl rfl rfl (v_move rfl) ?_
              refine o_val rfl rfl rfl rfl (v_len rfl rfl) ?_
              refine o_val rfl rfl rfl rfl (v_leq rfl rfl) ?_
              refine o_val rfl rfl rfl rfl (v_assign rfl) ?_
              refine o_end ?_
              refine r_ret1 Try.func4 rfl rfl ⟨by rw [decide_eq_true (by omega)], Fz.le_trans hF14 (Fz.le_trans hF5 hF6)⟩
theorem in_WalJunk (W : World) (v : Value) (zs : List Int) (h : InInts .u8 W v zs) (hz : zs.length * 1 ≤ 140737488351232) (c : Int) (hc : (Lit.int .u16 c).wf = true) (f : Int) (hf : (Lit.int .u8 f).wf = true) (vr : Value) (rs : List RecI) (hr : InRec W vr rs) (hrl : rs.length ≤ 9223372036854775807) :
    Calls Try.prog 4 #[v, .int .u16 c, .int .u8 f, vr] W fun e w' => e = .returned (.bool true) ∧ Go.RowKit.Below W.heap.size W w' := by
  obtain ⟨l, hl, hv⟩ := inBytes h
  simp [Lit.wf, IntKind.min, IntKind.max, IntKind.signed, IntKind.bits] at hc hf
  obtain ⟨c, rfl⟩ := Int.eq_ofNat_of_zero_le hc.1
  obtain ⟨f, rfl⟩ := Int.eq_ofNat_of_zero_le hf.1
  have hff : ((UInt8.ofNat f).toNat : Int) = (f : Int) := by simp; omega
  rw [← hff]
  exact below_of_does (law_WalJunk _ _ v l c (UInt8.ofNat f) vr rs hv (by omega) (by omega) hr.1 hrl (fun r hr' => ⟨⟨(hr.2 r hr').k, (hr.2 r hr').a, (hr.2 r hr').b, (hr.2 r hr').v1, (hr.2 r hr').v2⟩, (hr.2 r hr').d⟩))
end Go.SX
