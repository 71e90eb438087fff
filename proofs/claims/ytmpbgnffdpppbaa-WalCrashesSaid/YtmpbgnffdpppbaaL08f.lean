/-
  The law WalScans: any records, one behind the other, and any bytes behind them.
-/
import Derived.Test.YtmpbgnffdpppbaaWalR
namespace Go.SX
open Go Go.Proofs
set_option maxRecDepth 4000
set_option linter.unusedSimpArgs false
set_option linter.unusedVariables false

abbrev imV (l : List Im) : List Value := l.flatMap Im.cells
theorem im_one {F : Fz} {l : List Im} (h : ∀ p ∈ l, p.ok F) : (imV l).all oneCellB = true := vec_one (c := Im.cells) l fun p hp => (h p hp).one
theorem sl_imlit {F : Fz} {H : List Ent} {b : Nat} {p : Im} (hm : Ent.mem b p.cells 7 ∈ H) : Sl F H 7 (.slice (some ⟨b, 0, none⟩) 1 1) 1 (imV [p]) :=
  ⟨_, 1, rfl, by simp [imV, Im.cells], Nat.le_refl _, by simp, fun j c hj => ⟨b, 0, rfl, cell_own (cs := p.cells) (n := 7) hm (by simpa [imV] using hj)⟩⟩
theorem stepB_le' (p : PI) (r : RecI) (h : r.fit) (hb : p.ix + p.l.length ≤ 9000000000000000000) : (stepB p r).length ≤ 310 := by
  obtain ⟨k, d, _, h1, h2, _⟩ := step_fed p r h hb
  rw [h2]
  simp
  omega
def imAt (p0 : Im) (ws : List Im) (j : Nat) : Im := ((p0 :: ws)[j]?).getD p0
theorem imAt_pure (p0 : Im) (ws : List Im) (j : Nat) (h0 : p0.pure = nilI) : (imAt p0 ws j).pure = stW (ws.map Im.pure) j := by
  unfold imAt stW
  rw [← h0, ← List.map_cons, List.getElem?_map]
  cases (p0 :: ws)[j]? <;> rfl
theorem imAt_succ (p0 : Im) (ws : List Im) (j : Nat) (h : j < ws.length) : imAt p0 ws (j + 1) = ws[j] := by
  unfold imAt
  rw [List.getElem?_cons_succ, List.getElem?_eq_getElem h]
  rfl
theorem imAt_ok {F : Fz} (p0 : Im) (ws : List Im) (j : Nat) (h0 : p0.ok F) (h : ∀ p ∈ ws, p.ok F) : (imAt p0 ws j).ok F := by
  unfold imAt
  cases hh : (p0 :: ws)[j]? with
  | none => exact h0
  | some q =>
    have := List.mem_of_getElem? hh
    rcases List.mem_cons.1 this with rfl | hq
    · exact h0
    · exact h q hq
structure SsG where
  i : Nat
  F : Fz
  w : Im
  rl : List (Nat × List UInt8)
  tail : List UInt8
  bad : Bool
  ws : List Im
  ba : Bf
  be : Bf
  bw : Bf
structure SsI (F3 : Fz) (n : Nat) (g : SsG) : Prop where
  F : F3.le g.F
  i : g.i ≤ n
  w : g.w.ok g.F
  wc : Consec g.w.ix g.w.l
  wx : g.w.ix ≤ 1000
  wl : g.w.l.length ≤ g.i
  ws : ∀ p ∈ g.ws, p.ok g.F
  wn : g.ws.length = g.rl.length
  rn : g.rl.length ≤ g.i
  tr : Track g.rl (g.ws.map Im.pure)
  st : stW (g.ws.map Im.pure) g.rl.length = g.w.pure
  sp : Stops g.w.pure g.tail
  bd : g.bad = false → g.tail = []
  bt : g.bad = true → g.tail ≠ []
  al : (catR g.rl ++ g.tail).length ≤ g.i * 310
  oka : g.ba.ok (catR g.rl ++ g.tail).length
  oke : g.be.ok g.rl.length
  okw : g.bw.ok g.rl.length
abbrev ssH (t m : Nat) (g : SsG) : List Ent := .mem t g.w.cells 7 :: .mem m g.w.cells 7 :: (g.ba.ents 1 (bytesV (catR g.rl ++ g.tail)) ++ (g.be.ents 1 (endsV g.rl) ++ (g.bw.ents 7 (imV g.ws) ++ [])))
set_option maxHeartbeats 3200000 in
theorem law_WalScans (O : World) (F : Fz) (vr : Value) (rs : List RecI) (v : Value) (junk : List UInt8) (keep : Nat) (hv : SlB F [] v junk) (hbl : junk.length ≤ 140737488351232) (hkeep : keep < 65536) (hrv : Sl F [] 5 vr rs.length (rs.flatMap RecI.cells)) (hrl : rs.length ≤ 9223372036854775807)
    (hrs : ∀ r ∈ rs, (r.k < 256 ∧ r.a < 18446744073709551616 ∧ r.b < 18446744073709551616 ∧ -32768 ≤ r.v ∧ r.v ≤ 32767) ∧ SlB F [] r.dv r.d) :
    Does Try.prog O 3 #[vr, v, .int .u16 keep] F [] (fun r _ _ => r = .bool true) := by
  obtain ⟨a0, cap, rfl, hcap⟩ := Sl.shape hv
  obtain ⟨a9, cap9, rfl, hcap9⟩ := Sl.shape hrv
  refine does_of_run (args := [_, _, _]) Try.func3 rfl rfl ?_
  refine r_seq ?_
  refine r_region rfl ?_
  refine o_val rfl rfl rfl rfl (v_assign rfl) ?_
  refine o_end ?_
  refine r_seq ?_
  refine r_seq ?_
  refine r_region rfl ?_
  refine o_call rfl rfl rfl rfl (c_call callable9 rfl) (law_awake _ _ _) ?_
  rintro v' F1 H' ⟨rfl, rfl⟩ hF1
  refine o_val rfl rfl rfl rfl (v_not rfl) ?_
  refine o_val rfl rfl rfl rfl (v_move rfl) ?_
  refine o_val rfl rfl rfl rfl (v_move rfl) ?_
  refine o_call rfl rfl rfl rfl (c_call callable10 rfl) (law_short _ _ _ rs _ (hrv.frz hF1) (fun r hr => (hrs r hr).2.frz hF1) hrl) ?_
  rintro v' F1 H' ⟨rfl, rfl, hsh⟩ _
  rcases hsh with rfl | ⟨rfl, hs60, hs200⟩
  · skip
    refine o_val rfl rfl rfl rfl (v_not rfl) ?_
    refine o_val rfl rfl rfl rfl (v_pick0 rfl rfl) ?_
    refine o_val rfl rfl rfl rfl (v_move rfl) ?_
    refine o_skip rfl rfl rfl rfl ?_
    refine o_skip rfl rfl rfl rfl ?_
    refine o_skip rfl rfl rfl rfl ?_
    refine o_val rfl rfl rfl rfl (v_pick1 rfl rfl) ?_
    refine o_end ?_
    refine r_true rfl ?_
    refine r_seq ?_
    refine r_region rfl ?_
    refine o_call rfl rfl rfl rfl (c_call callable9 rfl) (law_awake _ _ _) ?_
    rintro v' F2 H' ⟨rfl, rfl⟩ hF2
    refine o_val rfl rfl rfl rfl (v_assign rfl) ?_
    refine o_end ?_
    exact r_ret1 Try.func3 rfl rfl ⟨rfl, Fz.le_trans hF1 hF2⟩
  · skip
    refine o_val rfl rfl rfl rfl (v_not rfl) ?_
    refine o_val rfl rfl rfl rfl (v_pick0 rfl rfl) ?_
    refine o_val rfl rfl rfl rfl (v_move rfl) ?_
    refine o_val rfl rfl rfl rfl (v_move rfl) ?_
    refine o_val rfl rfl rfl rfl (v_len rfl rfl) ?_
    refine o_val rfl rfl rfl rfl (v_gtr rfl rfl) ?_
    refine o_val rfl rfl rfl rfl (v_pick0 rfl rfl) ?_
    refine o_end ?_
    refine r_if rfl (fun g1 => ?_) (fun g1 => ?_)
    · refine r_seq ?_
      refine r_region rfl ?_
      refine o_call rfl rfl rfl rfl (c_call callable9 rfl) (law_awake _ _ _) ?_
      rintro v' F2 H' ⟨rfl, rfl⟩ hF2
      refine o_val rfl rfl rfl rfl (v_assign rfl) ?_
      refine o_end ?_
      exact r_ret1 Try.func3 rfl rfl ⟨rfl, Fz.le_trans hF1 hF2⟩
    · have hj8 : junk.length < 9 := by omega
      obtain ⟨p0, hp0⟩ : ∃ p0 : Im, p0 = ⟨0, -1, 0, 0, 0, .slice none 0 0, [], .slice none 0 0, []⟩ := ⟨_, rfl⟩
      have hp0ok : p0.ok F1 := by rw [hp0]; exact ⟨by decide, by decide, by decide, by decide, by decide, by decide, Sl.nil _ _ _, by simp, Sl.nil _ _ _, by simp⟩
      have hp0p : p0.pure = nilI := by rw [hp0]; rfl
      refine r_skip ?_
      refine r_seq ?_
      refine r_region rfl ?_
      refine o_val rfl rfl rfl rfl (v_build rfl rfl) ?_
      refine o_val rfl rfl rfl rfl (v_build rfl rfl) ?_
      refine o_act rfl rfl rfl rfl (a_alloc rfl) ?_
      rintro v' H' ⟨t, rfl, rfl⟩
      refine o_act0 rfl rfl rfl (a_store (sz := 7) 0 rfl rfl rfl rfl rfl rfl (Nat.le_of_ble_eq_true rfl)) ?_
      refine j_heap (H' := [.mem t p0.cells 7]) (by rw [hp0]; rfl) ?_
      refine o_end ?_
      refine r_seq ?_
      refine r_region rfl ?_
      refine o_val rfl rfl rfl rfl (v_assign rfl) ?_
      refine o_end ?_
      refine r_seq ?_
      refine r_region rfl ?_
      refine o_val rfl rfl rfl rfl (v_assign rfl) ?_
      refine o_end ?_
      refine r_seq ?_
      refine r_region rfl ?_
      refine o_val rfl rfl rfl rfl (v_assign rfl) ?_
      refine o_end ?_
      refine r_seq ?_
      refine r_region rfl ?_
      refine o_val rfl rfl rfl rfl (v_loadAgg (sz := 7) (cs := p0.cells) rfl rfl rfl rfl (cells_of (j := 0) _ _ rfl rfl)) ?_
      refine o_act rfl rfl rfl rfl (a_alloc rfl) ?_
      rintro v' H' ⟨m, rfl, rfl⟩
      refine o_act0 rfl rfl rfl (a_store (sz := 7) 0 rfl rfl rfl (by rw [hp0]; rfl) rfl rfl (Nat.le_of_ble_eq_true rfl)) ?_
      refine j_heap (H' := [.mem m p0.cells 7, .mem t p0.cells 7]) rfl ?_
      refine j_sel (H' := ssH t m ⟨0, F1, p0, [], [], false, [], .nil, .nil, .nil⟩) [[Ent.mem m p0.cells 7], [Ent.mem t p0.cells 7]] [1, 0] rfl rfl rfl ?_
      refine o_end ?_
      refine r_seq ?_
      refine r_region rfl ?_
      refine o_val rfl rfl rfl rfl (v_assign rfl) ?_
      refine o_end ?_
      refine r_seq ?_
      refine r_region rfl ?_
      refine o_val rfl rfl rfl rfl (v_assign rfl) ?_
      refine o_end ?_
      refine r_seq ?_
      refine r_seq ?_
      refine r_region rfl ?_
      refine o_val rfl rfl rfl rfl (v_assign rfl) ?_
      refine o_end ?_
      refine r_block ?_
      refine r_loop (fun g : SsG => SsI F1 rs.length g) (fun g => [(0, .slice a9 rs.length cap9), (1, .slice a0 junk.length cap), (2, .int .u16 keep), (7, ptrV t), (8, g.ba.val (catR g.rl ++ g.tail).length), (9, g.be.val g.rl.length), (10, .bool g.bad), (11, ptrV m), (12, .int .i64 (catR g.rl).length), (13, g.bw.val g.rl.length), (14, .int .i64 g.i)]) (fun g => g.F) (fun g => ssH t m g) (fun g => rs.length - g.i) ⟨0, F1, p0, [], [], false, [], .nil, .nil, .nil⟩ ⟨Fz.le_refl _, Nat.zero_le _, hp0ok, by dsimp only; rw [hp0]; exact Consec.nil _, by dsimp only; rw [hp0]; simp, by dsimp only; rw [hp0]; simp, by simp, rfl, Nat.zero_le _, Track.nil, hp0p.symm, .inl rfl, fun _ => rfl, fun h => (by cases h), by simp, rfl, rfl, rfl⟩ ⟨rfl, rfl, rfl, rfl, rfl, rfl, rfl, rfl, rfl, rfl, rfl, trivial⟩ rfl rfl ?_
      rintro ⟨i, F4, w, rl, tail, bad, ws, ba, be, bw⟩ hI IH
      obtain ⟨hF4, hi, hw, hwc, hwx, hwl, hws, hwn, hrn, htr, hst, hsp, hbd, hbt, hal, oka, oke, okw⟩ := hI
      dsimp only at hF4 hi hw hwc hwx hwl hws hwn hrn htr hst hsp hbd hbt hal oka oke okw ⊢
      have hF14 : F.le F4 := Fz.le_trans hF1 hF4
      refine r_seq ?_
      refine r_seq ?_
      refine r_region rfl ?_
      refine o_val rfl rfl rfl rfl (v_move rfl) ?_
      refine o_val rfl rfl rfl rfl (v_move rfl) ?_
      refine o_val rfl rfl rfl rfl (v_len rfl rfl) ?_
      refine o_val rfl rfl rfl rfl (v_lss rfl rfl) ?_
      refine o_end ?_
      refine r_if rfl (fun h => ?_) (fun h => ?_)
      · have hil : i < rs.length := by omega
        obtain ⟨b0, off0, c0, hab, hcl⟩ := rec_cells hrv hil
        simp only [Value.slice.injEq] at hab
        obtain ⟨rfl, _, rfl⟩ := hab
        have hri := hrs rs[i] (List.getElem_mem _)
        have hdi := hs200 rs[i] (List.getElem_mem _)
        generalize rs[i] = r at *
        obtain ⟨⟨r1, r2, r3, r4, r5⟩, r6⟩ := hri
        have hfit : r.fit := ⟨r1, r2, r3, r4, r5, hdi⟩
        have hpl : w.pure.l.length = w.l.length := by simp [Im.pure]
        have hsl := stepB_le' w.pure r hfit (by rw [hpl]; show w.ix + _ ≤ _; omega)
        obtain ⟨k, d, hk, hd, hsB, hsQ⟩ := step_fed w.pure r hfit (by rw [hpl]; show w.ix + _ ≤ _; omega)
        obtain ⟨z0, hz0⟩ : ∃ z0 : Im, z0 = ⟨0, 0, 0, 0, 0, .slice none 0 0, [], .slice none 0 0, []⟩ := ⟨_, rfl⟩
        refine r_skip ?_
        refine r_seq ?_
        refine r_block ?_
        refine r_seq ?_
        refine d_region 1000000 rfl ([.mem t w.cells 7]) ?_
        refine d_take (i := 0) rfl rfl rfl (by decide +kernel) (by decide +kernel) (by decide +kernel) (Fz.le_refl _) (by intro z hz; simp only [List.mem_cons, List.not_mem_nil, or_false] at hz; subst hz; simp) rfl (v_loadAgg (sz := 7) (cs := w.cells) rfl rfl rfl rfl (cells_of (j := 0) _ _ rfl rfl)) ?_
        refine d_take (i := 1) rfl rfl rfl (by decide +kernel) (by decide +kernel) (by decide +kernel) (Fz.le_refl _) (by intro z hz; simp only [List.mem_cons, List.not_mem_nil, or_false] at hz; subst hz; simp) rfl (v_move rfl) ?_
        refine d_take (i := 2) rfl rfl rfl (by decide +kernel) (by decide +kernel) (by decide +kernel) (Fz.le_refl _) (by intro z hz; simp only [List.mem_cons, List.not_mem_nil, or_false] at hz; subst hz; simp) rfl (v_move rfl) ?_
        refine d_take (i := 3) rfl rfl rfl (by decide +kernel) (by decide +kernel) (by decide +kernel) (Fz.le_refl _) (by intro z hz; simp only [List.mem_cons, List.not_mem_nil, or_false] at hz; subst hz; simp) rfl (v_indexN (sz := 5) rfl rfl rfl rfl hil) ?_
        refine d_take (i := 4) rfl rfl rfl (by decide +kernel) (by decide +kernel) (by decide +kernel) (Fz.le_refl _) (by intro z hz; simp only [List.mem_cons, List.not_mem_nil, or_false] at hz; subst hz; simp) rfl (v_loadAgg (sz := 5) (cs := r.cells) rfl rfl rfl rfl (fun j c hj => (hcl j c hj).mono hF14 (by simp))) ?_
        refine d_all [5, 10] (by decide +kernel) (by simp) ?_
        intro zz hzz
        simp only [List.mem_cons, List.not_mem_nil, or_false] at hzz
        rcases hzz with rfl | rfl
        · refine d1_call rfl rfl rfl rfl (c_call callable11 rfl) (law_bytes _ _ w r _ hw hwc (by omega) hwx hfit (r6.frz hF14)) ?_
          rintro v' F5 H' ⟨hF5, bf2, q, ok, hok2, rfl, rfl, hq, hqc, hqx, hql, hqs⟩ _
          refine ⟨fun w hw => held_of hw (by first | exact Fz.le_refl _ | assumption) (by intro z hz; simp only [List.mem_cons, List.not_mem_nil, or_false] at hz; subst hz; simp), ?_⟩
          refine d_take (i := 6) rfl rfl rfl (by decide +kernel) (by decide +kernel) (by decide +kernel) hF5 (by intro z hz; simp only [List.mem_cons, List.not_mem_nil, or_false] at hz; subst hz; simp) rfl (v_move rfl) ?_
          refine d_take (i := 7) rfl rfl rfl (by decide +kernel) (by decide +kernel) (by decide +kernel) hF5 (by intro z hz; simp only [List.mem_cons, List.not_mem_nil, or_false] at hz; subst hz; simp) rfl (v_extract rfl rfl) ?_
          refine d_take (i := 8) rfl rfl rfl (by decide +kernel) (by decide +kernel) (by decide +kernel) hF5 (by intro z hz; simp only [List.mem_cons, List.not_mem_nil, or_false] at hz; subst hz; simp) rfl (v_extract rfl rfl) ?_
          refine d_take (i := 9) rfl rfl rfl (by decide +kernel) (by decide +kernel) (by decide +kernel) hF5 (by intro z hz; simp only [List.mem_cons, List.not_mem_nil, or_false] at hz; subst hz; simp) rfl (v_extract rfl rfl) ?_
          refine d_one (i := 10) (by decide +kernel) ?_
          refine d1_act rfl rfl rfl rfl (a_alloc rfl) ?_
          rintro v' H' ⟨n2, rfl, rfl⟩
          refine ⟨fun w hw => held_of hw hF5 (by intro z hz; simp only [List.mem_cons, List.not_mem_nil, or_false] at hz; subst hz; simp), ?_⟩
          refine d_take (i := 11) rfl rfl rfl (by decide +kernel) (by decide +kernel) (by decide +kernel) hF5 (by intro z hz; simp only [List.mem_cons, List.not_mem_nil, or_false] at hz; subst hz; simp) rfl (v_assign rfl) ?_
          have e7 : ∀ H0 : List Ent, H0 = H0 := fun _ => rfl
          rw [hsB] at hok2 hsl ⊢
          rw [← hsQ] at hqs
          generalize hpb : recB k d = pb at *
          have hqo := hq.one
          first
            | refine j_sel (H' := .mem n2 z0.cells 7 :: .mem t w.cells 7 :: .mem m w.cells 7 :: (ba.ents 1 (bytesV (catR rl ++ tail)) ++ (bf2.ents 1 (bytesV pb) ++ (be.ents 1 (endsV rl) ++ (bw.ents 7 (imV ws) ++ []))))) [bf2.ents 1 (bytesV pb), [Ent.mem n2 z0.cells 7], [Ent.mem t w.cells 7], [Ent.mem m w.cells 7], ba.ents 1 (bytesV (catR rl ++ tail)), be.ents 1 (endsV rl), bw.ents 7 (imV ws), []] [1, 2, 3, 4, 0, 5, 6, 7] (by rw [hz0]; rfl) rfl rfl ?_
            | refine j_sel (H' := .mem n2 z0.cells 7 :: .mem t w.cells 7 :: .mem m w.cells 7 :: (ba.ents 1 (bytesV (catR rl ++ tail)) ++ (bf2.ents 1 (bytesV pb) ++ (be.ents 1 (endsV rl) ++ (bw.ents 7 (imV ws) ++ []))))) [[Ent.mem n2 z0.cells 7], bf2.ents 1 (bytesV pb), [Ent.mem t w.cells 7], [Ent.mem m w.cells 7], ba.ents 1 (bytesV (catR rl ++ tail)), be.ents 1 (endsV rl), bw.ents 7 (imV ws), []] [0, 2, 3, 4, 1, 5, 6, 7] (by rw [hz0]; rfl) rfl rfl ?_
          refine d_more ([.mem t w.cells 7]) hF5 (by intro z hz; simp only [List.mem_cons, List.not_mem_nil, or_false] at hz; subst hz; simp) ?_
          refine d_one (i := 12) (by decide +kernel) ?_
          refine d1_act0 rfl rfl rfl (a_store (sz := 7) 0 rfl rfl rfl (by simpa [Value.cells] using hqo) rfl rfl (by rw [hz0]; exact Nat.le_of_ble_eq_true rfl)) (fun w hw => held_of hw (Fz.le_refl _) (by intro z hz; simp only [List.mem_cons, List.not_mem_nil, or_false] at hz; subst hz; simp)) ?_
          refine j_heap (H' := .mem n2 q.cells 7 :: .mem t w.cells 7 :: .mem m w.cells 7 :: (ba.ents 1 (bytesV (catR rl ++ tail)) ++ (bf2.ents 1 (bytesV pb) ++ (be.ents 1 (endsV rl) ++ (bw.ents 7 (imV ws) ++ []))))) (by rw [hz0]; rfl) ?_
          refine d_take (i := 13) rfl rfl rfl (by decide +kernel) (by decide +kernel) (by decide +kernel) (Fz.le_refl _) (by intro z hz; simp only [List.mem_cons, List.not_mem_nil, or_false] at hz; subst hz; simp) rfl (v_assign rfl) ?_
          refine d_end (by decide +kernel) ?_
          refine r_seq ?_
          refine r_region rfl ?_
          refine o_val rfl rfl rfl rfl (v_move rfl) ?_
          refine o_val rfl rfl rfl rfl (v_move rfl) ?_
          have rd2 : SlB F5 (bf2.ents 1 (bytesV pb)) (bf2.val pb.length) pb := bf_reads hok2 (by intro z hz; exact hz)
          refine o_act rfl rfl rfl rfl (a_appendP (bf := ba) (n := (catR rl ++ tail).length) (sz := 1) (bytes := 1) (m := pb.length) [.mem n2 q.cells 7, .mem t w.cells 7, .mem m w.cells 7] ⟨⟨_, _, _, rfl, rfl, rfl, rfl, rfl, rfl⟩, by decide⟩ rfl oka (by simp) rfl rfl (rd2.mono (Fz.le_refl _) (by intro z hz; simp [hz])) (bytes_one _) (by unfold maxLen; omega) (by omega)) ?_
          rintro v' H' ⟨ba2, rfl, oka2, rfl⟩
          rw [← bytesV_append]
          rw [← List.length_append] at oka2 ⊢
          rw [List.append_assoc] at oka2 ⊢
          refine j_sel (H' := .mem n2 q.cells 7 :: .mem t w.cells 7 :: .mem m w.cells 7 :: (ba2.ents 1 (bytesV (catR rl ++ (tail ++ pb))) ++ (be.ents 1 (endsV rl) ++ (bw.ents 7 (imV ws) ++ [])))) [[Ent.mem n2 q.cells 7], [Ent.mem t w.cells 7], [Ent.mem m w.cells 7], ba2.ents 1 (bytesV (catR rl ++ (tail ++ pb))), bf2.ents 1 (bytesV pb), be.ents 1 (endsV rl), bw.ents 7 (imV ws), []] [0, 1, 2, 3, 5, 6, 7] rfl rfl rfl ?_
          have hF45 := Fz.le_trans hF4 hF5
          have hal2 : (catR rl ++ (tail ++ pb)).length ≤ (i + 1) * 310 := by
            rw [← List.append_assoc, List.length_append]
            omega
          have hpbne : pb ≠ [] := by
            intro h0
            have := congrArg List.length h0
            rw [← hpb, recB_length] at this
            simp at this
          cases bad with
          | true =>
            have hnext : SsI F1 rs.length ⟨i + 1, F5, w, rl, tail ++ pb, true, ws, ba2, be, bw⟩ := ⟨hF45, hil, hw.frz hF5, hwc, hwx, by dsimp only; omega, fun p hp => (hws p hp).frz hF5, hwn, by dsimp only; omega, htr, hst, hsp.app (hbt rfl), fun h => (by cases h), fun _ h0 => hpbne (List.append_eq_nil_iff.1 h0).2, hal2, oka2, oke, okw⟩
            cases ok with
            | true =>
              refine o_val rfl rfl rfl rfl (v_assign rfl) ?_
              refine o_end ?_
              refine r_seq ?_
              refine r_seq ?_
              refine r_region rfl ?_
              refine o_val rfl rfl rfl rfl (v_move rfl) ?_
              refine o_val rfl rfl rfl rfl (v_not rfl) ?_
              refine o_end ?_
              refine r_false rfl ?_
              refine r_skip ?_
              refine r_seq ?_
              refine r_region rfl ?_
              refine o_val rfl rfl rfl rfl (v_move rfl) ?_
              refine o_val rfl rfl rfl rfl (v_not rfl) ?_
              refine o_end ?_
              refine r_false rfl ?_
              refine j_drop (List.sublist_cons_self _ _) ?_
              refine r_skip ?_
              refine r_inBlock ?_
              refine r_region rfl ?_
              refine o_val rfl rfl rfl rfl (v_move rfl) ?_
              refine o_val rfl rfl rfl rfl (v_add rfl rfl (wrap_i64 (by omega) (by omega))) ?_
              refine o_val rfl rfl rfl rfl (v_assign rfl) ?_
              refine o_end ?_
              refine j_keep ?_ (IH _ hnext (by dsimp only; omega))
              exact ⟨rfl, rfl, rfl, rfl, rfl, rfl, rfl, rfl, rfl, rfl, rfl, trivial⟩
            | false =>
              refine o_val rfl rfl rfl rfl (v_assign rfl) ?_
              refine o_end ?_
              refine r_seq ?_
              refine r_seq ?_
              refine r_region rfl ?_
              refine o_val rfl rfl rfl rfl (v_move rfl) ?_
              refine o_val rfl rfl rfl rfl (v_not rfl) ?_
              refine o_end ?_
              refine r_true rfl ?_
              refine r_region rfl ?_
              refine o_val rfl rfl rfl rfl (v_assign rfl) ?_
              refine o_end ?_
              refine r_seq ?_
              refine r_region rfl ?_
              refine o_val rfl rfl rfl rfl (v_move rfl) ?_
              refine o_val rfl rfl rfl rfl (v_not rfl) ?_
              refine o_end ?_
              refine r_false rfl ?_
              refine j_drop (List.sublist_cons_self _ _) ?_
              refine r_skip ?_
              refine r_inBlock ?_
              refine r_region rfl ?_
              refine o_val rfl rfl rfl rfl (v_move rfl) ?_
              refine o_val rfl rfl rfl rfl (v_add rfl rfl (wrap_i64 (by omega) (by omega))) ?_
              refine o_val rfl rfl rfl rfl (v_assign rfl) ?_
              refine o_end ?_
              refine j_keep ?_ (IH _ hnext (by dsimp only; omega))
              exact ⟨rfl, rfl, rfl, rfl, rfl, rfl, rfl, rfl, rfl, rfl, rfl, trivial⟩
          | false =>
            have htn := hbd rfl
            subst htn
            rw [List.nil_append] at hal2 oka2 ⊢
            cases ok with
            | true =>
              have hqQ : addP w.pure k d = some q.pure := by
                rcases hqs with ⟨_, h1⟩ | ⟨h1, _⟩
                · exact h1
                · cases h1
              have e1 : catR (rl ++ [(k, d)]) = catR rl ++ pb := by rw [catR_append, ← hpb]; simp [catR]
              have e2 : catR (rl ++ [(k, d)]) ++ [] = catR rl ++ pb := by rw [List.append_nil, e1]
              have htr2 := htr.more hk hd (by rw [hst]; exact hqQ)
              have hst2 : stW (ws.map Im.pure ++ [q.pure]) (rl.length + 1) = q.pure := by
                have h0 := stW_end (ws.map Im.pure) q.pure
                rw [List.length_map, hwn] at h0
                exact h0
              rw [← e1] at hal2 oka2 ⊢
              rw [← List.map_singleton (f := Im.pure), ← List.map_append] at htr2 hst2
              have hrl1 : (rl ++ [(k, d)]).length = rl.length + 1 := by simp
              refine o_val rfl rfl rfl rfl (v_assign rfl) ?_
              refine o_end ?_
              refine r_seq ?_
              refine r_seq ?_
              refine r_region rfl ?_
              refine o_val rfl rfl rfl rfl (v_move rfl) ?_
              refine o_val rfl rfl rfl rfl (v_not rfl) ?_
              refine o_end ?_
              refine r_false rfl ?_
              refine r_skip ?_
              refine r_seq ?_
              refine r_region rfl ?_
              refine o_val rfl rfl rfl rfl (v_move rfl) ?_
              refine o_val rfl rfl rfl rfl (v_not rfl) ?_
              refine o_end ?_
              refine r_true rfl ?_
              refine r_seq ?_
              refine r_region rfl ?_
              refine o_val rfl rfl rfl rfl (v_loadAgg (sz := 7) (cs := q.cells) rfl rfl rfl rfl (cells_of (j := 0) _ _ rfl rfl)) ?_
              refine o_act0 rfl rfl rfl (a_store (sz := 7) 1 rfl rfl rfl (by simpa [Value.cells] using hqo) rfl rfl (Nat.le_of_ble_eq_true rfl)) ?_
              refine j_heap (H' := .mem n2 q.cells 7 :: .mem t q.cells 7 :: .mem m w.cells 7 :: (ba2.ents 1 (bytesV (catR (rl ++ [(k, d)]))) ++ (be.ents 1 (endsV rl) ++ (bw.ents 7 (imV ws) ++ [])))) rfl ?_
              refine o_end ?_
              refine r_seq ?_
              refine r_region rfl ?_
              refine o_val rfl rfl rfl rfl (v_loadAgg (sz := 7) (cs := q.cells) rfl rfl rfl rfl (cells_of (j := 1) _ _ rfl rfl)) ?_
              refine o_act0 rfl rfl rfl (a_store (sz := 7) 2 rfl rfl rfl (by simpa [Value.cells] using hqo) rfl rfl (Nat.le_of_ble_eq_true rfl)) ?_
              refine j_heap (H' := .mem n2 q.cells 7 :: .mem t q.cells 7 :: .mem m q.cells 7 :: (ba2.ents 1 (bytesV (catR (rl ++ [(k, d)]))) ++ (be.ents 1 (endsV rl) ++ (bw.ents 7 (imV ws) ++ [])))) rfl ?_
              refine o_end ?_
              refine r_seq ?_
              refine r_region rfl ?_
              refine o_val rfl rfl rfl rfl (v_move rfl) ?_
              refine o_val rfl rfl rfl rfl (v_len rfl rfl) ?_
              refine o_val rfl rfl rfl rfl (v_assign rfl) ?_
              refine o_end ?_
              refine r_seq ?_
              refine r_region rfl ?_
              refine o_val rfl rfl rfl rfl (v_move rfl) ?_
              refine o_val rfl rfl rfl rfl (v_move rfl) ?_
              refine o_act rfl rfl rfl rfl (a_buildS (sz := 1) (cs := [.int .i64 (catR (rl ++ [(k, d)])).length]) [.tmp 67] rfl rfl rfl rfl rfl rfl rfl rfl rfl rfl) ?_
              rintro v' H' ⟨y, rfl, rfl⟩
              refine o_act rfl rfl rfl rfl (a_appendP (bf := be) (n := rl.length) (m := 1) (ys := [.int .i64 (catR (rl ++ [(k, d)])).length]) (sz := 1) (bytes := 8) (.mem y [.int .i64 (catR (rl ++ [(k, d)])).length] 1 :: .mem n2 q.cells 7 :: .mem t q.cells 7 :: .mem m q.cells 7 :: ba2.ents 1 (bytesV (catR (rl ++ [(k, d)])))) ⟨⟨_, _, _, rfl, rfl, rfl, rfl, rfl, rfl⟩, by decide⟩ rfl oke (by simp) rfl rfl ⟨_, 1, rfl, rfl, by simp, by simp, fun j c hj => ⟨y, 0, rfl, cell_at (j := 0) rfl (by simpa using hj)⟩⟩ rfl (by unfold maxLen; omega) (by omega)) ?_
              rintro v' H' ⟨be2, rfl, oke2, rfl⟩
              rw [← endsV_app]
              refine o_val rfl rfl rfl rfl (v_assign rfl) ?_
              refine o_end ?_
              refine r_region rfl ?_
              refine o_val rfl rfl rfl rfl (v_move rfl) ?_
              refine o_val rfl rfl rfl rfl (v_loadAgg (sz := 7) (cs := q.cells) rfl rfl rfl rfl (cells_of (j := 2) _ _ rfl rfl)) ?_
              refine o_act rfl rfl rfl rfl (a_buildS (sz := 7) (cs := q.cells) [.tmp 71] rfl rfl rfl rfl rfl rfl rfl rfl rfl rfl) ?_
              rintro v' H' ⟨y2, rfl, rfl⟩
              refine j_sel (H' := .mem y2 q.cells 7 :: .mem t q.cells 7 :: .mem m q.cells 7 :: (ba2.ents 1 (bytesV (catR (rl ++ [(k, d)]))) ++ (be2.ents 1 (endsV (rl ++ [(k, d)])) ++ (bw.ents 7 (imV ws) ++ [])))) [[Ent.mem y2 q.cells 7], [Ent.mem y [.int .i64 (catR (rl ++ [(k, d)])).length] 1], [Ent.mem n2 q.cells 7], [Ent.mem t q.cells 7], [Ent.mem m q.cells 7], ba2.ents 1 (bytesV (catR (rl ++ [(k, d)]))), be2.ents 1 (endsV (rl ++ [(k, d)])), bw.ents 7 (imV ws), []] [0, 3, 4, 5, 6, 7, 8] rfl rfl rfl ?_
              refine o_act rfl rfl rfl rfl (a_appendP (bf := bw) (n := rl.length) (m := 1) (ys := imV [q]) (sz := 7) (bytes := 88) (.mem y2 q.cells 7 :: .mem t q.cells 7 :: .mem m q.cells 7 :: (ba2.ents 1 (bytesV (catR (rl ++ [(k, d)]))) ++ be2.ents 1 (endsV (rl ++ [(k, d)])))) ⟨⟨_, _, _, rfl, rfl, rfl, rfl, rfl, rfl⟩, by decide⟩ rfl okw (by rw [vec_len (c := Im.cells) Im.cl, hwn]) (H1 := []) (by simp only [List.cons_append, List.append_assoc]) rfl (sl_imlit (p := q) (List.mem_cons_self ..)) (by simpa [imV] using hqo) (by unfold maxLen; omega) (by omega)) ?_
              rintro v' H' ⟨bw2, rfl, okw2, rfl⟩
              rw [← vec_append]
              refine j_sel (H' := .mem t q.cells 7 :: .mem m q.cells 7 :: (ba2.ents 1 (bytesV (catR (rl ++ [(k, d)]))) ++ (be2.ents 1 (endsV (rl ++ [(k, d)])) ++ (bw2.ents 7 (imV (ws ++ [q])) ++ [])))) [[Ent.mem y2 q.cells 7], [Ent.mem t q.cells 7], [Ent.mem m q.cells 7], ba2.ents 1 (bytesV (catR (rl ++ [(k, d)]))), be2.ents 1 (endsV (rl ++ [(k, d)])), bw2.ents 7 (imV (ws ++ [q])), []] [1, 2, 3, 4, 5, 6] (by simp [cat]) rfl rfl ?_
              have hnext : SsI F1 rs.length ⟨i + 1, F5, q, rl ++ [(k, d)], [], false, ws ++ [q], ba2, be2, bw2⟩ := ⟨hF45, hil, hq, hqc, hqx, by dsimp only; omega, fun p hp => by
                rcases List.mem_append.1 hp with hp | hp
                · exact (hws p hp).frz hF5
                · rw [List.mem_singleton] at hp
                  rw [hp]
                  exact hq, by dsimp only; rw [hrl1, List.length_append, hwn]; rfl, by dsimp only; omega, htr2, by dsimp only; rw [hrl1]; exact hst2, .inl rfl, fun _ => rfl, fun h => (by cases h), by dsimp only; rw [List.append_nil]; exact hal2, by dsimp only; rw [List.append_nil]; exact oka2, by dsimp only; rw [hrl1]; exact oke2, by dsimp only; rw [hrl1]; exact okw2⟩
              refine o_val rfl rfl rfl rfl (v_assign rfl) ?_
              refine o_end ?_
              refine r_inBlock ?_
              refine r_region rfl ?_
              refine o_val rfl rfl rfl rfl (v_move rfl) ?_
              refine o_val rfl rfl rfl rfl (v_add rfl rfl (wrap_i64 (by omega) (by omega))) ?_
              refine o_val rfl rfl rfl rfl (v_assign rfl) ?_
              refine o_end ?_
              refine j_keep ?_ (j_heap (by simp [ssH]) (IH _ hnext (by dsimp only; omega)))
              exact ⟨rfl, rfl, rfl, rfl, by dsimp only; rw [List.append_nil (catR (rl ++ [(k, d)]))]; rfl, by dsimp only; rw [hrl1]; rfl, rfl, rfl, rfl, by dsimp only; rw [hrl1]; rfl, rfl, trivial⟩
            | false =>
              have hqQ : addP w.pure k d = none := by
                rcases hqs with ⟨h1, _⟩ | ⟨_, h1, _⟩
                · cases h1
                · exact h1
              have hnext : SsI F1 rs.length ⟨i + 1, F5, w, rl, pb, true, ws, ba2, be, bw⟩ := ⟨hF45, hil, hw.frz hF5, hwc, hwx, by dsimp only; omega, fun p hp => (hws p hp).frz hF5, hwn, by dsimp only; omega, htr, hst, .inr ⟨k, d, [], by rw [← hpb, List.append_nil], hd, hk, hqQ⟩, fun h => (by cases h), fun _ => hpbne, hal2, oka2, oke, okw⟩
              refine o_val rfl rfl rfl rfl (v_assign rfl) ?_
              refine o_end ?_
              refine r_seq ?_
              refine r_seq ?_
              refine r_region rfl ?_
              refine o_val rfl rfl rfl rfl (v_move rfl) ?_
              refine o_val rfl rfl rfl rfl (v_not rfl) ?_
              refine o_end ?_
              refine r_true rfl ?_
              refine r_region rfl ?_
              refine o_val rfl rfl rfl rfl (v_assign rfl) ?_
              refine o_end ?_
              refine r_seq ?_
              refine r_region rfl ?_
              refine o_val rfl rfl rfl rfl (v_move rfl) ?_
              refine o_val rfl rfl rfl rfl (v_not rfl) ?_
              refine o_end ?_
              refine r_false rfl ?_
              refine j_drop (List.sublist_cons_self _ _) ?_
              refine r_skip ?_
              refine r_inBlock ?_
              refine r_region rfl ?_
              refine o_val rfl rfl rfl rfl (v_move rfl) ?_
              refine o_val rfl rfl rfl rfl (v_add rfl rfl (wrap_i64 (by omega) (by omega))) ?_
              refine o_val rfl rfl rfl rfl (v_assign rfl) ?_
              refine o_end ?_
              refine j_keep ?_ (IH _ hnext (by dsimp only; omega))
              exact ⟨rfl, rfl, rfl, rfl, rfl, rfl, rfl, rfl, rfl, rfl, rfl, trivial⟩
        · refine d1_act rfl rfl rfl rfl (a_alloc rfl) ?_
          rintro v' H' ⟨n2, rfl, rfl⟩
          refine ⟨fun w hw => held_of hw (by first | exact Fz.le_refl _ | assumption) (by intro z hz; simp only [List.mem_cons, List.not_mem_nil, or_false] at hz; subst hz; simp), ?_⟩
          refine d_one (i := 5) (by decide +kernel) ?_
          refine d1_call rfl rfl rfl rfl (c_call callable11 rfl) (law_bytes _ _ w r _ hw hwc (by omega) hwx hfit (r6.frz hF14)) ?_
          rintro v' F5 H' ⟨hF5, bf2, q, ok, hok2, rfl, rfl, hq, hqc, hqx, hql, hqs⟩ _
          refine ⟨fun w hw => held_of hw (by first | exact Fz.le_refl _ | assumption) (by intro z hz; simp only [List.mem_cons, List.not_mem_nil, or_false] at hz; subst hz; simp), ?_⟩
          refine d_take (i := 6) rfl rfl rfl (by decide +kernel) (by decide +kernel) (by decide +kernel) hF5 (by intro z hz; simp only [List.mem_cons, List.not_mem_nil, or_false] at hz; subst hz; simp) rfl (v_move rfl) ?_
          refine d_take (i := 7) rfl rfl rfl (by decide +kernel) (by decide +kernel) (by decide +kernel) hF5 (by intro z hz; simp only [List.mem_cons, List.not_mem_nil, or_false] at hz; subst hz; simp) rfl (v_extract rfl rfl) ?_
          refine d_take (i := 8) rfl rfl rfl (by decide +kernel) (by decide +kernel) (by decide +kernel) hF5 (by intro z hz; simp only [List.mem_cons, List.not_mem_nil, or_false] at hz; subst hz; simp) rfl (v_extract rfl rfl) ?_
          refine d_take (i := 9) rfl rfl rfl (by decide +kernel) (by decide +kernel) (by decide +kernel) hF5 (by intro z hz; simp only [List.mem_cons, List.not_mem_nil, or_false] at hz; subst hz; simp) rfl (v_extract rfl rfl) ?_
          refine d_take (i := 11) rfl rfl rfl (by decide +kernel) (by decide +kernel) (by decide +kernel) hF5 (by intro z hz; simp only [List.mem_cons, List.not_mem_nil, or_false] at hz; subst hz; simp) rfl (v_assign rfl) ?_
          have e7 : ∀ H0 : List Ent, H0 = H0 := fun _ => rfl
          rw [hsB] at hok2 hsl ⊢
          rw [← hsQ] at hqs
          generalize hpb : recB k d = pb at *
          have hqo := hq.one
          first
            | refine j_sel (H' := .mem n2 z0.cells 7 :: .mem t w.cells 7 :: .mem m w.cells 7 :: (ba.ents 1 (bytesV (catR rl ++ tail)) ++ (bf2.ents 1 (bytesV pb) ++ (be.ents 1 (endsV rl) ++ (bw.ents 7 (imV ws) ++ []))))) [bf2.ents 1 (bytesV pb), [Ent.mem n2 z0.cells 7], [Ent.mem t w.cells 7], [Ent.mem m w.cells 7], ba.ents 1 (bytesV (catR rl ++ tail)), be.ents 1 (endsV rl), bw.ents 7 (imV ws), []] [1, 2, 3, 4, 0, 5, 6, 7] (by rw [hz0]; rfl) rfl rfl ?_
            | refine j_sel (H' := .mem n2 z0.cells 7 :: .mem t w.cells 7 :: .mem m w.cells 7 :: (ba.ents 1 (bytesV (catR rl ++ tail)) ++ (bf2.ents 1 (bytesV pb) ++ (be.ents 1 (endsV rl) ++ (bw.ents 7 (imV ws) ++ []))))) [[Ent.mem n2 z0.cells 7], bf2.ents 1 (bytesV pb), [Ent.mem t w.cells 7], [Ent.mem m w.cells 7], ba.ents 1 (bytesV (catR rl ++ tail)), be.ents 1 (endsV rl), bw.ents 7 (imV ws), []] [0, 2, 3, 4, 1, 5, 6, 7] (by rw [hz0]; rfl) rfl rfl ?_
          refine d_more ([.mem t w.cells 7]) hF5 (by intro z hz; simp only [List.mem_cons, List.not_mem_nil, or_false] at hz; subst hz; simp) ?_
          refine d_one (i := 12) (by decide +kernel) ?_
          refine d1_act0 rfl rfl rfl (a_store (sz := 7) 0 rfl rfl rfl (by simpa [Value.cells] using hqo) rfl rfl (by rw [hz0]; exact Nat.le_of_ble_eq_true rfl)) (fun w hw => held_of hw (Fz.le_refl _) (by intro z hz; simp only [List.mem_cons, List.not_mem_nil, or_false] at hz; subst hz; simp)) ?_
          refine j_heap (H' := .mem n2 q.cells 7 :: .mem t w.cells 7 :: .mem m w.cells 7 :: (ba.ents 1 (bytesV (catR rl ++ tail)) ++ (bf2.ents 1 (bytesV pb) ++ (be.ents 1 (endsV rl) ++ (bw.ents 7 (imV ws) ++ []))))) (by rw [hz0]; rfl) ?_
          refine d_take (i := 13) rfl rfl rfl (by decide +kernel) (by decide +kernel) (by decide +kernel) (Fz.le_refl _) (by intro z hz; simp only [List.mem_cons, List.not_mem_nil, or_false] at hz; subst hz; simp) rfl (v_assign rfl) ?_
          refine d_end (by decide +kernel) ?_
          refine r_seq ?_
          refine r_region rfl ?_
          refine o_val rfl rfl rfl rfl (v_move rfl) ?_
          refine o_val rfl rfl rfl rfl (v_move rfl) ?_
          have rd2 : SlB F5 (bf2.ents 1 (bytesV pb)) (bf2.val pb.length) pb := bf_reads hok2 (by intro z hz; exact hz)
          refine o_act rfl rfl rfl rfl (a_appendP (bf := ba) (n := (catR rl ++ tail).length) (sz := 1) (bytes := 1) (m := pb.length) [.mem n2 q.cells 7, .mem t w.cells 7, .mem m w.cells 7] ⟨⟨_, _, _, rfl, rfl, rfl, rfl, rfl, rfl⟩, by decide⟩ rfl oka (by simp) rfl rfl (rd2.mono (Fz.le_refl _) (by intro z hz; simp [hz])) (bytes_one _) (by unfold maxLen; omega) (by omega)) ?_
          rintro v' H' ⟨ba2, rfl, oka2, rfl⟩
          rw [← bytesV_append]
          rw [← List.length_append] at oka2 ⊢
          rw [List.append_assoc] at oka2 ⊢
          refine j_sel (H' := .mem n2 q.cells 7 :: .mem t w.cells 7 :: .mem m w.cells 7 :: (ba2.ents 1 (bytesV (catR rl ++ (tail ++ pb))) ++ (be.ents 1 (endsV rl) ++ (bw.ents 7 (imV ws) ++ [])))) [[Ent.mem n2 q.cells 7], [Ent.mem t w.cells 7], [Ent.mem m w.cells 7], ba2.ents 1 (bytesV (catR rl ++ (tail ++ pb))), bf2.ents 1 (bytesV pb), be.ents 1 (endsV rl), bw.ents 7 (imV ws), []] [0, 1, 2, 3, 5, 6, 7] rfl rfl rfl ?_
          have hF45 := Fz.le_trans hF4 hF5
          have hal2 : (catR rl ++ (tail ++ pb)).length ≤ (i + 1) * 310 := by
            rw [← List.append_assoc, List.length_append]
            omega
          have hpbne : pb ≠ [] := by
            intro h0
            have := congrArg List.length h0
            rw [← hpb, recB_length] at this
            simp at this
          cases bad with
          | true =>
            have hnext : SsI F1 rs.length ⟨i + 1, F5, w, rl, tail ++ pb, true, ws, ba2, be, bw⟩ := ⟨hF45, hil, hw.frz hF5, hwc, hwx, by dsimp only; omega, fun p hp => (hws p hp).frz hF5, hwn, by dsimp only; omega, htr, hst, hsp.app (hbt rfl), fun h => (by cases h), fun _ h0 => hpbne (List.append_eq_nil_iff.1 h0).2, hal2, oka2, oke, okw⟩
            cases ok with
            | true =>
              refine o_val rfl rfl rfl rfl (v_assign rfl) ?_
              refine o_end ?_
              refine r_seq ?_
              refine r_seq ?_
              refine r_region rfl ?_
              refine o_val rfl rfl rfl rfl (v_move rfl) ?_
              refine o_val rfl rfl rfl rfl (v_not rfl) ?_
              refine o_end ?_
              refine r_false rfl ?_
              refine r_skip ?_
              refine r_seq ?_
              refine r_region rfl ?_
              refine o_val rfl rfl rfl rfl (v_move rfl) ?_
              refine o_val rfl rfl rfl rfl (v_not rfl) ?_
              refine o_end ?_
              refine r_false rfl ?_
              refine j_drop (List.sublist_cons_self _ _) ?_
              refine r_skip ?_
              refine r_inBlock ?_
              refine r_region rfl ?_
              refine o_val rfl rfl rfl rfl (v_move rfl) ?_
              refine o_val rfl rfl rfl rfl (v_add rfl rfl (wrap_i64 (by omega) (by omega))) ?_
              refine o_val rfl rfl rfl rfl (v_assign rfl) ?_
              refine o_end ?_
              refine j_keep ?_ (IH _ hnext (by dsimp only; omega))
              exact ⟨rfl, rfl, rfl, rfl, rfl, rfl, rfl, rfl, rfl, rfl, rfl, trivial⟩
            | false =>
              refine o_val rfl rfl rfl rfl (v_assign rfl) ?_
              refine o_end ?_
              refine r_seq ?_
              refine r_seq ?_
              refine r_region rfl ?_
              refine o_val rfl rfl rfl rfl (v_move rfl) ?_
              refine o_val rfl rfl rfl rfl (v_not rfl) ?_
              refine o_end ?_
              refine r_true rfl ?_
              refine r_region rfl ?_
              refine o_val rfl rfl rfl rfl (v_assign rfl) ?_
              refine o_end ?_
              refine r_seq ?_
              refine r_region rfl ?_
              refine o_val rfl rfl rfl rfl (v_move rfl) ?_
              refine o_val rfl rfl rfl rfl (v_not rfl) ?_
              refine o_end ?_
              refine r_false rfl ?_
              refine j_drop (List.sublist_cons_self _ _) ?_
              refine r_skip ?_
              refine r_inBlock ?_
              refine r_region rfl ?_
              refine o_val rfl rfl rfl rfl (v_move rfl) ?_
              refine o_val rfl rfl rfl rfl (v_add rfl rfl (wrap_i64 (by omega) (by omega))) ?_
              refine o_val rfl rfl rfl rfl (v_assign rfl) ?_
              refine o_end ?_
              refine j_keep ?_ (IH _ hnext (by dsimp only; omega))
              exact ⟨rfl, rfl, rfl, rfl, rfl, rfl, rfl, rfl, rfl, rfl, rfl, trivial⟩
          | false =>
            have htn := hbd rfl
            subst htn
            rw [List.nil_append] at hal2 oka2 ⊢
            cases ok with
            | true =>
              have hqQ : addP w.pure k d = some q.pure := by
                rcases hqs with ⟨_, h1⟩ | ⟨h1, _⟩
                · exact h1
                · cases h1
              have e1 : catR (rl ++ [(k, d)]) = catR rl ++ pb := by rw [catR_append, ← hpb]; simp [catR]
              have e2 : catR (rl ++ [(k, d)]) ++ [] = catR rl ++ pb := by rw [List.append_nil, e1]
              have htr2 := htr.more hk hd (by rw [hst]; exact hqQ)
              have hst2 : stW (ws.map Im.pure ++ [q.pure]) (rl.length + 1) = q.pure := by
                have h0 := stW_end (ws.map Im.pure) q.pure
                rw [List.length_map, hwn] at h0
                exact h0
              rw [← e1] at hal2 oka2 ⊢
              rw [← List.map_singleton (f := Im.pure), ← List.map_append] at htr2 hst2
              have hrl1 : (rl ++ [(k, d)]).length = rl.length + 1 := by simp
              refine o_val rfl rfl rfl rfl (v_assign rfl) ?_
              refine o_end ?_
              refine r_seq ?_
              refine r_seq ?_
              refine r_region rfl ?_
              refine o_val rfl rfl rfl rfl (v_move rfl) ?_
              refine o_val rfl rfl rfl rfl (v_not rfl) ?_
              refine o_end ?_
              refine r_false rfl ?_
              refine r_skip ?_
              refine r_seq ?_
              refine r_region rfl ?_
              refine o_val rfl rfl rfl rfl (v_move rfl) ?_
              refine o_val rfl rfl rfl rfl (v_not rfl) ?_
              refine o_end ?_
              refine r_true rfl ?_
              refine r_seq ?_
              refine r_region rfl ?_
              refine o_val rfl rfl rfl rfl (v_loadAgg (sz := 7) (cs := q.cells) rfl rfl rfl rfl (cells_of (j := 0) _ _ rfl rfl)) ?_
              refine o_act0 rfl rfl rfl (a_store (sz := 7) 1 rfl rfl rfl (by simpa [Value.cells] using hqo) rfl rfl (Nat.le_of_ble_eq_true rfl)) ?_
              refine j_heap (H' := .mem n2 q.cells 7 :: .mem t q.cells 7 :: .mem m w.cells 7 :: (ba2.ents 1 (bytesV (catR (rl ++ [(k, d)]))) ++ (be.ents 1 (endsV rl) ++ (bw.ents 7 (imV ws) ++ [])))) rfl ?_
              refine o_end ?_
              refine r_seq ?_
              refine r_region rfl ?_
              refine o_val rfl rfl rfl rfl (v_loadAgg (sz := 7) (cs := q.cells) rfl rfl rfl rfl (cells_of (j := 1) _ _ rfl rfl)) ?_
              refine o_act0 rfl rfl rfl (a_store (sz := 7) 2 rfl rfl rfl (by simpa [Value.cells] using hqo) rfl rfl (Nat.le_of_ble_eq_true rfl)) ?_
              refine j_heap (H' := .mem n2 q.cells 7 :: .mem t q.cells 7 :: .mem m q.cells 7 :: (ba2.ents 1 (bytesV (catR (rl ++ [(k, d)]))) ++ (be.ents 1 (endsV rl) ++ (bw.ents 7 (imV ws) ++ [])))) rfl ?_
              refine o_end ?_
              refine r_seq ?_
              refine r_region rfl ?_
              refine o_val rfl rfl rfl rfl (v_move rfl) ?_
              refine o_val rfl rfl rfl rfl (v_len rfl rfl) ?_
              refine o_val rfl rfl rfl rfl (v_assign rfl) ?_
              refine o_end ?_
              refine r_seq ?_
              refine r_region rfl ?_
              refine o_val rfl rfl rfl rfl (v_move rfl) ?_
              refine o_val rfl rfl rfl rfl (v_move rfl) ?_
              refine o_act rfl rfl rfl rfl (a_buildS (sz := 1) (cs := [.int .i64 (catR (rl ++ [(k, d)])).length]) [.tmp 67] rfl rfl rfl rfl rfl rfl rfl rfl rfl rfl) ?_
              rintro v' H' ⟨y, rfl, rfl⟩
              refine o_act rfl rfl rfl rfl (a_appendP (bf := be) (n := rl.length) (m := 1) (ys := [.int .i64 (catR (rl ++ [(k, d)])).length]) (sz := 1) (bytes := 8) (.mem y [.int .i64 (catR (rl ++ [(k, d)])).length] 1 :: .mem n2 q.cells 7 :: .mem t q.cells 7 :: .mem m q.cells 7 :: ba2.ents 1 (bytesV (catR (rl ++ [(k, d)])))) ⟨⟨_, _, _, rfl, rfl, rfl, rfl, rfl, rfl⟩, by decide⟩ rfl oke (by simp) rfl rfl ⟨_, 1, rfl, rfl, by simp, by simp, fun j c hj => ⟨y, 0, rfl, cell_at (j := 0) rfl (by simpa using hj)⟩⟩ rfl (by unfold maxLen; omega) (by omega)) ?_
              rintro v' H' ⟨be2, rfl, oke2, rfl⟩
              rw [← endsV_app]
              refine o_val rfl rfl rfl rfl (v_assign rfl) ?_
              refine o_end ?_
              refine r_region rfl ?_
              refine o_val rfl rfl rfl rfl (v_move rfl) ?_
              refine o_val rfl rfl rfl rfl (v_loadAgg (sz := 7) (cs := q.cells) rfl rfl rfl rfl (cells_of (j := 2) _ _ rfl rfl)) ?_
              refine o_act rfl rfl rfl rfl (a_buildS (sz := 7) (cs := q.cells) [.tmp 71] rfl rfl rfl rfl rfl rfl rfl rfl rfl rfl) ?_
              rintro v' H' ⟨y2, rfl, rfl⟩
              refine j_sel (H' := .mem y2 q.cells 7 :: .mem t q.cells 7 :: .mem m q.cells 7 :: (ba2.ents 1 (bytesV (catR (rl ++ [(k, d)]))) ++ (be2.ents 1 (endsV (rl ++ [(k, d)])) ++ (bw.ents 7 (imV ws) ++ [])))) [[Ent.mem y2 q.cells 7], [Ent.mem y [.int .i64 (catR (rl ++ [(k, d)])).length] 1], [Ent.mem n2 q.cells 7], [Ent.mem t q.cells 7], [Ent.mem m q.cells 7], ba2.ents 1 (bytesV (catR (rl ++ [(k, d)]))), be2.ents 1 (endsV (rl ++ [(k, d)])), bw.ents 7 (imV ws), []] [0, 3, 4, 5, 6, 7, 8] rfl rfl rfl ?_
              refine o_act rfl rfl rfl rfl (a_appendP (bf := bw) (n := rl.length) (m := 1) (ys := imV [q]) (sz := 7) (bytes := 88) (.mem y2 q.cells 7 :: .mem t q.cells 7 :: .mem m q.cells 7 :: (ba2.ents 1 (bytesV (catR (rl ++ [(k, d)]))) ++ be2.ents 1 (endsV (rl ++ [(k, d)])))) ⟨⟨_, _, _, rfl, rfl, rfl, rfl, rfl, rfl⟩, by decide⟩ rfl okw (by rw [vec_len (c := Im.cells) Im.cl, hwn]) (H1 := []) (by simp only [List.cons_append, List.append_assoc]) rfl (sl_imlit (p := q) (List.mem_cons_self ..)) (by simpa [imV] using hqo) (by unfold maxLen; omega) (by omega)) ?_
              rintro v' H' ⟨bw2, rfl, okw2, rfl⟩
              rw [← vec_append]
              refine j_sel (H' := .mem t q.cells 7 :: .mem m q.cells 7 :: (ba2.ents 1 (bytesV (catR (rl ++ [(k, d)]))) ++ (be2.ents 1 (endsV (rl ++ [(k, d)])) ++ (bw2.ents 7 (imV (ws ++ [q])) ++ [])))) [[Ent.mem y2 q.cells 7], [Ent.mem t q.cells 7], [Ent.mem m q.cells 7], ba2.ents 1 (bytesV (catR (rl ++ [(k, d)]))), be2.ents 1 (endsV (rl ++ [(k, d)])), bw2.ents 7 (imV (ws ++ [q])), []] [1, 2, 3, 4, 5, 6] (by simp [cat]) rfl rfl ?_
              have hnext : SsI F1 rs.length ⟨i + 1, F5, q, rl ++ [(k, d)], [], false, ws ++ [q], ba2, be2, bw2⟩ := ⟨hF45, hil, hq, hqc, hqx, by dsimp only; omega, fun p hp => by
                rcases List.mem_append.1 hp with hp | hp
                · exact (hws p hp).frz hF5
                · rw [List.mem_singleton] at hp
                  rw [hp]
                  exact hq, by dsimp only; rw [hrl1, List.length_append, hwn]; rfl, by dsimp only; omega, htr2, by dsimp only; rw [hrl1]; exact hst2, .inl rfl, fun _ => rfl, fun h => (by cases h), by dsimp only; rw [List.append_nil]; exact hal2, by dsimp only; rw [List.append_nil]; exact oka2, by dsimp only; rw [hrl1]; exact oke2, by dsimp only; rw [hrl1]; exact okw2⟩
              refine o_val rfl rfl rfl rfl (v_assign rfl) ?_
              refine o_end ?_
              refine r_inBlock ?_
              refine r_region rfl ?_
              refine o_val rfl rfl rfl rfl (v_move rfl) ?_
              refine o_val rfl rfl rfl rfl (v_add rfl rfl (wrap_i64 (by omega) (by omega))) ?_
              refine o_val rfl rfl rfl rfl (v_assign rfl) ?_
              refine o_end ?_
              refine j_keep ?_ (j_heap (by simp [ssH]) (IH _ hnext (by dsimp only; omega)))
              exact ⟨rfl, rfl, rfl, rfl, by dsimp only; rw [List.append_nil (catR (rl ++ [(k, d)]))]; rfl, by dsimp only; rw [hrl1]; rfl, rfl, rfl, rfl, by dsimp only; rw [hrl1]; rfl, rfl, trivial⟩
            | false =>
              have hqQ : addP w.pure k d = none := by
                rcases hqs with ⟨h1, _⟩ | ⟨_, h1, _⟩
                · cases h1
                · exact h1
              have hnext : SsI F1 rs.length ⟨i + 1, F5, w, rl, pb, true, ws, ba2, be, bw⟩ := ⟨hF45, hil, hw.frz hF5, hwc, hwx, by dsimp only; omega, fun p hp => (hws p hp).frz hF5, hwn, by dsimp only; omega, htr, hst, .inr ⟨k, d, [], by rw [← hpb, List.append_nil], hd, hk, hqQ⟩, fun h => (by cases h), fun _ => hpbne, hal2, oka2, oke, okw⟩
              refine o_val rfl rfl rfl rfl (v_assign rfl) ?_
              refine o_end ?_
              refine r_seq ?_
              refine r_seq ?_
              refine r_region rfl ?_
              refine o_val rfl rfl rfl rfl (v_move rfl) ?_
              refine o_val rfl rfl rfl rfl (v_not rfl) ?_
              refine o_end ?_
              refine r_true rfl ?_
              refine r_region rfl ?_
              refine o_val rfl rfl rfl rfl (v_assign rfl) ?_
              refine o_end ?_
              refine r_seq ?_
              refine r_region rfl ?_
              refine o_val rfl rfl rfl rfl (v_move rfl) ?_
              refine o_val rfl rfl rfl rfl (v_not rfl) ?_
              refine o_end ?_
              refine r_false rfl ?_
              refine j_drop (List.sublist_cons_self _ _) ?_
              refine r_skip ?_
              refine r_inBlock ?_
              refine r_region rfl ?_
              refine o_val rfl rfl rfl rfl (v_move rfl) ?_
              refine o_val rfl rfl rfl rfl (v_add rfl rfl (wrap_i64 (by omega) (by omega))) ?_
              refine o_val rfl rfl rfl rfl (v_assign rfl) ?_
              refine o_end ?_
              refine j_keep ?_ (IH _ hnext (by dsimp only; omega))
              exact ⟨rfl, rfl, rfl, rfl, rfl, rfl, rfl, rfl, rfl, rfl, rfl, trivial⟩
      · clear IH
        have h2r := htr.re rl.length (Nat.le_refl _)
        rw [List.take_length, hst] at h2r
        have hsame : scanP nilI (catR rl ++ tail) = (w.pure, (catR rl).length) := by
          have h3 := hsp.take h2r tail.length
          rwa [List.take_length] at h3
        have hsame3 : scanP nilI (catR rl ++ tail ++ junk) = (w.pure, (catR rl).length) := hsp.junk h2r (fun _ => hj8)
        have hcutl : ∀ j c, j ≤ rl.length → endAt rl j ≤ c → (j < rl.length → c < endAt rl (j + 1)) → scanP nilI ((catR rl ++ tail).take c) = (stW (ws.map Im.pure) j, endAt rl j) := fun j c h1 h2 h3 => scan_cut htr (by rw [hst]; exact hsp) h1 h2 h3
        have hbt2 : bad = false → (catR rl).length = (catR rl ++ tail).length := fun h => by rw [hbd h, List.append_nil]
        generalize hall : catR rl ++ tail = all at *
        have hal6 : all.length ≤ 18600 := by omega
        refine j_sel (H' := ba.ents 1 (bytesV all) ++ (be.ents 1 (endsV rl) ++ (bw.ents 7 (imV ws) ++ [.mem t w.cells 7, .mem m w.cells 7]))) [[Ent.mem t w.cells 7], [Ent.mem m w.cells 7], ba.ents 1 (bytesV all), be.ents 1 (endsV rl), bw.ents 7 (imV ws), []] [2, 3, 4, 0, 1] (by simp [ssH, cat, hall]) rfl rfl ?_
        refine j_freezeBf (n := all.length) oka (by simp) fun F5 hF5 hs5 => ?_
        refine j_freezeBf (n := rl.length) oke (by simp) fun F6 hF6 hs6 => ?_
        refine j_freezeBf (n := rl.length) okw (by rw [vec_len (c := Im.cells) Im.cl, hwn]) fun F7 hF7 hs7 => ?_
        have hA : SlB F7 [] (ba.val all.length) all := SlB.frz (H := []) hs5 (Fz.le_trans hF6 hF7)
        have hE : Sl F7 [] 1 (be.val rl.length) rl.length (endsV rl) := Sl.frz (H := []) hs6 hF7
        have hF47 := Fz.le_trans hF5 (Fz.le_trans hF6 hF7)
        refine r_exit rfl ?_
        refine r_seq ?_
        refine r_region rfl ?_
        refine o_val rfl rfl rfl rfl (v_move rfl) ?_
        refine o_call rfl rfl rfl rfl (c_call callable12 rfl) (wal_Scan _ _ _ all _ hA (by omega)) ?_
        rintro v' F8 H' ⟨hF8, rfl, p1, hp1, hpl1, hpp1, rfl⟩ _
        rw [hsame] at hpp1 ⊢
        have hpo1 := hp1.one
        have hF48 := Fz.le_trans hF47 hF8
        have hwok := hw.frz hF48
        refine o_val rfl rfl rfl rfl (v_move rfl) ?_
        refine o_val rfl rfl rfl rfl (v_extract rfl rfl) ?_
        refine o_val rfl rfl rfl rfl (v_extract rfl rfl) ?_
        refine o_act rfl rfl rfl rfl (a_alloc rfl) ?_
        rintro v' H' ⟨z, rfl, rfl⟩
        refine o_act0 rfl rfl rfl (a_store (sz := 7) 0 rfl rfl rfl (by simpa [Value.cells] using hpo1) rfl rfl (Nat.le_of_ble_eq_true rfl)) ?_
        refine j_heap (H' := [.mem z p1.cells 7, .mem t w.cells 7, .mem m w.cells 7]) rfl ?_
        refine o_val rfl rfl rfl rfl (v_assign rfl) ?_
        refine o_end ?_
        refine r_seq ?_
        refine r_seq ?_
        refine d_region 1000000 rfl ([.mem z p1.cells 7, .mem m w.cells 7]) ?_
        refine d_take (i := 0) rfl rfl rfl (by decide +kernel) (by decide +kernel) (by decide +kernel) (Fz.le_refl _) (by intro q hq; simp only [List.mem_cons, List.not_mem_nil, or_false] at hq; rcases hq with rfl | rfl <;> simp) rfl (v_move rfl) ?_
        refine d_take (i := 1) rfl rfl rfl (by decide +kernel) (by decide +kernel) (by decide +kernel) (Fz.le_refl _) (by intro q hq; simp only [List.mem_cons, List.not_mem_nil, or_false] at hq; rcases hq with rfl | rfl <;> simp) rfl (v_move rfl) ?_
        refine d_take (i := 2) rfl rfl rfl (by decide +kernel) (by decide +kernel) (by decide +kernel) (Fz.le_refl _) (by intro q hq; simp only [List.mem_cons, List.not_mem_nil, or_false] at hq; rcases hq with rfl | rfl <;> simp) rfl (v_neq rfl rfl) ?_
        refine j_slot 81 rfl (v' := .bool false) (by rw [decide_eq_false (by simp)]) ?_
        refine d_take (i := 3) rfl rfl rfl (by decide +kernel) (by decide +kernel) (by decide +kernel) (Fz.le_refl _) (by intro q hq; simp only [List.mem_cons, List.not_mem_nil, or_false] at hq; rcases hq with rfl | rfl <;> simp) rfl (v_move rfl) ?_
        refine d_take (i := 4) rfl rfl rfl (by decide +kernel) (by decide +kernel) (by decide +kernel) (Fz.le_refl _) (by intro q hq; simp only [List.mem_cons, List.not_mem_nil, or_false] at hq; rcases hq with rfl | rfl <;> simp) rfl (v_loadAgg (sz := 7) (cs := p1.cells) rfl rfl rfl rfl (cells_of (j := 0) _ _ rfl rfl)) ?_
        refine d_take (i := 6) rfl rfl rfl (by decide +kernel) (by decide +kernel) (by decide +kernel) (Fz.le_refl _) (by intro q hq; simp only [List.mem_cons, List.not_mem_nil, or_false] at hq; rcases hq with rfl | rfl <;> simp) rfl (v_loadAgg (sz := 7) (cs := w.cells) rfl rfl rfl rfl (cells_of (j := 1) _ _ rfl rfl)) ?_
        refine d_one (i := 5) (by decide +kernel) ?_
        refine d1_call rfl rfl rfl rfl (c_call callable14 rfl) (law_image _ _ p1 _ hp1) ?_
        rintro v' F8 H' ⟨rfl, rfl, rfl⟩ _
        refine ⟨fun w hw => held_of hw (by first | exact Fz.le_refl _ | assumption) (by intro q hq; simp only [List.mem_cons, List.not_mem_nil, or_false] at hq; rcases hq with rfl | rfl <;> simp), ?_⟩
        refine d_one (i := 7) (by decide +kernel) ?_
        refine d1_call rfl rfl rfl rfl (c_call callable13 rfl) (ref_Same _ _ p1 w _ hp1 hwok hpp1 (by omega)) ?_
        rintro v' F8 H' ⟨rfl, rfl, rfl⟩ _
        refine ⟨fun w hw => held_of hw (by first | exact Fz.le_refl _ | assumption) (by intro q hq; simp only [List.mem_cons, List.not_mem_nil, or_false] at hq; rcases hq with rfl | rfl <;> simp), ?_⟩
        refine d_take (i := 8) rfl rfl rfl (by decide +kernel) (by decide +kernel) (by decide +kernel) (Fz.le_refl _) (by intro q hq; simp only [List.mem_cons, List.not_mem_nil, or_false] at hq; rcases hq with rfl | rfl <;> simp) rfl (v_not rfl) ?_
        refine d_take (i := 9) rfl rfl rfl (by decide +kernel) (by decide +kernel) (by decide +kernel) (Fz.le_refl _) (by intro q hq; simp only [List.mem_cons, List.not_mem_nil, or_false] at hq; rcases hq with rfl | rfl <;> simp) rfl (v_pick0 rfl rfl) ?_
        refine d_end (by decide +kernel) ?_
        refine r_false rfl ?_
        have hcutlt : keep % (all.length + 1) < all.length + 1 := Nat.mod_lt _ (by omega)
        generalize hcut : keep % (all.length + 1) = cut at *
        refine r_skip ?_
        refine r_seq ?_
        refine r_region rfl ?_
        refine o_val rfl rfl rfl rfl (v_move rfl) ?_
        refine o_val rfl rfl rfl rfl (v_conv rfl rfl rfl (wrap_i64 (by omega) (by omega))) ?_
        refine o_val rfl rfl rfl rfl (v_move rfl) ?_
        refine o_val rfl rfl rfl rfl (v_len rfl rfl) ?_
        refine o_val rfl rfl rfl rfl (v_add rfl rfl (r := ((all.length + 1 : Nat) : Int)) (wrap_i64 (by omega) (by omega))) ?_
        refine o_val rfl rfl rfl rfl (v_rem rfl rfl (by omega) (r := (cut : Int)) (by rw [← hcut]; rfl)) ?_
        refine o_val rfl rfl rfl rfl (v_assign rfl) ?_
        refine o_end ?_
        refine r_seq ?_
        refine r_region rfl ?_
        refine o_val rfl rfl rfl rfl (v_build rfl rfl) ?_
        refine o_val rfl rfl rfl rfl (v_build rfl rfl) ?_
        refine o_act rfl rfl rfl rfl (a_alloc rfl) ?_
        rintro v' H' ⟨x, rfl, rfl⟩
        refine o_act0 rfl rfl rfl (a_store (sz := 7) 0 rfl rfl rfl rfl rfl rfl (Nat.le_of_ble_eq_true rfl)) ?_
        refine j_heap (H' := [.mem x (imAt p0 ws 0).cells 7, .mem z p1.cells 7, .mem t w.cells 7, .mem m w.cells 7]) (by show _ = [Ent.mem x p0.cells 7, _, _, _]; rw [hp0]; rfl) ?_
        refine o_end ?_
        refine r_seq ?_
        refine r_region rfl ?_
        refine o_val rfl rfl rfl rfl (v_assign rfl) ?_
        refine o_end ?_
        refine r_seq ?_
        refine r_seq ?_
        refine r_region rfl ?_
        refine o_val rfl rfl rfl rfl (v_assign rfl) ?_
        refine o_end ?_
        refine r_block ?_
        have he0 : endAt rl 0 = 0 := by simp [endAt]
        refine r_loop (fun j : Nat => j ≤ rl.length ∧ endAt rl j ≤ cut) (fun j => [(1, .slice a0 junk.length cap), (8, ba.val all.length), (9, be.val rl.length), (10, .bool bad), (11, ptrV m), (12, .int .i64 (endAt rl j)), (13, bw.val rl.length), (18, ptrV z), (20, .int .i64 cut), (21, ptrV x), (22, .int .i64 j)]) (fun _ => F8) (fun j => [.mem x (imAt p0 ws j).cells 7, .mem z p1.cells 7, .mem t w.cells 7, .mem m w.cells 7]) (fun j => rl.length - j) 0 ⟨Nat.zero_le _, by rw [he0]; exact Nat.zero_le _⟩ ⟨rfl, rfl, rfl, rfl, rfl, by rw [he0]; rfl, rfl, rfl, rfl, rfl, rfl, trivial⟩ rfl rfl ?_
        intro j ⟨hj1, hj2⟩ IH
        have hxok := imAt_ok (F := F8) p0 ws j (hp0ok.frz (Fz.le_trans hF4 hF48)) (fun p hp => (hws p hp).frz hF48)
        have hxp := imAt_pure p0 ws j hp0p
        refine r_seq ?_
        refine r_seq ?_
        refine r_region rfl ?_
        refine o_val rfl rfl rfl rfl (v_move rfl) ?_
        refine o_val rfl rfl rfl rfl (v_move rfl) ?_
        refine o_val rfl rfl rfl rfl (v_len rfl rfl) ?_
        refine o_val rfl rfl rfl rfl (v_lss rfl rfl) ?_
        refine j_prop 100 rfl (fun h2 => ?_) (fun h2 => ?_)
        · have hjl : j < rl.length := by omega
          have hjw : j < ws.length := by omega
          cases be with
          | nil =>
            have : rl.length = 0 := oke
            omega
          | «at» eb ec =>
            cases bw with
            | nil =>
              have : rl.length = 0 := okw
              omega
            | «at» wb wc =>
              obtain ⟨b1, o1, c1, hab, _, hcE⟩ := Sl.view hE (by omega)
              change Value.slice (some ⟨eb, 0, none⟩) _ ec = _ at hab
              cases hab
              obtain ⟨b1, o1, c1, hab, _, hcW⟩ := Sl.view hs7 (by omega)
              change Value.slice (some ⟨wb, 0, none⟩) _ wc = _ at hab
              cases hab
              have hce := hcE j _ (endsV_get hjl)
              have hcw : ∀ q c, ws[j].cells[q]? = some c → Cell F7 [] wb (0 + j * 7 + q) c := fun q c hq => by
                have hq7 : q < 7 := by
                  rcases Nat.lt_or_ge q 7 with h | h
                  · exact h
                  · rw [List.getElem?_eq_none (by rw [Im.cl]; exact h)] at hq; cases hq
                have := hcW (j * 7 + q) c (by rw [vec_get (c := Im.cells) Im.cl ws j hjw q hq7]; exact hq)
                rw [← Nat.add_assoc] at this
                exact this
              have hxo := (hws ws[j] (List.getElem_mem _)).one
              have hsu := imAt_succ p0 ws j hjw
              refine o_val rfl rfl rfl rfl (v_move rfl) ?_
              refine o_val rfl rfl rfl rfl (v_move rfl) ?_
              refine o_val rfl rfl rfl rfl (v_move rfl) ?_
              refine o_val rfl rfl rfl rfl (v_index1 rfl rfl rfl rfl hjl) ?_
              refine o_val rfl rfl rfl rfl (v_load (v := .int .i64 (endAt rl (j + 1) : Nat)) rfl rfl (hce.mono hF8 (by simp))) ?_
              refine o_val rfl rfl rfl rfl (v_move rfl) ?_
              refine o_val rfl rfl rfl rfl (v_leq rfl rfl) ?_
              refine o_val rfl rfl rfl rfl (v_pick1 rfl rfl) ?_
              refine o_end ?_
              refine r_if rfl (fun h3 => ?_) (fun h3 => ?_)
              · refine r_skip ?_
                refine r_seq ?_
                refine r_block ?_
                refine r_seq ?_
                refine r_region rfl ?_
                refine o_val rfl rfl rfl rfl (v_move rfl) ?_
                refine o_val rfl rfl rfl rfl (v_move rfl) ?_
                refine o_val rfl rfl rfl rfl (v_indexN (sz := 7) rfl rfl rfl rfl hjl) ?_
                refine o_val rfl rfl rfl rfl (v_loadAgg (sz := 7) (cs := ws[j].cells) rfl rfl rfl rfl (fun q c hq => (hcw q c hq).mono hF8 (by simp))) ?_
                refine o_act0 rfl rfl rfl (a_store (sz := 7) 0 rfl rfl rfl (by simpa [Value.cells] using hxo) rfl rfl (Nat.le_of_ble_eq_true rfl)) ?_
                refine j_heap (H' := [.mem x (imAt p0 ws (j + 1)).cells 7, .mem z p1.cells 7, .mem t w.cells 7, .mem m w.cells 7]) (by rw [hsu]; rfl) ?_
                refine o_end ?_
                refine r_region rfl ?_
                refine o_val rfl rfl rfl rfl (v_move rfl) ?_
                refine o_val rfl rfl rfl rfl (v_move rfl) ?_
                refine o_val rfl rfl rfl rfl (v_index1 rfl rfl rfl rfl hjl) ?_
                refine o_val rfl rfl rfl rfl (v_load (v := .int .i64 (endAt rl (j + 1) : Nat)) rfl rfl (hce.mono hF8 (by simp))) ?_
                refine o_val rfl rfl rfl rfl (v_assign rfl) ?_
                refine o_end ?_
                refine r_inBlock ?_
                refine r_region rfl ?_
                refine o_val rfl rfl rfl rfl (v_move rfl) ?_
                refine o_val rfl rfl rfl rfl (v_add rfl rfl (wrap_i64 (by omega) (by omega))) ?_
                refine o_val rfl rfl rfl rfl (v_assign rfl) ?_
                refine o_end ?_
                refine j_keep ?_ (IH (j + 1) ⟨hjl, by omega⟩ (by omega))
                exact ⟨rfl, rfl, rfl, rfl, rfl, rfl, rfl, rfl, rfl, rfl, rfl, trivial⟩
              · have hnx : j < rl.length → cut < endAt rl (j + 1) := fun _ => by omega
                refine r_exit rfl ?_
                refine r_seq ?_
                refine r_region rfl ?_
                refine o_val rfl rfl rfl rfl (v_move rfl) ?_
                refine o_val rfl rfl rfl rfl (v_move rfl) ?_
                have hct := hcutl j cut hj1 hj2 hnx
                clear IH
                have hat : SlB F8 [] (Go.sliced ba.addr 0 cut ba.cp 1) (all.take cut) := SlB.take (hA.frz hF8) (by omega)
                generalize hxx : imAt p0 ws j = xx at *
                refine o_val rfl rfl rfl rfl (v_sliceH (sz := 1) rfl rfl rfl rfl rfl (by have := Bf.ok_cp oka; omega)) ?_
                refine o_call rfl rfl rfl rfl (c_call callable12 rfl) (wal_Scan _ _ _ (all.take cut) _ hat (by simp; omega)) ?_
                rintro v' F9 H' ⟨hF9, rfl, p2, hp2, hpl2, hpp2, rfl⟩ _
                rw [hct] at hpp2 ⊢
                have hpo2 := hp2.one
                refine o_val rfl rfl rfl rfl (v_move rfl) ?_
                refine o_val rfl rfl rfl rfl (v_extract rfl rfl) ?_
                refine o_val rfl rfl rfl rfl (v_extract rfl rfl) ?_
                refine o_act0 rfl rfl rfl (a_store (sz := 7) 1 rfl rfl rfl (by simpa [Value.cells] using hpo2) rfl rfl (Nat.le_of_ble_eq_true rfl)) ?_
                refine j_heap (H' := [.mem x xx.cells 7, .mem z p2.cells 7, .mem t w.cells 7, .mem m w.cells 7]) rfl ?_
                refine o_val rfl rfl rfl rfl (v_assign rfl) ?_
                refine o_end ?_
                refine r_seq ?_
                refine r_seq ?_
                refine d_region 1000000 rfl ([.mem z p2.cells 7, .mem x xx.cells 7]) ?_
                refine d_take (i := 0) rfl rfl rfl (by decide +kernel) (by decide +kernel) (by decide +kernel) (Fz.le_refl _) (by intro q hq; simp only [List.mem_cons, List.not_mem_nil, or_false] at hq; rcases hq with rfl | rfl <;> simp) rfl (v_move rfl) ?_
                refine d_take (i := 1) rfl rfl rfl (by decide +kernel) (by decide +kernel) (by decide +kernel) (Fz.le_refl _) (by intro q hq; simp only [List.mem_cons, List.not_mem_nil, or_false] at hq; rcases hq with rfl | rfl <;> simp) rfl (v_move rfl) ?_
                refine d_take (i := 2) rfl rfl rfl (by decide +kernel) (by decide +kernel) (by decide +kernel) (Fz.le_refl _) (by intro q hq; simp only [List.mem_cons, List.not_mem_nil, or_false] at hq; rcases hq with rfl | rfl <;> simp) rfl (v_neq rfl rfl) ?_
                refine j_slot 128 rfl (v' := .bool false) (by rw [decide_eq_false (by simp)]) ?_
                refine d_take (i := 3) rfl rfl rfl (by decide +kernel) (by decide +kernel) (by decide +kernel) (Fz.le_refl _) (by intro q hq; simp only [List.mem_cons, List.not_mem_nil, or_false] at hq; rcases hq with rfl | rfl <;> simp) rfl (v_move rfl) ?_
                refine d_take (i := 4) rfl rfl rfl (by decide +kernel) (by decide +kernel) (by decide +kernel) (Fz.le_refl _) (by intro q hq; simp only [List.mem_cons, List.not_mem_nil, or_false] at hq; rcases hq with rfl | rfl <;> simp) rfl (v_loadAgg (sz := 7) (cs := p2.cells) rfl rfl rfl rfl (cells_of (j := 0) _ _ rfl rfl)) ?_
                refine d_take (i := 6) rfl rfl rfl (by decide +kernel) (by decide +kernel) (by decide +kernel) (Fz.le_refl _) (by intro q hq; simp only [List.mem_cons, List.not_mem_nil, or_false] at hq; rcases hq with rfl | rfl <;> simp) rfl (v_loadAgg (sz := 7) (cs := xx.cells) rfl rfl rfl rfl (cells_of (j := 1) _ _ rfl rfl)) ?_
                refine d_one (i := 5) (by decide +kernel) ?_
                refine d1_call rfl rfl rfl rfl (c_call callable14 rfl) (law_image _ _ p2 _ hp2) ?_
                rintro v' F9 H' ⟨rfl, rfl, rfl⟩ _
                refine ⟨fun w hw => held_of hw (by first | exact Fz.le_refl _ | assumption) (by intro q hq; simp only [List.mem_cons, List.not_mem_nil, or_false] at hq; rcases hq with rfl | rfl <;> simp), ?_⟩
                refine d_one (i := 7) (by decide +kernel) ?_
                refine d1_call rfl rfl rfl rfl (c_call callable13 rfl) (ref_Same _ _ p2 xx _ hp2 (hxok.frz hF9) (hpp2.trans hxp.symm) (by simp only [List.length_take] at hpl2; omega)) ?_
                rintro v' F9 H' ⟨rfl, rfl, rfl⟩ _
                refine ⟨fun w hw => held_of hw (by first | exact Fz.le_refl _ | assumption) (by intro q hq; simp only [List.mem_cons, List.not_mem_nil, or_false] at hq; rcases hq with rfl | rfl <;> simp), ?_⟩
                refine d_take (i := 8) rfl rfl rfl (by decide +kernel) (by decide +kernel) (by decide +kernel) (Fz.le_refl _) (by intro q hq; simp only [List.mem_cons, List.not_mem_nil, or_false] at hq; rcases hq with rfl | rfl <;> simp) rfl (v_not rfl) ?_
                refine d_take (i := 9) rfl rfl rfl (by decide +kernel) (by decide +kernel) (by decide +kernel) (Fz.le_refl _) (by intro q hq; simp only [List.mem_cons, List.not_mem_nil, or_false] at hq; rcases hq with rfl | rfl <;> simp) rfl (v_pick0 rfl rfl) ?_
                refine d_end (by decide +kernel) ?_
                refine r_false rfl ?_
                have hF79 := Fz.le_trans hF8 hF9
                have hF19 : F.le F9 := Fz.le_trans hF14 (Fz.le_trans hF47 hF79)
                refine r_skip ?_
                refine r_seq ?_
                refine r_region rfl ?_
                refine o_val rfl rfl rfl rfl (v_move rfl) ?_
                refine o_act rfl rfl rfl rfl (a_appendP (bf := .nil) (n := 0) (xs := []) (sz := 1) (bytes := 1) (m := all.length) (H1 := []) [.mem x xx.cells 7, .mem z p2.cells 7, .mem t w.cells 7, .mem m w.cells 7] ⟨⟨_, _, _, rfl, rfl, rfl, rfl, rfl, rfl⟩, by decide⟩ rfl rfl rfl rfl rfl (hA.frz hF79) (bytes_one _) (by unfold maxLen; omega) (by omega)) ?_
                rintro v' H' ⟨b5, rfl, ok5, rfl⟩
                rw [List.nil_append]
                rw [Nat.zero_add] at ok5 ⊢
                refine o_val rfl rfl rfl rfl (v_move rfl) ?_
                refine o_act rfl rfl rfl rfl (a_appendP (bf := b5) (n := all.length) (sz := 1) (bytes := 1) (m := junk.length) (H1 := []) [.mem x xx.cells 7, .mem z p2.cells 7, .mem t w.cells 7, .mem m w.cells 7] ⟨⟨_, _, _, rfl, rfl, rfl, rfl, rfl, rfl⟩, by decide⟩ rfl ok5 (by simp) rfl rfl (hv.frz hF19) (bytes_one _) (by unfold maxLen; omega) (by omega)) ?_
                rintro v' H' ⟨b6, rfl, ok6, rfl⟩
                rw [← bytesV_append]
                rw [← List.length_append] at ok6 ⊢
                refine j_sel (H' := b6.ents 1 (bytesV (all ++ junk)) ++ [.mem x xx.cells 7, .mem z p2.cells 7, .mem t w.cells 7, .mem m w.cells 7]) [[Ent.mem x xx.cells 7, Ent.mem z p2.cells 7, Ent.mem t w.cells 7, Ent.mem m w.cells 7], b6.ents 1 (bytesV (all ++ junk)), []] [1, 0] rfl rfl rfl ?_
                refine j_freezeBf (n := (all ++ junk).length) ok6 (by simp) fun F10 hF10 hs10 => ?_
                have hB : SlB F10 [] (b6.val (all ++ junk).length) (all ++ junk) := hs10
                refine o_call rfl rfl rfl rfl (c_call callable12 rfl) (wal_Scan _ _ _ (all ++ junk) _ hB (by rw [List.length_append]; omega)) ?_
                rintro v' F11 H' ⟨hF11, rfl, p3, hp3, hpl3, hpp3, rfl⟩ _
                rw [hsame3] at hpp3 ⊢
                have hpo3 := hp3.one
                have hF911 := Fz.le_trans hF10 hF11
                refine o_val rfl rfl rfl rfl (v_move rfl) ?_
                refine o_val rfl rfl rfl rfl (v_extract rfl rfl) ?_
                refine o_val rfl rfl rfl rfl (v_extract rfl rfl) ?_
                refine o_act0 rfl rfl rfl (a_store (sz := 7) 1 rfl rfl rfl (by simpa [Value.cells] using hpo3) rfl rfl (Nat.le_of_ble_eq_true rfl)) ?_
                refine j_heap (H' := [.mem x xx.cells 7, .mem z p3.cells 7, .mem t w.cells 7, .mem m w.cells 7]) rfl ?_
                refine o_val rfl rfl rfl rfl (v_assign rfl) ?_
                refine o_end ?_
                refine r_seq ?_
                refine d_region 1000000 rfl ([.mem z p3.cells 7, .mem m w.cells 7]) ?_
                refine d_take (i := 0) rfl rfl rfl (by decide +kernel) (by decide +kernel) (by decide +kernel) (Fz.le_refl _) (by intro q hq; simp only [List.mem_cons, List.not_mem_nil, or_false] at hq; rcases hq with rfl | rfl <;> simp) rfl (v_move rfl) ?_
                refine d_take (i := 1) rfl rfl rfl (by decide +kernel) (by decide +kernel) (by decide +kernel) (Fz.le_refl _) (by intro q hq; simp only [List.mem_cons, List.not_mem_nil, or_false] at hq; rcases hq with rfl | rfl <;> simp) rfl (v_len rfl rfl) ?_
                refine d_take (i := 2) rfl rfl rfl (by decide +kernel) (by decide +kernel) (by decide +kernel) (Fz.le_refl _) (by intro q hq; simp only [List.mem_cons, List.not_mem_nil, or_false] at hq; rcases hq with rfl | rfl <;> simp) rfl (v_geq rfl rfl) ?_
                refine j_slot 146 rfl (v' := .bool false) (by rw [decide_eq_false (by omega)]) ?_
                cases bad with
                | true =>
                  refine d_take (i := 3) rfl rfl rfl (by decide +kernel) (by decide +kernel) (by decide +kernel) (Fz.le_refl _) (by intro q hq; simp only [List.mem_cons, List.not_mem_nil, or_false] at hq; rcases hq with rfl | rfl <;> simp) rfl (v_move rfl) ?_
                  refine d_take (i := 4) rfl rfl rfl (by decide +kernel) (by decide +kernel) (by decide +kernel) (Fz.le_refl _) (by intro q hq; simp only [List.mem_cons, List.not_mem_nil, or_false] at hq; rcases hq with rfl | rfl <;> simp) rfl (v_move rfl) ?_
                  refine d_take (i := 5) rfl rfl rfl (by decide +kernel) (by decide +kernel) (by decide +kernel) (Fz.le_refl _) (by intro q hq; simp only [List.mem_cons, List.not_mem_nil, or_false] at hq; rcases hq with rfl | rfl <;> simp) rfl (v_pick0 rfl rfl) ?_
                  refine d_take (i := 6) rfl rfl rfl (by decide +kernel) (by decide +kernel) (by decide +kernel) (Fz.le_refl _) (by intro q hq; simp only [List.mem_cons, List.not_mem_nil, or_false] at hq; rcases hq with rfl | rfl <;> simp) rfl (v_move rfl) ?_
                  refine d_skip (i := 7) rfl rfl rfl (by decide +kernel) (by decide +kernel) (by decide +kernel) (Fz.le_refl _) (by intro q hq; simp only [List.mem_cons, List.not_mem_nil, or_false] at hq; rcases hq with rfl | rfl <;> simp) rfl ?_
                  refine d_skip (i := 8) rfl rfl rfl (by decide +kernel) (by decide +kernel) (by decide +kernel) (Fz.le_refl _) (by intro q hq; simp only [List.mem_cons, List.not_mem_nil, or_false] at hq; rcases hq with rfl | rfl <;> simp) rfl ?_
                  refine d_skip (i := 9) rfl rfl rfl (by decide +kernel) (by decide +kernel) (by decide +kernel) (Fz.le_refl _) (by intro q hq; simp only [List.mem_cons, List.not_mem_nil, or_false] at hq; rcases hq with rfl | rfl <;> simp) rfl ?_
                  refine d_skip (i := 10) rfl rfl rfl (by decide +kernel) (by decide +kernel) (by decide +kernel) (Fz.le_refl _) (by intro q hq; simp only [List.mem_cons, List.not_mem_nil, or_false] at hq; rcases hq with rfl | rfl <;> simp) rfl ?_
                  refine d_skip (i := 11) rfl rfl rfl (by decide +kernel) (by decide +kernel) (by decide +kernel) (Fz.le_refl _) (by intro q hq; simp only [List.mem_cons, List.not_mem_nil, or_false] at hq; rcases hq with rfl | rfl <;> simp) rfl ?_
                  refine d_skip (i := 12) rfl rfl rfl (by decide +kernel) (by decide +kernel) (by decide +kernel) (Fz.le_refl _) (by intro q hq; simp only [List.mem_cons, List.not_mem_nil, or_false] at hq; rcases hq with rfl | rfl <;> simp) rfl ?_
                  refine d_skip (i := 13) rfl rfl rfl (by decide +kernel) (by decide +kernel) (by decide +kernel) (Fz.le_refl _) (by intro q hq; simp only [List.mem_cons, List.not_mem_nil, or_false] at hq; rcases hq with rfl | rfl <;> simp) rfl ?_
                  refine d_skip (i := 14) rfl rfl rfl (by decide +kernel) (by decide +kernel) (by decide +kernel) (Fz.le_refl _) (by intro q hq; simp only [List.mem_cons, List.not_mem_nil, or_false] at hq; rcases hq with rfl | rfl <;> simp) rfl ?_
                  refine d_skip (i := 15) rfl rfl rfl (by decide +kernel) (by decide +kernel) (by decide +kernel) (Fz.le_refl _) (by intro q hq; simp only [List.mem_cons, List.not_mem_nil, or_false] at hq; rcases hq with rfl | rfl <;> simp) rfl ?_
                  refine d_skip (i := 16) rfl rfl rfl (by decide +kernel) (by decide +kernel) (by decide +kernel) (Fz.le_refl _) (by intro q hq; simp only [List.mem_cons, List.not_mem_nil, or_false] at hq; rcases hq with rfl | rfl <;> simp) rfl ?_
                  refine d_take (i := 17) rfl rfl rfl (by decide +kernel) (by decide +kernel) (by decide +kernel) (Fz.le_refl _) (by intro q hq; simp only [List.mem_cons, List.not_mem_nil, or_false] at hq; rcases hq with rfl | rfl <;> simp) rfl (v_pick1 rfl rfl) ?_
                  refine d_take (i := 18) rfl rfl rfl (by decide +kernel) (by decide +kernel) (by decide +kernel) (Fz.le_refl _) (by intro q hq; simp only [List.mem_cons, List.not_mem_nil, or_false] at hq; rcases hq with rfl | rfl <;> simp) rfl (v_assign rfl) ?_
                  refine d_end (by decide +kernel) ?_
                  exact r_ret1 Try.func3 rfl rfl ⟨rfl, Fz.le_trans hF19 hF911⟩
                | false =>
                  have hb2 := hbt2 rfl
                  refine d_take (i := 3) rfl rfl rfl (by decide +kernel) (by decide +kernel) (by decide +kernel) (Fz.le_refl _) (by intro q hq; simp only [List.mem_cons, List.not_mem_nil, or_false] at hq; rcases hq with rfl | rfl <;> simp) rfl (v_move rfl) ?_
                  refine d_take (i := 4) rfl rfl rfl (by decide +kernel) (by decide +kernel) (by decide +kernel) (Fz.le_refl _) (by intro q hq; simp only [List.mem_cons, List.not_mem_nil, or_false] at hq; rcases hq with rfl | rfl <;> simp) rfl (v_move rfl) ?_
                  refine d_take (i := 5) rfl rfl rfl (by decide +kernel) (by decide +kernel) (by decide +kernel) (Fz.le_refl _) (by intro q hq; simp only [List.mem_cons, List.not_mem_nil, or_false] at hq; rcases hq with rfl | rfl <;> simp) rfl (v_pick0 rfl rfl) ?_
                  refine d_take (i := 6) rfl rfl rfl (by decide +kernel) (by decide +kernel) (by decide +kernel) (Fz.le_refl _) (by intro q hq; simp only [List.mem_cons, List.not_mem_nil, or_false] at hq; rcases hq with rfl | rfl <;> simp) rfl (v_move rfl) ?_
                  refine d_take (i := 7) rfl rfl rfl (by decide +kernel) (by decide +kernel) (by decide +kernel) (Fz.le_refl _) (by intro q hq; simp only [List.mem_cons, List.not_mem_nil, or_false] at hq; rcases hq with rfl | rfl <;> simp) rfl (v_move rfl) ?_
                  refine d_take (i := 8) rfl rfl rfl (by decide +kernel) (by decide +kernel) (by decide +kernel) (Fz.le_refl _) (by intro q hq; simp only [List.mem_cons, List.not_mem_nil, or_false] at hq; rcases hq with rfl | rfl <;> simp) rfl (v_move rfl) ?_
                  refine d_take (i := 9) rfl rfl rfl (by decide +kernel) (by decide +kernel) (by decide +kernel) (Fz.le_refl _) (by intro q hq; simp only [List.mem_cons, List.not_mem_nil, or_false] at hq; rcases hq with rfl | rfl <;> simp) rfl (v_len rfl rfl) ?_
                  refine d_take (i := 10) rfl rfl rfl (by decide +kernel) (by decide +kernel) (by decide +kernel) (Fz.le_refl _) (by intro q hq; simp only [List.mem_cons, List.not_mem_nil, or_false] at hq; rcases hq with rfl | rfl <;> simp) rfl (v_eql rfl rfl) ?_
                  refine j_slot 154 rfl (v' := .bool true) (by rw [hb2]; simp) ?_
                  refine d_take (i := 11) rfl rfl rfl (by decide +kernel) (by decide +kernel) (by decide +kernel) (Fz.le_refl _) (by intro q hq; simp only [List.mem_cons, List.not_mem_nil, or_false] at hq; rcases hq with rfl | rfl <;> simp) rfl (v_move rfl) ?_
                  refine d_take (i := 12) rfl rfl rfl (by decide +kernel) (by decide +kernel) (by decide +kernel) (Fz.le_refl _) (by intro q hq; simp only [List.mem_cons, List.not_mem_nil, or_false] at hq; rcases hq with rfl | rfl <;> simp) rfl (v_loadAgg (sz := 7) (cs := p3.cells) rfl rfl rfl rfl (cells_of (j := 0) _ _ rfl rfl)) ?_
                  refine d_take (i := 14) rfl rfl rfl (by decide +kernel) (by decide +kernel) (by decide +kernel) (Fz.le_refl _) (by intro q hq; simp only [List.mem_cons, List.not_mem_nil, or_false] at hq; rcases hq with rfl | rfl <;> simp) rfl (v_loadAgg (sz := 7) (cs := w.cells) rfl rfl rfl rfl (cells_of (j := 1) _ _ rfl rfl)) ?_
                  refine d_one (i := 13) (by decide +kernel) ?_
                  refine d1_call rfl rfl rfl rfl (c_call callable14 rfl) (law_image _ _ p3 _ hp3) ?_
                  rintro v' F11 H' ⟨rfl, rfl, rfl⟩ _
                  refine ⟨fun w hw => held_of hw (by first | exact Fz.le_refl _ | assumption) (by intro q hq; simp only [List.mem_cons, List.not_mem_nil, or_false] at hq; rcases hq with rfl | rfl <;> simp), ?_⟩
                  refine d_one (i := 15) (by decide +kernel) ?_
                  refine d1_call rfl rfl rfl rfl (c_call callable13 rfl) (ref_Same _ _ p3 w _ hp3 (hwok.frz (Fz.le_trans hF9 hF911)) hpp3 (by rw [List.length_append] at hpl3; omega)) ?_
                  rintro v' F11 H' ⟨rfl, rfl, rfl⟩ _
                  refine ⟨fun w hw => held_of hw (by first | exact Fz.le_refl _ | assumption) (by intro q hq; simp only [List.mem_cons, List.not_mem_nil, or_false] at hq; rcases hq with rfl | rfl <;> simp), ?_⟩
                  refine d_take (i := 16) rfl rfl rfl (by decide +kernel) (by decide +kernel) (by decide +kernel) (Fz.le_refl _) (by intro q hq; simp only [List.mem_cons, List.not_mem_nil, or_false] at hq; rcases hq with rfl | rfl <;> simp) rfl (v_pick1 rfl rfl) ?_
                  refine d_take (i := 17) rfl rfl rfl (by decide +kernel) (by decide +kernel) (by decide +kernel) (Fz.le_refl _) (by intro q hq; simp only [List.mem_cons, List.not_mem_nil, or_false] at hq; rcases hq with rfl | rfl <;> simp) rfl (v_pick0 rfl rfl) ?_
                  refine d_take (i := 18) rfl rfl rfl (by decide +kernel) (by decide +kernel) (by decide +kernel) (Fz.le_refl _) (by intro q hq; simp only [List.mem_cons, List.not_mem_nil, or_false] at hq; rcases hq with rfl | rfl <;> simp) rfl (v_assign rfl) ?_
                  refine d_end (by decide +kernel) ?_
                  exact r_ret1 Try.func3 rfl rfl ⟨rfl, Fz.le_trans hF19 hF911⟩
        · have hnx : j < rl.length → cut < endAt rl (j + 1) := fun h => by omega
          refine o_val rfl rfl rfl rfl (v_move rfl) ?_
          refine o_skip rfl rfl rfl rfl ?_
          refine o_skip rfl rfl rfl rfl ?_
          refine o_skip rfl rfl rfl rfl ?_
          refine o_skip rfl rfl rfl rfl ?_
          refine o_skip rfl rfl rfl rfl ?_
          refine o_skip rfl rfl rfl rfl ?_
          refine o_val rfl rfl rfl rfl (v_pick0 rfl rfl) ?_
          refine o_end ?_
          refine r_false rfl ?_
          have hct := hcutl j cut hj1 hj2 hnx
          clear IH
          have hat : SlB F8 [] (Go.sliced ba.addr 0 cut ba.cp 1) (all.take cut) := SlB.take (hA.frz hF8) (by omega)
          generalize hxx : imAt p0 ws j = xx at *
          refine r_exit rfl ?_
          refine r_seq ?_
          refine r_region rfl ?_
          refine o_val rfl rfl rfl rfl (v_move rfl) ?_
          refine o_val rfl rfl rfl rfl (v_move rfl) ?_
          refine o_val rfl rfl rfl rfl (v_sliceH (sz := 1) rfl rfl rfl rfl rfl (by have := Bf.ok_cp oka; omega)) ?_
          refine o_call rfl rfl rfl rfl (c_call callable12 rfl) (wal_Scan _ _ _ (all.take cut) _ hat (by simp; omega)) ?_
          rintro v' F9 H' ⟨hF9, rfl, p2, hp2, hpl2, hpp2, rfl⟩ _
          rw [hct] at hpp2 ⊢
          have hpo2 := hp2.one
          refine o_val rfl rfl rfl rfl (v_move rfl) ?_
          refine o_val rfl rfl rfl rfl (v_extract rfl rfl) ?_
          refine o_val rfl rfl rfl rfl (v_extract rfl rfl) ?_
          refine o_act0 rfl rfl rfl (a_store (sz := 7) 1 rfl rfl rfl (by simpa [Value.cells] using hpo2) rfl rfl (Nat.le_of_ble_eq_true rfl)) ?_
          refine j_heap (H' := [.mem x xx.cells 7, .mem z p2.cells 7, .mem t w.cells 7, .mem m w.cells 7]) rfl ?_
          refine o_val rfl rfl rfl rfl (v_assign rfl) ?_
          refine o_end ?_
          refine r_seq ?_
          refine r_seq ?_
          refine d_region 1000000 rfl ([.mem z p2.cells 7, .mem x xx.cells 7]) ?_
          refine d_take (i := 0) rfl rfl rfl (by decide +kernel) (by decide +kernel) (by decide +kernel) (Fz.le_refl _) (by intro q hq; simp only [List.mem_cons, List.not_mem_nil, or_false] at hq; rcases hq with rfl | rfl <;> simp) rfl (v_move rfl) ?_
          refine d_take (i := 1) rfl rfl rfl (by decide +kernel) (by decide +kernel) (by decide +kernel) (Fz.le_refl _) (by intro q hq; simp only [List.mem_cons, List.not_mem_nil, or_false] at hq; rcases hq with rfl | rfl <;> simp) rfl (v_move rfl) ?_
          refine d_take (i := 2) rfl rfl rfl (by decide +kernel) (by decide +kernel) (by decide +kernel) (Fz.le_refl _) (by intro q hq; simp only [List.mem_cons, List.not_mem_nil, or_false] at hq; rcases hq with rfl | rfl <;> simp) rfl (v_neq rfl rfl) ?_
          refine j_slot 128 rfl (v' := .bool false) (by rw [decide_eq_false (by simp)]) ?_
          refine d_take (i := 3) rfl rfl rfl (by decide +kernel) (by decide +kernel) (by decide +kernel) (Fz.le_refl _) (by intro q hq; simp only [List.mem_cons, List.not_mem_nil, or_false] at hq; rcases hq with rfl | rfl <;> simp) rfl (v_move rfl) ?_
          refine d_take (i := 4) rfl rfl rfl (by decide +kernel) (by decide +kernel) (by decide +kernel) (Fz.le_refl _) (by intro q hq; simp only [List.mem_cons, List.not_mem_nil, or_false] at hq; rcases hq with rfl | rfl <;> simp) rfl (v_loadAgg (sz := 7) (cs := p2.cells) rfl rfl rfl rfl (cells_of (j := 0) _ _ rfl rfl)) ?_
          refine d_take (i := 6) rfl rfl rfl (by decide +kernel) (by decide +kernel) (by decide +kernel) (Fz.le_refl _) (by intro q hq; simp only [List.mem_cons, List.not_mem_nil, or_false] at hq; rcases hq with rfl | rfl <;> simp) rfl (v_loadAgg (sz := 7) (cs := xx.cells) rfl rfl rfl rfl (cells_of (j := 1) _ _ rfl rfl)) ?_
          refine d_one (i := 5) (by decide +kernel) ?_
          refine d1_call rfl rfl rfl rfl (c_call callable14 rfl) (law_image _ _ p2 _ hp2) ?_
          rintro v' F9 H' ⟨rfl, rfl, rfl⟩ _
          refine ⟨fun w hw => held_of hw (by first | exact Fz.le_refl _ | assumption) (by intro q hq; simp only [List.mem_cons, List.not_mem_nil, or_false] at hq; rcases hq with rfl | rfl <;> simp), ?_⟩
          refine d_one (i := 7) (by decide +kernel) ?_
          refine d1_call rfl rfl rfl rfl (c_call callable13 rfl) (ref_Same _ _ p2 xx _ hp2 (hxok.frz hF9) (hpp2.trans hxp.symm) (by simp only [List.length_take] at hpl2; omega)) ?_
          rintro v' F9 H' ⟨rfl, rfl, rfl⟩ _
          refine ⟨fun w hw => held_of hw (by first | exact Fz.le_refl _ | assumption) (by intro q hq; simp only [List.mem_cons, List.not_mem_nil, or_false] at hq; rcases hq with rfl | rfl <;> simp), ?_⟩
          refine d_take (i := 8) rfl rfl rfl (by decide +kernel) (by decide +kernel) (by decide +kernel) (Fz.le_refl _) (by intro q hq; simp only [List.mem_cons, List.not_mem_nil, or_false] at hq; rcases hq with rfl | rfl <;> simp) rfl (v_not rfl) ?_
          refine d_take (i := 9) rfl rfl rfl (by decide +kernel) (by decide +kernel) (by decide +kernel) (Fz.le_refl _) (by intro q hq; simp only [List.mem_cons, List.not_mem_nil, or_false] at hq; rcases hq with rfl | rfl <;> simp) rfl (v_pick0 rfl rfl) ?_
          refine d_end (by decide +kernel) ?_
          refine r_false rfl ?_
          have hF79 := Fz.le_trans hF8 hF9
          have hF19 : F.le F9 := Fz.le_trans hF14 (Fz.le_trans hF47 hF79)
          refine r_skip ?_
          refine r_seq ?_
          refine r_region rfl ?_
          refine o_val rfl rfl rfl rfl (v_move rfl) ?_
          refine o_act rfl rfl rfl rfl (a_appendP (bf := .nil) (n := 0) (xs := []) (sz := 1) (bytes := 1) (m := all.length) (H1 := []) [.mem x xx.cells 7, .mem z p2.cells 7, .mem t w.cells 7, .mem m w.cells 7] ⟨⟨_, _, _, rfl, rfl, rfl, rfl, rfl, rfl⟩, by decide⟩ rfl rfl rfl rfl rfl (hA.frz hF79) (bytes_one _) (by unfold maxLen; omega) (by omega)) ?_
          rintro v' H' ⟨b5, rfl, ok5, rfl⟩
          rw [List.nil_append]
          rw [Nat.zero_add] at ok5 ⊢
          refine o_val rfl rfl rfl rfl (v_move rfl) ?_
          refine o_act rfl rfl rfl rfl (a_appendP (bf := b5) (n := all.length) (sz := 1) (bytes := 1) (m := junk.length) (H1 := []) [.mem x xx.cells 7, .mem z p2.cells 7, .mem t w.cells 7, .mem m w.cells 7] ⟨⟨_, _, _, rfl, rfl, rfl, rfl, rfl, rfl⟩, by decide⟩ rfl ok5 (by simp) rfl rfl (hv.frz hF19) (bytes_one _) (by unfold maxLen; omega) (by omega)) ?_
          rintro v' H' ⟨b6, rfl, ok6, rfl⟩
          rw [← bytesV_append]
          rw [← List.length_append] at ok6 ⊢
          refine j_sel (H' := b6.ents 1 (bytesV (all ++ junk)) ++ [.mem x xx.cells 7, .mem z p2.cells 7, .mem t w.cells 7, .mem m w.cells 7]) [[Ent.mem x xx.cells 7, Ent.mem z p2.cells 7, Ent.mem t w.cells 7, Ent.mem m w.cells 7], b6.ents 1 (bytesV (all ++ junk)), []] [1, 0] rfl rfl rfl ?_
          refine j_freezeBf (n := (all ++ junk).length) ok6 (by simp) fun F10 hF10 hs10 => ?_
          have hB : SlB F10 [] (b6.val (all ++ junk).length) (all ++ junk) := hs10
          refine o_call rfl rfl rfl rfl (c_call callable12 rfl) (wal_Scan _ _ _ (all ++ junk) _ hB (by rw [List.length_append]; omega)) ?_
          rintro v' F11 H' ⟨hF11, rfl, p3, hp3, hpl3, hpp3, rfl⟩ _
          rw [hsame3] at hpp3 ⊢
          have hpo3 := hp3.one
          have hF911 := Fz.le_trans hF10 hF11
          refine o_val rfl rfl rfl rfl (v_move rfl) ?_
          refine o_val rfl rfl rfl rfl (v_extract rfl rfl) ?_
          refine o_val rfl rfl rfl rfl (v_extract rfl rfl) ?_
          refine o_act0 rfl rfl rfl (a_store (sz := 7) 1 rfl rfl rfl (by simpa [Value.cells] using hpo3) rfl rfl (Nat.le_of_ble_eq_true rfl)) ?_
          refine j_heap (H' := [.mem x xx.cells 7, .mem z p3.cells 7, .mem t w.cells 7, .mem m w.cells 7]) rfl ?_
          refine o_val rfl rfl rfl rfl (v_assign rfl) ?_
          refine o_end ?_
          refine r_seq ?_
          refine d_region 1000000 rfl ([.mem z p3.cells 7, .mem m w.cells 7]) ?_
          refine d_take (i := 0) rfl rfl rfl (by decide +kernel) (by decide +kernel) (by decide +kernel) (Fz.le_refl _) (by intro q hq; simp only [List.mem_cons, List.not_mem_nil, or_false] at hq; rcases hq with rfl | rfl <;> simp) rfl (v_move rfl) ?_
          refine d_take (i := 1) rfl rfl rfl (by decide +kernel) (by decide +kernel) (by decide +kernel) (Fz.le_refl _) (by intro q hq; simp only [List.mem_cons, List.not_mem_nil, or_false] at hq; rcases hq with rfl | rfl <;> simp) rfl (v_len rfl rfl) ?_
          refine d_take (i := 2) rfl rfl rfl (by decide +kernel) (by decide +kernel) (by decide +kernel) (Fz.le_refl _) (by intro q hq; simp only [List.mem_cons, List.not_mem_nil, or_false] at hq; rcases hq with rfl | rfl <;> simp) rfl (v_geq rfl rfl) ?_
          refine j_slot 146 rfl (v' := .bool false) (by rw [decide_eq_false (by omega)]) ?_
          cases bad with
          | true =>
            refine d_take (i := 3) rfl rfl rfl (by decide +kernel) (by decide +kernel) (by decide +kernel) (Fz.le_refl _) (by intro q hq; simp only [List.mem_cons, List.not_mem_nil, or_false] at hq; rcases hq with rfl | rfl <;> simp) rfl (v_move rfl) ?_
            refine d_take (i := 4) rfl rfl rfl (by decide +kernel) (by decide +kernel) (by decide +kernel) (Fz.le_refl _) (by intro q hq; simp only [List.mem_cons, List.not_mem_nil, or_false] at hq; rcases hq with rfl | rfl <;> simp) rfl (v_move rfl) ?_
            refine d_take (i := 5) rfl rfl rfl (by decide +kernel) (by decide +kernel) (by decide +kernel) (Fz.le_refl _) (by intro q hq; simp only [List.mem_cons, List.not_mem_nil, or_false] at hq; rcases hq with rfl | rfl <;> simp) rfl (v_pick0 rfl rfl) ?_
            refine d_take (i := 6) rfl rfl rfl (by decide +kernel) (by decide +kernel) (by decide +kernel) (Fz.le_refl _) (by intro q hq; simp only [List.mem_cons, List.not_mem_nil, or_false] at hq; rcases hq with rfl | rfl <;> simp) rfl (v_move rfl) ?_
            refine d_skip (i := 7) rfl rfl rfl (by decide +kernel) (by decide +kernel) (by decide +kernel) (Fz.le_refl _) (by intro q hq; simp only [List.mem_cons, List.not_mem_nil, or_false] at hq; rcases hq with rfl | rfl <;> simp) rfl ?_
            refine d_skip (i := 8) rfl rfl rfl (by decide +kernel) (by decide +kernel) (by decide +kernel) (Fz.le_refl _) (by intro q hq; simp only [List.mem_cons, List.not_mem_nil, or_false] at hq; rcases hq with rfl | rfl <;> simp) rfl ?_
            refine d_skip (i := 9) rfl rfl rfl (by decide +kernel) (by decide +kernel) (by decide +kernel) (Fz.le_refl _) (by intro q hq; simp only [List.mem_cons, List.not_mem_nil, or_false] at hq; rcases hq with rfl | rfl <;> simp) rfl ?_
            refine d_skip (i := 10) rfl rfl rfl (by decide +kernel) (by decide +kernel) (by decide +kernel) (Fz.le_refl _) (by intro q hq; simp only [List.mem_cons, List.not_mem_nil, or_false] at hq; rcases hq with rfl | rfl <;> simp) rfl ?_
            refine d_skip (i := 11) rfl rfl rfl (by decide +kernel) (by decide +kernel) (by decide +kernel) (Fz.le_refl _) (by intro q hq; simp only [List.mem_cons, List.not_mem_nil, or_false] at hq; rcases hq with rfl | rfl <;> simp) rfl ?_
            refine d_skip (i := 12) rfl rfl rfl (by decide +kernel) (by decide +kernel) (by decide +kernel) (Fz.le_refl _) (by intro q hq; simp only [List.mem_cons, List.not_mem_nil, or_false] at hq; rcases hq with rfl | rfl <;> simp) rfl ?_
            refine d_skip (i := 13) rfl rfl rfl (by decide +kernel) (by decide +kernel) (by decide +kernel) (Fz.le_refl _) (by intro q hq; simp only [List.mem_cons, List.not_mem_nil, or_false] at hq; rcases hq with rfl | rfl <;> simp) rfl ?_
            refine d_skip (i := 14) rfl rfl rfl (by decide +kernel) (by decide +kernel) (by decide +kernel) (Fz.le_refl _) (by intro q hq; simp only [List.mem_cons, List.not_mem_nil, or_false] at hq; rcases hq with rfl | rfl <;> simp) rfl ?_
            refine d_skip (i := 15) rfl rfl rfl (by decide +kernel) (by decide +kernel) (by decide +kernel) (Fz.le_refl _) (by intro q hq; simp only [List.mem_cons, List.not_mem_nil, or_false] at hq; rcases hq with rfl | rfl <;> simp) rfl ?_
            refine d_skip (i := 16) rfl rfl rfl (by decide +kernel) (by decide +kernel) (by decide +kernel) (Fz.le_refl _) (by intro q hq; simp only [List.mem_cons, List.not_mem_nil, or_false] at hq; rcases hq with rfl | rfl <;> simp) rfl ?_
            refine d_take (i := 17) rfl rfl rfl (by decide +kernel) (by decide +kernel) (by decide +kernel) (Fz.le_refl _) (by intro q hq; simp only [List.mem_cons, List.not_mem_nil, or_false] at hq; rcases hq with rfl | rfl <;> simp) rfl (v_pick1 rfl rfl) ?_
            refine d_take (i := 18) rfl rfl rfl (by decide +kernel) (by decide +kernel) (by decide +kernel) (Fz.le_refl _) (by intro q hq; simp only [List.mem_cons, List.not_mem_nil, or_false] at hq; rcases hq with rfl | rfl <;> simp) rfl (v_assign rfl) ?_
            refine d_end (by decide +kernel) ?_
            exact r_ret1 Try.func3 rfl rfl ⟨rfl, Fz.le_trans hF19 hF911⟩
          | false =>
            have hb2 := hbt2 rfl
            refine d_take (i := 3) rfl rfl rfl (by decide +kernel) (by decide +kernel) (by decide +kernel) (Fz.le_refl _) (by intro q hq; simp only [List.mem_cons, List.not_mem_nil, or_false] at hq; rcases hq with rfl | rfl <;> simp) rfl (v_move rfl) ?_
            refine d_take (i := 4) rfl rfl rfl (by decide +kernel) (by decide +kernel) (by decide +kernel) (Fz.le_refl _) (by intro q hq; simp only [List.mem_cons, List.not_mem_nil, or_false] at hq; rcases hq with rfl | rfl <;> simp) rfl (v_move rfl) ?_
            refine d_take (i := 5) rfl rfl rfl (by decide +kernel) (by decide +kernel) (by decide +kernel) (Fz.le_refl _) (by intro q hq; simp only [List.mem_cons, List.not_mem_nil, or_false] at hq; rcases hq with rfl | rfl <;> simp) rfl (v_pick0 rfl rfl) ?_
            refine d_take (i := 6) rfl rfl rfl (by decide +kernel) (by decide +kernel) (by decide +kernel) (Fz.le_refl _) (by intro q hq; simp only [List.mem_cons, List.not_mem_nil, or_false] at hq; rcases hq with rfl | rfl <;> simp) rfl (v_move rfl) ?_
            refine d_take (i := 7) rfl rfl rfl (by decide +kernel) (by decide +kernel) (by decide +kernel) (Fz.le_refl _) (by intro q hq; simp only [List.mem_cons, List.not_mem_nil, or_false] at hq; rcases hq with rfl | rfl <;> simp) rfl (v_move rfl) ?_
            refine d_take (i := 8) rfl rfl rfl (by decide +kernel) (by decide +kernel) (by decide +kernel) (Fz.le_refl _) (by intro q hq; simp only [List.mem_cons, List.not_mem_nil, or_false] at hq; rcases hq with rfl | rfl <;> simp) rfl (v_move rfl) ?_
            refine d_take (i := 9) rfl rfl rfl (by decide +kernel) (by decide +kernel) (by decide +kernel) (Fz.le_refl _) (by intro q hq; simp only [List.mem_cons, List.not_mem_nil, or_false] at hq; rcases hq with rfl | rfl <;> simp) rfl (v_len rfl rfl) ?_
            refine d_take (i := 10) rfl rfl rfl (by decide +kernel) (by decide +kernel) (by decide +kernel) (Fz.le_refl _) (by intro q hq; simp only [List.mem_cons, List.not_mem_nil, or_false] at hq; rcases hq with rfl | rfl <;> simp) rfl (v_eql rfl rfl) ?_
            refine j_slot 154 rfl (v' := .bool true) (by rw [hb2]; simp) ?_
            refine d_take (i := 11) rfl rfl rfl (by decide +kernel) (by decide +kernel) (by decide +kernel) (Fz.le_refl _) (by intro q hq; simp only [List.mem_cons, List.not_mem_nil, or_false] at hq; rcases hq with rfl | rfl <;> simp) rfl (v_move rfl) ?_
            refine d_take (i := 12) rfl rfl rfl (by decide +kernel) (by decide +kernel) (by decide +kernel) (Fz.le_refl _) (by intro q hq; simp only [List.mem_cons, List.not_mem_nil, or_false] at hq; rcases hq with rfl | rfl <;> simp) rfl (v_loadAgg (sz := 7) (cs := p3.cells) rfl rfl rfl rfl (cells_of (j := 0) _ _ rfl rfl)) ?_
            refine d_take (i := 14) rfl rfl rfl (by decide +kernel) (by decide +kernel) (by decide +kernel) (Fz.le_refl _) (by intro q hq; simp only [List.mem_cons, List.not_mem_nil, or_false] at hq; rcases hq with rfl | rfl <;> simp) rfl (v_loadAgg (sz := 7) (cs := w.cells) rfl rfl rfl rfl (cells_of (j := 1) _ _ rfl rfl)) ?_
            refine d_one (i := 13) (by decide +kernel) ?_
            refine d1_call rfl rfl rfl rfl (c_call callable14 rfl) (law_image _ _ p3 _ hp3) ?_
            rintro v' F11 H' ⟨rfl, rfl, rfl⟩ _
            refine ⟨fun w hw => held_of hw (by first | exact Fz.le_refl _ | assumption) (by intro q hq; simp only [List.mem_cons, List.not_mem_nil, or_false] at hq; rcases hq with rfl | rfl <;> simp), ?_⟩
            refine d_one (i := 15) (by decide +kernel) ?_
            refine d1_call rfl rfl rfl rfl (c_call callable13 rfl) (ref_Same _ _ p3 w _ hp3 (hwok.frz (Fz.le_trans hF9 hF911)) hpp3 (by rw [List.length_append] at hpl3; omega)) ?_
            rintro v' F11 H' ⟨rfl, rfl, rfl⟩ _
            refine ⟨fun w hw => held_of hw (by first | exact Fz.le_refl _ | assumption) (by intro q hq; simp only [List.mem_cons, List.not_mem_nil, or_false] at hq; rcases hq with rfl | rfl <;> simp), ?_⟩
            refine d_take (i := 16) rfl rfl rfl (by decide +kernel) (by decide +kernel) (by decide +kernel) (Fz.le_refl _) (by intro q hq; simp only [List.mem_cons, List.not_mem_nil, or_false] at hq; rcases hq with rfl | rfl <;> simp) rfl (v_pick1 rfl rfl) ?_
            refine d_take (i := 17) rfl rfl rfl (by decide +kernel) (by decide +kernel) (by decide +kernel) (Fz.le_refl _) (by intro q hq; simp only [List.mem_cons, List.not_mem_nil, or_false] at hq; rcases hq with rfl | rfl <;> simp) rfl (v_pick0 rfl rfl) ?_
            refine d_take (i := 18) rfl rfl rfl (by decide +kernel) (by decide +kernel) (by decide +kernel) (Fz.le_refl _) (by intro q hq; simp only [List.mem_cons, List.not_mem_nil, or_false] at hq; rcases hq with rfl | rfl <;> simp) rfl (v_assign rfl) ?_
            refine d_end (by decide +kernel) ?_
            exact r_ret1 Try.func3 rfl rfl ⟨rfl, Fz.le_trans hF19 hF911⟩
theorem in_WalScans (W : World) (vr : Value) (rs : List RecI) (hr : InRec W vr rs) (hrl : rs.length ≤ 9223372036854775807) (v : Value) (zs : List Int) (h : InInts .u8 W v zs) (hz : zs.length * 1 ≤ 140737488351232) (c : Int) (hc : (Lit.int .u16 c).wf = true) :
    Calls Try.prog 3 #[vr, v, .int .u16 c] W fun e w' => e = .returned (.bool true) ∧ Go.RowKit.Below W.heap.size W w' := by
  obtain ⟨l, hl, hv⟩ := inBytes h
  simp [Lit.wf, IntKind.min, IntKind.max, IntKind.signed, IntKind.bits] at hc
  obtain ⟨c, rfl⟩ := Int.eq_ofNat_of_zero_le hc.1
  exact below_of_does (law_WalScans _ _ vr rs v l c hv (by omega) (by omega) hr.1 hrl (fun r hr' => ⟨⟨(hr.2 r hr').k, (hr.2 r hr').a, (hr.2 r hr').b, (hr.2 r hr').v1, (hr.2 r hr').v2⟩, (hr.2 r hr').d⟩))
end Go.SX
