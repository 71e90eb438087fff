/-
  The law WalCrashes: of records that were kept, some of them durable, any crash leaves those, and whole records behind, up to one.
-/
import Derived.Test.YtmpbgnffdpppbaaL08f
import Derived.Test.YtmpbgnffdpppbaaWal11
namespace Go.SX
open Go Go.Proofs
set_option maxRecDepth 4000
set_option linter.unusedSimpArgs false
set_option linter.unusedVariables false

theorem Sl.last4 {F : Fz} {H : List Ent} {a : Option Addr} {cap : Nat} {l : List En} (hv : Sl F H 4 (.slice a l.length cap) l.length (enV l)) {l0 : List En} {e : En} (hl : l = l0 ++ [e]) : Sl F H 4 (Go.sliced a l0.length l.length cap 4) 1 (enV [e]) := by
  have h := Sl.sliced hv (show l0.length ≤ l.length by rw [hl]; simp) (Nat.le_refl _)
  have h1 : l.length - l0.length = 1 := by rw [hl]; simp
  rw [h1] at h
  have h2 : ((enV l).drop (l0.length * 4)).take (1 * 4) = enV [e] := by
    rw [hl, show enV (l0 ++ [e]) = enV l0 ++ enV [e] from List.flatMap_append, List.drop_append, List.drop_of_length_le (by rw [en_len]; exact Nat.le_refl _), en_len, Nat.sub_self]
    simp [enV, En.cells]
  rw [h2] at h
  exact h
structure CrG where
  i : Nat
  F : Fz
  w : Im
  rl : List (Nat × List UInt8)
  ws : List Im
  bd : Bf
  be : Bf
  bw : Bf
  j0 : Nat
  ops : Nat
structure CrI (F1 : Fz) (n : Nat) (g : CrG) : Prop where
  F : F1.le g.F
  i : g.i ≤ n
  w : g.w.ok g.F
  wc : Consec g.w.ix g.w.l
  wx : g.w.ix ≤ 1000
  wl : g.w.l.length ≤ g.i
  ws : ∀ p ∈ g.ws, p.ok g.F
  wn : g.ws.length = g.rl.length
  rn : g.rl.length ≤ g.i
  tr : Track g.rl (g.ws.map Im.pure)
  st : stW (g.ws.map Im.pure) g.rl.length = g.w.pure
  al : (catR g.rl).length ≤ g.i * 310
  okd : g.bd.ok (catR g.rl).length
  oke : g.be.ok g.rl.length
  okw : g.bw.ok g.rl.length
  j0 : g.j0 ≤ g.rl.length
  ops : g.ops ≤ 2 * g.i
abbrev crH (t d : Nat) (g : CrG) : List Ent := .mem t g.w.cells 7 :: DkE d g.bd (catR g.rl) (endAt g.rl g.j0) g.ops :: (g.bd.ents 1 (bytesV (catR g.rl)) ++ (g.be.ents 1 (endsV g.rl) ++ (g.bw.ents 7 (imV g.ws) ++ [])))
set_option maxHeartbeats 3200000 in
theorem law_WalCrashes (O : World) (F : Fz) (vr : Value) (rs : List RecI) (vb : Value) (bs : List Bool) (keep : Nat) (hkeep : keep < 65536) (hbv : Sl F [] 1 vb bs.length (bs.map .bool)) (hbl : bs.length ≤ 9223372036854775807) (hrv : Sl F [] 5 vr rs.length (rs.flatMap RecI.cells)) (hrl : rs.length ≤ 9223372036854775807)
    (hrs : ∀ r ∈ rs, (r.k < 256 ∧ r.a < 18446744073709551616 ∧ r.b < 18446744073709551616 ∧ -32768 ≤ r.v ∧ r.v ≤ 32767) ∧ SlB F [] r.dv r.d) :
    Does Try.prog O 7 #[vr, vb, .int .u16 keep] F [] (fun r _ _ => r = .bool true) := by
  obtain ⟨a0, cap, rfl, hcap⟩ := Sl.shape hbv
  obtain ⟨a9, cap9, rfl, hcap9⟩ := Sl.shape hrv
  refine does_of_run (args := [_, _, _]) Try.func7 rfl rfl ?_
  refine r_seq ?_
  refine r_region rfl ?_
  refine o_val rfl rfl rfl rfl (v_assign rfl) ?_
  refine o_end ?_
  refine r_seq ?_
  refine r_seq ?_
  refine r_region rfl ?_
  refine o_call rfl rfl rfl rfl (c_call callable9 rfl) (law_awake _ _ _) ?_
  rintro v' F1 H' ⟨rfl, rfl⟩ hF1
  refine o_val rfl rfl rfl rfl (v_not rfl) ?_
  refine o_val rfl rfl rfl rfl (v_move rfl) ?_
  refine o_val rfl rfl rfl rfl (v_move rfl) ?_
  refine o_call rfl rfl rfl rfl (c_call callable10 rfl) (law_short _ _ _ rs _ (hrv.frz hF1) (fun r hr => (hrs r hr).2.frz hF1) hrl) ?_
  rintro v' F1 H' ⟨rfl, rfl, hsh⟩ _
  rcases hsh with rfl | ⟨rfl, hs60, hs200⟩
  · skip
    refine o_val rfl rfl rfl rfl (v_not rfl) ?_
    refine o_val rfl rfl rfl rfl (v_pick0 rfl rfl) ?_
    refine o_end ?_
    refine r_true rfl ?_
    refine r_seq ?_
    refine r_region rfl ?_
    refine o_call rfl rfl rfl rfl (c_call callable9 rfl) (law_awake _ _ _) ?_
    rintro v' F2 H' ⟨rfl, rfl⟩ hF2
    refine o_val rfl rfl rfl rfl (v_assign rfl) ?_
    refine o_end ?_
    exact r_ret1 Try.func7 rfl rfl ⟨rfl, Fz.le_trans hF1 hF2⟩
  · skip
    refine o_val rfl rfl rfl rfl (v_not rfl) ?_
    refine o_val rfl rfl rfl rfl (v_pick0 rfl rfl) ?_
    refine o_end ?_
    refine r_false rfl ?_
    refine r_skip ?_
    refine r_seq ?_
    refine r_region rfl ?_
    refine o_call rfl rfl rfl rfl (c_call callable24 rfl) (dk_New _ _ _) ?_
    rintro v' F1 H' ⟨rfl, d, rfl, rfl⟩ _
    obtain ⟨p0, hp0⟩ : ∃ p0 : Im, p0 = ⟨0, -1, 0, 0, 0, .slice none 0 0, [], .slice none 0 0, []⟩ := ⟨_, rfl⟩
    have hp0ok : p0.ok F1 := by rw [hp0]; exact ⟨by decide, by decide, by decide, by decide, by decide, by decide, Sl.nil _ _ _, by simp, Sl.nil _ _ _, by simp⟩
    have hp0p : p0.pure = nilI := by rw [hp0]; rfl
    have he00 : endAt [] 0 = 0 := rfl
    refine o_val rfl rfl rfl rfl (v_assign rfl) ?_
    refine o_end ?_
    refine r_seq ?_
    refine r_region rfl ?_
    refine o_val rfl rfl rfl rfl (v_build rfl rfl) ?_
    refine o_val rfl rfl rfl rfl (v_build rfl rfl) ?_
    refine o_act rfl rfl rfl rfl (a_alloc rfl) ?_
    rintro v' H' ⟨t, rfl, rfl⟩
    refine o_act0 rfl rfl rfl (a_store (sz := 7) 0 rfl rfl rfl rfl rfl rfl (Nat.le_of_ble_eq_true rfl)) ?_
    refine j_heap (H' := crH t d ⟨0, F1, p0, [], [], .nil, .nil, .nil, 0, 0⟩) (by rw [hp0]; rfl) ?_
    refine o_end ?_
    refine r_seq ?_
    refine r_region rfl ?_
    refine o_val rfl rfl rfl rfl (v_assign rfl) ?_
    refine o_end ?_
    refine r_seq ?_
    refine r_region rfl ?_
    refine o_val rfl rfl rfl rfl (v_assign rfl) ?_
    refine o_end ?_
    refine r_seq ?_
    refine r_region rfl ?_
    refine o_val rfl rfl rfl rfl (v_assign rfl) ?_
    refine o_end ?_
    refine r_seq ?_
    refine r_region rfl ?_
    refine o_val rfl rfl rfl rfl (v_assign rfl) ?_
    refine o_end ?_
    refine r_seq ?_
    refine r_seq ?_
    refine r_region rfl ?_
    refine o_val rfl rfl rfl rfl (v_assign rfl) ?_
    refine o_end ?_
    refine r_block ?_
    refine r_loop (fun g : CrG => CrI F1 rs.length g) (fun g => [(0, .slice a9 rs.length cap9), (1, .slice a0 bs.length cap), (2, .int .u16 keep), (7, ptrV d), (8, ptrV t), (9, g.bw.val g.rl.length), (10, g.be.val g.rl.length), (11, .int .i64 (catR g.rl).length), (12, .int .i64 (endAt g.rl g.j0)), (13, .int .i64 g.i)]) (fun g => g.F) (fun g => crH t d g) (fun g => rs.length - g.i) ⟨0, F1, p0, [], [], .nil, .nil, .nil, 0, 0⟩ ⟨Fz.le_refl _, Nat.zero_le _, hp0ok, by dsimp only; rw [hp0]; exact Consec.nil _, by dsimp only; rw [hp0]; simp, by dsimp only; rw [hp0]; simp, by simp, rfl, Nat.zero_le _, Track.nil, hp0p.symm, by simp, rfl, rfl, rfl, Nat.zero_le _, Nat.zero_le _⟩ ⟨rfl, rfl, rfl, rfl, rfl, rfl, rfl, rfl, rfl, rfl, trivial⟩ rfl rfl ?_
    rintro ⟨i, F4, w, rl, ws, bd, be, bw, j0, ops⟩ hI IH
    obtain ⟨hF4, hi, hw, hwc, hwx, hwl, hws, hwn, hrn, htr, hst, hal, okd, oke, okw, hj0, hops⟩ := hI
    dsimp only at hF4 hi hw hwc hwx hwl hws hwn hrn htr hst hal okd oke okw hj0 hops ⊢
    have hF14 : F.le F4 := Fz.le_trans hF1 hF4
    refine r_seq ?_
    refine r_seq ?_
    refine r_region rfl ?_
    refine o_val rfl rfl rfl rfl (v_move rfl) ?_
    refine o_val rfl rfl rfl rfl (v_move rfl) ?_
    refine o_val rfl rfl rfl rfl (v_len rfl rfl) ?_
    refine o_val rfl rfl rfl rfl (v_lss rfl rfl) ?_
    refine o_end ?_
    refine r_if rfl (fun h => ?_) (fun h => ?_)
    · have hil : i < rs.length := by omega
      obtain ⟨b0, off0, c0, hab, hcl⟩ := rec_cells hrv hil
      simp only [Value.slice.injEq] at hab
      obtain ⟨rfl, _, rfl⟩ := hab
      have hri := hrs rs[i] (List.getElem_mem _)
      have hdi := hs200 rs[i] (List.getElem_mem _)
      generalize rs[i] = r at *
      obtain ⟨⟨r1, r2, r3, r4, r5⟩, r6⟩ := hri
      obtain ⟨a1, c1, hdv, hc1⟩ := Sl.shape r6
      have hro : r.cells.all oneCellB = true := by simp [RecI.cells, hdv, oneCellB]
      refine r_skip ?_
      refine r_seq ?_
      refine r_block ?_
      refine r_seq ?_
      refine r_region rfl ?_
      refine o_val rfl rfl rfl rfl (v_move rfl) ?_
      refine o_val rfl rfl rfl rfl (v_move rfl) ?_
      refine o_val rfl rfl rfl rfl (v_indexN (sz := 5) rfl rfl rfl rfl hil) ?_
      refine o_val rfl rfl rfl rfl (v_loadAgg (sz := 5) (cs := r.cells) rfl rfl rfl rfl (fun j c hj => (hcl j c hj).mono hF14 (by simp))) ?_
      refine o_act rfl rfl rfl rfl (a_alloc rfl) ?_
      rintro v' H' ⟨x, rfl, rfl⟩
      refine o_act0 rfl rfl rfl (a_store (sz := 5) 0 rfl rfl rfl (by simpa [Value.cells] using hro) rfl rfl (Nat.le_of_ble_eq_true rfl)) ?_
      refine j_heap (H' := .mem x r.cells 5 :: crH t d ⟨i, F4, w, rl, ws, bd, be, bw, j0, ops⟩) rfl ?_
      refine o_end ?_
      refine r_seq ?_
      refine r_join (fun r' : RecI => r'.fit ∧ SlB F4 [] r'.dv r'.d ∧ (r'.k % 4 = 0 ∨ r'.k % 4 = 2)) (fun _ => [(0, .slice (some ⟨b0, off0, none⟩) rs.length cap9), (1, .slice a0 bs.length cap), (2, .int .u16 keep), (7, ptrV d), (8, ptrV t), (9, bw.val rl.length), (10, be.val rl.length), (11, .int .i64 (catR rl).length), (12, .int .i64 (endAt rl j0)), (13, .int .i64 i), (14, ptrV x)]) (fun _ => F4) (fun r' => .mem x r'.cells 5 :: crH t d ⟨i, F4, w, rl, ws, bd, be, bw, j0, ops⟩) ?_ ?_
      · intro J
        refine r_seq ?_
        refine r_region rfl ?_
        refine o_val rfl rfl rfl rfl (v_field (k := 0) rfl rfl rfl) ?_
        refine o_val rfl rfl rfl rfl (v_load (v := .int .u8 r.k) rfl rfl (cell_at (j := 0) rfl rfl)) ?_
        refine o_val rfl rfl rfl rfl (v_rem rfl rfl (by decide) (r := ((r.k % 4 : Nat) : Int)) rfl) ?_
        refine o_val rfl rfl rfl rfl (v_eql rfl rfl) ?_
        refine j_prop 49 rfl (fun h1 => ?_) (fun h1 => ?_)
        · refine o_val rfl rfl rfl rfl (v_move rfl) ?_
          refine o_skip rfl rfl rfl rfl ?_
          refine o_skip rfl rfl rfl rfl ?_
          refine o_skip rfl rfl rfl rfl ?_
          refine o_skip rfl rfl rfl rfl ?_
          refine o_val rfl rfl rfl rfl (v_pick1 rfl rfl) ?_
          refine o_end ?_
          refine r_true rfl ?_
          refine r_region rfl ?_
          refine o_val rfl rfl rfl rfl (v_field (k := 0) rfl rfl rfl) ?_
          refine o_act0 rfl rfl rfl (a_store1 0 rfl rfl rfl rfl rfl (Nat.le_of_ble_eq_true rfl)) ?_
          refine o_end ?_
          refine j_keep ?_ (J { r with k := 2 } ⟨⟨by show (2 : Nat) < 256; decide, r2, r3, r4, r5, hdi⟩, r6.frz hF14, .inr rfl⟩)
          exact ⟨rfl, rfl, rfl, rfl, rfl, rfl, rfl, rfl, rfl, rfl, rfl, trivial⟩
        · refine o_val rfl rfl rfl rfl (v_move rfl) ?_
          refine o_val rfl rfl rfl rfl (v_field (k := 0) rfl rfl rfl) ?_
          refine o_val rfl rfl rfl rfl (v_load (v := .int .u8 r.k) rfl rfl (cell_at (j := 0) rfl rfl)) ?_
          refine o_val rfl rfl rfl rfl (v_rem rfl rfl (by decide) (r := ((r.k % 4 : Nat) : Int)) rfl) ?_
          refine o_val rfl rfl rfl rfl (v_eql rfl rfl) ?_
          refine o_val rfl rfl rfl rfl (v_pick0 rfl rfl) ?_
          refine o_end ?_
          refine r_if rfl (fun h2 => ?_) (fun h2 => ?_)
          · refine r_region rfl ?_
            refine o_val rfl rfl rfl rfl (v_field (k := 0) rfl rfl rfl) ?_
            refine o_act0 rfl rfl rfl (a_store1 0 rfl rfl rfl rfl rfl (Nat.le_of_ble_eq_true rfl)) ?_
            refine o_end ?_
            refine j_keep ?_ (J { r with k := 2 } ⟨⟨by show (2 : Nat) < 256; decide, r2, r3, r4, r5, hdi⟩, r6.frz hF14, .inr rfl⟩)
            exact ⟨rfl, rfl, rfl, rfl, rfl, rfl, rfl, rfl, rfl, rfl, rfl, trivial⟩
          · refine r_skip ?_
            refine j_keep ?_ (J r ⟨⟨r1, r2, r3, r4, r5, hdi⟩, r6.frz hF14, by omega⟩)
            exact ⟨rfl, rfl, rfl, rfl, rfl, rfl, rfl, rfl, rfl, rfl, rfl, trivial⟩
      rintro r' ⟨hfit, hrd, hk4⟩
      have hpl : w.pure.l.length = w.l.length := by simp [Im.pure]
      have hsl := stepB_le' w.pure r' hfit (by rw [hpl]; show w.ix + _ ≤ _; omega)
      obtain ⟨k, dd, hk, hd, hsB, hsQ⟩ := step_fed w.pure r' hfit (by rw [hpl]; show w.ix + _ ≤ _; omega)
      refine r_seq ?_
      refine r_region rfl ?_
      refine o_val rfl rfl rfl rfl (v_loadAgg (sz := 7) (cs := w.cells) rfl rfl rfl rfl (cells_of (j := 1) _ _ rfl rfl)) ?_
      refine o_val rfl rfl rfl rfl (v_loadAgg (sz := 5) (cs := r'.cells) rfl rfl rfl rfl (cells_of (j := 0) _ _ rfl rfl)) ?_
      refine o_call rfl rfl rfl rfl (c_call callable11 rfl) (law_bytes _ _ w r' _ hw hwc (by omega) hwx hfit hrd) ?_
      rintro v' F5 H' ⟨hF5, bf2, q, ok, hok2, rfl, rfl, hq, hqc, hqx, hql, hqs⟩ _
      have hqQ : stepQ w.pure r' = some q.pure := by
        rcases hqs with ⟨_, h1⟩ | ⟨_, h1, _⟩
        · exact h1
        · exfalso
          unfold stepQ at h1
          rcases hk4 with h4 | h4
          · rw [if_pos h4] at h1; cases h1
          · rw [if_neg (by omega), if_neg (by omega)] at h1
            unfold addE at h1
            have hix : (eR w.pure r').ix = w.pure.ix + w.pure.l.length + 1 := by show ixR _ _ = _; unfold ixR; rw [if_pos h4]
            rw [if_neg (by omega)] at h1
            cases h1
      have hsv0 : r'.k % 4 = 0 → saveB true q.term q.vote (([] : List En).map En.pure) = recB k dd := fun h4 => by
        have h1 := hqQ
        unfold stepQ at h1
        rw [if_pos h4] at h1
        have h2 : q.term = r'.a := (congrArg PI.term (Option.some.inj h1)).symm
        have h3 : q.vote = voR r'.v := (congrArg PI.vote (Option.some.inj h1)).symm
        rw [← hsB, h2, h3]
        unfold stepB saveB hdrB
        rw [if_pos rfl, if_pos h4]
        simp
      have hsv2 : r'.k % 4 = 2 → ∃ l0 e, q.l = l0 ++ [e] ∧ saveB false q.term q.vote ([e].map En.pure) = recB k dd := fun h4 => by
        have h1 := hqQ
        unfold stepQ at h1
        rw [if_neg (by omega), if_neg (by omega)] at h1
        unfold addE at h1
        split at h1
        · cases h1
        · have h2 : q.l.map En.pure = _ := (congrArg PI.l (Option.some.inj h1)).symm
          dsimp only at h2
          obtain ⟨l0, l2, hl, _, h3⟩ := List.map_eq_append_iff.1 h2
          obtain ⟨e, rfl, he⟩ := List.map_eq_singleton_iff.1 h3
          refine ⟨l0, e, hl, ?_⟩
          have h5 : stepB w.pure r' = PE.bs (eR w.pure r') := by unfold stepB; rw [if_neg (by omega), if_neg (by omega)]
          rw [← hsB, h5]
          simp [saveB, hdrB, he]
      rw [hsB] at hok2 hsl ⊢
      rw [← hsQ] at hqQ
      generalize hpb : recB k dd = pb at *
      have hqo := hq.one
      refine o_val rfl rfl rfl rfl (v_move rfl) ?_
      refine o_val rfl rfl rfl rfl (v_extract rfl rfl) ?_
      refine o_val rfl rfl rfl rfl (v_extract rfl rfl) ?_
      refine o_val rfl rfl rfl rfl (v_extract rfl rfl) ?_
      refine o_act rfl rfl rfl rfl (a_alloc rfl) ?_
      rintro v' H' ⟨n2, rfl, rfl⟩
      refine o_val rfl rfl rfl rfl (v_assign rfl) ?_
      refine o_act0 rfl rfl rfl (a_store (sz := 7) 0 rfl rfl rfl (by simpa [Value.cells] using hqo) rfl rfl (Nat.le_of_ble_eq_true rfl)) ?_
      refine j_heap (H' := .mem n2 q.cells 7 :: (bf2.ents 1 (bytesV pb) ++ (.mem x r'.cells 5 :: crH t d ⟨i, F4, w, rl, ws, bd, be, bw, j0, ops⟩))) rfl ?_
      obtain ⟨DK, hDK⟩ : ∃ DK : Ent, DK = DkE d bd (catR rl) (endAt rl j0) ops := ⟨_, rfl⟩
      refine j_sel (H' := .mem n2 q.cells 7 :: .mem x r'.cells 5 :: .mem t w.cells 7 :: DK :: (bd.ents 1 (bytesV (catR rl)) ++ (be.ents 1 (endsV rl) ++ (bw.ents 7 (imV ws) ++ [])))) [[Ent.mem n2 q.cells 7], bf2.ents 1 (bytesV pb), [Ent.mem x r'.cells 5], [Ent.mem t w.cells 7], [DK], bd.ents 1 (bytesV (catR rl)), be.ents 1 (endsV rl), bw.ents 7 (imV ws), []] [0, 2, 3, 4, 5, 6, 7, 8] (by rw [hDK]; rfl) rfl rfl ?_
      refine o_val rfl rfl rfl rfl (v_assign rfl) ?_
      refine o_end ?_
      refine r_seq ?_
      refine r_region rfl ?_
      refine o_val rfl rfl rfl rfl (v_loadAgg (sz := 7) (cs := q.cells) rfl rfl rfl rfl (cells_of (j := 0) _ _ rfl rfl)) ?_
      refine o_act0 rfl rfl rfl (a_store (sz := 7) 2 rfl rfl rfl (by simpa [Value.cells] using hqo) rfl rfl (Nat.le_of_ble_eq_true rfl)) ?_
      refine j_heap (H' := .mem n2 q.cells 7 :: .mem x r'.cells 5 :: .mem t q.cells 7 :: DK :: (bd.ents 1 (bytesV (catR rl)) ++ (be.ents 1 (endsV rl) ++ (bw.ents 7 (imV ws) ++ [])))) rfl ?_
      have hF45 := Fz.le_trans hF4 hF5
      have hrl1 : (rl ++ [(k, dd)]).length = rl.length + 1 := by simp
      have e1 : catR (rl ++ [(k, dd)]) = catR rl ++ pb := by rw [catR_append, ← hpb]; simp [catR]
      have htr2 := htr.more hk hd (by rw [hst]; exact hqQ)
      have hst2 : stW (ws.map Im.pure ++ [q.pure]) (rl.length + 1) = q.pure := by
        have h0 := stW_end (ws.map Im.pure) q.pure
        rw [List.length_map, hwn] at h0
        exact h0
      rw [← List.map_singleton (f := Im.pure), ← List.map_append] at htr2 hst2
      have m4 : (r'.k : Int).tmod 4 = ((r'.k % 4 : Nat) : Int) := rfl
      obtain ⟨aL, cL, hqlv, hcL⟩ := Sl.shape hq.lv
      have hq6 : q.cells[6]? = some (.slice aL q.l.length cL) := by show some q.lv = _; rw [hqlv]
      rcases hk4 with h4 | h4
      · rw [h4] at m4
        have hsvb := hsv0 h4
        refine o_end ?_
        refine r_seq ?_
        refine r_region rfl ?_
        refine o_val rfl rfl rfl rfl (v_field (k := 0) rfl rfl rfl) ?_
        refine o_val rfl rfl rfl rfl (v_load (v := .int .u8 r'.k) rfl rfl (cell_at (j := 1) rfl rfl)) ?_
        refine o_val rfl rfl rfl rfl (v_rem rfl rfl (by decide) m4) ?_
        refine o_val rfl rfl rfl rfl (v_eql rfl rfl) ?_
        refine o_val rfl rfl rfl rfl (v_field (k := 0) rfl rfl rfl) ?_
        refine o_val rfl rfl rfl rfl (v_loadAgg (sz := 2) (cs := [.int .u64 q.term, .int .i64 q.vote]) rfl rfl rfl rfl (cells_of (j := 2) _ _ rfl rfl)) ?_
        refine o_val rfl rfl rfl rfl (v_build rfl rfl) ?_
        refine o_act rfl rfl rfl rfl (a_alloc rfl) ?_
        rintro v' H' ⟨sv, rfl, rfl⟩
        refine o_act0 rfl rfl rfl (a_store (sz := 4) 0 rfl rfl rfl rfl rfl rfl (Nat.le_of_ble_eq_true rfl)) ?_
        obtain ⟨svc, hsvc⟩ : ∃ svc : List Value, svc = [.bool true, .int .u64 q.term, .int .i64 q.vote, .slice none 0 0] := ⟨_, rfl⟩
        obtain ⟨svh, hsvh⟩ : ∃ svh : Bool, svh = true := ⟨_, rfl⟩
        obtain ⟨svv, hsvv0⟩ : ∃ svv : Value, svv = .slice none 0 0 := ⟨_, rfl⟩
        obtain ⟨svl, hsvl0⟩ : ∃ svl : List En, svl = [] := ⟨_, rfl⟩
        refine j_heap (H' := .mem sv svc 4 :: .mem n2 q.cells 7 :: .mem x r'.cells 5 :: .mem t q.cells 7 :: DK :: (bd.ents 1 (bytesV (catR rl)) ++ (be.ents 1 (endsV rl) ++ (bw.ents 7 (imV ws) ++ [])))) (by rw [hsvc]; rfl) ?_
        have hsvv : Sl F5 [] 4 svv svl.length (enV svl) := by rw [hsvv0, hsvl0]; exact Sl.nil _ _ _
        have hsvl : ∀ e ∈ svl, e.ok F5 := by rw [hsvl0]; simp
        have hsvn : svl.length ≤ 1000 := by rw [hsvl0]; simp
        rw [← hsvl0, ← hsvh] at hsvb
        rw [← hsvh, ← hsvv0] at hsvc
        refine o_end ?_
        refine r_seq ?_
        refine r_seq ?_
        refine r_region rfl ?_
        refine o_val rfl rfl rfl rfl (v_field (k := 0) rfl rfl rfl) ?_
        refine o_val rfl rfl rfl rfl (v_load (v := .int .u8 r'.k) rfl rfl (cell_at (j := 2) rfl rfl)) ?_
        refine o_val rfl rfl rfl rfl (v_rem rfl rfl (by decide) m4) ?_
        refine o_val rfl rfl rfl rfl (v_eql rfl rfl) ?_
        refine o_end ?_
        refine r_false rfl ?_
        refine j_sel (H' := DK :: (bd.ents 1 (bytesV (catR rl)) ++ (.mem sv svc 4 :: .mem t q.cells 7 :: (be.ents 1 (endsV rl) ++ (bw.ents 7 (imV ws) ++ []))))) [[Ent.mem sv svc 4], [Ent.mem n2 q.cells 7], [Ent.mem x r'.cells 5], [Ent.mem t q.cells 7], [DK], bd.ents 1 (bytesV (catR rl)), be.ents 1 (endsV rl), bw.ents 7 (imV ws), []] [4, 5, 0, 3, 6, 7, 8] rfl rfl rfl ?_
        rw [hDK]
        refine r_skip ?_
        refine r_seq ?_
        refine r_seq ?_
        refine r_region rfl ?_
        refine o_val rfl rfl rfl rfl (v_move rfl) ?_
        refine o_val rfl rfl rfl rfl (v_loadAgg (sz := 4) (cs := svc) rfl rfl rfl (by rw [hsvc]; rfl) (fun j c hj => cell_own (n := 4) (cs := svc) (by simp) (by rw [Nat.zero_add]; exact hj))) ?_
        rw [hsvc]
        refine o_call rfl rfl rfl rfl (c_call callable21 rfl) (wal_Keep _ _ d bd (catR rl) (endAt rl j0) ops svh q.term q.vote svv svl _ okd (by omega) (by omega) hsvv hsvl hsvn hq.vote1 hq.vote2) ?_
        rintro v' F5 H' ⟨rfl, rfl, bd2, okd2, rfl⟩ _
        rw [hsvb, ← e1] at okd2 ⊢
        refine o_val rfl rfl rfl rfl (v_neq rfl rfl) ?_
        refine o_end ?_
        refine r_false rfl ?_
        refine r_skip ?_
        refine r_seq ?_
        refine r_region rfl ?_
        refine o_val rfl rfl rfl rfl (v_move rfl) ?_
        refine o_val rfl rfl rfl rfl (v_move rfl) ?_
        refine o_val rfl rfl rfl rfl (v_len rfl rfl) ?_
        refine o_val rfl rfl rfl rfl (v_add rfl rfl (r := (((catR (rl ++ [(k, dd)])).length : Nat) : Int)) (by rw [e1, List.length_append]; exact wrap_i64 (by omega) (by omega))) ?_
        refine o_val rfl rfl rfl rfl (v_assign rfl) ?_
        refine o_end ?_
        refine r_seq ?_
        refine r_region rfl ?_
        refine o_val rfl rfl rfl rfl (v_move rfl) ?_
        obtain ⟨DK2, hDK2⟩ : ∃ DK2 : Ent, DK2 = DkE d bd2 (catR (rl ++ [(k, dd)])) (endAt rl j0) (ops + 1) := ⟨_, rfl⟩
        rw [← hDK2]
        refine j_sel (H' := .mem t q.cells 7 :: DK2 :: (bd2.ents 1 (bytesV (catR (rl ++ [(k, dd)]))) ++ (be.ents 1 (endsV rl) ++ (bw.ents 7 (imV ws) ++ [])))) [[DK2], bd2.ents 1 (bytesV (catR (rl ++ [(k, dd)]))), [Ent.mem sv _ 4], [Ent.mem t q.cells 7], be.ents 1 (endsV rl), bw.ents 7 (imV ws), []] [3, 0, 1, 4, 5, 6] rfl rfl rfl ?_
        refine o_val rfl rfl rfl rfl (v_loadAgg (sz := 7) (cs := q.cells) rfl rfl rfl rfl (cells_of (j := 0) _ _ rfl rfl)) ?_
        refine o_act rfl rfl rfl rfl (a_buildS (sz := 7) (cs := q.cells) [.tmp 93] rfl rfl rfl rfl rfl rfl rfl rfl rfl rfl) ?_
        rintro v' H' ⟨y2, rfl, rfl⟩
        refine o_act rfl rfl rfl rfl (a_appendP (bf := bw) (n := rl.length) (m := 1) (ys := imV [q]) (sz := 7) (bytes := 88) (.mem y2 q.cells 7 :: .mem t q.cells 7 :: DK2 :: (bd2.ents 1 (bytesV (catR (rl ++ [(k, dd)]))) ++ be.ents 1 (endsV rl))) ⟨⟨_, _, _, rfl, rfl, rfl, rfl, rfl, rfl⟩, by decide⟩ rfl okw (by rw [vec_len (c := Im.cells) Im.cl, hwn]) (H1 := []) (by simp only [List.cons_append, List.append_assoc]) rfl (sl_imlit (p := q) (List.mem_cons_self ..)) (by simpa [imV] using hqo) (by unfold maxLen; omega) (by omega)) ?_
        rintro v' H' ⟨bw2, rfl, okw2, rfl⟩
        rw [← vec_append]
        refine o_val rfl rfl rfl rfl (v_assign rfl) ?_
        refine o_end ?_
        refine r_seq ?_
        refine r_region rfl ?_
        refine o_val rfl rfl rfl rfl (v_move rfl) ?_
        refine o_val rfl rfl rfl rfl (v_move rfl) ?_
        refine o_act rfl rfl rfl rfl (a_buildS (sz := 1) (cs := [.int .i64 (catR (rl ++ [(k, dd)])).length]) [.tmp 97] rfl rfl rfl rfl rfl rfl rfl rfl rfl rfl) ?_
        rintro v' H' ⟨y, rfl, rfl⟩
        refine j_sel (H' := .mem y [.int .i64 (catR (rl ++ [(k, dd)])).length] 1 :: .mem t q.cells 7 :: DK2 :: (bd2.ents 1 (bytesV (catR (rl ++ [(k, dd)]))) ++ (be.ents 1 (endsV rl) ++ (bw2.ents 7 (imV (ws ++ [q])) ++ [])))) [[Ent.mem y [.int .i64 (catR (rl ++ [(k, dd)])).length] 1], [Ent.mem y2 q.cells 7], [Ent.mem t q.cells 7], [DK2], bd2.ents 1 (bytesV (catR (rl ++ [(k, dd)]))), be.ents 1 (endsV rl), bw2.ents 7 (imV (ws ++ [q])), []] [0, 2, 3, 4, 5, 6, 7] (by simp [cat]) rfl rfl ?_
        refine o_act rfl rfl rfl rfl (a_appendP (bf := be) (n := rl.length) (m := 1) (ys := [.int .i64 (catR (rl ++ [(k, dd)])).length]) (sz := 1) (bytes := 8) (.mem y [.int .i64 (catR (rl ++ [(k, dd)])).length] 1 :: .mem t q.cells 7 :: DK2 :: bd2.ents 1 (bytesV (catR (rl ++ [(k, dd)])))) ⟨⟨_, _, _, rfl, rfl, rfl, rfl, rfl, rfl⟩, by decide⟩ rfl oke (by simp) rfl rfl ⟨_, 1, rfl, rfl, by simp, by simp, fun j c hj => ⟨y, 0, rfl, cell_at (j := 0) rfl (by simpa using hj)⟩⟩ rfl (by unfold maxLen; omega) (by omega)) ?_
        rintro v' H' ⟨be2, rfl, oke2, rfl⟩
        rw [← endsV_app]
        refine j_drop (List.sublist_cons_self _ _) ?_
        have hnext : ∀ (j0' ops' : Nat), j0' ≤ rl.length + 1 → ops' ≤ 2 * (i + 1) → CrI F1 rs.length ⟨i + 1, F5, q, rl ++ [(k, dd)], ws ++ [q], bd2, be2, bw2, j0', ops'⟩ := fun j0' ops' hj' ho' => ⟨hF45, hil, hq, hqc, hqx, by dsimp only; omega, fun p hp => by
          rcases List.mem_append.1 hp with hp | hp
          · exact (hws p hp).frz hF5
          · rw [List.mem_singleton] at hp
            rw [hp]
            exact hq, by dsimp only; rw [hrl1, List.length_append, hwn]; rfl, by dsimp only; omega, htr2, by dsimp only; rw [hrl1]; exact hst2, by dsimp only; rw [e1, List.length_append]; omega, okd2, by dsimp only; rw [hrl1]; exact oke2, by dsimp only; rw [hrl1]; exact okw2, by dsimp only; omega, ho'⟩
        have hea : endAt (rl ++ [(k, dd)]) j0 = endAt rl j0 := endAt_app hj0
        have heb : endAt (rl ++ [(k, dd)]) (rl.length + 1) = (catR (rl ++ [(k, dd)])).length := by rw [← endAt_len, hrl1]
        refine o_val rfl rfl rfl rfl (v_assign rfl) ?_
        refine o_end ?_
        refine r_seq ?_
        refine r_region rfl ?_
        refine o_val rfl rfl rfl rfl (v_move rfl) ?_
        refine o_val rfl rfl rfl rfl (v_move rfl) ?_
        refine o_val rfl rfl rfl rfl (v_len rfl rfl) ?_
        refine o_val rfl rfl rfl rfl (v_lss rfl rfl) ?_
        refine j_prop 103 rfl (fun g5 => ?_) (fun g5 => ?_)
        · have hib : i < bs.length := by omega
          obtain ⟨b5, o5, c5, hab, _, hc5⟩ := Sl.view hbv (by omega)
          simp only [Value.slice.injEq] at hab
          obtain ⟨rfl, _, rfl⟩ := hab
          have hcb := hc5 i (.bool bs[i]) (by simp [hib])
          generalize bs[i] = sb at *
          refine o_val rfl rfl rfl rfl (v_move rfl) ?_
          refine o_val rfl rfl rfl rfl (v_move rfl) ?_
          refine o_val rfl rfl rfl rfl (v_move rfl) ?_
          refine o_val rfl rfl rfl rfl (v_index1 rfl rfl rfl rfl hib) ?_
          refine o_val rfl rfl rfl rfl (v_load (v := .bool sb) rfl rfl (hcb.mono (Fz.le_trans hF14 hF5) (by simp))) ?_
          refine o_val rfl rfl rfl rfl (v_pick1 rfl rfl) ?_
          refine o_end ?_
          cases sb with
          | true =>
            refine r_true rfl ?_
            rw [hDK2]
            refine j_sel (H' := DkE d bd2 (catR (rl ++ [(k, dd)])) (endAt rl j0) (ops + 1) :: (.mem t q.cells 7 :: (bd2.ents 1 (bytesV (catR (rl ++ [(k, dd)]))) ++ (be2.ents 1 (endsV (rl ++ [(k, dd)])) ++ (bw2.ents 7 (imV (ws ++ [q])) ++ []))))) [[Ent.mem t q.cells 7], [DkE d bd2 (catR (rl ++ [(k, dd)])) (endAt rl j0) (ops + 1)], bd2.ents 1 (bytesV (catR (rl ++ [(k, dd)]))), be2.ents 1 (endsV (rl ++ [(k, dd)])), bw2.ents 7 (imV (ws ++ [q])), []] [1, 0, 2, 3, 4, 5] rfl rfl rfl ?_
            refine r_seq ?_
            refine r_region rfl ?_
            refine o_val rfl rfl rfl rfl (v_move rfl) ?_
            refine o_call rfl rfl rfl rfl (c_call callable25 rfl) (dk_Sync _ _ d bd2 (catR (rl ++ [(k, dd)])) (endAt rl j0) (ops + 1) _ (by omega)) ?_
            rintro v' F5 H' ⟨rfl, rfl, rfl⟩ _
            refine o_end ?_
            refine r_region rfl ?_
            refine o_val rfl rfl rfl rfl (v_move rfl) ?_
            refine o_val rfl rfl rfl rfl (v_assign rfl) ?_
            refine o_end ?_
            refine r_inBlock ?_
            refine r_region rfl ?_
            refine o_val rfl rfl rfl rfl (v_move rfl) ?_
            refine o_val rfl rfl rfl rfl (v_add rfl rfl (wrap_i64 (by omega) (by omega))) ?_
            refine o_val rfl rfl rfl rfl (v_assign rfl) ?_
            refine o_end ?_
            refine j_sel (H' := crH t d ⟨i + 1, F5, q, rl ++ [(k, dd)], ws ++ [q], bd2, be2, bw2, rl.length + 1, ops + 2⟩) [[DkE d bd2 (catR (rl ++ [(k, dd)])) (catR (rl ++ [(k, dd)])).length (ops + 1 + 1)], [Ent.mem t q.cells 7], bd2.ents 1 (bytesV (catR (rl ++ [(k, dd)]))), be2.ents 1 (endsV (rl ++ [(k, dd)])), bw2.ents 7 (imV (ws ++ [q])), []] [1, 0, 2, 3, 4, 5] rfl rfl (by unfold crH; dsimp only; rw [heb]; rfl) ?_
            refine j_keep ?_ (IH _ (hnext (rl.length + 1) (ops + 2) (by omega) (by omega)) (by dsimp only; omega))
            exact ⟨rfl, rfl, rfl, rfl, rfl, by dsimp only; rw [hrl1]; rfl, by dsimp only; rw [hrl1]; rfl, rfl, by dsimp only; rw [heb]; rfl, rfl, trivial⟩
          | false =>
            refine r_false rfl ?_
            rw [hDK2]
            refine j_heap (H' := crH t d ⟨i + 1, F5, q, rl ++ [(k, dd)], ws ++ [q], bd2, be2, bw2, j0, ops + 1⟩) (by unfold crH; dsimp only; rw [hea]; rfl) ?_
            refine r_skip ?_
            refine r_inBlock ?_
            refine r_region rfl ?_
            refine o_val rfl rfl rfl rfl (v_move rfl) ?_
            refine o_val rfl rfl rfl rfl (v_add rfl rfl (wrap_i64 (by omega) (by omega))) ?_
            refine o_val rfl rfl rfl rfl (v_assign rfl) ?_
            refine o_end ?_
            refine j_keep ?_ (IH _ (hnext j0 (ops + 1) (by omega) (by omega)) (by dsimp only; omega))
            exact ⟨rfl, rfl, rfl, rfl, rfl, by dsimp only; rw [hrl1]; rfl, by dsimp only; rw [hrl1]; rfl, rfl, by dsimp only; rw [hea]; rfl, rfl, trivial⟩
        · refine o_val rfl rfl rfl rfl (v_move rfl) ?_
          refine o_skip rfl rfl rfl rfl ?_
          refine o_skip rfl rfl rfl rfl ?_
          refine o_skip rfl rfl rfl rfl ?_
          refine o_skip rfl rfl rfl rfl ?_
          refine o_val rfl rfl rfl rfl (v_pick0 rfl rfl) ?_
          refine o_end ?_
          refine r_false rfl ?_
          rw [hDK2]
          refine j_heap (H' := crH t d ⟨i + 1, F5, q, rl ++ [(k, dd)], ws ++ [q], bd2, be2, bw2, j0, ops + 1⟩) (by unfold crH; dsimp only; rw [hea]; rfl) ?_
          refine r_skip ?_
          refine r_inBlock ?_
          refine r_region rfl ?_
          refine o_val rfl rfl rfl rfl (v_move rfl) ?_
          refine o_val rfl rfl rfl rfl (v_add rfl rfl (wrap_i64 (by omega) (by omega))) ?_
          refine o_val rfl rfl rfl rfl (v_assign rfl) ?_
          refine o_end ?_
          refine j_keep ?_ (IH _ (hnext j0 (ops + 1) (by omega) (by omega)) (by dsimp only; omega))
          exact ⟨rfl, rfl, rfl, rfl, rfl, by dsimp only; rw [hrl1]; rfl, by dsimp only; rw [hrl1]; rfl, rfl, by dsimp only; rw [hea]; rfl, rfl, trivial⟩
      · rw [h4] at m4
        obtain ⟨l0, e, hqle, hsvb⟩ := hsv2 h4
        refine o_end ?_
        refine r_seq ?_
        refine r_region rfl ?_
        refine o_val rfl rfl rfl rfl (v_field (k := 0) rfl rfl rfl) ?_
        refine o_val rfl rfl rfl rfl (v_load (v := .int .u8 r'.k) rfl rfl (cell_at (j := 1) rfl rfl)) ?_
        refine o_val rfl rfl rfl rfl (v_rem rfl rfl (by decide) m4) ?_
        refine o_val rfl rfl rfl rfl (v_eql rfl rfl) ?_
        refine o_val rfl rfl rfl rfl (v_field (k := 0) rfl rfl rfl) ?_
        refine o_val rfl rfl rfl rfl (v_loadAgg (sz := 2) (cs := [.int .u64 q.term, .int .i64 q.vote]) rfl rfl rfl rfl (cells_of (j := 2) _ _ rfl rfl)) ?_
        refine o_val rfl rfl rfl rfl (v_build rfl rfl) ?_
        refine o_act rfl rfl rfl rfl (a_alloc rfl) ?_
        rintro v' H' ⟨sv, rfl, rfl⟩
        refine o_act0 rfl rfl rfl (a_store (sz := 4) 0 rfl rfl rfl rfl rfl rfl (Nat.le_of_ble_eq_true rfl)) ?_
        refine j_heap (H' := .mem sv [.bool false, .int .u64 q.term, .int .i64 q.vote, .slice none 0 0] 4 :: .mem n2 q.cells 7 :: .mem x r'.cells 5 :: .mem t q.cells 7 :: DK :: (bd.ents 1 (bytesV (catR rl)) ++ (be.ents 1 (endsV rl) ++ (bw.ents 7 (imV ws) ++ [])))) rfl ?_
        have hl0 : q.l.length = l0.length + 1 := by rw [hqle]; simp
        have hsvv' : Sl F5 [] 4 (Go.sliced aL l0.length q.l.length cL 4) 1 (enV [e]) := Sl.last4 (by have h := hq.lv; rw [hqlv] at h; exact h) hqle
        refine o_end ?_
        refine r_seq ?_
        refine r_seq ?_
        refine r_region rfl ?_
        refine o_val rfl rfl rfl rfl (v_field (k := 0) rfl rfl rfl) ?_
        refine o_val rfl rfl rfl rfl (v_load (v := .int .u8 r'.k) rfl rfl (cell_at (j := 2) rfl rfl)) ?_
        refine o_val rfl rfl rfl rfl (v_rem rfl rfl (by decide) m4) ?_
        refine o_val rfl rfl rfl rfl (v_eql rfl rfl) ?_
        refine o_end ?_
        refine r_true rfl ?_
        refine r_region rfl ?_
        refine o_val rfl rfl rfl rfl (v_field (k := 6) rfl rfl rfl) ?_
        refine o_val rfl rfl rfl rfl (v_load (v := .slice aL q.l.length cL) rfl rfl (cell_at (j := 3) rfl hq6)) ?_
        refine o_val rfl rfl rfl rfl (v_field (k := 6) rfl rfl rfl) ?_
        refine o_val rfl rfl rfl rfl (v_load (v := .slice aL q.l.length cL) rfl rfl (cell_at (j := 3) rfl hq6)) ?_
        refine o_val rfl rfl rfl rfl (v_len rfl rfl) ?_
        refine o_val rfl rfl rfl rfl (v_sub rfl rfl (r := ((l0.length : Nat) : Int)) ((wrap_i64 (by omega) (by omega)).trans (by omega))) ?_
        refine o_val rfl rfl rfl rfl (v_sliceL (sz := 4) rfl rfl rfl rfl rfl (by omega)) ?_
        refine o_val rfl rfl rfl rfl (v_field (k := 3) rfl rfl rfl) ?_
        refine o_act0 rfl rfl rfl (a_store1 0 rfl rfl rfl rfl rfl (Nat.le_of_ble_eq_true rfl)) ?_
        obtain ⟨svv, hsvv0⟩ : ∃ svv : Value, svv = Go.sliced aL l0.length q.l.length cL 4 := ⟨_, rfl⟩
        obtain ⟨svc, hsvc⟩ : ∃ svc : List Value, svc = [.bool false, .int .u64 q.term, .int .i64 q.vote, svv] := ⟨_, rfl⟩
        obtain ⟨svh, hsvh⟩ : ∃ svh : Bool, svh = false := ⟨_, rfl⟩
        obtain ⟨svl, hsvl0⟩ : ∃ svl : List En, svl = [e] := ⟨_, rfl⟩
        refine j_heap (H' := .mem sv svc 4 :: .mem n2 q.cells 7 :: .mem x r'.cells 5 :: .mem t q.cells 7 :: DK :: (bd.ents 1 (bytesV (catR rl)) ++ (be.ents 1 (endsV rl) ++ (bw.ents 7 (imV ws) ++ [])))) (by rw [hsvc, hsvv0]; rfl) ?_
        have hsvv : Sl F5 [] 4 svv svl.length (enV svl) := by rw [hsvv0, hsvl0]; exact hsvv'
        have hsvl : ∀ e ∈ svl, e.ok F5 := by rw [hsvl0]; intro e' he'; rw [List.mem_singleton] at he'; rw [he']; exact hq.l e (by rw [hqle]; simp)
        have hsvn : svl.length ≤ 1000 := by rw [hsvl0]; simp
        rw [← hsvl0, ← hsvh] at hsvb
        rw [← hsvh] at hsvc
        refine j_sel (H' := DK :: (bd.ents 1 (bytesV (catR rl)) ++ (.mem sv svc 4 :: .mem t q.cells 7 :: (be.ents 1 (endsV rl) ++ (bw.ents 7 (imV ws) ++ []))))) [[Ent.mem sv svc 4], [Ent.mem n2 q.cells 7], [Ent.mem x r'.cells 5], [Ent.mem t q.cells 7], [DK], bd.ents 1 (bytesV (catR rl)), be.ents 1 (endsV rl), bw.ents 7 (imV ws), []] [4, 5, 0, 3, 6, 7, 8] rfl rfl rfl ?_
        rw [hDK]
        refine o_end ?_
        refine r_seq ?_
        refine r_seq ?_
        refine r_region rfl ?_
        refine o_val rfl rfl rfl rfl (v_move rfl) ?_
        refine o_val rfl rfl rfl rfl (v_loadAgg (sz := 4) (cs := svc) rfl rfl rfl (by rw [hsvc]; rfl) (fun j c hj => cell_own (n := 4) (cs := svc) (by simp) (by rw [Nat.zero_add]; exact hj))) ?_
        rw [hsvc]
        refine o_call rfl rfl rfl rfl (c_call callable21 rfl) (wal_Keep _ _ d bd (catR rl) (endAt rl j0) ops svh q.term q.vote svv svl _ okd (by omega) (by omega) hsvv hsvl hsvn hq.vote1 hq.vote2) ?_
        rintro v' F5 H' ⟨rfl, rfl, bd2, okd2, rfl⟩ _
        rw [hsvb, ← e1] at okd2 ⊢
        refine o_val rfl rfl rfl rfl (v_neq rfl rfl) ?_
        refine o_end ?_
        refine r_false rfl ?_
        refine r_skip ?_
        refine r_seq ?_
        refine r_region rfl ?_
        refine o_val rfl rfl rfl rfl (v_move rfl) ?_
        refine o_val rfl rfl rfl rfl (v_move rfl) ?_
        refine o_val rfl rfl rfl rfl (v_len rfl rfl) ?_
        refine o_val rfl rfl rfl rfl (v_add rfl rfl (r := (((catR (rl ++ [(k, dd)])).length : Nat) : Int)) (by rw [e1, List.length_append]; exact wrap_i64 (by omega) (by omega))) ?_
        refine o_val rfl rfl rfl rfl (v_assign rfl) ?_
        refine o_end ?_
        refine r_seq ?_
        refine r_region rfl ?_
        refine o_val rfl rfl rfl rfl (v_move rfl) ?_
        obtain ⟨DK2, hDK2⟩ : ∃ DK2 : Ent, DK2 = DkE d bd2 (catR (rl ++ [(k, dd)])) (endAt rl j0) (ops + 1) := ⟨_, rfl⟩
        rw [← hDK2]
        refine j_sel (H' := .mem t q.cells 7 :: DK2 :: (bd2.ents 1 (bytesV (catR (rl ++ [(k, dd)]))) ++ (be.ents 1 (endsV rl) ++ (bw.ents 7 (imV ws) ++ [])))) [[DK2], bd2.ents 1 (bytesV (catR (rl ++ [(k, dd)]))), [Ent.mem sv _ 4], [Ent.mem t q.cells 7], be.ents 1 (endsV rl), bw.ents 7 (imV ws), []] [3, 0, 1, 4, 5, 6] rfl rfl rfl ?_
        refine o_val rfl rfl rfl rfl (v_loadAgg (sz := 7) (cs := q.cells) rfl rfl rfl rfl (cells_of (j := 0) _ _ rfl rfl)) ?_
        refine o_act rfl rfl rfl rfl (a_buildS (sz := 7) (cs := q.cells) [.tmp 93] rfl rfl rfl rfl rfl rfl rfl rfl rfl rfl) ?_
        rintro v' H' ⟨y2, rfl, rfl⟩
        refine o_act rfl rfl rfl rfl (a_appendP (bf := bw) (n := rl.length) (m := 1) (ys := imV [q]) (sz := 7) (bytes := 88) (.mem y2 q.cells 7 :: .mem t q.cells 7 :: DK2 :: (bd2.ents 1 (bytesV (catR (rl ++ [(k, dd)]))) ++ be.ents 1 (endsV rl))) ⟨⟨_, _, _, rfl, rfl, rfl, rfl, rfl, rfl⟩, by decide⟩ rfl okw (by rw [vec_len (c := Im.cells) Im.cl, hwn]) (H1 := []) (by simp only [List.cons_append, List.append_assoc]) rfl (sl_imlit (p := q) (List.mem_cons_self ..)) (by simpa [imV] using hqo) (by unfold maxLen; omega) (by omega)) ?_
        rintro v' H' ⟨bw2, rfl, okw2, rfl⟩
        rw [← vec_append]
        refine o_val rfl rfl rfl rfl (v_assign rfl) ?_
        refine o_end ?_
        refine r_seq ?_
        refine r_region rfl ?_
        refine o_val rfl rfl rfl rfl (v_move rfl) ?_
        refine o_val rfl rfl rfl rfl (v_move rfl) ?_
        refine o_act rfl rfl rfl rfl (a_buildS (sz := 1) (cs := [.int .i64 (catR (rl ++ [(k, dd)])).length]) [.tmp 97] rfl rfl rfl rfl rfl rfl rfl rfl rfl rfl) ?_
        rintro v' H' ⟨y, rfl, rfl⟩
        refine j_sel (H' := .mem y [.int .i64 (catR (rl ++ [(k, dd)])).length] 1 :: .mem t q.cells 7 :: DK2 :: (bd2.ents 1 (bytesV (catR (rl ++ [(k, dd)]))) ++ (be.ents 1 (endsV rl) ++ (bw2.ents 7 (imV (ws ++ [q])) ++ [])))) [[Ent.mem y [.int .i64 (catR (rl ++ [(k, dd)])).length] 1], [Ent.mem y2 q.cells 7], [Ent.mem t q.cells 7], [DK2], bd2.ents 1 (bytesV (catR (rl ++ [(k, dd)]))), be.ents 1 (endsV rl), bw2.ents 7 (imV (ws ++ [q])), []] [0, 2, 3, 4, 5, 6, 7] (by simp [cat]) rfl rfl ?_
        refine o_act rfl rfl rfl rfl (a_appendP (bf := be) (n := rl.length) (m := 1) (ys := [.int .i64 (catR (rl ++ [(k, dd)])).length]) (sz := 1) (bytes := 8) (.mem y [.int .i64 (catR (rl ++ [(k, dd)])).length] 1 :: .mem t q.cells 7 :: DK2 :: bd2.ents 1 (bytesV (catR (rl ++ [(k, dd)])))) ⟨⟨_, _, _, rfl, rfl, rfl, rfl, rfl, rfl⟩, by decide⟩ rfl oke (by simp) rfl rfl ⟨_, 1, rfl, rfl, by simp, by simp, fun j c hj => ⟨y, 0, rfl, cell_at (j := 0) rfl (by simpa using hj)⟩⟩ rfl (by unfold maxLen; omega) (by omega)) ?_
        rintro v' H' ⟨be2, rfl, oke2, rfl⟩
        rw [← endsV_app]
        refine j_drop (List.sublist_cons_self _ _) ?_
        have hnext : ∀ (j0' ops' : Nat), j0' ≤ rl.length + 1 → ops' ≤ 2 * (i + 1) → CrI F1 rs.length ⟨i + 1, F5, q, rl ++ [(k, dd)], ws ++ [q], bd2, be2, bw2, j0', ops'⟩ := fun j0' ops' hj' ho' => ⟨hF45, hil, hq, hqc, hqx, by dsimp only; omega, fun p hp => by
          rcases List.mem_append.1 hp with hp | hp
          · exact (hws p hp).frz hF5
          · rw [List.mem_singleton] at hp
            rw [hp]
            exact hq, by dsimp only; rw [hrl1, List.length_append, hwn]; rfl, by dsimp only; omega, htr2, by dsimp only; rw [hrl1]; exact hst2, by dsimp only; rw [e1, List.length_append]; omega, okd2, by dsimp only; rw [hrl1]; exact oke2, by dsimp only; rw [hrl1]; exact okw2, by dsimp only; omega, ho'⟩
        have hea : endAt (rl ++ [(k, dd)]) j0 = endAt rl j0 := endAt_app hj0
        have heb : endAt (rl ++ [(k, dd)]) (rl.length + 1) = (catR (rl ++ [(k, dd)])).length := by rw [← endAt_len, hrl1]
        refine o_val rfl rfl rfl rfl (v_assign rfl) ?_
        refine o_end ?_
        refine r_seq ?_
        refine r_region rfl ?_
        refine o_val rfl rfl rfl rfl (v_move rfl) ?_
        refine o_val rfl rfl rfl rfl (v_move rfl) ?_
        refine o_val rfl rfl rfl rfl (v_len rfl rfl) ?_
        refine o_val rfl rfl rfl rfl (v_lss rfl rfl) ?_
        refine j_prop 103 rfl (fun g5 => ?_) (fun g5 => ?_)
        · have hib : i < bs.length := by omega
          obtain ⟨b5, o5, c5, hab, _, hc5⟩ := Sl.view hbv (by omega)
          simp only [Value.slice.injEq] at hab
          obtain ⟨rfl, _, rfl⟩ := hab
          have hcb := hc5 i (.bool bs[i]) (by simp [hib])
          generalize bs[i] = sb at *
          refine o_val rfl rfl rfl rfl (v_move rfl) ?_
          refine o_val rfl rfl rfl rfl (v_move rfl) ?_
          refine o_val rfl rfl rfl rfl (v_move rfl) ?_
          refine o_val rfl rfl rfl rfl (v_index1 rfl rfl rfl rfl hib) ?_
          refine o_val rfl rfl rfl rfl (v_load (v := .bool sb) rfl rfl (hcb.mono (Fz.le_trans hF14 hF5) (by simp))) ?_
          refine o_val rfl rfl rfl rfl (v_pick1 rfl rfl) ?_
          refine o_end ?_
          cases sb with
          | true =>
            refine r_true rfl ?_
            rw [hDK2]
            refine j_sel (H' := DkE d bd2 (catR (rl ++ [(k, dd)])) (endAt rl j0) (ops + 1) :: (.mem t q.cells 7 :: (bd2.ents 1 (bytesV (catR (rl ++ [(k, dd)]))) ++ (be2.ents 1 (endsV (rl ++ [(k, dd)])) ++ (bw2.ents 7 (imV (ws ++ [q])) ++ []))))) [[Ent.mem t q.cells 7], [DkE d bd2 (catR (rl ++ [(k, dd)])) (endAt rl j0) (ops + 1)], bd2.ents 1 (bytesV (catR (rl ++ [(k, dd)]))), be2.ents 1 (endsV (rl ++ [(k, dd)])), bw2.ents 7 (imV (ws ++ [q])), []] [1, 0, 2, 3, 4, 5] rfl rfl rfl ?_
            refine r_seq ?_
            refine r_region rfl ?_
            refine o_val rfl rfl rfl rfl (v_move rfl) ?_
            refine o_call rfl rfl rfl rfl (c_call callable25 rfl) (dk_Sync _ _ d bd2 (catR (rl ++ [(k, dd)])) (endAt rl j0) (ops + 1) _ (by omega)) ?_
            rintro v' F5 H' ⟨rfl, rfl, rfl⟩ _
            refine o_end ?_
            refine r_region rfl ?_
            refine o_val rfl rfl rfl rfl (v_move rfl) ?_
            refine o_val rfl rfl rfl rfl (v_assign rfl) ?_
            refine o_end ?_
            refine r_inBlock ?_
            refine r_region rfl ?_
            refine o_val rfl rfl rfl rfl (v_move rfl) ?_
            refine o_val rfl rfl rfl rfl (v_add rfl rfl (wrap_i64 (by omega) (by omega))) ?_
            refine o_val rfl rfl rfl rfl (v_assign rfl) ?_
            refine o_end ?_
            refine j_sel (H' := crH t d ⟨i + 1, F5, q, rl ++ [(k, dd)], ws ++ [q], bd2, be2, bw2, rl.length + 1, ops + 2⟩) [[DkE d bd2 (catR (rl ++ [(k, dd)])) (catR (rl ++ [(k, dd)])).length (ops + 1 + 1)], [Ent.mem t q.cells 7], bd2.ents 1 (bytesV (catR (rl ++ [(k, dd)]))), be2.ents 1 (endsV (rl ++ [(k, dd)])), bw2.ents 7 (imV (ws ++ [q])), []] [1, 0, 2, 3, 4, 5] rfl rfl (by unfold crH; dsimp only; rw [heb]; rfl) ?_
            refine j_keep ?_ (IH _ (hnext (rl.length + 1) (ops + 2) (by omega) (by omega)) (by dsimp only; omega))
            exact ⟨rfl, rfl, rfl, rfl, rfl, by dsimp only; rw [hrl1]; rfl, by dsimp only; rw [hrl1]; rfl, rfl, by dsimp only; rw [heb]; rfl, rfl, trivial⟩
          | false =>
            refine r_false rfl ?_
            rw [hDK2]
            refine j_heap (H' := crH t d ⟨i + 1, F5, q, rl ++ [(k, dd)], ws ++ [q], bd2, be2, bw2, j0, ops + 1⟩) (by unfold crH; dsimp only; rw [hea]; rfl) ?_
            refine r_skip ?_
            refine r_inBlock ?_
            refine r_region rfl ?_
            refine o_val rfl rfl rfl rfl (v_move rfl) ?_
            refine o_val rfl rfl rfl rfl (v_add rfl rfl (wrap_i64 (by omega) (by omega))) ?_
            refine o_val rfl rfl rfl rfl (v_assign rfl) ?_
            refine o_end ?_
            refine j_keep ?_ (IH _ (hnext j0 (ops + 1) (by omega) (by omega)) (by dsimp only; omega))
            exact ⟨rfl, rfl, rfl, rfl, rfl, by dsimp only; rw [hrl1]; rfl, by dsimp only; rw [hrl1]; rfl, rfl, by dsimp only; rw [hea]; rfl, rfl, trivial⟩
        · refine o_val rfl rfl rfl rfl (v_move rfl) ?_
          refine o_skip rfl rfl rfl rfl ?_
          refine o_skip rfl rfl rfl rfl ?_
          refine o_skip rfl rfl rfl rfl ?_
          refine o_skip rfl rfl rfl rfl ?_
          refine o_val rfl rfl rfl rfl (v_pick0 rfl rfl) ?_
          refine o_end ?_
          refine r_false rfl ?_
          rw [hDK2]
          refine j_heap (H' := crH t d ⟨i + 1, F5, q, rl ++ [(k, dd)], ws ++ [q], bd2, be2, bw2, j0, ops + 1⟩) (by unfold crH; dsimp only; rw [hea]; rfl) ?_
          refine r_skip ?_
          refine r_inBlock ?_
          refine r_region rfl ?_
          refine o_val rfl rfl rfl rfl (v_move rfl) ?_
          refine o_val rfl rfl rfl rfl (v_add rfl rfl (wrap_i64 (by omega) (by omega))) ?_
          refine o_val rfl rfl rfl rfl (v_assign rfl) ?_
          refine o_end ?_
          refine j_keep ?_ (IH _ (hnext j0 (ops + 1) (by omega) (by omega)) (by dsimp only; omega))
          exact ⟨rfl, rfl, rfl, rfl, rfl, by dsimp only; rw [hrl1]; rfl, by dsimp only; rw [hrl1]; rfl, rfl, by dsimp only; rw [hea]; rfl, rfl, trivial⟩
    · clear IH
      have hcutl : ∀ j c, j ≤ rl.length → endAt rl j ≤ c → (j < rl.length → c < endAt rl (j + 1)) → scanP nilI ((catR rl).take c) = (stW (ws.map Im.pure) j, endAt rl j) := fun j c h1 h2 h3 => by
        have := scan_cut htr (tail := []) (.inl rfl) h1 h2 h3
        rwa [List.append_nil] at this
      have hsl : endAt rl j0 ≤ (catR rl).length := by
        have := endAt_mono hj0 (Nat.le_refl rl.length)
        rwa [endAt_len] at this
      have hmono : ∀ j, j0 ≤ j → j ≤ rl.length → endAt rl j0 ≤ endAt rl j := fun j h1 h2 => endAt_mono h1 h2
      have hmono2 : ∀ j, j < j0 → endAt rl (j + 1) ≤ endAt rl j0 := fun j h1 => endAt_mono h1 hj0
      generalize hall : catR rl = all at *
      have hal6 : all.length ≤ 18600 := by omega
      generalize hsr : endAt rl j0 = sure at *
      refine j_sel (H' := be.ents 1 (endsV rl) ++ (bw.ents 7 (imV ws) ++ (DkE d bd all sure ops :: (bd.ents 1 (bytesV all) ++ [])))) [[Ent.mem t w.cells 7], [DkE d bd all sure ops], bd.ents 1 (bytesV all), be.ents 1 (endsV rl), bw.ents 7 (imV ws), []] [3, 4, 1, 2, 5] (by simp [crH, cat, hall, hsr]) rfl rfl ?_
      refine j_freezeBf (n := rl.length) oke (by simp) fun F5 hF5 hs5 => ?_
      refine j_freezeBf (n := rl.length) okw (by rw [vec_len (c := Im.cells) Im.cl, hwn]) fun F6 hF6 hs6 => ?_
      have hE : Sl F6 [] 1 (be.val rl.length) rl.length (endsV rl) := Sl.frz (H := []) hs5 hF6
      have hF46 := Fz.le_trans hF5 hF6
      refine r_exit rfl ?_
      refine r_seq ?_
      refine r_seq ?_
      refine r_region rfl ?_
      refine o_val rfl rfl rfl rfl (v_move rfl) ?_
      refine o_call rfl rfl rfl rfl (c_call callable26 rfl) (dk_Len _ _ d bd all sure ops _) ?_
      rintro v' F6 H' ⟨rfl, rfl, rfl⟩ _
      refine o_val rfl rfl rfl rfl (v_move rfl) ?_
      refine o_val rfl rfl rfl rfl (v_neq rfl rfl) ?_
      refine j_slot 116 rfl (v' := .bool false) (by rw [decide_eq_false (by simp)]) ?_
      refine o_val rfl rfl rfl rfl (v_move rfl) ?_
      refine o_val rfl rfl rfl rfl (v_move rfl) ?_
      refine o_call rfl rfl rfl rfl (c_call callable27 rfl) (dk_Sure _ _ d bd all sure ops _) ?_
      rintro v' F6 H' ⟨rfl, rfl, rfl⟩ _
      refine o_val rfl rfl rfl rfl (v_move rfl) ?_
      refine o_val rfl rfl rfl rfl (v_neq rfl rfl) ?_
      refine j_slot 121 rfl (v' := .bool false) (by rw [decide_eq_false (by simp)]) ?_
      refine o_val rfl rfl rfl rfl (v_pick0 rfl rfl) ?_
      refine o_end ?_
      refine r_false rfl ?_
      refine r_skip ?_
      refine r_seq ?_
      refine r_region rfl ?_
      refine o_val rfl rfl rfl rfl (v_move rfl) ?_
      refine o_val rfl rfl rfl rfl (v_move rfl) ?_
      refine o_val rfl rfl rfl rfl (v_conv rfl rfl rfl (wrap_i64 (by omega) (by omega))) ?_
      refine o_val rfl rfl rfl rfl (v_rem rfl rfl (by decide) (r := ((keep % 400 : Nat) : Int)) rfl) ?_
      refine o_call rfl rfl rfl rfl (c_call callable28 rfl) (dk_Crash _ _ d bd all sure ops ((keep % 400 : Nat) : Int) _ okd (by omega) hsl (by omega) (by omega)) ?_
      rintro v' F6 H' ⟨rfl, rfl, rfl⟩ _
      obtain ⟨K, hK⟩ : ∃ K, K = sure + min ((keep % 400 : Nat) : Int).toNat (all.length - sure) := ⟨_, rfl⟩
      rw [← hK]
      have hK1 : sure ≤ K := by omega
      have hK2 : K ≤ all.length := by omega
      clear hK
      have htl : (all.take K).length = K := by simp; omega
      have okd2 : bd.ok (all.take K).length := Bf.ok_le okd (by rw [htl]; exact hK2)
      refine o_end ?_
      refine r_seq ?_
      refine r_region rfl ?_
      refine o_val rfl rfl rfl rfl (v_move rfl) ?_
      refine o_call rfl rfl rfl rfl (c_call callable26 rfl) (dk_Len _ _ d bd (all.take K) K ops _) ?_
      rintro v' F6 H' ⟨rfl, rfl, rfl⟩ _
      refine j_slot 129 rfl (v' := .int .i64 (K : Int)) (by rw [htl]) ?_
      refine o_val rfl rfl rfl rfl (v_assign rfl) ?_
      refine o_end ?_
      refine r_seq ?_
      refine r_region rfl ?_
      refine o_val rfl rfl rfl rfl (v_move rfl) ?_
      refine o_call rfl rfl rfl rfl (c_call callable20 rfl) (wal_Open _ _ d bd (all.take K) K ops _ okd2 (by rw [htl]; omega) (by omega)) ?_
      rintro v' F7 H' ⟨hF7, p, bf2, sure2, ops2, hp, hpl, hpp, rfl, okf2, hsu, rfl⟩ _
      have hpo := hp.one
      obtain ⟨DK, hDK⟩ : ∃ DK : Ent, DK = DkE d bf2 ((all.take K).take (scanP nilI (all.take K)).2) sure2 ops2 := ⟨_, rfl⟩
      rw [← hDK]
      have hF47 := Fz.le_trans hF46 hF7
      have hF67 := hF7
      refine o_val rfl rfl rfl rfl (v_move rfl) ?_
      refine o_val rfl rfl rfl rfl (v_extract rfl rfl) ?_
      refine o_val rfl rfl rfl rfl (v_extract rfl rfl) ?_
      refine o_act rfl rfl rfl rfl (a_alloc rfl) ?_
      rintro v' H' ⟨z, rfl, rfl⟩
      refine o_act0 rfl rfl rfl (a_store (sz := 7) 0 rfl rfl rfl (by simpa [Value.cells] using hpo) rfl rfl (Nat.le_of_ble_eq_true rfl)) ?_
      refine j_sel (H' := [.mem z p.cells 7, DK]) [[Ent.mem z p.cells 7], [DK], bf2.ents 1 (bytesV ((all.take K).take (scanP nilI (all.take K)).2)), []] [0, 1] rfl rfl rfl ?_
      refine o_val rfl rfl rfl rfl (v_assign rfl) ?_
      refine o_end ?_
      refine r_seq ?_
      refine r_region rfl ?_
      refine o_val rfl rfl rfl rfl (v_build rfl rfl) ?_
      refine o_val rfl rfl rfl rfl (v_build rfl rfl) ?_
      refine o_act rfl rfl rfl rfl (a_alloc rfl) ?_
      rintro v' H' ⟨x, rfl, rfl⟩
      refine o_act0 rfl rfl rfl (a_store (sz := 7) 0 rfl rfl rfl rfl rfl rfl (Nat.le_of_ble_eq_true rfl)) ?_
      refine j_heap (H' := [.mem x (imAt p0 ws 0).cells 7, .mem z p.cells 7, DK]) (by show _ = [Ent.mem x p0.cells 7, _, _]; rw [hp0]; rfl) ?_
      refine o_end ?_
      refine r_seq ?_
      refine r_region rfl ?_
      refine o_val rfl rfl rfl rfl (v_assign rfl) ?_
      refine o_end ?_
      refine r_seq ?_
      refine r_seq ?_
      refine r_region rfl ?_
      refine o_val rfl rfl rfl rfl (v_assign rfl) ?_
      refine o_end ?_
      refine r_block ?_
      have he0 : endAt rl 0 = 0 := by simp [endAt]
      refine r_loop (fun j : Nat => j ≤ rl.length ∧ endAt rl j ≤ K) (fun j => [(7, ptrV d), (9, bw.val rl.length), (10, be.val rl.length), (12, .int .i64 sure), (19, .int .i64 K), (20, ptrV z), (21, .int .i64 0), (22, ptrV x), (23, .int .i64 (endAt rl j)), (24, .int .i64 j)]) (fun _ => F7) (fun j => [.mem x (imAt p0 ws j).cells 7, .mem z p.cells 7, DK]) (fun j => rl.length - j) 0 ⟨Nat.zero_le _, by rw [he0]; exact Nat.zero_le _⟩ ⟨rfl, rfl, rfl, rfl, rfl, rfl, rfl, rfl, by rw [he0]; rfl, rfl, trivial⟩ rfl rfl ?_
      intro j ⟨hj1, hj2⟩ IH
      have hxok := imAt_ok (F := F7) p0 ws j (hp0ok.frz (Fz.le_trans hF4 hF47)) (fun p hp => (hws p hp).frz hF47)
      have hxp := imAt_pure p0 ws j hp0p
      refine r_seq ?_
      refine r_seq ?_
      refine r_region rfl ?_
      refine o_val rfl rfl rfl rfl (v_move rfl) ?_
      refine o_val rfl rfl rfl rfl (v_move rfl) ?_
      refine o_val rfl rfl rfl rfl (v_len rfl rfl) ?_
      refine o_val rfl rfl rfl rfl (v_lss rfl rfl) ?_
      refine j_prop 140 rfl (fun h2 => ?_) (fun h2 => ?_)
      · have hjl : j < rl.length := by omega
        have hjw : j < ws.length := by omega
        cases be with
        | nil =>
          have : rl.length = 0 := oke
          omega
        | «at» eb ec =>
          cases bw with
          | nil =>
            have : rl.length = 0 := okw
            omega
          | «at» wb wc =>
            obtain ⟨b1, o1, c1, hab, _, hcE⟩ := Sl.view hE (by omega)
            change Value.slice (some ⟨eb, 0, none⟩) _ ec = _ at hab
            cases hab
            obtain ⟨b1, o1, c1, hab, _, hcW⟩ := Sl.view hs6 (by omega)
            change Value.slice (some ⟨wb, 0, none⟩) _ wc = _ at hab
            cases hab
            have hce := hcE j _ (endsV_get hjl)
            have hcw : ∀ q c, ws[j].cells[q]? = some c → Cell F6 [] wb (0 + j * 7 + q) c := fun q c hq => by
              have hq7 : q < 7 := by
                rcases Nat.lt_or_ge q 7 with h | h
                · exact h
                · rw [List.getElem?_eq_none (by rw [Im.cl]; exact h)] at hq; cases hq
              have := hcW (j * 7 + q) c (by rw [vec_get (c := Im.cells) Im.cl ws j hjw q hq7]; exact hq)
              rw [← Nat.add_assoc] at this
              exact this
            have hxo := (hws ws[j] (List.getElem_mem _)).one
            have hsu2 := imAt_succ p0 ws j hjw
            refine o_val rfl rfl rfl rfl (v_move rfl) ?_
            refine o_val rfl rfl rfl rfl (v_move rfl) ?_
            refine o_val rfl rfl rfl rfl (v_move rfl) ?_
            refine o_val rfl rfl rfl rfl (v_index1 rfl rfl rfl rfl hjl) ?_
            refine o_val rfl rfl rfl rfl (v_load (v := .int .i64 (endAt rl (j + 1) : Nat)) rfl rfl (hce.mono hF67 (by simp))) ?_
            refine o_val rfl rfl rfl rfl (v_move rfl) ?_
            refine o_val rfl rfl rfl rfl (v_leq rfl rfl) ?_
            refine o_val rfl rfl rfl rfl (v_pick1 rfl rfl) ?_
            refine o_end ?_
            refine r_if rfl (fun h3 => ?_) (fun h3 => ?_)
            · refine r_skip ?_
              refine r_seq ?_
              refine r_block ?_
              refine r_seq ?_
              refine r_region rfl ?_
              refine o_val rfl rfl rfl rfl (v_move rfl) ?_
              refine o_val rfl rfl rfl rfl (v_move rfl) ?_
              refine o_val rfl rfl rfl rfl (v_indexN (sz := 7) rfl rfl rfl rfl hjl) ?_
              refine o_val rfl rfl rfl rfl (v_loadAgg (sz := 7) (cs := ws[j].cells) rfl rfl rfl rfl (fun q c hq => (hcw q c hq).mono hF67 (by simp))) ?_
              refine o_act0 rfl rfl rfl (a_store (sz := 7) 0 rfl rfl rfl (by simpa [Value.cells] using hxo) rfl rfl (Nat.le_of_ble_eq_true rfl)) ?_
              refine j_heap (H' := [.mem x (imAt p0 ws (j + 1)).cells 7, .mem z p.cells 7, DK]) (by rw [hsu2]; rfl) ?_
              refine o_end ?_
              refine r_region rfl ?_
              refine o_val rfl rfl rfl rfl (v_move rfl) ?_
              refine o_val rfl rfl rfl rfl (v_move rfl) ?_
              refine o_val rfl rfl rfl rfl (v_index1 rfl rfl rfl rfl hjl) ?_
              refine o_val rfl rfl rfl rfl (v_load (v := .int .i64 (endAt rl (j + 1) : Nat)) rfl rfl (hce.mono hF67 (by simp))) ?_
              refine o_val rfl rfl rfl rfl (v_assign rfl) ?_
              refine o_end ?_
              refine r_inBlock ?_
              refine r_region rfl ?_
              refine o_val rfl rfl rfl rfl (v_move rfl) ?_
              refine o_val rfl rfl rfl rfl (v_add rfl rfl (wrap_i64 (by omega) (by omega))) ?_
              refine o_val rfl rfl rfl rfl (v_assign rfl) ?_
              refine o_end ?_
              refine j_keep ?_ (IH (j + 1) ⟨hjl, by omega⟩ (by omega))
              exact ⟨rfl, rfl, rfl, rfl, rfl, rfl, rfl, rfl, rfl, rfl, trivial⟩
            · have hnx : j < rl.length → K < endAt rl (j + 1) := fun _ => by omega
              refine r_exit rfl ?_
              refine r_seq ?_
              have hct := hcutl j K hj1 hj2 hnx
              clear IH
              have hsj : sure ≤ endAt rl j := by
                rcases Nat.lt_or_ge j j0 with hlt | hge
                · have h1 := hmono2 j hlt
                  have h2 := hnx (by omega)
                  omega
                · exact hmono j hge hj1
              generalize hxx : imAt p0 ws j = xx at *
              refine j_sel (H' := [DK, .mem x xx.cells 7, .mem z p.cells 7]) [[Ent.mem x xx.cells 7], [Ent.mem z p.cells 7], [DK]] [2, 0, 1] rfl rfl rfl ?_
              rw [hDK]
              refine d_region 1000000 rfl ([.mem z p.cells 7, .mem x xx.cells 7]) ?_
              refine d_take (i := 0) rfl rfl rfl (by decide +kernel) (by decide +kernel) (by decide +kernel) (Fz.le_refl _) (by intro q hq; simp only [List.mem_cons, List.not_mem_nil, or_false] at hq; rcases hq with rfl | rfl <;> simp) rfl (v_move rfl) ?_
              refine d_take (i := 1) rfl rfl rfl (by decide +kernel) (by decide +kernel) (by decide +kernel) (Fz.le_refl _) (by intro q hq; simp only [List.mem_cons, List.not_mem_nil, or_false] at hq; rcases hq with rfl | rfl <;> simp) rfl (v_eql rfl rfl) ?_
              refine d_take (i := 2) rfl rfl rfl (by decide +kernel) (by decide +kernel) (by decide +kernel) (Fz.le_refl _) (by intro q hq; simp only [List.mem_cons, List.not_mem_nil, or_false] at hq; rcases hq with rfl | rfl <;> simp) rfl (v_move rfl) ?_
              refine d_take (i := 3) rfl rfl rfl (by decide +kernel) (by decide +kernel) (by decide +kernel) (Fz.le_refl _) (by intro q hq; simp only [List.mem_cons, List.not_mem_nil, or_false] at hq; rcases hq with rfl | rfl <;> simp) rfl (v_move rfl) ?_
              refine d_take (i := 4) rfl rfl rfl (by decide +kernel) (by decide +kernel) (by decide +kernel) (Fz.le_refl _) (by intro q hq; simp only [List.mem_cons, List.not_mem_nil, or_false] at hq; rcases hq with rfl | rfl <;> simp) rfl (v_move rfl) ?_
              refine d_take (i := 5) rfl rfl rfl (by decide +kernel) (by decide +kernel) (by decide +kernel) (Fz.le_refl _) (by intro q hq; simp only [List.mem_cons, List.not_mem_nil, or_false] at hq; rcases hq with rfl | rfl <;> simp) rfl (v_geq rfl rfl) ?_
              refine j_slot 164 rfl (v' := .bool true) (by rw [decide_eq_true (by omega)]) ?_
              refine d_take (i := 6) rfl rfl rfl (by decide +kernel) (by decide +kernel) (by decide +kernel) (Fz.le_refl _) (by intro q hq; simp only [List.mem_cons, List.not_mem_nil, or_false] at hq; rcases hq with rfl | rfl <;> simp) rfl (v_pick1 rfl rfl) ?_
              refine d_take (i := 7) rfl rfl rfl (by decide +kernel) (by decide +kernel) (by decide +kernel) (Fz.le_refl _) (by intro q hq; simp only [List.mem_cons, List.not_mem_nil, or_false] at hq; rcases hq with rfl | rfl <;> simp) rfl (v_move rfl) ?_
              refine d_take (i := 8) rfl rfl rfl (by decide +kernel) (by decide +kernel) (by decide +kernel) (Fz.le_refl _) (by intro q hq; simp only [List.mem_cons, List.not_mem_nil, or_false] at hq; rcases hq with rfl | rfl <;> simp) rfl (v_loadAgg (sz := 7) (cs := p.cells) rfl rfl rfl rfl (cells_of (j := 0) _ _ rfl rfl)) ?_
              refine d_take (i := 10) rfl rfl rfl (by decide +kernel) (by decide +kernel) (by decide +kernel) (Fz.le_refl _) (by intro q hq; simp only [List.mem_cons, List.not_mem_nil, or_false] at hq; rcases hq with rfl | rfl <;> simp) rfl (v_loadAgg (sz := 7) (cs := xx.cells) rfl rfl rfl rfl (cells_of (j := 1) _ _ rfl rfl)) ?_
              refine d_one (i := 9) (by decide +kernel) ?_
              refine d1_call rfl rfl rfl rfl (c_call callable14 rfl) (law_image _ _ p _ hp) ?_
              rintro v' F7 H' ⟨rfl, rfl, rfl⟩ _
              refine ⟨fun w hw => held_of hw (by first | exact Fz.le_refl _ | assumption) (by intro q hq; simp only [List.mem_cons, List.not_mem_nil, or_false] at hq; rcases hq with rfl | rfl <;> simp), ?_⟩
              refine d_one (i := 11) (by decide +kernel) ?_
              refine d1_call rfl rfl rfl rfl (c_call callable13 rfl) (ref_Same _ _ p xx _ hp hxok ((hpp.trans (congrArg Prod.fst hct)).trans hxp.symm) (by omega)) ?_
              rintro v' F7 H' ⟨rfl, rfl, rfl⟩ _
              refine ⟨fun w hw => held_of hw (by first | exact Fz.le_refl _ | assumption) (by intro q hq; simp only [List.mem_cons, List.not_mem_nil, or_false] at hq; rcases hq with rfl | rfl <;> simp), ?_⟩
              refine d_take (i := 12) rfl rfl rfl (by decide +kernel) (by decide +kernel) (by decide +kernel) (Fz.le_refl _) (by intro q hq; simp only [List.mem_cons, List.not_mem_nil, or_false] at hq; rcases hq with rfl | rfl <;> simp) rfl (v_pick1 rfl rfl) ?_
              refine d_take (i := 13) rfl rfl rfl (by decide +kernel) (by decide +kernel) (by decide +kernel) (Fz.le_refl _) (by intro q hq; simp only [List.mem_cons, List.not_mem_nil, or_false] at hq; rcases hq with rfl | rfl <;> simp) rfl (v_move rfl) ?_
              refine d_take (i := 14) rfl rfl rfl (by decide +kernel) (by decide +kernel) (by decide +kernel) (Fz.le_refl _) (by intro q hq; simp only [List.mem_cons, List.not_mem_nil, or_false] at hq; rcases hq with rfl | rfl <;> simp) rfl (v_move rfl) ?_
              refine d_take (i := 16) rfl rfl rfl (by decide +kernel) (by decide +kernel) (by decide +kernel) (Fz.le_refl _) (by intro q hq; simp only [List.mem_cons, List.not_mem_nil, or_false] at hq; rcases hq with rfl | rfl <;> simp) rfl (v_move rfl) ?_
              refine d_one (i := 15) (by decide +kernel) ?_
              refine d1_call rfl rfl rfl rfl (c_call callable26 rfl) (dk_Len _ _ d bf2 _ sure2 ops2 _) ?_
              rintro v' F7 H' ⟨rfl, rfl, rfl⟩ _
              refine ⟨fun w hw => held_of hw (by first | exact Fz.le_refl _ | assumption) (by intro q hq; simp only [List.mem_cons, List.not_mem_nil, or_false] at hq; rcases hq with rfl | rfl <;> simp), ?_⟩
              refine j_slot 174 rfl (v' := .int .i64 (endAt rl j : Nat)) (by rw [hct]; simp; omega) ?_
              refine d_take (i := 17) rfl rfl rfl (by decide +kernel) (by decide +kernel) (by decide +kernel) (Fz.le_refl _) (by intro q hq; simp only [List.mem_cons, List.not_mem_nil, or_false] at hq; rcases hq with rfl | rfl <;> simp) rfl (v_eql rfl rfl) ?_
              refine d_take (i := 18) rfl rfl rfl (by decide +kernel) (by decide +kernel) (by decide +kernel) (Fz.le_refl _) (by intro q hq; simp only [List.mem_cons, List.not_mem_nil, or_false] at hq; rcases hq with rfl | rfl <;> simp) rfl (v_pick1 rfl rfl) ?_
              refine d_take (i := 19) rfl rfl rfl (by decide +kernel) (by decide +kernel) (by decide +kernel) (Fz.le_refl _) (by intro q hq; simp only [List.mem_cons, List.not_mem_nil, or_false] at hq; rcases hq with rfl | rfl <;> simp) rfl (v_assign rfl) ?_
              refine d_end (by decide +kernel) ?_
              exact r_ret1 Try.func7 rfl rfl ⟨by simp, Fz.le_trans hF14 hF47⟩
      · have hnx : j < rl.length → K < endAt rl (j + 1) := fun h => by omega
        refine o_val rfl rfl rfl rfl (v_move rfl) ?_
        refine o_skip rfl rfl rfl rfl ?_
        refine o_skip rfl rfl rfl rfl ?_
        refine o_skip rfl rfl rfl rfl ?_
        refine o_skip rfl rfl rfl rfl ?_
        refine o_skip rfl rfl rfl rfl ?_
        refine o_skip rfl rfl rfl rfl ?_
        refine o_val rfl rfl rfl rfl (v_pick0 rfl rfl) ?_
        refine o_end ?_
        refine r_false rfl ?_
        have hct := hcutl j K hj1 hj2 hnx
        clear IH
        have hsj : sure ≤ endAt rl j := by
          rcases Nat.lt_or_ge j j0 with hlt | hge
          · have h1 := hmono2 j hlt
            have h2 := hnx (by omega)
            omega
          · exact hmono j hge hj1
        generalize hxx : imAt p0 ws j = xx at *
        refine j_sel (H' := [DK, .mem x xx.cells 7, .mem z p.cells 7]) [[Ent.mem x xx.cells 7], [Ent.mem z p.cells 7], [DK]] [2, 0, 1] rfl rfl rfl ?_
        rw [hDK]
        refine r_exit rfl ?_
        refine r_seq ?_
        refine d_region 1000000 rfl ([.mem z p.cells 7, .mem x xx.cells 7]) ?_
        refine d_take (i := 0) rfl rfl rfl (by decide +kernel) (by decide +kernel) (by decide +kernel) (Fz.le_refl _) (by intro q hq; simp only [List.mem_cons, List.not_mem_nil, or_false] at hq; rcases hq with rfl | rfl <;> simp) rfl (v_move rfl) ?_
        refine d_take (i := 1) rfl rfl rfl (by decide +kernel) (by decide +kernel) (by decide +kernel) (Fz.le_refl _) (by intro q hq; simp only [List.mem_cons, List.not_mem_nil, or_false] at hq; rcases hq with rfl | rfl <;> simp) rfl (v_eql rfl rfl) ?_
        refine d_take (i := 2) rfl rfl rfl (by decide +kernel) (by decide +kernel) (by decide +kernel) (Fz.le_refl _) (by intro q hq; simp only [List.mem_cons, List.not_mem_nil, or_false] at hq; rcases hq with rfl | rfl <;> simp) rfl (v_move rfl) ?_
        refine d_take (i := 3) rfl rfl rfl (by decide +kernel) (by decide +kernel) (by decide +kernel) (Fz.le_refl _) (by intro q hq; simp only [List.mem_cons, List.not_mem_nil, or_false] at hq; rcases hq with rfl | rfl <;> simp) rfl (v_move rfl) ?_
        refine d_take (i := 4) rfl rfl rfl (by decide +kernel) (by decide +kernel) (by decide +kernel) (Fz.le_refl _) (by intro q hq; simp only [List.mem_cons, List.not_mem_nil, or_false] at hq; rcases hq with rfl | rfl <;> simp) rfl (v_move rfl) ?_
        refine d_take (i := 5) rfl rfl rfl (by decide +kernel) (by decide +kernel) (by decide +kernel) (Fz.le_refl _) (by intro q hq; simp only [List.mem_cons, List.not_mem_nil, or_false] at hq; rcases hq with rfl | rfl <;> simp) rfl (v_geq rfl rfl) ?_
        refine j_slot 164 rfl (v' := .bool true) (by rw [decide_eq_true (by omega)]) ?_
        refine d_take (i := 6) rfl rfl rfl (by decide +kernel) (by decide +kernel) (by decide +kernel) (Fz.le_refl _) (by intro q hq; simp only [List.mem_cons, List.not_mem_nil, or_false] at hq; rcases hq with rfl | rfl <;> simp) rfl (v_pick1 rfl rfl) ?_
        refine d_take (i := 7) rfl rfl rfl (by decide +kernel) (by decide +kernel) (by decide +kernel) (Fz.le_refl _) (by intro q hq; simp only [List.mem_cons, List.not_mem_nil, or_false] at hq; rcases hq with rfl | rfl <;> simp) rfl (v_move rfl) ?_
        refine d_take (i := 8) rfl rfl rfl (by decide +kernel) (by decide +kernel) (by decide +kernel) (Fz.le_refl _) (by intro q hq; simp only [List.mem_cons, List.not_mem_nil, or_false] at hq; rcases hq with rfl | rfl <;> simp) rfl (v_loadAgg (sz := 7) (cs := p.cells) rfl rfl rfl rfl (cells_of (j := 0) _ _ rfl rfl)) ?_
        refine d_take (i := 10) rfl rfl rfl (by decide +kernel) (by decide +kernel) (by decide +kernel) (Fz.le_refl _) (by intro q hq; simp only [List.mem_cons, List.not_mem_nil, or_false] at hq; rcases hq with rfl | rfl <;> simp) rfl (v_loadAgg (sz := 7) (cs := xx.cells) rfl rfl rfl rfl (cells_of (j := 1) _ _ rfl rfl)) ?_
        refine d_one (i := 9) (by decide +kernel) ?_
        refine d1_call rfl rfl rfl rfl (c_call callable14 rfl) (law_image _ _ p _ hp) ?_
        rintro v' F7 H' ⟨rfl, rfl, rfl⟩ _
        refine ⟨fun w hw => held_of hw (by first | exact Fz.le_refl _ | assumption) (by intro q hq; simp only [List.mem_cons, List.not_mem_nil, or_false] at hq; rcases hq with rfl | rfl <;> simp), ?_⟩
        refine d_one (i := 11) (by decide +kernel) ?_
        refine d1_call rfl rfl rfl rfl (c_call callable13 rfl) (ref_Same _ _ p xx _ hp hxok ((hpp.trans (congrArg Prod.fst hct)).trans hxp.symm) (by omega)) ?_
        rintro v' F7 H' ⟨rfl, rfl, rfl⟩ _
        refine ⟨fun w hw => held_of hw (by first | exact Fz.le_refl _ | assumption) (by intro q hq; simp only [List.mem_cons, List.not_mem_nil, or_false] at hq; rcases hq with rfl | rfl <;> simp), ?_⟩
        refine d_take (i := 12) rfl rfl rfl (by decide +kernel) (by decide +kernel) (by decide +kernel) (Fz.le_refl _) (by intro q hq; simp only [List.mem_cons, List.not_mem_nil, or_false] at hq; rcases hq with rfl | rfl <;> simp) rfl (v_pick1 rfl rfl) ?_
        refine d_take (i := 13) rfl rfl rfl (by decide +kernel) (by decide +kernel) (by decide +kernel) (Fz.le_refl _) (by intro q hq; simp only [List.mem_cons, List.not_mem_nil, or_false] at hq; rcases hq with rfl | rfl <;> simp) rfl (v_move rfl) ?_
        refine d_take (i := 14) rfl rfl rfl (by decide +kernel) (by decide +kernel) (by decide +kernel) (Fz.le_refl _) (by intro q hq; simp only [List.mem_cons, List.not_mem_nil, or_false] at hq; rcases hq with rfl | rfl <;> simp) rfl (v_move rfl) ?_
        refine d_take (i := 16) rfl rfl rfl (by decide +kernel) (by decide +kernel) (by decide +kernel) (Fz.le_refl _) (by intro q hq; simp only [List.mem_cons, List.not_mem_nil, or_false] at hq; rcases hq with rfl | rfl <;> simp) rfl (v_move rfl) ?_
        refine d_one (i := 15) (by decide +kernel) ?_
        refine d1_call rfl rfl rfl rfl (c_call callable26 rfl) (dk_Len _ _ d bf2 _ sure2 ops2 _) ?_
        rintro v' F7 H' ⟨rfl, rfl, rfl⟩ _
        refine ⟨fun w hw => held_of hw (by first | exact Fz.le_refl _ | assumption) (by intro q hq; simp only [List.mem_cons, List.not_mem_nil, or_false] at hq; rcases hq with rfl | rfl <;> simp), ?_⟩
        refine j_slot 174 rfl (v' := .int .i64 (endAt rl j : Nat)) (by rw [hct]; simp; omega) ?_
        refine d_take (i := 17) rfl rfl rfl (by decide +kernel) (by decide +kernel) (by decide +kernel) (Fz.le_refl _) (by intro q hq; simp only [List.mem_cons, List.not_mem_nil, or_false] at hq; rcases hq with rfl | rfl <;> simp) rfl (v_eql rfl rfl) ?_
        refine d_take (i := 18) rfl rfl rfl (by decide +kernel) (by decide +kernel) (by decide +kernel) (Fz.le_refl _) (by intro q hq; simp only [List.mem_cons, List.not_mem_nil, or_false] at hq; rcases hq with rfl | rfl <;> simp) rfl (v_pick1 rfl rfl) ?_
        refine d_take (i := 19) rfl rfl rfl (by decide +kernel) (by decide +kernel) (by decide +kernel) (Fz.le_refl _) (by intro q hq; simp only [List.mem_cons, List.not_mem_nil, or_false] at hq; rcases hq with rfl | rfl <;> simp) rfl (v_assign rfl) ?_
        refine d_end (by decide +kernel) ?_
        exact r_ret1 Try.func7 rfl rfl ⟨by simp, Fz.le_trans hF14 hF47⟩
theorem in_WalCrashes (W : World) (vr : Value) (rs : List RecI) (hr : InRec W vr rs) (hrl : rs.length ≤ 9223372036854775807) (vb : Value) (bs : List Bool) (hb : InBools W vb bs) (hbl : bs.length ≤ 9223372036854775807) (c : Int) (hc : (Lit.int .u16 c).wf = true) :
    Calls Try.prog 7 #[vr, vb, .int .u16 c] W fun e w' => e = .returned (.bool true) ∧ Go.RowKit.Below W.heap.size W w' := by
  simp [Lit.wf, IntKind.min, IntKind.max, IntKind.signed, IntKind.bits] at hc
  obtain ⟨c, rfl⟩ := Int.eq_ofNat_of_zero_le hc.1
  exact below_of_does (law_WalCrashes _ _ vr rs vb bs c (by omega) hb hbl hr.1 hrl (fun r hr' => ⟨⟨(hr.2 r hr').k, (hr.2 r hr').a, (hr.2 r hr').b, (hr.2 r hr').v1, (hr.2 r hr').v2⟩, (hr.2 r hr').d⟩))
end Go.SX
