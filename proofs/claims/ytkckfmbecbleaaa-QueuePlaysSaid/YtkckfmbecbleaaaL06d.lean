/-
  Chapter 06: the law QueuePlays.
-/
import Derived.Test.YtkckfmbecbleaaaL06c
import Derived.Test.YtkckfmbecbleaaaSxWin
import Derived.Test.YtkckfmbecbleaaaSlices
namespace Go.SX
open Go Go.Proofs
set_option linter.unusedSimpArgs false
set_option linter.unusedVariables false

structure LG where
  i : Nat
  nx : Nat
  k : Nat
  wf : Wf
  ls : List Row
  bf : Bf
  rs : List Row
  F : Fz
structure LG.ok (F : Fz) (most na np : Nat) (g : LG) : Prop where
  le : F.le g.F
  i : g.i ≤ na
  nx : g.nx < 18446744073709551616
  k : g.k ≤ np
  wf : g.wf.ok 1 g.ls.length
  bf : g.bf.ok g.rs.length
  few : g.rs.length ≤ most
  fl : ∀ r ∈ g.ls, SlB g.F [] r.1 r.2
  fr : ∀ r ∈ g.rs, SlB g.F [] r.1 r.2
  eq : g.rs.map (·.2) = g.ls.map (·.2)
theorem slotB_eq {size : Nat} {rs ls : List Row} (h : rs.map (·.2) = ls.map (·.2)) : slotB size rs = slotB size ls := by
  match rs, ls, h with
  | [], [], _ => rfl
  | [], y :: l, h => simp at h
  | x :: r, [], h => simp at h
  | x :: r, y :: l, h =>
    simp only [List.map_cons, List.cons.injEq] at h
    exact h.1
theorem split_400 {p : List UInt8} (h : p.length ≤ 400) : splitE 64 p = 0 := by
  unfold splitE
  rw [if_neg (by omega), if_neg]
  show ¬ (1048576 < p.length ∨ 65536 ≤ partsN 64 p.length)
  unfold partsN
  have h2 : (p.length + (64 - 19) - 1) / (64 - 19) ≤ 400 + 44 := Nat.le_trans (Nat.div_le_self _ _) (by omega)
  generalize (p.length + (64 - 19) - 1) / (64 - 19) = q at *
  omega
set_option maxRecDepth 4000 in
set_option maxHeartbeats 4000000 in
theorem law_QueuePlays (O : World) (F : Fz) (n frm : Nat) (v : Value) (ps : List Row) (u : Value) (acts : List UInt8) (hn : n < 256) (hfr : frm < 18446744073709551616) (hv : Sl F [] 1 v ps.length (ps.map (·.1))) (hps : ∀ r ∈ ps, SlB F [] r.1 r.2) (hu : SlB F [] u acts) :
    Does Try.prog O 5 #[.int .u8 n, .int .u64 frm, v, u] F [] (fun r _ _ => r = .bool true) := by
  obtain ⟨a0, cap, rfl, hcap⟩ := Sl.shape hv
  obtain ⟨a1, cap1, rfl, hcap1⟩ := Sl.shape hu
  have hm12 : (n : Int).tmod 12 = ((n % 12 : Nat) : Int) := rfl
  refine does_of_run (args := [_, _, _, _]) Try.func5 rfl rfl ?_
  refine r_seq ?_
  refine r_region rfl ?_
  refine o_val rfl rfl rfl rfl (v_assign rfl) ?_
  refine o_end ?_
  refine r_seq ?_
  refine r_seq ?_
  refine r_region rfl ?_
  refine o_call rfl rfl rfl rfl (c_call callable7 rfl) (law6_awake _ _ _) ?_
  rintro v' F1 H' ⟨rfl, rfl⟩ hF1
  refine o_val rfl rfl rfl rfl (v_not rfl) ?_
  refine o_val rfl rfl rfl rfl (v_move rfl) ?_
  refine o_val rfl rfl rfl rfl (v_move rfl) ?_
  refine o_val rfl rfl rfl rfl (v_len rfl rfl) ?_
  refine o_val rfl rfl rfl rfl (v_gtr rfl rfl) ?_
  refine o_val rfl rfl rfl rfl (v_pick0 rfl rfl) ?_
  refine j_prop 26 rfl (fun h => ?_) (fun h => ?_)
  · refine o_val rfl rfl rfl rfl (v_move rfl) ?_
    refine o_skip rfl rfl rfl rfl ?_
    refine o_skip rfl rfl rfl rfl ?_
    refine o_skip rfl rfl rfl rfl ?_
    refine o_val rfl rfl rfl rfl (v_pick1 rfl rfl) ?_
    refine o_end ?_
    refine r_true rfl ?_
    refine r_seq ?_
    refine r_region rfl ?_
    refine o_call rfl rfl rfl rfl (c_call callable7 rfl) (law6_awake _ _ _) ?_
    rintro v' F2 H' ⟨rfl, rfl⟩ hF2
    refine o_val rfl rfl rfl rfl (v_assign rfl) ?_
    refine o_end ?_
    exact r_ret1 Try.func5 rfl rfl ⟨rfl, Fz.le_trans hF1 hF2⟩
  · refine o_val rfl rfl rfl rfl (v_move rfl) ?_
    refine o_val rfl rfl rfl rfl (v_move rfl) ?_
    refine o_val rfl rfl rfl rfl (v_len rfl rfl) ?_
    refine o_val rfl rfl rfl rfl (v_gtr rfl rfl) ?_
    refine o_val rfl rfl rfl rfl (v_pick0 rfl rfl) ?_
    refine o_end ?_
    refine r_if rfl (fun h2 => ?_) (fun h2 => ?_)
    · refine r_seq ?_
      refine r_region rfl ?_
      refine o_call rfl rfl rfl rfl (c_call callable7 rfl) (law6_awake _ _ _) ?_
      rintro v' F2 H' ⟨rfl, rfl⟩ hF2
      refine o_val rfl rfl rfl rfl (v_assign rfl) ?_
      refine o_end ?_
      exact r_ret1 Try.func5 rfl rfl ⟨rfl, Fz.le_trans hF1 hF2⟩
    · obtain ⟨m, hm⟩ : ∃ m, m = 1 + n % 12 := ⟨_, rfl⟩
      refine r_skip ?_
      refine r_seq ?_
      refine r_region rfl ?_
      refine o_val rfl rfl rfl rfl (v_move rfl) ?_
      refine o_val rfl rfl rfl rfl (v_conv rfl rfl rfl (wrap_i64 (by omega) (by omega))) ?_
      refine o_val rfl rfl rfl rfl (v_rem rfl rfl (by decide) hm12) ?_
      refine o_val rfl rfl rfl rfl (v_add rfl rfl (r := (m : Int)) ((wrap_i64 (by omega) (by omega)).trans (by omega))) ?_
      refine o_val rfl rfl rfl rfl (v_assign rfl) ?_
      refine o_end ?_
      refine r_seq ?_
      refine r_region rfl ?_
      refine o_val rfl rfl rfl rfl (v_move rfl) ?_
      refine o_val rfl rfl rfl rfl (v_move rfl) ?_
      refine o_call rfl rfl rfl rfl (c_call callable8 rfl) (q_New _ _ 64 m frm _) ?_
      rintro v' F1 H' ⟨rfl, hnew⟩ _
      rcases hnew with ⟨hbad, _⟩ | ⟨_, q, rfl, rfl⟩
      · exact absurd hbad (by unfold qBad; omega)
      · refine o_val rfl rfl rfl rfl (v_move rfl) ?_
        refine o_val rfl rfl rfl rfl (v_extract rfl rfl) ?_
        refine o_val rfl rfl rfl rfl (v_extract rfl rfl) ?_
        refine o_val rfl rfl rfl rfl (v_assign rfl) ?_
        refine o_val rfl rfl rfl rfl (v_assign rfl) ?_
        refine o_end ?_
        refine r_seq ?_
        refine r_seq ?_
        refine r_region rfl ?_
        refine o_val rfl rfl rfl rfl (v_move rfl) ?_
        refine o_val rfl rfl rfl rfl (v_neq rfl rfl) ?_
        refine o_end ?_
        refine r_false rfl ?_
        refine r_skip ?_
        refine r_seq ?_
        refine r_region rfl ?_
        refine o_val rfl rfl rfl rfl (v_assign rfl) ?_
        refine o_end ?_
        refine r_seq ?_
        refine r_region rfl ?_
        refine o_val rfl rfl rfl rfl (v_move rfl) ?_
        refine o_val rfl rfl rfl rfl (v_assign rfl) ?_
        refine o_end ?_
        refine r_seq ?_
        refine r_region rfl ?_
        refine o_val rfl rfl rfl rfl (v_assign rfl) ?_
        refine o_end ?_
        refine r_seq ?_
        refine r_seq ?_
        refine r_region rfl ?_
        refine o_val rfl rfl rfl rfl (v_assign rfl) ?_
        refine o_end ?_
        refine r_block ?_
        refine r_loop (LG.ok F1 m acts.length ps.length) (fun g => [(2, .slice a0 ps.length cap), (3, .slice a1 acts.length cap1), (9, .int .i64 m), (10, ptrV q), (12, g.wf.val g.ls.length), (13, .int .u64 g.nx), (14, .int .i64 g.k), (15, .int .i64 g.i)]) (fun g => g.F) (fun g => QH q 64 m g.nx g.bf g.rs (g.wf.ents (g.ls.map (·.1)) ++ [])) (fun g => acts.length - g.i)
          ⟨0, frm, 0, .nil, [], .nil, [], F1⟩ ⟨Fz.le_refl _, Nat.zero_le _, hfr, Nat.zero_le _, rfl, rfl, by simp, by simp, by simp, rfl⟩ ⟨rfl, rfl, rfl, rfl, rfl, rfl, rfl, rfl, trivial⟩ rfl rfl ?_
        rintro ⟨i, nx, k, wf, ls, bf, rs, F2⟩ ⟨hF2, hi, hnx, hk, hwf, hbf, hfew, hfl, hfrz, heq⟩ IH
        dsimp only at hF2 hi hnx hk hwf hbf hfew hfl hfrz heq ⊢
        have hlen : rs.length = ls.length := by have := congrArg List.length heq; simpa using this
        refine r_seq ?_
        refine r_seq ?_
        refine r_region rfl ?_
        refine o_val rfl rfl rfl rfl (v_move rfl) ?_
        refine o_val rfl rfl rfl rfl (v_move rfl) ?_
        refine o_val rfl rfl rfl rfl (v_len rfl rfl) ?_
        refine o_val rfl rfl rfl rfl (v_lss rfl rfl) ?_
        refine o_end ?_
        refine r_if rfl (fun c0 => ?_) (fun c0 => ?_)
        · have hil : i < acts.length := by omega
          obtain ⟨b2, off2, c2, hab, hcell⟩ := byte_cell (hu.frz (F' := F2) (H := []) (Fz.le_trans hF1 hF2)) hil
          simp only [Value.slice.injEq] at hab
          obtain ⟨rfl, _, rfl⟩ := hab
          have hm5 : (acts[i].toNat : Int).tmod 5 = ((acts[i].toNat % 5 : Nat) : Int) := rfl
          have hxb := acts[i].toNat_lt
          generalize acts[i] = x at *
          refine r_skip ?_
          refine r_seq ?_
          refine r_block ?_
          refine r_seq ?_
          refine r_join (fun g : LG => LG.ok F1 m acts.length ps.length g ∧ g.i = i) (fun g => [(2, .slice a0 ps.length cap), (3, .slice (some ⟨b2, off2, none⟩) acts.length cap1), (9, .int .i64 m), (10, ptrV q), (12, g.wf.val g.ls.length), (13, .int .u64 g.nx), (14, .int .i64 g.k), (15, .int .i64 i)]) (fun g => g.F) (fun g => QH q 64 m g.nx g.bf g.rs (g.wf.ents (g.ls.map (·.1)) ++ [])) ?_ ?_
          · intro JS
            have hsame : ∀ F', F2.le F' → LG.ok F1 m acts.length ps.length ⟨i, nx, k, wf, ls, bf, rs, F'⟩ := fun F' hle => ⟨Fz.le_trans hF2 hle, hi, hnx, hk, hwf, hbf, hfew, fun r hr => (hfl r hr).frz hle, fun r hr => (hfrz r hr).frz hle, heq⟩
            refine r_seq ?_
            refine r_region rfl ?_
            refine o_val rfl rfl rfl rfl (v_move rfl) ?_
            refine o_val rfl rfl rfl rfl (v_move rfl) ?_
            refine o_val rfl rfl rfl rfl (v_index1 rfl rfl rfl rfl hil) ?_
            refine o_val rfl rfl rfl rfl (v_load rfl rfl (hcell.mono (Fz.le_refl _) (by simp))) ?_
            refine o_val rfl rfl rfl rfl (v_rem rfl rfl (by decide) hm5) ?_
            refine o_end ?_
            obtain ⟨c, hc⟩ : ∃ c, c = x.toNat % 5 := ⟨_, rfl⟩
            rw [← hc]
            refine r_block ?_
            refine r_seq ?_
            refine r_join (fun _ : Unit => True) (fun _ => [(2, .slice a0 ps.length cap), (3, .slice (some ⟨b2, off2, none⟩) acts.length cap1), (9, .int .i64 m), (10, ptrV q), (12, wf.val ls.length), (13, .int .u64 nx), (14, .int .i64 k), (15, .int .i64 i), (56, .int .u8 c), (64, .bool (decide (c = 0 ∨ c = 1)))]) (fun _ => F2) (fun _ => QH q 64 m nx bf rs (wf.ents (ls.map (·.1)) ++ [])) ?_ ?_
            · intro J
              refine r_seq ?_
              refine r_region rfl ?_
              refine o_val rfl rfl rfl rfl (v_eql rfl rfl) ?_
              refine j_prop 65 rfl (fun c1 => ?_) (fun c1 => ?_)
              · rw [decide_eq_true (p := c = 0 ∨ c = 1) (by omega)] at J
                refine o_val rfl rfl rfl rfl (v_assign rfl) ?_
                refine o_end ?_
                refine r_true rfl ?_
                refine r_skip ?_
                refine j_keep ?_ (J () trivial)
                exact ⟨rfl, rfl, rfl, rfl, rfl, rfl, rfl, rfl, rfl, rfl, trivial⟩
              · refine o_val rfl rfl rfl rfl (v_assign rfl) ?_
                refine o_end ?_
                refine r_false rfl ?_
                refine r_region rfl ?_
                refine o_val rfl rfl rfl rfl (v_eql rfl rfl) ?_
                refine o_val rfl rfl rfl rfl (v_assign rfl) ?_
                refine o_end ?_
                have e6 : ((c : Int) = 1) ↔ (c = 0 ∨ c = 1) := by omega
                refine j_slot 64 rfl (v' := .bool (decide (c = 0 ∨ c = 1))) (by congr 1; exact decide_eq_decide.2 e6) ?_
                refine j_keep ?_ (J () trivial)
                exact ⟨rfl, rfl, rfl, rfl, rfl, rfl, rfl, rfl, rfl, rfl, trivial⟩
            · rintro _ _
              refine r_if rfl (fun c1 => ?_) (fun c1 => ?_)
              · -- one more message
                refine r_seq ?_
                refine r_seq ?_
                refine r_region rfl ?_
                refine o_val rfl rfl rfl rfl (v_move rfl) ?_
                refine o_val rfl rfl rfl rfl (v_move rfl) ?_
                refine o_val rfl rfl rfl rfl (v_len rfl rfl) ?_
                refine o_val rfl rfl rfl rfl (v_geq rfl rfl) ?_
                refine j_prop 70 rfl (fun c2 => ?_) (fun c2 => ?_)
                · refine o_val rfl rfl rfl rfl (v_move rfl) ?_
                  refine o_skip rfl rfl rfl rfl ?_
                  refine o_skip rfl rfl rfl rfl ?_
                  refine o_skip rfl rfl rfl rfl ?_
                  refine o_skip rfl rfl rfl rfl ?_
                  refine o_skip rfl rfl rfl rfl ?_
                  refine o_skip rfl rfl rfl rfl ?_
                  refine o_val rfl rfl rfl rfl (v_pick1 rfl rfl) ?_
                  refine o_end ?_
                  refine r_true rfl ?_
                  refine r_exit rfl ?_
                  refine r_region rfl ?_
                  refine o_val rfl rfl rfl rfl (v_move rfl) ?_
                  refine o_val rfl rfl rfl rfl (v_add rfl rfl (wrap_i64 (by omega) (by omega))) ?_
                  refine o_val rfl rfl rfl rfl (v_assign rfl) ?_
                  refine o_end ?_
                  refine j_keep ?_ (IH ⟨i + 1, nx, k, wf, ls, bf, rs, F2⟩ ⟨hF2, hil, hnx, hk, hwf, hbf, hfew, hfl, hfrz, heq⟩ (by dsimp only; omega))
                  exact ⟨rfl, rfl, rfl, rfl, rfl, rfl, rfl, rfl, trivial⟩
                · have hkl : k < ps.length := by omega
                  obtain ⟨b3, off3, c3, hab3, hc3⟩ := row_cell (hv.frz (F' := F2) (H := []) (Fz.le_trans hF1 hF2)) hkl
                  simp only [Value.slice.injEq] at hab3
                  obtain ⟨rfl, _, rfl⟩ := hab3
                  have hpk := (hps ps[k] (List.getElem_mem _)).frz (F' := F2) (H := []) (Fz.le_trans hF1 hF2)
                  generalize ps[k] = y at *
                  obtain ⟨ay, cy, hy, _⟩ := Sl.shape hpk
                  rw [hy] at hc3 hpk
                  refine o_val rfl rfl rfl rfl (v_move rfl) ?_
                  refine o_val rfl rfl rfl rfl (v_move rfl) ?_
                  refine o_val rfl rfl rfl rfl (v_move rfl) ?_
                  refine o_val rfl rfl rfl rfl (v_index1 rfl rfl rfl rfl hkl) ?_
                  refine o_val rfl rfl rfl rfl (v_load rfl rfl (hc3.mono (Fz.le_refl _) (by simp))) ?_
                  refine o_val rfl rfl rfl rfl (v_len rfl rfl) ?_
                  refine o_val rfl rfl rfl rfl (v_gtr rfl rfl) ?_
                  refine o_val rfl rfl rfl rfl (v_pick0 rfl rfl) ?_
                  refine o_end ?_
                  refine r_if rfl (fun c3 => ?_) (fun c3 => ?_)
                  · refine r_exit rfl ?_
                    refine r_region rfl ?_
                    refine o_val rfl rfl rfl rfl (v_move rfl) ?_
                    refine o_val rfl rfl rfl rfl (v_add rfl rfl (wrap_i64 (by omega) (by omega))) ?_
                    refine o_val rfl rfl rfl rfl (v_assign rfl) ?_
                    refine o_end ?_
                    refine j_keep ?_ (IH ⟨i + 1, nx, k, wf, ls, bf, rs, F2⟩ ⟨hF2, hil, hnx, hk, hwf, hbf, hfew, hfl, hfrz, heq⟩ (by dsimp only; omega))
                    exact ⟨rfl, rfl, rfl, rfl, rfl, rfl, rfl, rfl, trivial⟩
                  · have hse : splitE ((64 : Nat) : Int) y.2 = 0 := split_400 (by omega)
                    refine r_skip ?_
                    refine r_seq ?_
                    refine r_region rfl ?_
                    refine o_val rfl rfl rfl rfl (v_move rfl) ?_
                    refine o_val rfl rfl rfl rfl (v_move rfl) ?_
                    refine o_val rfl rfl rfl rfl (v_move rfl) ?_
                    refine o_val rfl rfl rfl rfl (v_index1 rfl rfl rfl rfl hkl) ?_
                    refine o_val rfl rfl rfl rfl (v_load rfl rfl (hc3.mono (Fz.le_refl _) (by simp))) ?_
                    refine o_call rfl rfl rfl rfl (c_call callable12 rfl) (ref_Split _ _ ((64 : Nat) : Int) nx _ y.2 _ hpk (by omega)) ?_
                    rintro v' F3 H' ⟨hF3, fs, bs, hbs, rfl, hfs, hffz, rfl⟩ _
                    have hfl2 : fs.length = (splitR ((64 : Nat) : Int) nx y.2).length := by rw [← hfs]; simp
                    have hpe : putE 64 m nx rs.length y.2 = if m < ls.length + fs.length then 3 else 0 := by
                      unfold putE
                      rw [if_neg (by rw [hse]; simp), ← hfl2, hlen]
                    have hfb : fs.length ≤ 1000 := by
                      rw [hfl2]
                      unfold splitR splitL
                      rw [if_pos hse, List.length_map, List.length_range]
                      show partsN 64 y.2.length ≤ 1000
                      unfold partsN
                      have h2 : (y.2.length + (64 - 19) - 1) / (64 - 19) ≤ 400 + 44 := Nat.le_trans (Nat.div_le_self _ _) (by omega)
                      generalize (y.2.length + (64 - 19) - 1) / (64 - 19) = q at *
                      omega
                    have hpk3 := hpk.frz (F' := F3) (H := []) hF3
                    have hc33 := hc3.mono (F' := F3) (H' := []) hF3 (by simp)
                    have hnsum : ls.length + fs.length ≤ 2000 := by omega
                    have hhead : ∀ (F' : Fz) (wf' : Wf) (ls' : List Row) (nx' k' : Nat) (bf' : Bf) (rs' : List Row), LG.ok F1 m acts.length ps.length ⟨i, nx', k', wf', ls', bf', rs', F'⟩ → Jd _ [(2, .slice (some ⟨b3, off3, none⟩) ps.length cap), (3, .slice (some ⟨b2, off2, none⟩) acts.length cap1), (9, .int .i64 m), (10, ptrV q), (12, wf'.val ls'.length), (13, .int .u64 nx'), (14, .int .i64 k'), (15, .int .i64 i)] F' (QH q 64 m nx' bf' rs' (wf'.ents (ls'.map (·.1)) ++ [])) _ := fun F' wf' ls' nx' k' bf' rs' ok => JS ⟨i, nx', k', wf', ls', bf', rs', F'⟩ ⟨ok, rfl⟩
                    refine o_val rfl rfl rfl rfl (v_move rfl) ?_
                    refine o_val rfl rfl rfl rfl (v_extract rfl rfl) ?_
                    refine o_val rfl rfl rfl rfl (v_extract rfl rfl) ?_
                    refine o_val rfl rfl rfl rfl (v_assign rfl) ?_
                    refine o_val rfl rfl rfl rfl (v_assign rfl) ?_
                    refine o_end ?_
                    refine r_seq ?_
                    refine r_region rfl ?_
                    refine o_val rfl rfl rfl rfl (v_assign rfl) ?_
                    refine o_end ?_
                    refine r_seq ?_
                    refine r_seq ?_
                    refine r_region rfl ?_
                    refine o_val rfl rfl rfl rfl (v_move rfl) ?_
                    refine o_val rfl rfl rfl rfl (v_len rfl rfl) ?_
                    refine o_val rfl rfl rfl rfl (v_move rfl) ?_
                    refine o_val rfl rfl rfl rfl (v_len rfl rfl) ?_
                    refine o_val rfl rfl rfl rfl (v_add rfl rfl (r := ((ls.length + fs.length : Nat) : Int)) (wrap_i64 (by omega) (by omega))) ?_
                    refine o_val rfl rfl rfl rfl (v_move rfl) ?_
                    refine o_val rfl rfl rfl rfl (v_gtr rfl rfl) ?_
                    refine o_end ?_
                    refine r_if rfl (fun c4 => ?_) (fun c4 => ?_)
                    · rw [if_pos (by omega)] at hpe
                      refine j_drop (H' := QH q 64 m nx bf rs (wf.ents (ls.map (·.1)) ++ [])) (List.sublist_append_right _ _) ?_
                      refine r_region rfl ?_
                      refine o_val rfl rfl rfl rfl (v_assign rfl) ?_
                      refine o_end ?_
                      refine r_seq ?_
                      refine r_seq ?_
                      refine r_region rfl ?_
                      refine o_val rfl rfl rfl rfl (v_move rfl) ?_
                      refine o_val rfl rfl rfl rfl (v_move rfl) ?_
                      refine o_val rfl rfl rfl rfl (v_move rfl) ?_
                      refine o_val rfl rfl rfl rfl (v_index1 rfl rfl rfl rfl hkl) ?_
                      refine o_val rfl rfl rfl rfl (v_load rfl rfl (hc33.mono (Fz.le_refl _) (by simp))) ?_
                      refine o_call rfl rfl rfl rfl (c_call callable9 rfl) (q_Put _ _ q 64 m nx bf rs _ y.2 _ hbf hpk3 (by omega) (by omega) hfew (by decide) hnx (fun r hr => (hfrz r hr).frz hF3)) ?_
                      rintro v' F4 H' ⟨hF4, rfl, hput⟩ _
                      rw [hpe] at hput ⊢
                      rcases hput with ⟨_, rfl⟩ | ⟨hne, _⟩
                      · refine o_val rfl rfl rfl rfl (v_move rfl) ?_
                        refine o_val rfl rfl rfl rfl (v_neq rfl rfl) ?_
                        refine o_end ?_
                        refine r_false rfl ?_
                        refine r_skip ?_
                        refine r_region rfl ?_
                        refine o_val rfl rfl rfl rfl (v_move rfl) ?_
                        refine o_val rfl rfl rfl rfl (v_add rfl rfl (r := ((k + 1 : Nat) : Int)) (wrap_i64 (by omega) (by omega))) ?_
                        refine o_val rfl rfl rfl rfl (v_assign rfl) ?_
                        refine o_end ?_
                        refine r_inBlock ?_
                        refine j_keep ?_ (hhead F4 wf ls nx (k + 1) bf rs ⟨Fz.le_trans hF2 (Fz.le_trans hF3 hF4), hi, hnx, hkl, hwf, hbf, hfew, fun r hr => (hfl r hr).frz (Fz.le_trans hF3 hF4), fun r hr => (hfrz r hr).frz (Fz.le_trans hF3 hF4), heq⟩)
                        exact ⟨rfl, rfl, rfl, rfl, rfl, rfl, rfl, rfl, trivial⟩
                      · exact absurd hne (by decide)
                    · rw [if_neg (by omega)] at hpe
                      refine j_heap (H' := bs.ents 1 (fs.map (·.1)) ++ (QE q 64 m nx bf rs.length :: (bf.ents 1 (rs.map (·.1)) ++ (wf.ents (ls.map (·.1)) ++ [])))) rfl ?_
                      refine j_sel (H' := bs.ents 1 (fs.map (·.1)) ++ (wf.ents (ls.map (·.1)) ++ (QE q 64 m nx bf rs.length :: (bf.ents 1 (rs.map (·.1)))))) [bs.ents 1 (fs.map (·.1)), [QE q 64 m nx bf rs.length], bf.ents 1 (rs.map (·.1)), wf.ents (ls.map (·.1)), []] [0, 3, 1, 2] rfl rfl rfl ?_
                      refine r_seq ?_
                      refine r_region rfl ?_
                      refine o_val rfl rfl rfl rfl (v_move rfl) ?_
                      refine o_val rfl rfl rfl rfl (v_move rfl) ?_
                      refine o_act rfl rfl rfl rfl (a_appendW (bs.ents 1 (fs.map (·.1))) (wf := wf) (n := ls.length) (m := fs.length) (sz := 1) (bytes := 24) ⟨⟨_, _, _, rfl, rfl, rfl, rfl, rfl, rfl⟩, by decide⟩ rfl hwf (by simp) rfl rfl (Bf.reads (bf := bs) (sz := 1) hbs (by simp) (by intro z hz; simp [hz])) (row_one hffz) (by unfold maxLen; omega) (by omega)) ?_
                      rintro v' H' ⟨wf2, rfl, hwf2, rfl⟩
                      rw [← List.map_append]
                      have hll : ls.length + fs.length = (ls ++ fs).length := by simp
                      rw [hll] at hwf2 ⊢
                      refine j_sel (H' := QE q 64 m nx bf rs.length :: (bf.ents 1 (rs.map (·.1)) ++ (wf2.ents ((ls ++ fs).map (·.1))))) [bs.ents 1 (fs.map (·.1)), wf2.ents ((ls ++ fs).map (·.1)), [QE q 64 m nx bf rs.length], bf.ents 1 (rs.map (·.1))] [2, 3, 1] rfl rfl rfl ?_
                      refine j_heap (H' := QH q 64 m nx bf rs (wf2.ents ((ls ++ fs).map (·.1)) ++ [])) (by rw [List.append_nil]) ?_
                      refine o_val rfl rfl rfl rfl (v_assign rfl) ?_
                      refine o_end ?_
                      refine r_region rfl ?_
                      refine o_val rfl rfl rfl rfl (v_move rfl) ?_
                      refine o_val rfl rfl rfl rfl (v_add rfl rfl (r := (((nx + 1) % 18446744073709551616 : Nat) : Int)) (by rw [wrap_u64']; omega)) ?_
                      refine o_val rfl rfl rfl rfl (v_assign rfl) ?_
                      refine o_end ?_
                      refine r_seq ?_
                      refine r_seq ?_
                      refine r_region rfl ?_
                      refine o_val rfl rfl rfl rfl (v_move rfl) ?_
                      refine o_val rfl rfl rfl rfl (v_move rfl) ?_
                      refine o_val rfl rfl rfl rfl (v_move rfl) ?_
                      refine o_val rfl rfl rfl rfl (v_index1 rfl rfl rfl rfl hkl) ?_
                      refine o_val rfl rfl rfl rfl (v_load rfl rfl (hc33.mono (Fz.le_refl _) (by simp))) ?_
                      refine o_call rfl rfl rfl rfl (c_call callable9 rfl) (q_Put _ _ q 64 m nx bf rs _ y.2 _ hbf hpk3 (by omega) (by omega) hfew (by decide) hnx (fun r hr => (hfrz r hr).frz hF3)) ?_
                      rintro v' F4 H' ⟨hF4, rfl, hput⟩ _
                      rw [hpe] at hput ⊢
                      rcases hput with ⟨hne, _⟩ | ⟨_, ns, bf2, hns, hfn, hok2, hfew2, rfl⟩
                      · exact absurd rfl hne
                      · refine o_val rfl rfl rfl rfl (v_move rfl) ?_
                        refine o_val rfl rfl rfl rfl (v_neq rfl rfl) ?_
                        refine o_end ?_
                        refine r_false rfl ?_
                        refine r_skip ?_
                        refine r_region rfl ?_
                        refine o_val rfl rfl rfl rfl (v_move rfl) ?_
                        refine o_val rfl rfl rfl rfl (v_add rfl rfl (r := ((k + 1 : Nat) : Int)) (wrap_i64 (by omega) (by omega))) ?_
                        refine o_val rfl rfl rfl rfl (v_assign rfl) ?_
                        refine o_end ?_
                        refine r_inBlock ?_
                        refine j_keep ?_ (hhead F4 wf2 (ls ++ fs) ((nx + 1) % 18446744073709551616) (k + 1) bf2 (rs ++ ns) ⟨Fz.le_trans hF2 (Fz.le_trans hF3 hF4), hi, Nat.mod_lt _ (by decide), hkl, hwf2, hok2, hfew2, fun r hr => by
                          rcases List.mem_append.1 hr with hr | hr
                          · exact (hfl r hr).frz (Fz.le_trans hF3 hF4)
                          · exact (hffz r hr).frz hF4, fun r hr => by
                          rcases List.mem_append.1 hr with hr | hr
                          · exact (hfrz r hr).frz (Fz.le_trans hF3 hF4)
                          · exact hfn r hr, by
                          dsimp only
                          rw [List.map_append, List.map_append, heq, hns, hfs]⟩)
                        exact ⟨rfl, rfl, rfl, rfl, rfl, rfl, rfl, rfl, trivial⟩
              · -- a slot, or none
                refine r_seq ?_
                refine r_join (fun _ : Unit => True) (fun _ => [(2, .slice a0 ps.length cap), (3, .slice (some ⟨b2, off2, none⟩) acts.length cap1), (9, .int .i64 m), (10, ptrV q), (12, wf.val ls.length), (13, .int .u64 nx), (14, .int .i64 k), (15, .int .i64 i), (110, .bool (decide (c = 2 ∨ c = 3)))]) (fun _ => F2) (fun _ => QH q 64 m nx bf rs (wf.ents (ls.map (·.1)) ++ [])) ?_ ?_
                · intro J
                  refine r_seq ?_
                  refine r_region rfl ?_
                  refine o_val rfl rfl rfl rfl (v_eql rfl rfl) ?_
                  refine j_prop 111 rfl (fun d1 => ?_) (fun d1 => ?_)
                  · rw [decide_eq_true (p := c = 2 ∨ c = 3) (by omega)] at J
                    refine o_val rfl rfl rfl rfl (v_assign rfl) ?_
                    refine o_end ?_
                    refine r_true rfl ?_
                    refine r_skip ?_
                    refine j_keep ?_ (J () trivial)
                    exact ⟨rfl, rfl, rfl, rfl, rfl, rfl, rfl, rfl, rfl, trivial⟩
                  · refine o_val rfl rfl rfl rfl (v_assign rfl) ?_
                    refine o_end ?_
                    refine r_false rfl ?_
                    refine r_region rfl ?_
                    refine o_val rfl rfl rfl rfl (v_eql rfl rfl) ?_
                    refine o_val rfl rfl rfl rfl (v_assign rfl) ?_
                    refine o_end ?_
                    have e6 : ((c : Int) = 3) ↔ (c = 2 ∨ c = 3) := by omega
                    refine j_slot 110 rfl (v' := .bool (decide (c = 2 ∨ c = 3))) (by congr 1; exact decide_eq_decide.2 e6) ?_
                    refine j_keep ?_ (J () trivial)
                    exact ⟨rfl, rfl, rfl, rfl, rfl, rfl, rfl, rfl, rfl, trivial⟩
                · rintro _ _
                  have hlb : ls.length ≤ 20 := by omega
                  refine r_if rfl (fun d1 => ?_) (fun d1 => ?_)
                  · refine r_seq ?_
                    refine r_region rfl ?_
                    refine o_call rfl rfl rfl rfl (c_call callable13 rfl) (ref_Dummy _ _ ((64 : Nat) : Int) _) ?_
                    rintro v' F2 H' ⟨rfl, bd, hod, rfl, rfl⟩ _
                    refine j_freezeBf hod (by simp) fun F3 hF3 hs3 => ?_
                    refine o_val rfl rfl rfl rfl (v_assign rfl) ?_
                    refine o_end ?_
                    refine r_seq ?_
                    refine r_join (fun g : Value × Wf => SlB F3 [] g.1 (slotB 64 ls) ∧ g.2.ok 1 ls.tail.length) (fun g => [(2, .slice a0 ps.length cap), (3, .slice (some ⟨b2, off2, none⟩) acts.length cap1), (9, .int .i64 m), (10, ptrV q), (12, g.2.val ls.tail.length), (13, .int .u64 nx), (14, .int .i64 k), (15, .int .i64 i), (19, g.1)]) (fun _ => F3) (fun g => QH q 64 m nx bf rs (g.2.ents (ls.tail.map (·.1)) ++ [])) ?_ ?_
                    · intro J
                      refine r_seq ?_
                      refine r_region rfl ?_
                      refine o_val rfl rfl rfl rfl (v_move rfl) ?_
                      refine o_val rfl rfl rfl rfl (v_len rfl rfl) ?_
                      refine o_val rfl rfl rfl rfl (v_gtr rfl rfl) ?_
                      refine o_end ?_
                      refine r_if rfl (fun d2 => ?_) (fun d2 => ?_)
                      · match ls, d2, hwf, hfl, J with
                        | z :: rest, d2, hwf, hfl, J =>
                          have hz := (hfl z List.mem_cons_self).frz (F' := F3) (H := []) hF3
                          obtain ⟨az, cz, hze, _⟩ := Sl.shape hz
                          obtain ⟨b4, off4, c4, hab4, hc4⟩ := row_cell (rs := z :: rest) (i := 0) (Wf.reads (wf := wf) (sz := 1) (n := (z :: rest).length) (F := F3) (H := QH q 64 m nx bf rs (wf.ents ((z :: rest).map (·.1)) ++ [])) hwf (by simp) (by intro w hw; exact List.mem_cons_of_mem _ (List.mem_append_right _ (List.mem_append_left _ hw)))) (by simp)
                          simp only [List.getElem_cons_zero, Nat.add_zero] at hc4
                          rw [hze] at hc4
                          have hwv : wf.addr = some ⟨b4, off4, none⟩ ∧ wf.cp = c4 := by
                            have := hab4
                            simp only [Wf.val, Value.slice.injEq] at this
                            exact ⟨this.1, this.2.2⟩
                          refine r_seq ?_
                          refine r_region rfl ?_
                          refine o_val rfl rfl rfl rfl (v_move rfl) ?_
                          refine o_val rfl rfl rfl rfl (v_index1 (i := 0) rfl rfl (congrArg some hab4) rfl (by simp)) ?_
                          refine o_val rfl rfl rfl rfl (v_load rfl rfl hc4) ?_
                          refine o_val rfl rfl rfl rfl (v_assign rfl) ?_
                          refine o_end ?_
                          refine r_region rfl ?_
                          refine o_val rfl rfl rfl rfl (v_move rfl) ?_
                          refine o_val rfl rfl rfl rfl (v_sliceL (sz := 1) rfl rfl rfl rfl (l := 1) rfl (by simp)) ?_
                          refine o_val rfl rfl rfl rfl (v_assign rfl) ?_
                          refine o_end ?_
                          refine j_heap (H' := (QE q 64 m nx bf rs.length :: bf.ents 1 (rs.map (·.1))) ++ (wf.ents (z.1 :: rest.map (·.1)) ++ [])) rfl ?_
                          refine j_tailW (QE q 64 m nx bf rs.length :: bf.ents 1 (rs.map (·.1))) (wf := wf) (n := rest.length) (x := z.1) (xs := rest.map (·.1)) hwf (fun wf' hwf' hsl _ => ?_) (List.length_map _)
                          refine j_keep ?_ (J (.slice az z.2.length cz, wf') ⟨by rw [← hze]; exact hz, hwf'⟩)
                          exact ⟨rfl, rfl, rfl, rfl, congrArg some hsl, rfl, rfl, rfl, rfl, trivial⟩
                      · obtain rfl : ls = [] := List.eq_nil_of_length_eq_zero (by omega)
                        refine r_skip ?_
                        refine j_keep ?_ (J (bd.val (dummyB ((64 : Nat) : Int)).length, wf) ⟨hs3, hwf⟩)
                        exact ⟨rfl, rfl, rfl, rfl, rfl, rfl, rfl, rfl, rfl, trivial⟩
                    · rintro ⟨vg, wf2⟩ ⟨hvg, hwf2⟩
                      dsimp only at hvg hwf2 ⊢
                      refine r_seq ?_
                      refine d_region 1000000 rfl ([]) ?_
                      refine d_take (i := 0) rfl rfl rfl (by decide +kernel) (by decide +kernel) (by decide +kernel) (Fz.le_refl _) (by simp) rfl (v_move rfl) ?_
                      refine d_take (i := 3) rfl rfl rfl (by decide +kernel) (by decide +kernel) (by decide +kernel) (Fz.le_refl _) (by simp) rfl (v_move rfl) ?_
                      refine d_take (i := 4) rfl rfl rfl (by decide +kernel) (by decide +kernel) (by decide +kernel) (Fz.le_refl _) (by simp) rfl (v_bytesString rfl rfl rfl rfl (l := slotB 64 ls) (hvg.frz (Fz.le_refl _))) ?_
                      refine d_one (i := 1) (by decide +kernel) ?_
                      refine d1_call rfl rfl rfl rfl (c_call callable10 rfl) (q_Slot _ _ q 64 m nx bf rs _ hbf (by omega) (fun r hr => (hfrz r hr).frz hF3)) ?_
                      rintro v1 F4 H' ⟨hF4, hs4, bf2, hok2, rfl⟩ _
                      refine ⟨fun w hw => held_of hw (by first | exact Fz.le_refl _ | assumption) (by simp), ?_⟩
                      refine d_more ([]) (by first | assumption | exact Fz.le_refl _) (by simp) ?_
                      refine d_take (i := 2) rfl rfl rfl (by decide +kernel) (by decide +kernel) (by decide +kernel) (Fz.le_refl _) (by simp) rfl (v_bytesString rfl rfl rfl rfl (l := slotB 64 rs) (hs4.frz (Fz.le_refl _))) ?_
                      refine d_take (i := 5) rfl rfl rfl (by decide +kernel) (by decide +kernel) (by decide +kernel) (Fz.le_refl _) (by simp) rfl (v_sneq rfl rfl) ?_
                      refine d_end (by decide +kernel) ?_
                      refine j_slot 127 rfl (v' := .bool false) (by rw [slotB_eq heq]; simp) ?_
                      refine r_false rfl ?_
                      refine r_skip ?_
                      refine r_inBlock ?_
                      refine j_keep ?_ (JS ⟨i, nx, k, wf2, ls.tail, bf2, rs.tail, F4⟩ ⟨⟨Fz.le_trans hF2 (Fz.le_trans hF3 hF4), hi, hnx, hk, hwf2, hok2, by simp; omega, fun r hr => (hfl r (List.mem_of_mem_tail hr)).frz (Fz.le_trans hF3 hF4), fun r hr => (hfrz r (List.mem_of_mem_tail hr)).frz (Fz.le_trans hF3 hF4), by
                        dsimp only
                        rw [List.map_tail, List.map_tail, heq]⟩, rfl⟩)
                      exact ⟨rfl, rfl, rfl, rfl, rfl, rfl, rfl, rfl, trivial⟩
                  · refine r_seq ?_
                    refine r_region rfl ?_
                    refine o_val rfl rfl rfl rfl (v_move rfl) ?_
                    refine o_val rfl rfl rfl rfl (v_move rfl) ?_
                    refine o_val rfl rfl rfl rfl (v_index1 rfl rfl rfl rfl hil) ?_
                    refine o_val rfl rfl rfl rfl (v_load rfl rfl (hcell.mono (Fz.le_refl _) (by simp))) ?_
                    refine o_val rfl rfl rfl rfl (v_gtr rfl rfl) ?_
                    refine o_end ?_
                    refine r_if rfl (fun d2 => ?_) (fun d2 => ?_)
                    · refine r_seq ?_
                      refine r_region rfl ?_
                      refine o_val rfl rfl rfl rfl (v_move rfl) ?_
                      refine o_call rfl rfl rfl rfl (c_call callable14 rfl) (q_Clear _ _ q 64 m nx bf rs _) ?_
                      rintro v' F2 H' ⟨rfl, rfl, rfl⟩ _
                      refine o_end ?_
                      refine r_region rfl ?_
                      refine o_val rfl rfl rfl rfl (v_assign rfl) ?_
                      refine o_end ?_
                      refine r_inBlock ?_
                      refine j_heap (H' := QE q 64 m nx .nil 0 :: (wf.ents (ls.map (·.1)) ++ [])) rfl ?_
                      refine j_sel (H' := QE q 64 m nx .nil 0 :: ([])) [[QE q 64 m nx .nil 0], wf.ents (ls.map (·.1)), []] [0, 2] rfl rfl rfl ?_
                      refine j_keep ?_ (JS ⟨i, nx, k, .nil, [], .nil, [], F2⟩ ⟨⟨hF2, hi, hnx, hk, rfl, rfl, by simp, by simp, by simp, rfl⟩, rfl⟩)
                      exact ⟨rfl, rfl, rfl, rfl, rfl, rfl, rfl, rfl, trivial⟩
                    · refine r_skip ?_
                      refine r_inBlock ?_
                      refine j_keep ?_ (JS ⟨i, nx, k, wf, ls, bf, rs, F2⟩ ⟨hsame F2 (Fz.le_refl _), rfl⟩)
                      exact ⟨rfl, rfl, rfl, rfl, rfl, rfl, rfl, rfl, trivial⟩
          · rintro ⟨i', nx, k, wf, ls, bf, rs, F3⟩ ⟨⟨hF3, hi3, hnx, hk, hwf, hbf, hfew, hfl, hfrz, heq⟩, hii⟩
            dsimp only at hF3 hi3 hnx hk hwf hbf hfew hfl hfrz heq hii ⊢
            subst hii
            have hlen : rs.length = ls.length := by have := congrArg List.length heq; simpa using this
            refine r_seq ?_
            refine r_region rfl ?_
            refine o_val rfl rfl rfl rfl (v_move rfl) ?_
            refine o_call rfl rfl rfl rfl (c_call callable11 rfl) (q_Len _ _ q 64 m nx bf _ _) ?_
            rintro v' F3 H' ⟨rfl, rfl, rfl⟩ _
            refine o_val rfl rfl rfl rfl (v_move rfl) ?_
            refine o_val rfl rfl rfl rfl (v_len rfl rfl) ?_
            refine o_val rfl rfl rfl rfl (v_neq rfl rfl) ?_
            refine o_end ?_
            refine j_slot 132 rfl (v' := .bool false) (by rw [hlen]; simp) ?_
            refine r_false rfl ?_
            refine r_skip ?_
            refine r_inBlock ?_
            refine r_region rfl ?_
            refine o_val rfl rfl rfl rfl (v_move rfl) ?_
            refine o_val rfl rfl rfl rfl (v_add rfl rfl (wrap_i64 (by omega) (by omega))) ?_
            refine o_val rfl rfl rfl rfl (v_assign rfl) ?_
            refine o_end ?_
            refine j_keep ?_ (IH ⟨i' + 1, nx, k, wf, ls, bf, rs, F3⟩ ⟨hF3, hil, hnx, hk, hwf, hbf, hfew, hfl, hfrz, heq⟩ (by dsimp only; omega))
            exact ⟨rfl, rfl, rfl, rfl, rfl, rfl, rfl, rfl, trivial⟩
        · refine r_exit rfl ?_
          refine r_seq ?_
          refine r_region rfl ?_
          refine o_val rfl rfl rfl rfl (v_assign rfl) ?_
          refine o_end ?_
          exact r_ret1 Try.func5 rfl rfl ⟨rfl, Fz.le_trans hF1 hF2⟩
theorem in_QueuePlays (W : World) (n : Int) (hn : (Lit.int .u8 n).wf = true) (s : Int) (hs : (Lit.int .u64 s).wf = true) (t : Value) (rs : List (Value × List UInt8)) (ht : InRows W t rs) (hr : rs.length ≤ 9223372036854775807) (v : Value) (z0 : List Int) (h0 : InInts .u8 W v z0) (y0 : z0.length * 1 ≤ 140737488351232) :
    Calls Try.prog 5 #[.int .u8 n, .int .u64 s, t, v] W fun e w' => e = .returned (.bool true) ∧ Go.RowKit.Below W.heap.size W w' := by
  obtain ⟨l0, hl0, hv⟩ := inBytes h0
  simp [Lit.wf, IntKind.min, IntKind.max, IntKind.signed, IntKind.bits] at hn hs
  obtain ⟨n, rfl⟩ := Int.eq_ofNat_of_zero_le hn.1
  obtain ⟨s, rfl⟩ := Int.eq_ofNat_of_zero_le hs.1
  exact below_of_does (law_QueuePlays _ _ n s _ rs _ l0 (by omega) (by omega) ht.1 ht.2 hv)
end Go.SX
