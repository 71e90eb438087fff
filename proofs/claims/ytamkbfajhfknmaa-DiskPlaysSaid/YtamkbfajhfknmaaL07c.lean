/-
  Chapter 07: the law DiskPlays.
-/
import Derived.Test.YtamkbfajhfknmaaL07b
namespace Go.SX
open Go Go.Proofs
set_option linter.unusedSimpArgs false
set_option linter.unusedVariables false

structure DG where
  i : Nat
  bd : Bf
  ba : Bf
  l : List UInt8
  sure : Nat
  ops : Nat
def DG.ok (n : Nat) (g : DG) : Prop := g.i ≤ n ∧ g.bd.ok g.l.length ∧ g.ba.ok g.l.length ∧ g.l.length ≤ 500 * g.i ∧ g.sure ≤ g.l.length ∧ g.ops ≤ g.i
def DG.mem (d : Nat) (g : DG) : List Ent := DkE d g.bd g.l g.sure g.ops :: (g.bd.ents 1 (bytesV g.l) ++ (g.ba.ents 1 (bytesV g.l) ++ []))

theorem law_DiskPlays (O : World) (F : Fz) (v u t : Value) (rs : List (Value × List UInt8)) (acts : List UInt8) (keeps : List Int) (hv : Sl F [] 1 v rs.length (rs.map (·.1))) (hr : ∀ r ∈ rs, SlB F [] r.1 r.2) (hu : SlB F [] u acts)
    (ht : Sl F [] 1 t keeps.length (keeps.map (.int .i64))) (hk : ∀ k ∈ keeps, -9223372036854775808 ≤ k ∧ k ≤ 9223372036854775807) :
    Does Try.prog O 4 #[v, u, t] F [] (fun r _ _ => r = .bool true) := by
  obtain ⟨a0, cap, rfl, hcap⟩ := Sl.shape hv
  obtain ⟨a1, cap1, rfl, hcap1⟩ := Sl.shape hu
  obtain ⟨a2, cap2, rfl, hcap2⟩ := Sl.shape ht
  refine does_of_run (args := [_, _, _]) Try.func4 rfl rfl ?_
  refine r_seq ?_
  refine r_region rfl ?_
  refine o_val rfl rfl rfl rfl (v_assign rfl) ?_
  refine o_end ?_
  refine r_seq ?_
  refine r_seq ?_
  refine r_region rfl ?_
  refine o_call rfl rfl rfl rfl (c_call callable6 rfl) (law_awake _ _ _) ?_
  rintro v' F1 H' ⟨rfl, rfl⟩ hF1
  refine o_val rfl rfl rfl rfl (v_not rfl) ?_
  refine o_val rfl rfl rfl rfl (v_move rfl) ?_
  refine o_val rfl rfl rfl rfl (v_move rfl) ?_
  refine o_val rfl rfl rfl rfl (v_len rfl rfl) ?_
  refine o_val rfl rfl rfl rfl (v_gtr rfl rfl) ?_
  refine o_val rfl rfl rfl rfl (v_pick0 rfl rfl) ?_
  refine o_val rfl rfl rfl rfl (v_move rfl) ?_
  refine j_prop 22 rfl (fun h0 => ?_) (fun h0 => ?_)
  · refine o_skip rfl rfl rfl rfl ?_
    refine o_skip rfl rfl rfl rfl ?_
    refine o_skip rfl rfl rfl rfl ?_
    refine o_val rfl rfl rfl rfl (v_pick1 rfl rfl) ?_
    refine o_end ?_
    refine r_true rfl ?_
    refine r_seq ?_
    refine r_region rfl ?_
    refine o_call rfl rfl rfl rfl (c_call callable6 rfl) (law_awake _ _ _) ?_
    rintro v' F2 H' ⟨rfl, rfl⟩ hF2
    refine o_val rfl rfl rfl rfl (v_assign rfl) ?_
    refine o_end ?_
    exact r_ret1 Try.func4 rfl rfl ⟨rfl, Fz.le_trans hF1 hF2⟩
  · refine o_val rfl rfl rfl rfl (v_move rfl) ?_
    refine o_val rfl rfl rfl rfl (v_len rfl rfl) ?_
    refine o_val rfl rfl rfl rfl (v_gtr rfl rfl) ?_
    refine o_val rfl rfl rfl rfl (v_pick0 rfl rfl) ?_
    refine o_end ?_
    refine r_if rfl (fun h => ?_) (fun h => ?_)
    · refine r_seq ?_
      refine r_region rfl ?_
      refine o_call rfl rfl rfl rfl (c_call callable6 rfl) (law_awake _ _ _) ?_
      rintro v' F2 H' ⟨rfl, rfl⟩ hF2
      refine o_val rfl rfl rfl rfl (v_assign rfl) ?_
      refine o_end ?_
      exact r_ret1 Try.func4 rfl rfl ⟨rfl, Fz.le_trans hF1 hF2⟩
    · have hal : acts.length ≤ 60 := by omega
      clear h0 h
      refine r_skip ?_
      refine r_seq ?_
      refine r_region rfl ?_
      refine o_call rfl rfl rfl rfl (c_call callable7 rfl) (dk_New _ _ _) ?_
      rintro v' F1 H' ⟨rfl, d, rfl, rfl⟩ _
      refine o_val rfl rfl rfl rfl (v_assign rfl) ?_
      refine o_end ?_
      refine r_seq ?_
      refine r_region rfl ?_
      refine o_val rfl rfl rfl rfl (v_assign rfl) ?_
      refine o_end ?_
      refine r_seq ?_
      refine r_region rfl ?_
      refine o_val rfl rfl rfl rfl (v_assign rfl) ?_
      refine o_end ?_
      refine r_seq ?_
      refine r_region rfl ?_
      refine o_val rfl rfl rfl rfl (v_assign rfl) ?_
      refine o_end ?_
      refine r_seq ?_
      refine r_seq ?_
      refine r_region rfl ?_
      refine o_val rfl rfl rfl rfl (v_assign rfl) ?_
      refine o_end ?_
      refine r_block ?_
      refine r_loop (DG.ok acts.length) (fun g => [(0, .slice a0 rs.length cap), (1, .slice a1 acts.length cap1), (2, .slice a2 keeps.length cap2), (7, ptrV d), (8, g.ba.val g.l.length), (9, .int .i64 g.sure), (10, .int .i64 g.ops), (11, .int .i64 g.i)]) (fun _ => F1) (DG.mem d) (fun g => acts.length - g.i)
        ⟨0, .nil, .nil, [], 0, 0⟩ ⟨Nat.zero_le _, rfl, rfl, Nat.zero_le _, Nat.zero_le _, Nat.zero_le _⟩ ⟨rfl, rfl, rfl, rfl, rfl, rfl, rfl, rfl, trivial⟩ rfl rfl ?_
      rintro ⟨i, bd, ba, l, sure, ops⟩ ⟨hi, hbd, hba, hl, hs, ho⟩ IH
      dsimp only [DG.mem] at hi hbd hba hl hs ho ⊢
      refine r_seq ?_
      refine r_seq ?_
      refine r_region rfl ?_
      refine o_val rfl rfl rfl rfl (v_move rfl) ?_
      refine o_val rfl rfl rfl rfl (v_move rfl) ?_
      refine o_val rfl rfl rfl rfl (v_len rfl rfl) ?_
      refine o_val rfl rfl rfl rfl (v_lss rfl rfl) ?_
      refine o_end ?_
      refine r_if rfl (fun h1 => ?_) (fun h1 => ?_)
      · have hil : i < acts.length := by omega
        obtain ⟨b1, off1, c1, hab, _, hcell⟩ := Sl.view (hu.frz (H := []) hF1) (by omega)
        simp only [Value.slice.injEq] at hab
        obtain ⟨rfl, _, rfl⟩ := hab
        have hask : Cell F1 [] b1 (off1 + i) (.int .u8 acts[i].toNat) := hcell i (byteV acts[i]) (by rw [bytesV_get, List.getElem?_eq_getElem hil]; rfl)
        have hq256 := acts[i].toNat_lt
        generalize acts[i].toNat = q at hask hq256
        have hask' : ∀ H, Cell F1 H b1 (off1 + i) (.int .u8 q) := fun H => hask.mono (Fz.le_refl _) (by simp)
        have h6 : (q : Int).tmod 6 = ((q % 6 : Nat) : Int) := rfl
        refine r_skip ?_
        refine r_seq ?_
        refine r_block ?_
        refine r_seq ?_
        refine r_region rfl ?_
        refine o_val rfl rfl rfl rfl (v_assign rfl) ?_
        refine o_end ?_
        refine r_seq ?_
        refine r_join (fun g : Value × List UInt8 => SlB F1 [] g.1 g.2) (fun g => [(0, .slice a0 rs.length cap), (1, .slice (some ⟨b1, off1, none⟩) acts.length cap1), (2, .slice a2 keeps.length cap2), (7, ptrV d), (8, ba.val l.length), (9, .int .i64 sure), (10, .int .i64 ops), (11, .int .i64 i), (12, g.1)]) (fun _ => F1) (fun _ => DkE d bd l sure ops :: (bd.ents 1 (bytesV l) ++ (ba.ents 1 (bytesV l) ++ []))) ?_ ?_
        · intro J
          refine r_seq ?_
          refine r_region rfl ?_
          refine o_val rfl rfl rfl rfl (v_move rfl) ?_
          refine o_val rfl rfl rfl rfl (v_move rfl) ?_
          refine o_val rfl rfl rfl rfl (v_len rfl rfl) ?_
          refine o_val rfl rfl rfl rfl (v_lss rfl rfl) ?_
          refine o_end ?_
          refine r_if rfl (fun h2 => ?_) (fun h2 => ?_)
          · have hir : i < rs.length := by omega
            obtain ⟨b0, off0, c0, hab, _, hcell0⟩ := Sl.view (hv.frz (H := []) hF1) (by omega)
            simp only [Value.slice.injEq] at hab
            obtain ⟨rfl, _, rfl⟩ := hab
            have hc0 : Cell F1 [] b0 (off0 + i) rs[i].1 := hcell0 i rs[i].1 (by rw [List.getElem?_map, List.getElem?_eq_getElem hir]; rfl)
            refine r_region rfl ?_
            refine o_val rfl rfl rfl rfl (v_move rfl) ?_
            refine o_val rfl rfl rfl rfl (v_move rfl) ?_
            refine o_val rfl rfl rfl rfl (v_index1 rfl rfl rfl rfl hir) ?_
            refine o_val rfl rfl rfl rfl (v_load rfl rfl (hc0.mono (Fz.le_refl _) (by simp))) ?_
            refine o_val rfl rfl rfl rfl (v_assign rfl) ?_
            refine o_end ?_
            refine j_keep ?_ (J (rs[i].1, rs[i].2) ((hr rs[i] (List.getElem_mem _)).frz hF1))
            exact ⟨rfl, rfl, rfl, rfl, rfl, rfl, rfl, rfl, rfl, trivial⟩
          · refine r_skip ?_
            refine j_keep ?_ (J (.slice none 0 0, []) (Sl.nil _ _ _))
            exact ⟨rfl, rfl, rfl, rfl, rfl, rfl, rfl, rfl, rfl, trivial⟩
        · rintro ⟨pv, p⟩ hp
          dsimp only at hp ⊢
          have hp' : ∀ H, SlB F1 H pv p := fun H => hp.frz (Fz.le_refl _)
          refine r_seq ?_
          refine r_seq ?_
          refine r_region rfl ?_
          refine o_val rfl rfl rfl rfl (v_move rfl) ?_
          refine o_val rfl rfl rfl rfl (v_lenS (hp' _) rfl rfl) ?_
          refine o_val rfl rfl rfl rfl (v_gtr rfl rfl) ?_
          refine o_end ?_
          refine r_if rfl (fun h2 => ?_) (fun h2 => ?_)
          · refine r_seq ?_
            refine r_region rfl ?_
            refine o_val rfl rfl rfl rfl (v_assign rfl) ?_
            refine o_end ?_
            exact r_ret1 Try.func4 rfl rfl ⟨rfl, hF1⟩
          · have hpl : p.length ≤ 500 := by omega
            refine r_skip ?_
            refine r_seq ?_
            refine r_region rfl ?_
            refine o_val rfl rfl rfl rfl (v_assign rfl) ?_
            refine o_end ?_
            refine r_seq ?_
            refine r_join (fun g => g.i = i + 1 ∧ DG.ok acts.length g) (fun g => [(0, .slice a0 rs.length cap), (1, .slice (some ⟨b1, off1, none⟩) acts.length cap1), (2, .slice a2 keeps.length cap2), (7, ptrV d), (8, g.ba.val g.l.length), (9, .int .i64 g.sure), (10, .int .i64 g.ops), (11, .int .i64 i), (13, .int .i64 0)]) (fun _ => F1) (DG.mem d) ?_ ?_
            · intro J
              refine r_seq ?_
              refine r_region rfl ?_
              refine o_val rfl rfl rfl rfl (v_move rfl) ?_
              refine o_val rfl rfl rfl rfl (v_move rfl) ?_
              refine o_val rfl rfl rfl rfl (v_index1 rfl rfl rfl rfl hil) ?_
              refine o_val rfl rfl rfl rfl (v_load rfl rfl (hask' _)) ?_
              refine o_val rfl rfl rfl rfl (v_rem rfl rfl (by decide) h6) ?_
              refine o_end ?_
              have hc6 : q % 6 < 6 := by omega
              generalize q % 6 = c at *
              refine r_block ?_
              refine r_seq ?_
              refine r_join (fun _ : Unit => True) (fun _ => [(0, .slice a0 rs.length cap), (1, .slice (some ⟨b1, off1, none⟩) acts.length cap1), (2, .slice a2 keeps.length cap2), (7, ptrV d), (8, ba.val l.length), (9, .int .i64 sure), (10, .int .i64 ops), (11, .int .i64 i), (12, pv), (13, .int .i64 0), (50, .int .u8 c), (80, .bool (decide (c ≤ 2)))]) (fun _ => F1) (fun _ => DkE d bd l sure ops :: (bd.ents 1 (bytesV l) ++ (ba.ents 1 (bytesV l) ++ []))) ?_ ?_
              · intro J2
                have e2 : c = 0 ∨ c = 1 ∨ c = 2 → Value.bool (decide (c ≤ 2)) = .bool true := fun h => by rw [decide_eq_true (by omega)]
                refine r_seq ?_
                refine r_region rfl ?_
                refine o_val rfl rfl rfl rfl (v_eql rfl rfl) ?_
                refine o_val rfl rfl rfl rfl (v_assign rfl) ?_
                refine o_end ?_
                refine r_if rfl (fun h3 => ?_) (fun h3 => ?_)
                · refine r_skip ?_
                  refine j_slot 80 rfl (v' := .bool (decide (c ≤ 2))) (by rw [decide_eq_true h3, decide_eq_true (by omega)]) ?_
                  refine j_keep ?_ (J2 () trivial)
                  exact ⟨rfl, rfl, rfl, rfl, rfl, rfl, rfl, rfl, rfl, rfl, rfl, rfl, trivial⟩
                · refine r_seq ?_
                  refine r_region rfl ?_
                  refine o_val rfl rfl rfl rfl (v_eql rfl rfl) ?_
                  refine o_val rfl rfl rfl rfl (v_assign rfl) ?_
                  refine o_end ?_
                  refine r_if rfl (fun h4 => ?_) (fun h4 => ?_)
                  · refine r_skip ?_
                    refine j_slot 80 rfl (v' := .bool (decide (c ≤ 2))) (by rw [decide_eq_true h4, decide_eq_true (by omega)]) ?_
                    refine j_keep ?_ (J2 () trivial)
                    exact ⟨rfl, rfl, rfl, rfl, rfl, rfl, rfl, rfl, rfl, rfl, rfl, rfl, trivial⟩
                  · refine r_region rfl ?_
                    refine o_val rfl rfl rfl rfl (v_eql rfl rfl) ?_
                    refine o_val rfl rfl rfl rfl (v_assign rfl) ?_
                    refine o_end ?_
                    refine j_slot 80 rfl (v' := .bool (decide (c ≤ 2))) (by rw [decide_eq_decide.2 (show ((c : Int) = 2 ↔ c ≤ 2) by omega)]) ?_
                    refine j_keep ?_ (J2 () trivial)
                    exact ⟨rfl, rfl, rfl, rfl, rfl, rfl, rfl, rfl, rfl, rfl, rfl, rfl, trivial⟩
              · rintro _ _
                refine r_if rfl (fun h3 => ?_) (fun h3 => ?_)
                · refine r_seq ?_
                  refine r_region rfl ?_
                  refine o_val rfl rfl rfl rfl (v_move rfl) ?_
                  refine o_val rfl rfl rfl rfl (v_move rfl) ?_
                  refine o_call rfl rfl rfl rfl (c_call callable9 rfl) (dk_Append _ _ d bd l p sure ops pv _ hbd (hp' _) (by omega) (by omega)) ?_
                  rintro v' F2 H' ⟨rfl, rfl, bd2, hbd2, rfl⟩ _
                  refine o_val rfl rfl rfl rfl (v_assign rfl) ?_
                  refine o_end ?_
                  refine r_seq ?_
                  refine r_region rfl ?_
                  refine o_val rfl rfl rfl rfl (v_move rfl) ?_
                  refine o_val rfl rfl rfl rfl (v_move rfl) ?_
                  refine o_act rfl rfl rfl rfl (a_appendP (bf := ba) (n := l.length) (sz := 1) (bytes := 1) (DkE d bd2 (l ++ p) sure (ops + 1) :: bd2.ents 1 (bytesV (l ++ p))) ⟨⟨_, _, _, rfl, rfl, rfl, rfl, rfl, rfl⟩, by decide⟩ rfl hba (by simp) rfl rfl (hp' _) (bytes_one _) (by unfold maxLen; omega) (by omega)) ?_
                  rintro v' H' ⟨ba2, rfl, hba2, rfl⟩
                  rw [← List.length_append] at hba2 ⊢
                  rw [← bytesV_append]
                  refine o_val rfl rfl rfl rfl (v_assign rfl) ?_
                  refine o_end ?_
                  refine r_region rfl ?_
                  refine o_val rfl rfl rfl rfl (v_move rfl) ?_
                  refine o_val rfl rfl rfl rfl (v_add rfl rfl (wrap_i64 (by omega) (by omega))) ?_
                  refine o_val rfl rfl rfl rfl (v_assign rfl) ?_
                  refine o_end ?_
                  refine r_inBlock ?_
                  refine j_keep ?_ (J ⟨i + 1, bd2, ba2, l ++ p, sure, ops + 1⟩ ⟨rfl, hil, hbd2, hba2, by simp; omega, by simp; omega, by dsimp only; omega⟩)
                  exact ⟨rfl, rfl, rfl, rfl, rfl, rfl, rfl, rfl, rfl, trivial⟩
                · refine r_seq ?_
                  refine r_region rfl ?_
                  refine o_val rfl rfl rfl rfl (v_eql rfl rfl) ?_
                  refine o_val rfl rfl rfl rfl (v_assign rfl) ?_
                  refine o_end ?_
                  refine r_if rfl (fun h4 => ?_) (fun h4 => ?_)
                  · refine r_seq ?_
                    refine r_region rfl ?_
                    refine o_val rfl rfl rfl rfl (v_move rfl) ?_
                    refine o_call rfl rfl rfl rfl (c_call callable11 rfl) (dk_Sync _ _ d bd l sure ops _ (by omega)) ?_
                    rintro v' F2 H' ⟨rfl, rfl, rfl⟩ _
                    refine o_val rfl rfl rfl rfl (v_assign rfl) ?_
                    refine o_end ?_
                    refine r_seq ?_
                    refine r_region rfl ?_
                    refine o_val rfl rfl rfl rfl (v_move rfl) ?_
                    refine o_val rfl rfl rfl rfl (v_len rfl rfl) ?_
                    refine o_val rfl rfl rfl rfl (v_assign rfl) ?_
                    refine o_end ?_
                    refine r_region rfl ?_
                    refine o_val rfl rfl rfl rfl (v_move rfl) ?_
                    refine o_val rfl rfl rfl rfl (v_add rfl rfl (wrap_i64 (by omega) (by omega))) ?_
                    refine o_val rfl rfl rfl rfl (v_assign rfl) ?_
                    refine o_end ?_
                    refine r_inBlock ?_
                    refine j_keep ?_ (J ⟨i + 1, bd, ba, l, l.length, ops + 1⟩ ⟨rfl, hil, hbd, hba, by dsimp only; omega, Nat.le_refl _, by dsimp only; omega⟩)
                    exact ⟨rfl, rfl, rfl, rfl, rfl, rfl, rfl, rfl, rfl, trivial⟩
                  · refine r_seq ?_
                    refine r_region rfl ?_
                    refine o_val rfl rfl rfl rfl (v_eql rfl rfl) ?_
                    refine o_val rfl rfl rfl rfl (v_assign rfl) ?_
                    refine o_end ?_
                    refine r_if rfl (fun h5 => ?_) (fun h5 => ?_)
                    · refine r_seq ?_
                      refine r_region rfl ?_
                      refine o_val rfl rfl rfl rfl (v_move rfl) ?_
                      refine o_val rfl rfl rfl rfl (v_move rfl) ?_
                      refine o_call rfl rfl rfl rfl (c_call callable8 rfl) (dk_Put _ _ d bd l p sure ops pv _ (hp' _) (by omega) (by omega)) ?_
                      rintro v' F2 H' ⟨rfl, rfl, bd2, hbd2, rfl⟩ _
                      refine j_drop (H' := DkE d bd2 p p.length (ops + 1) :: (bd2.ents 1 (bytesV p) ++ [])) (((List.Sublist.refl _).append (List.nil_sublist _)).cons_cons _) ?_
                      refine o_val rfl rfl rfl rfl (v_assign rfl) ?_
                      refine o_end ?_
                      refine r_seq ?_
                      refine r_region rfl ?_
                      refine o_val rfl rfl rfl rfl (v_assign rfl) ?_
                      refine o_end ?_
                      refine r_seq ?_
                      refine r_region rfl ?_
                      refine o_val rfl rfl rfl rfl (v_move rfl) ?_
                      refine o_val rfl rfl rfl rfl (v_move rfl) ?_
                      refine o_act rfl rfl rfl rfl (a_appendP (bf := .nil) (n := 0) (xs := []) (sz := 1) (bytes := 1) (DkE d bd2 p p.length (ops + 1) :: bd2.ents 1 (bytesV p)) ⟨⟨_, _, _, rfl, rfl, rfl, rfl, rfl, rfl⟩, by decide⟩ rfl rfl rfl rfl rfl (hp' _) (bytes_one _) (by unfold maxLen; omega) (by omega)) ?_
                      rintro v' H' ⟨ba2, rfl, hba2, rfl⟩
                      rw [Nat.zero_add] at hba2 ⊢
                      rw [List.nil_append]
                      refine o_val rfl rfl rfl rfl (v_assign rfl) ?_
                      refine o_end ?_
                      refine r_seq ?_
                      refine r_region rfl ?_
                      refine o_val rfl rfl rfl rfl (v_move rfl) ?_
                      refine o_val rfl rfl rfl rfl (v_lenS (hp' _) rfl rfl) ?_
                      refine o_val rfl rfl rfl rfl (v_assign rfl) ?_
                      refine o_end ?_
                      refine r_region rfl ?_
                      refine o_val rfl rfl rfl rfl (v_move rfl) ?_
                      refine o_val rfl rfl rfl rfl (v_add rfl rfl (wrap_i64 (by omega) (by omega))) ?_
                      refine o_val rfl rfl rfl rfl (v_assign rfl) ?_
                      refine o_end ?_
                      refine r_inBlock ?_
                      refine j_keep ?_ (J ⟨i + 1, bd2, ba2, p, p.length, ops + 1⟩ ⟨rfl, hil, hbd2, hba2, by dsimp only; omega, Nat.le_refl _, by dsimp only; omega⟩)
                      exact ⟨rfl, rfl, rfl, rfl, rfl, rfl, rfl, rfl, rfl, trivial⟩
                    · refine r_seq ?_
                      refine r_region rfl ?_
                      refine o_val rfl rfl rfl rfl (v_assign rfl) ?_
                      refine o_end ?_
                      refine r_seq ?_
                      refine r_join (fun k : Int => -9223372036854775808 ≤ k ∧ k ≤ 9223372036854775807) (fun k => [(0, .slice a0 rs.length cap), (1, .slice (some ⟨b1, off1, none⟩) acts.length cap1), (2, .slice a2 keeps.length cap2), (7, ptrV d), (8, ba.val l.length), (9, .int .i64 sure), (10, .int .i64 ops), (11, .int .i64 i), (13, .int .i64 0), (14, .int .i64 k)]) (fun _ => F1) (fun _ => DkE d bd l sure ops :: (bd.ents 1 (bytesV l) ++ (ba.ents 1 (bytesV l) ++ []))) ?_ ?_
                      · intro J3
                        refine r_seq ?_
                        refine r_region rfl ?_
                        refine o_val rfl rfl rfl rfl (v_move rfl) ?_
                        refine o_val rfl rfl rfl rfl (v_move rfl) ?_
                        refine o_val rfl rfl rfl rfl (v_len rfl rfl) ?_
                        refine o_val rfl rfl rfl rfl (v_lss rfl rfl) ?_
                        refine o_end ?_
                        refine r_if rfl (fun h7 => ?_) (fun h7 => ?_)
                        · have hik : i < keeps.length := by omega
                          obtain ⟨b2, off2, c2, hab, _, hcell2⟩ := Sl.view (ht.frz (H := []) hF1) (by omega)
                          simp only [Value.slice.injEq] at hab
                          obtain ⟨rfl, _, rfl⟩ := hab
                          have hc2 : Cell F1 [] b2 (off2 + i) (.int .i64 keeps[i]) := hcell2 i (.int .i64 keeps[i]) (by rw [List.getElem?_map, List.getElem?_eq_getElem hik]; rfl)
                          refine r_region rfl ?_
                          refine o_val rfl rfl rfl rfl (v_move rfl) ?_
                          refine o_val rfl rfl rfl rfl (v_move rfl) ?_
                          refine o_val rfl rfl rfl rfl (v_index1 rfl rfl rfl rfl hik) ?_
                          refine o_val rfl rfl rfl rfl (v_load rfl rfl (hc2.mono (Fz.le_refl _) (by simp))) ?_
                          refine o_val rfl rfl rfl rfl (v_assign rfl) ?_
                          refine o_end ?_
                          refine j_keep ?_ (J3 keeps[i] (hk _ (List.getElem_mem _)))
                          exact ⟨rfl, rfl, rfl, rfl, rfl, rfl, rfl, rfl, rfl, rfl, trivial⟩
                        · refine r_skip ?_
                          refine j_keep ?_ (J3 0 (by decide))
                          exact ⟨rfl, rfl, rfl, rfl, rfl, rfl, rfl, rfl, rfl, rfl, trivial⟩
                      · rintro k ⟨hk0, hk1⟩
                        refine r_seq ?_
                        refine r_region rfl ?_
                        refine o_val rfl rfl rfl rfl (v_move rfl) ?_
                        refine o_val rfl rfl rfl rfl (v_move rfl) ?_
                        refine o_call rfl rfl rfl rfl (c_call callable12 rfl) (dk_Crash _ _ d bd l sure ops k _ hbd (by omega) hs hk0 hk1) ?_
                        rintro v' F2 H' ⟨rfl, rfl, rfl⟩ _
                        have hle : sure + min k.toNat (l.length - sure) ≤ l.length := by omega
                        obtain ⟨s', hs'⟩ : ∃ s', s' = sure + min k.toNat (l.length - sure) := ⟨_, rfl⟩
                        rw [← hs'] at hle ⊢
                        refine o_end ?_
                        refine r_seq ?_
                        refine r_join (fun _ : Unit => True) (fun _ => [(0, .slice a0 rs.length cap), (1, .slice (some ⟨b1, off1, none⟩) acts.length cap1), (2, .slice a2 keeps.length cap2), (7, ptrV d), (8, ba.val l.length), (9, .int .i64 sure), (10, .int .i64 ops), (11, .int .i64 i), (13, .int .i64 0), (14, .int .i64 k.toNat)]) (fun _ => F2) (fun _ => DkE d bd (l.take s') s' ops :: (bd.ents 1 (bytesV (l.take s')) ++ (ba.ents 1 (bytesV l) ++ []))) ?_ ?_
                        · intro J4
                          refine r_seq ?_
                          refine r_region rfl ?_
                          refine o_val rfl rfl rfl rfl (v_move rfl) ?_
                          refine o_val rfl rfl rfl rfl (v_lss rfl rfl) ?_
                          refine o_end ?_
                          refine r_if rfl (fun h7 => ?_) (fun h7 => ?_)
                          · refine r_region rfl ?_
                            refine o_val rfl rfl rfl rfl (v_assign rfl) ?_
                            refine o_end ?_
                            refine j_slot 14 rfl (v' := .int .i64 k.toNat) (by rw [show ((k.toNat : Nat) : Int) = 0 by omega]) ?_
                            refine j_keep ?_ (J4 () trivial)
                            exact ⟨rfl, rfl, rfl, rfl, rfl, rfl, rfl, rfl, rfl, rfl, trivial⟩
                          · refine r_skip ?_
                            refine j_slot 14 rfl (v' := .int .i64 k.toNat) (by rw [show ((k.toNat : Nat) : Int) = k by omega]) ?_
                            refine j_keep ?_ (J4 () trivial)
                            exact ⟨rfl, rfl, rfl, rfl, rfl, rfl, rfl, rfl, rfl, rfl, trivial⟩
                        · rintro _ _
                          refine r_seq ?_
                          refine r_join (fun _ : Unit => True) (fun _ => [(0, .slice a0 rs.length cap), (1, .slice (some ⟨b1, off1, none⟩) acts.length cap1), (2, .slice a2 keeps.length cap2), (7, ptrV d), (8, ba.val l.length), (9, .int .i64 sure), (10, .int .i64 ops), (11, .int .i64 i), (13, .int .i64 0), (14, .int .i64 (min k.toNat (l.length - sure) : Nat))]) (fun _ => F2) (fun _ => DkE d bd (l.take s') s' ops :: (bd.ents 1 (bytesV (l.take s')) ++ (ba.ents 1 (bytesV l) ++ []))) ?_ ?_
                          · intro J5
                            refine r_seq ?_
                            refine r_region rfl ?_
                            refine o_val rfl rfl rfl rfl (v_move rfl) ?_
                            refine o_val rfl rfl rfl rfl (v_move rfl) ?_
                            refine o_val rfl rfl rfl rfl (v_len rfl rfl) ?_
                            refine o_val rfl rfl rfl rfl (v_move rfl) ?_
                            refine o_val rfl rfl rfl rfl (v_sub rfl rfl (wrap_i64 (by omega) (by omega))) ?_
                            refine o_val rfl rfl rfl rfl (v_gtr rfl rfl) ?_
                            refine o_end ?_
                            refine r_if rfl (fun h7 => ?_) (fun h7 => ?_)
                            · refine r_region rfl ?_
                              refine o_val rfl rfl rfl rfl (v_move rfl) ?_
                              refine o_val rfl rfl rfl rfl (v_len rfl rfl) ?_
                              refine o_val rfl rfl rfl rfl (v_move rfl) ?_
                              refine o_val rfl rfl rfl rfl (v_sub rfl rfl (wrap_i64 (by omega) (by omega))) ?_
                              refine o_val rfl rfl rfl rfl (v_assign rfl) ?_
                              refine o_end ?_
                              refine j_slot 14 rfl (v' := .int .i64 (min k.toNat (l.length - sure) : Nat)) (by rw [show ((min k.toNat (l.length - sure) : Nat) : Int) = (l.length : Int) - sure by omega]) ?_
                              refine j_keep ?_ (J5 () trivial)
                              exact ⟨rfl, rfl, rfl, rfl, rfl, rfl, rfl, rfl, rfl, rfl, trivial⟩
                            · refine r_skip ?_
                              refine j_slot 14 rfl (v' := .int .i64 (min k.toNat (l.length - sure) : Nat)) (by rw [show ((min k.toNat (l.length - sure) : Nat) : Int) = (k.toNat : Int) by omega]) ?_
                              refine j_keep ?_ (J5 () trivial)
                              exact ⟨rfl, rfl, rfl, rfl, rfl, rfl, rfl, rfl, rfl, rfl, trivial⟩
                          · rintro _ _
                            refine r_seq ?_
                            refine r_region rfl ?_
                            refine o_val rfl rfl rfl rfl (v_move rfl) ?_
                            refine o_val rfl rfl rfl rfl (v_move rfl) ?_
                            refine o_val rfl rfl rfl rfl (v_add rfl rfl (r := (s' : Int)) ((wrap_i64 (by omega) (by omega)).trans (by omega))) ?_
                            refine o_val rfl rfl rfl rfl (v_assign rfl) ?_
                            refine o_end ?_
                            refine r_region rfl ?_
                            refine o_val rfl rfl rfl rfl (v_move rfl) ?_
                            refine o_val rfl rfl rfl rfl (v_move rfl) ?_
                            refine o_val rfl rfl rfl rfl (v_sliceH (sz := 1) rfl rfl rfl rfl rfl (Nat.le_trans hle (Bf.ok_cp hba))) ?_
                            refine o_val rfl rfl rfl rfl (v_assign rfl) ?_
                            refine o_end ?_
                            refine r_inBlock ?_
                            have e : (l.take s').length = s' := by simp; omega
                            have ecut : ba.val (l.take s').length = Go.sliced ba.addr 0 s' ba.cp 1 := by rw [e]; exact (Bf.cut _ _ _).symm
                            refine j_cutBf (DkE d bd (l.take s') s' ops :: bd.ents 1 (bytesV (l.take s'))) s' ?_
                            have et : (bytesV l).take s' = bytesV (l.take s') := by simp [bytesV]
                            rw [et]
                            refine j_keep ?_ (J ⟨i + 1, bd, ba, l.take s', s', ops⟩ ⟨rfl, hil, Bf.ok_le hbd (by dsimp only; omega), Bf.ok_le hba (by dsimp only; omega), by dsimp only; omega, by dsimp only; omega, by dsimp only; omega⟩)
                            dsimp only
                            rw [ecut]
                            exact ⟨rfl, rfl, rfl, rfl, rfl, rfl, rfl, rfl, rfl, trivial⟩
            · rintro ⟨i', bd, ba, l, sure, ops⟩ ⟨hii, hi', hbd, hba, hl, hs, ho⟩
              dsimp only [DG.mem] at hii hi' hbd hba hl hs ho ⊢
              subst hii
              refine r_seq ?_
              refine d_region 1000000 rfl ((ba.ents 1 (bytesV l))) ?_
              refine d_take (i := 0) rfl rfl rfl (by decide +kernel) (by decide +kernel) (by decide +kernel) (Fz.le_refl _) (by intro e he; exact List.mem_cons_of_mem _ (List.mem_append_right _ (List.mem_append_left _ he))) rfl (v_move rfl) ?_
              refine d_take (i := 1) rfl rfl rfl (by decide +kernel) (by decide +kernel) (by decide +kernel) (Fz.le_refl _) (by intro e he; exact List.mem_cons_of_mem _ (List.mem_append_right _ (List.mem_append_left _ he))) rfl (v_neq rfl rfl) ?_
              refine d_take (i := 2) rfl rfl rfl (by decide +kernel) (by decide +kernel) (by decide +kernel) (Fz.le_refl _) (by intro e he; exact List.mem_cons_of_mem _ (List.mem_append_right _ (List.mem_append_left _ he))) rfl (v_move rfl) ?_
              refine d_take (i := 3) rfl rfl rfl (by decide +kernel) (by decide +kernel) (by decide +kernel) (Fz.le_refl _) (by intro e he; exact List.mem_cons_of_mem _ (List.mem_append_right _ (List.mem_append_left _ he))) rfl (v_move rfl) ?_
              refine d_take (i := 6) rfl rfl rfl (by decide +kernel) (by decide +kernel) (by decide +kernel) (Fz.le_refl _) (by intro e he; exact List.mem_cons_of_mem _ (List.mem_append_right _ (List.mem_append_left _ he))) rfl (v_move rfl) ?_
              refine d_take (i := 7) rfl rfl rfl (by decide +kernel) (by decide +kernel) (by decide +kernel) (Fz.le_refl _) (by intro e he; exact List.mem_cons_of_mem _ (List.mem_append_right _ (List.mem_append_left _ he))) rfl (v_bytesString rfl rfl rfl rfl (l := l) (Bf.reads (bf := ba) (sz := 1) (n := l.length) hba (by simp) (fun e he => he))) ?_
              refine d_one (i := 4) (by decide +kernel) ?_
              refine d1_call rfl rfl rfl rfl (c_call callable10 rfl) (dk_Read _ _ d bd l sure ops _ hbd (by omega)) ?_
              rintro v' F2 H' ⟨rfl, bf4, hok4, rfl, rfl⟩ _
              refine ⟨fun w hw => held_of hw (Fz.le_refl _) (by intro e he; exact List.mem_append_right _ (List.mem_cons_of_mem _ (List.mem_append_right _ (List.mem_append_left _ he)))), ?_⟩
              refine d_one (i := 5) (by decide +kernel) ?_
              refine d1_act rfl rfl rfl rfl (a_val (v_bytesString rfl rfl rfl rfl (l := l) (Bf.reads (bf := bf4) (sz := 1) (n := l.length) hok4 (by simp) (fun e he => List.mem_append_left _ he)))) ?_
              rintro v' H' ⟨rfl, rfl⟩
              refine ⟨fun w hw => held_of hw (Fz.le_refl _) (by intro e he; exact List.mem_append_right _ (List.mem_cons_of_mem _ (List.mem_append_right _ (List.mem_append_left _ he)))), ?_⟩
              refine j_drop (List.sublist_append_right _ _) ?_
              refine d_take (i := 8) rfl rfl rfl (by decide +kernel) (by decide +kernel) (by decide +kernel) (Fz.le_refl _) (by intro e he; exact List.mem_cons_of_mem _ (List.mem_append_right _ (List.mem_append_left _ he))) rfl (v_sneq rfl rfl) ?_
              refine j_slot 120 rfl (v' := .bool false) (by simp) ?_
              refine d_take (i := 9) rfl rfl rfl (by decide +kernel) (by decide +kernel) (by decide +kernel) (Fz.le_refl _) (by intro e he; exact List.mem_cons_of_mem _ (List.mem_append_right _ (List.mem_append_left _ he))) rfl (v_pick0 rfl rfl) ?_
              refine d_take (i := 10) rfl rfl rfl (by decide +kernel) (by decide +kernel) (by decide +kernel) (Fz.le_refl _) (by intro e he; exact List.mem_cons_of_mem _ (List.mem_append_right _ (List.mem_append_left _ he))) rfl (v_move rfl) ?_
              refine d_take (i := 11) rfl rfl rfl (by decide +kernel) (by decide +kernel) (by decide +kernel) (Fz.le_refl _) (by intro e he; exact List.mem_cons_of_mem _ (List.mem_append_right _ (List.mem_append_left _ he))) rfl (v_move rfl) ?_
              refine d_take (i := 13) rfl rfl rfl (by decide +kernel) (by decide +kernel) (by decide +kernel) (Fz.le_refl _) (by intro e he; exact List.mem_cons_of_mem _ (List.mem_append_right _ (List.mem_append_left _ he))) rfl (v_move rfl) ?_
              refine d_take (i := 14) rfl rfl rfl (by decide +kernel) (by decide +kernel) (by decide +kernel) (Fz.le_refl _) (by intro e he; exact List.mem_cons_of_mem _ (List.mem_append_right _ (List.mem_append_left _ he))) rfl (v_len rfl rfl) ?_
              refine d_one (i := 12) (by decide +kernel) ?_
              refine d1_call rfl rfl rfl rfl (c_call callable13 rfl) (dk_Len _ _ d bd l sure ops _) ?_
              rintro v' F2 H' ⟨rfl, rfl, rfl⟩ _
              refine ⟨fun w hw => held_of hw (Fz.le_refl _) (by intro e he; exact List.mem_cons_of_mem _ (List.mem_append_right _ (List.mem_append_left _ he))), ?_⟩
              refine d_take (i := 15) rfl rfl rfl (by decide +kernel) (by decide +kernel) (by decide +kernel) (Fz.le_refl _) (by intro e he; exact List.mem_cons_of_mem _ (List.mem_append_right _ (List.mem_append_left _ he))) rfl (v_neq rfl rfl) ?_
              refine j_slot 127 rfl (v' := .bool false) (by simp) ?_
              refine d_take (i := 16) rfl rfl rfl (by decide +kernel) (by decide +kernel) (by decide +kernel) (Fz.le_refl _) (by intro e he; exact List.mem_cons_of_mem _ (List.mem_append_right _ (List.mem_append_left _ he))) rfl (v_pick0 rfl rfl) ?_
              refine d_take (i := 17) rfl rfl rfl (by decide +kernel) (by decide +kernel) (by decide +kernel) (Fz.le_refl _) (by intro e he; exact List.mem_cons_of_mem _ (List.mem_append_right _ (List.mem_append_left _ he))) rfl (v_move rfl) ?_
              refine d_take (i := 18) rfl rfl rfl (by decide +kernel) (by decide +kernel) (by decide +kernel) (Fz.le_refl _) (by intro e he; exact List.mem_cons_of_mem _ (List.mem_append_right _ (List.mem_append_left _ he))) rfl (v_move rfl) ?_
              refine d_take (i := 20) rfl rfl rfl (by decide +kernel) (by decide +kernel) (by decide +kernel) (Fz.le_refl _) (by intro e he; exact List.mem_cons_of_mem _ (List.mem_append_right _ (List.mem_append_left _ he))) rfl (v_move rfl) ?_
              refine d_one (i := 19) (by decide +kernel) ?_
              refine d1_call rfl rfl rfl rfl (c_call callable14 rfl) (dk_Sure _ _ d bd l sure ops _) ?_
              rintro v' F2 H' ⟨rfl, rfl, rfl⟩ _
              refine ⟨fun w hw => held_of hw (Fz.le_refl _) (by intro e he; exact List.mem_cons_of_mem _ (List.mem_append_right _ (List.mem_append_left _ he))), ?_⟩
              refine d_take (i := 21) rfl rfl rfl (by decide +kernel) (by decide +kernel) (by decide +kernel) (Fz.le_refl _) (by intro e he; exact List.mem_cons_of_mem _ (List.mem_append_right _ (List.mem_append_left _ he))) rfl (v_neq rfl rfl) ?_
              refine j_slot 133 rfl (v' := .bool false) (by simp) ?_
              refine d_take (i := 22) rfl rfl rfl (by decide +kernel) (by decide +kernel) (by decide +kernel) (Fz.le_refl _) (by intro e he; exact List.mem_cons_of_mem _ (List.mem_append_right _ (List.mem_append_left _ he))) rfl (v_pick0 rfl rfl) ?_
              refine d_take (i := 23) rfl rfl rfl (by decide +kernel) (by decide +kernel) (by decide +kernel) (Fz.le_refl _) (by intro e he; exact List.mem_cons_of_mem _ (List.mem_append_right _ (List.mem_append_left _ he))) rfl (v_move rfl) ?_
              refine d_take (i := 24) rfl rfl rfl (by decide +kernel) (by decide +kernel) (by decide +kernel) (Fz.le_refl _) (by intro e he; exact List.mem_cons_of_mem _ (List.mem_append_right _ (List.mem_append_left _ he))) rfl (v_move rfl) ?_
              refine d_take (i := 26) rfl rfl rfl (by decide +kernel) (by decide +kernel) (by decide +kernel) (Fz.le_refl _) (by intro e he; exact List.mem_cons_of_mem _ (List.mem_append_right _ (List.mem_append_left _ he))) rfl (v_move rfl) ?_
              refine d_one (i := 25) (by decide +kernel) ?_
              refine d1_call rfl rfl rfl rfl (c_call callable15 rfl) (dk_Ops _ _ d bd l sure ops _) ?_
              rintro v' F2 H' ⟨rfl, rfl, rfl⟩ _
              refine ⟨fun w hw => held_of hw (Fz.le_refl _) (by intro e he; exact List.mem_cons_of_mem _ (List.mem_append_right _ (List.mem_append_left _ he))), ?_⟩
              refine d_take (i := 27) rfl rfl rfl (by decide +kernel) (by decide +kernel) (by decide +kernel) (Fz.le_refl _) (by intro e he; exact List.mem_cons_of_mem _ (List.mem_append_right _ (List.mem_append_left _ he))) rfl (v_neq rfl rfl) ?_
              refine j_slot 139 rfl (v' := .bool false) (by simp) ?_
              refine d_take (i := 28) rfl rfl rfl (by decide +kernel) (by decide +kernel) (by decide +kernel) (Fz.le_refl _) (by intro e he; exact List.mem_cons_of_mem _ (List.mem_append_right _ (List.mem_append_left _ he))) rfl (v_pick0 rfl rfl) ?_
              refine d_end (by decide +kernel) ?_
              refine r_false rfl ?_
              refine r_skip ?_
              refine r_inBlock ?_
              refine r_region rfl ?_
              refine o_val rfl rfl rfl rfl (v_move rfl) ?_
              refine o_val rfl rfl rfl rfl (v_add rfl rfl (wrap_i64 (by omega) (by omega))) ?_
              refine o_val rfl rfl rfl rfl (v_assign rfl) ?_
              refine o_end ?_
              refine j_keep ?_ (IH ⟨i + 1, bd, ba, l, sure, ops⟩ ⟨hi', hbd, hba, hl, hs, ho⟩ (by dsimp only; omega))
              exact ⟨rfl, rfl, rfl, rfl, rfl, rfl, rfl, rfl, trivial⟩
      · refine r_exit rfl ?_
        refine r_seq ?_
        refine r_region rfl ?_
        refine o_val rfl rfl rfl rfl (v_assign rfl) ?_
        refine o_end ?_
        exact r_ret1 Try.func4 rfl rfl ⟨rfl, hF1⟩
theorem in_DiskPlays (W : World) (v : Value) (rs : List (Value × List UInt8)) (hv : InRows W v rs) (hr : rs.length ≤ 9223372036854775807) (u : Value) (ys : List Int) (hu : InInts .u8 W u ys) (hm : ys.length * 1 ≤ 140737488351232)
    (t : Value) (ks : List Int) (ht : InInts .i64 W t ks) (hk : ks.length * 8 ≤ 140737488351232) :
    Calls Try.prog 4 #[v, u, t] W fun e w' => e = .returned (.bool true) ∧ Go.RowKit.Below W.heap.size W w' := by
  obtain ⟨m, _, hu⟩ := inBytes hu
  exact below_of_does (law_DiskPlays _ _ _ _ _ rs m ks hv.1 hv.2 hu ht.1 fun k hk => by
    have := ht.2 k hk
    simp [Lit.wf, IntKind.min, IntKind.max, IntKind.signed, IntKind.bits] at this
    omega)
end Go.SX
