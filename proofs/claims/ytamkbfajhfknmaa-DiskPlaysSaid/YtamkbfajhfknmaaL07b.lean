/-
  Chapter 07: the law DiskKeeps.
-/
import Derived.Test.YtamkbfajhfknmaaL07
namespace Go.SX
open Go Go.Proofs
set_option linter.unusedSimpArgs false
set_option linter.unusedVariables false

theorem perm_front {α : Type} (X A Y : List α) : (X ++ (A ++ Y)).Perm (A ++ (X ++ Y)) := by
  rw [← List.append_assoc, ← List.append_assoc]
  exact List.Perm.append_right Y List.perm_append_comm
theorem bytesV_set (m : List UInt8) (j : Nat) (x : UInt8) : bytesV (m.set j x) = (bytesV m).set j (byteV x) := by simp [bytesV, List.map_set]

theorem law_DiskKeeps (O : World) (F : Fz) (v u : Value) (p q : List UInt8) (hv : SlB F [] v p) (hu : SlB F [] u q) : Does Try.prog O 3 #[v, u] F [] (fun r _ _ => r = .bool true) := by
  obtain ⟨a0, cap, rfl, hcap⟩ := Sl.shape hv
  obtain ⟨a1, cap1, rfl, hcap1⟩ := Sl.shape hu
  refine does_of_run (args := [_, _]) Try.func3 rfl rfl ?_
  refine r_seq ?_
  refine r_region rfl ?_
  refine o_val rfl rfl rfl rfl (v_assign rfl) ?_
  refine o_end ?_
  refine r_seq ?_
  refine r_seq ?_
  refine r_region rfl ?_
  refine o_call rfl rfl rfl rfl (c_call callable6 rfl) (law_awake _ _ _) ?_
  rintro v' F1 H' ⟨rfl, rfl⟩ hF1
  refine o_val rfl rfl rfl rfl (v_not rfl) ?_
  refine o_val rfl rfl rfl rfl (v_move rfl) ?_
  refine o_val rfl rfl rfl rfl (v_move rfl) ?_
  refine o_val rfl rfl rfl rfl (v_len rfl rfl) ?_
  refine o_val rfl rfl rfl rfl (v_gtr rfl rfl) ?_
  refine o_val rfl rfl rfl rfl (v_pick0 rfl rfl) ?_
  refine o_val rfl rfl rfl rfl (v_move rfl) ?_
  refine j_prop 20 rfl (fun h0 => ?_) (fun h0 => ?_)
  · refine o_skip rfl rfl rfl rfl ?_
    refine o_skip rfl rfl rfl rfl ?_
    refine o_skip rfl rfl rfl rfl ?_
    refine o_val rfl rfl rfl rfl (v_pick1 rfl rfl) ?_
    refine o_end ?_
    refine r_true rfl ?_
    refine r_seq ?_
    refine r_region rfl ?_
    refine o_call rfl rfl rfl rfl (c_call callable6 rfl) (law_awake _ _ _) ?_
    rintro v' F2 H' ⟨rfl, rfl⟩ hF2
    refine o_val rfl rfl rfl rfl (v_assign rfl) ?_
    refine o_end ?_
    exact r_ret1 Try.func3 rfl rfl ⟨rfl, Fz.le_trans hF1 hF2⟩
  · refine o_val rfl rfl rfl rfl (v_move rfl) ?_
    refine o_val rfl rfl rfl rfl (v_len rfl rfl) ?_
    refine o_val rfl rfl rfl rfl (v_gtr rfl rfl) ?_
    refine o_val rfl rfl rfl rfl (v_pick0 rfl rfl) ?_
    refine o_end ?_
    refine r_if rfl (fun h => ?_) (fun h => ?_)
    · refine r_seq ?_
      refine r_region rfl ?_
      refine o_call rfl rfl rfl rfl (c_call callable6 rfl) (law_awake _ _ _) ?_
      rintro v' F2 H' ⟨rfl, rfl⟩ hF2
      refine o_val rfl rfl rfl rfl (v_assign rfl) ?_
      refine o_end ?_
      exact r_ret1 Try.func3 rfl rfl ⟨rfl, Fz.le_trans hF1 hF2⟩
    · have hp : p.length ≤ 500 := by omega
      have hq : q.length ≤ 500 := by omega
      have hv1 : ∀ H, SlB F1 H (.slice a0 p.length cap) p := fun H => hv.frz hF1
      have hu1 : ∀ H, SlB F1 H (.slice a1 q.length cap1) q := fun H => hu.frz hF1
      refine r_skip ?_
      refine r_seq ?_
      refine r_region rfl ?_
      refine o_val rfl rfl rfl rfl (v_move rfl) ?_
      refine o_val rfl rfl rfl rfl (v_bytesString rfl rfl rfl rfl (l := p) (hv1 _)) ?_
      refine o_val rfl rfl rfl rfl (v_move rfl) ?_
      refine o_val rfl rfl rfl rfl (v_bytesString rfl rfl rfl rfl (l := q) (hu1 _)) ?_
      refine o_val rfl rfl rfl rfl (v_sadd rfl rfl (by omega)) ?_
      refine o_val rfl rfl rfl rfl (v_assign rfl) ?_
      refine o_end ?_
      refine r_seq ?_
      refine r_region rfl ?_
      refine o_val rfl rfl rfl rfl (v_move rfl) ?_
      refine o_act rfl rfl rfl rfl (a_append (bf := .nil) (n := 0) (sz := 1) (bytes := 1) (xs := []) ⟨⟨_, _, _, rfl, rfl, rfl, rfl, rfl, rfl⟩, by decide⟩ rfl rfl rfl rfl rfl (hv1 _) (bytes_one _) (by unfold maxLen; omega) (by omega)) ?_
      rintro v' H' ⟨bfa, rfl, hoka, rfl⟩
      rw [Nat.zero_add, List.nil_append] at *
      refine o_val rfl rfl rfl rfl (v_assign rfl) ?_
      refine o_end ?_
      refine r_seq ?_
      refine r_region rfl ?_
      refine o_val rfl rfl rfl rfl (v_move rfl) ?_
      refine o_act rfl rfl rfl rfl (a_append (bf := .nil) (n := 0) (sz := 1) (bytes := 1) (xs := []) ⟨⟨_, _, _, rfl, rfl, rfl, rfl, rfl, rfl⟩, by decide⟩ rfl rfl rfl rfl rfl (hu1 _) (bytes_one _) (by unfold maxLen; omega) (by omega)) ?_
      rintro v' H' ⟨bfb, rfl, hokb, rfl⟩
      rw [Nat.zero_add, List.nil_append] at *
      refine o_val rfl rfl rfl rfl (v_assign rfl) ?_
      refine o_end ?_
      refine r_seq ?_
      refine r_region rfl ?_
      refine o_call rfl rfl rfl rfl (c_call callable7 rfl) (dk_New _ _ _) ?_
      rintro v' F1 H' ⟨rfl, d, rfl, rfl⟩ _
      refine o_val rfl rfl rfl rfl (v_assign rfl) ?_
      refine o_end ?_
      refine r_seq ?_
      refine r_region rfl ?_
      refine o_val rfl rfl rfl rfl (v_move rfl) ?_
      refine o_val rfl rfl rfl rfl (v_move rfl) ?_
      refine o_call rfl rfl rfl rfl (c_call callable8 rfl) (dk_Put _ _ d .nil [] p 0 0 _ _ (Bf.reads (bf := bfa) (sz := 1) (n := p.length) hoka (by simp) (by intro e he; exact List.mem_append_right _ (List.mem_append_left _ he))) (by omega) (by omega)) ?_
      rintro v' F1 H' ⟨rfl, rfl, bf1, hok1, rfl⟩ _
      refine o_end ?_
      refine r_seq ?_
      refine r_region rfl ?_
      refine o_val rfl rfl rfl rfl (v_move rfl) ?_
      refine o_val rfl rfl rfl rfl (v_move rfl) ?_
      refine o_call rfl rfl rfl rfl (c_call callable9 rfl) (dk_Append _ _ d bf1 p q _ _ _ _ hok1 (Bf.reads (bf := bfb) (sz := 1) (n := q.length) hokb (by simp) (by intro e he; exact List.mem_append_left _ he)) (by omega) (by omega)) ?_
      rintro v' F1 H' ⟨rfl, rfl, bf2, hok2, rfl⟩ _
      refine o_end ?_
      refine r_seq ?_
      refine r_region rfl ?_
      refine o_val rfl rfl rfl rfl (v_move rfl) ?_
      refine o_call rfl rfl rfl rfl (c_call callable10 rfl) (dk_Read _ _ d bf2 (p ++ q) _ _ _ hok2 (by simp; omega)) ?_
      rintro v' F1 H' ⟨rfl, bfr, hokr, rfl, rfl⟩ _
      obtain ⟨D, hD⟩ : ∃ D, D = DkE d bf2 (p ++ q) p.length 2 := ⟨_, rfl⟩
      have hH1 : bfr.ents 1 (bytesV (p ++ q)) ++ DkE d bf2 (p ++ q) p.length (0 + 1 + 1) :: (bf2.ents 1 (bytesV (p ++ q)) ++ (bfb.ents 1 (bytesV q) ++ (bfa.ents 1 (bytesV p) ++ []))) = (bfr.ents 1 (bytesV (p ++ q)) ++ (D :: (bf2.ents 1 (bytesV (p ++ q)) ++ bfb.ents 1 (bytesV q)))) ++ (bfa.ents 1 (bytesV p) ++ []) := by
        rw [hD]
        simp
      refine j_heap hH1 ?_
      refine j_perm (perm_front _ _ _) ?_
      rw [List.append_nil]
      refine o_val rfl rfl rfl rfl (v_assign rfl) ?_
      refine o_end ?_
      refine r_seq ?_
      refine r_seq ?_
      refine r_region rfl ?_
      refine o_val rfl rfl rfl rfl (v_assign rfl) ?_
      refine o_end ?_
      refine r_block ?_
      refine r_loop (fun g : Nat × List UInt8 => g.1 ≤ p.length ∧ g.2.length = p.length) (fun g => [(5, strV (p ++ q)), (6, bfa.val p.length), (7, bfb.val q.length), (8, ptrV d), (9, bfr.val (p ++ q).length), (10, .int .i64 g.1)]) (fun _ => F1) (fun g => bfa.ents 1 (bytesV g.2) ++ (bfr.ents 1 (bytesV (p ++ q)) ++ (D :: (bf2.ents 1 (bytesV (p ++ q)) ++ bfb.ents 1 (bytesV q))))) (fun g => p.length - g.1)
        (0, p) ⟨Nat.zero_le _, rfl⟩ ⟨rfl, rfl, rfl, rfl, rfl, rfl, trivial⟩ rfl rfl ?_
      rintro ⟨i, m⟩ ⟨hi, hm⟩ IH
      dsimp only at hi hm ⊢
      refine r_seq ?_
      refine r_seq ?_
      refine r_region rfl ?_
      refine o_val rfl rfl rfl rfl (v_move rfl) ?_
      refine o_val rfl rfl rfl rfl (v_move rfl) ?_
      refine o_val rfl rfl rfl rfl (v_len rfl rfl) ?_
      refine o_val rfl rfl rfl rfl (v_lss rfl rfl) ?_
      refine o_end ?_
      refine r_if rfl (fun h1 => ?_) (fun h1 => ?_)
      · have hil : i < p.length := by omega
        cases bfa with
        | nil =>
          have : p.length = 0 := hoka
          omega
        | «at» b c =>
          refine r_skip ?_
          refine r_seq ?_
          refine r_block ?_
          refine r_region rfl ?_
          refine o_val rfl rfl rfl rfl (v_move rfl) ?_
          refine o_val rfl rfl rfl rfl (v_move rfl) ?_
          refine o_val rfl rfl rfl rfl (v_index1 rfl rfl rfl rfl hil) ?_
          refine o_act0 rfl rfl rfl (a_store1 0 rfl rfl rfl rfl rfl (by rw [Nat.zero_add, bytesV_length]; omega)) ?_
          refine o_end ?_
          refine r_inBlock ?_
          refine r_region rfl ?_
          refine o_val rfl rfl rfl rfl (v_move rfl) ?_
          refine o_val rfl rfl rfl rfl (v_add rfl rfl (wrap_i64 (by omega) (by omega))) ?_
          refine o_val rfl rfl rfl rfl (v_assign rfl) ?_
          refine o_end ?_
          refine j_keep ?_ (j_heap (H' := (Bf.at b c).ents 1 (bytesV (m.set i 0)) ++ (bfr.ents 1 (bytesV (p ++ q)) ++ (D :: (bf2.ents 1 (bytesV (p ++ q)) ++ bfb.ents 1 (bytesV q))))) (by rw [bytesV_set, Nat.zero_add]; rfl) (IH (i + 1, m.set i 0) ⟨hil, by simpa using hm⟩ (by dsimp only; omega)))
          exact ⟨rfl, rfl, rfl, rfl, rfl, rfl, trivial⟩
      · refine j_drop (List.sublist_append_right _ _) ?_
        have hH2 : bfr.ents 1 (bytesV (p ++ q)) ++ (D :: (bf2.ents 1 (bytesV (p ++ q)) ++ bfb.ents 1 (bytesV q))) = (bfr.ents 1 (bytesV (p ++ q)) ++ (D :: (bf2.ents 1 (bytesV (p ++ q))))) ++ (bfb.ents 1 (bytesV q) ++ []) := by simp
        refine j_heap hH2 ?_
        refine j_perm (perm_front _ _ _) ?_
        rw [List.append_nil]
        refine r_exit rfl ?_
        refine r_seq ?_
        refine r_seq ?_
        refine r_region rfl ?_
        refine o_val rfl rfl rfl rfl (v_assign rfl) ?_
        refine o_end ?_
        refine r_block ?_
        refine r_loop (fun g : Nat × List UInt8 => g.1 ≤ q.length ∧ g.2.length = q.length) (fun g => [(5, strV (p ++ q)), (7, bfb.val q.length), (8, ptrV d), (9, bfr.val (p ++ q).length), (11, .int .i64 g.1)]) (fun _ => F1) (fun g => bfb.ents 1 (bytesV g.2) ++ (bfr.ents 1 (bytesV (p ++ q)) ++ (D :: (bf2.ents 1 (bytesV (p ++ q)))))) (fun g => q.length - g.1)
          (0, q) ⟨Nat.zero_le _, rfl⟩ ⟨rfl, rfl, rfl, rfl, rfl, trivial⟩ rfl rfl ?_
        rintro ⟨i, m⟩ ⟨hi, hm⟩ IH
        dsimp only at hi hm ⊢
        refine r_seq ?_
        refine r_seq ?_
        refine r_region rfl ?_
        refine o_val rfl rfl rfl rfl (v_move rfl) ?_
        refine o_val rfl rfl rfl rfl (v_move rfl) ?_
        refine o_val rfl rfl rfl rfl (v_len rfl rfl) ?_
        refine o_val rfl rfl rfl rfl (v_lss rfl rfl) ?_
        refine o_end ?_
        refine r_if rfl (fun h1 => ?_) (fun h1 => ?_)
        · have hil : i < q.length := by omega
          cases bfb with
          | nil =>
            have : q.length = 0 := hokb
            omega
          | «at» b c =>
            refine r_skip ?_
            refine r_seq ?_
            refine r_block ?_
            refine r_region rfl ?_
            refine o_val rfl rfl rfl rfl (v_move rfl) ?_
            refine o_val rfl rfl rfl rfl (v_move rfl) ?_
            refine o_val rfl rfl rfl rfl (v_index1 rfl rfl rfl rfl hil) ?_
            refine o_act0 rfl rfl rfl (a_store1 0 rfl rfl rfl rfl rfl (by rw [Nat.zero_add, bytesV_length]; omega)) ?_
            refine o_end ?_
            refine r_inBlock ?_
            refine r_region rfl ?_
            refine o_val rfl rfl rfl rfl (v_move rfl) ?_
            refine o_val rfl rfl rfl rfl (v_add rfl rfl (wrap_i64 (by omega) (by omega))) ?_
            refine o_val rfl rfl rfl rfl (v_assign rfl) ?_
            refine o_end ?_
            refine j_keep ?_ (j_heap (H' := (Bf.at b c).ents 1 (bytesV (m.set i 0)) ++ (bfr.ents 1 (bytesV (p ++ q)) ++ (D :: (bf2.ents 1 (bytesV (p ++ q)))))) (by rw [bytesV_set, Nat.zero_add]; rfl) (IH (i + 1, m.set i 0) ⟨hil, by simpa using hm⟩ (by dsimp only; omega)))
            exact ⟨rfl, rfl, rfl, rfl, rfl, trivial⟩
        · refine j_drop (List.sublist_append_right _ _) ?_
          refine r_exit rfl ?_
          refine r_seq ?_
          refine r_seq ?_
          refine r_region rfl ?_
          refine o_val rfl rfl rfl rfl (v_assign rfl) ?_
          refine o_end ?_
          refine r_block ?_
          refine r_loop (fun g : Nat × List UInt8 => g.1 ≤ (p ++ q).length ∧ g.2.length = (p ++ q).length) (fun g => [(5, strV (p ++ q)), (8, ptrV d), (9, bfr.val (p ++ q).length), (12, .int .i64 g.1)]) (fun _ => F1) (fun g => bfr.ents 1 (bytesV g.2) ++ (D :: (bf2.ents 1 (bytesV (p ++ q))))) (fun g => (p ++ q).length - g.1)
            (0, p ++ q) ⟨Nat.zero_le _, rfl⟩ ⟨rfl, rfl, rfl, rfl, trivial⟩ rfl rfl ?_
          rintro ⟨i, m⟩ ⟨hi, hm⟩ IH
          dsimp only at hi hm ⊢
          have hpq : (p ++ q).length ≤ 1000 := by simp; omega
          refine r_seq ?_
          refine r_seq ?_
          refine r_region rfl ?_
          refine o_val rfl rfl rfl rfl (v_move rfl) ?_
          refine o_val rfl rfl rfl rfl (v_move rfl) ?_
          refine o_val rfl rfl rfl rfl (v_len rfl rfl) ?_
          refine o_val rfl rfl rfl rfl (v_lss rfl rfl) ?_
          refine o_end ?_
          refine r_if rfl (fun h1 => ?_) (fun h1 => ?_)
          · have hil : i < (p ++ q).length := by omega
            cases bfr with
            | nil =>
              have : (p ++ q).length = 0 := hokr
              omega
            | «at» b c =>
              refine r_skip ?_
              refine r_seq ?_
              refine r_block ?_
              refine r_region rfl ?_
              refine o_val rfl rfl rfl rfl (v_move rfl) ?_
              refine o_val rfl rfl rfl rfl (v_move rfl) ?_
              refine o_val rfl rfl rfl rfl (v_index1 rfl rfl rfl rfl hil) ?_
              refine o_act0 rfl rfl rfl (a_store1 0 rfl rfl rfl rfl rfl (by rw [Nat.zero_add, bytesV_length]; omega)) ?_
              refine o_end ?_
              refine r_inBlock ?_
              refine r_region rfl ?_
              refine o_val rfl rfl rfl rfl (v_move rfl) ?_
              refine o_val rfl rfl rfl rfl (v_add rfl rfl (wrap_i64 (by omega) (by omega))) ?_
              refine o_val rfl rfl rfl rfl (v_assign rfl) ?_
              refine o_end ?_
              refine j_keep ?_ (j_heap (H' := (Bf.at b c).ents 1 (bytesV (m.set i 1)) ++ (D :: (bf2.ents 1 (bytesV (p ++ q))))) (by rw [bytesV_set, Nat.zero_add]; rfl) (IH (i + 1, m.set i 1) ⟨hil, by rw [List.length_set]; exact hm⟩ (by dsimp only; omega)))
              exact ⟨rfl, rfl, rfl, rfl, trivial⟩
          · refine j_drop (List.sublist_append_right _ _) ?_
            refine j_heap (H' := DkE d bf2 (p ++ q) p.length 2 :: (bf2.ents 1 (bytesV (p ++ q)) ++ [])) (by rw [hD, List.append_nil]) ?_
            refine r_exit rfl ?_
            refine r_seq ?_
            refine r_region rfl ?_
            refine o_val rfl rfl rfl rfl (v_move rfl) ?_
            refine o_call rfl rfl rfl rfl (c_call callable10 rfl) (dk_Read _ _ d bf2 (p ++ q) _ _ _ hok2 (by omega)) ?_
            rintro v' F1 H' ⟨rfl, bf4, hok4, rfl, rfl⟩ _
            refine o_val rfl rfl rfl rfl (v_bytesString rfl rfl rfl rfl (l := p ++ q) (Bf.reads (bf := bf4) (sz := 1) (n := (p ++ q).length) hok4 (by simp) (by intro e he; exact List.mem_append_left _ he))) ?_
            refine o_val rfl rfl rfl rfl (v_move rfl) ?_
            refine o_val rfl rfl rfl rfl (v_seql rfl rfl) ?_
            refine o_val rfl rfl rfl rfl (v_assign rfl) ?_
            refine o_end ?_
            exact r_ret1 Try.func3 rfl rfl ⟨by rw [decide_eq_true rfl], hF1⟩
theorem in_DiskKeeps (W : World) (v : Value) (zs : List Int) (h : InInts .u8 W v zs) (hn : zs.length * 1 ≤ 140737488351232) (u : Value) (ys : List Int) (hu : InInts .u8 W u ys) (hm : ys.length * 1 ≤ 140737488351232) :
    Calls Try.prog 3 #[v, u] W fun e w' => e = .returned (.bool true) ∧ Go.RowKit.Below W.heap.size W w' := by
  obtain ⟨l, hl, hv⟩ := inBytes h
  obtain ⟨m, hm, hu⟩ := inBytes hu
  exact below_of_does (law_DiskKeeps _ _ _ _ l m hv hu)
end Go.SX
