/-
  slices.Delete, at halves of messages.
-/
import Derived.Test.YtdmpnpcpnhcioaaFrame4
import Derived.Test.YtdmpnpcpnhcioaaSxDel
namespace Go.SX
open Go Go.Proofs
set_option maxRecDepth 4000
set_option linter.unusedSimpArgs false
set_option linter.unusedVariables false

theorem sl_DeleteH (O : World) (F : Fz) (b n cap i j : Nat) (zs : List Value) (Fr : List Ent) (hz : zs.length = n * 4) (hn : n ≤ cap) (hij : i < j) (hj : j ≤ n) (hsm : n ≤ 1000000) (h1 : zs.all oneCellB = true) :
    Does Try.prog O 36 #[.slice (some ⟨b, 0, none⟩) n cap, .int .i64 i, .int .i64 j] F (.mem b zs (cap * 4) :: Fr)
      (fun r F' H' => r = .slice (some ⟨b, 0, none⟩) (i + (n - j)) cap ∧ F' = F ∧ H' = .mem b (zs.take (i * 4) ++ zs.drop (j * 4)) (cap * 4) :: Fr) := by
  refine does_of_run (args := [_, _, _]) Try.func36 rfl rfl ?_
  refine r_seq ?_
  refine r_region rfl ?_
  refine o_val rfl rfl rfl rfl (v_assign rfl) ?_
  refine o_end ?_
  refine r_seq ?_
  refine r_region rfl ?_
  refine o_val rfl rfl rfl rfl (v_move rfl) ?_
  refine o_val rfl rfl rfl rfl (v_move rfl) ?_
  refine o_val rfl rfl rfl rfl (v_move rfl) ?_
  refine o_val rfl rfl rfl rfl (v_move rfl) ?_
  refine o_val rfl rfl rfl rfl (v_len rfl rfl) ?_
  refine o_val rfl rfl rfl rfl (v_slice3 (sz := 4) rfl rfl rfl rfl rfl rfl rfl rfl rfl (by omega) (by omega) (by omega)) ?_
  refine o_end ?_
  refine r_seq ?_
  refine r_seq ?_
  refine r_region rfl ?_
  refine o_val rfl rfl rfl rfl (v_move rfl) ?_
  refine o_val rfl rfl rfl rfl (v_move rfl) ?_
  refine o_val rfl rfl rfl rfl (v_eql rfl rfl) ?_
  refine o_end ?_
  refine r_if rfl (fun h => ?_) (fun h => ?_)
  · omega
  · have hall : Sl F (.mem b zs (cap * 4) :: Fr) 4 (.slice (some ⟨b, 0, none⟩) n cap) n zs := Bf.reads (bf := .at b cap) (sz := 4) hn hz (by intro q hq; exact List.mem_append_left Fr hq)
    have hsl := Sl.sliced (l := j) (h := n) hall (by omega) (Nat.le_refl _)
    rw [List.take_of_length_le (by simp; omega)] at hsl
    have hd1 : (zs.drop (j * 4)).all oneCellB = true := by
      rw [List.all_eq_true] at h1 ⊢
      exact fun c hc => h1 c (List.mem_of_mem_drop hc)
    refine r_skip ?_
    refine r_seq ?_
    refine r_region rfl ?_
    refine o_val rfl rfl rfl rfl (v_move rfl) ?_
    refine o_val rfl rfl rfl rfl (v_len rfl rfl) ?_
    refine o_val rfl rfl rfl rfl (v_assign rfl) ?_
    refine o_end ?_
    refine r_seq ?_
    refine d_region 1000000 rfl ([]) ?_
    refine d_take (i := 0) rfl rfl rfl (by decide +kernel) (by decide +kernel) (by decide +kernel) (Fz.le_refl _) (by simp) rfl (v_move rfl) ?_
    refine d_take (i := 1) rfl rfl rfl (by decide +kernel) (by decide +kernel) (by decide +kernel) (Fz.le_refl _) (by simp) rfl (v_move rfl) ?_
    refine d_take (i := 2) rfl rfl rfl (by decide +kernel) (by decide +kernel) (by decide +kernel) (Fz.le_refl _) (by simp) rfl (v_sliceH (sz := 4) rfl rfl rfl rfl rfl (by omega)) ?_
    refine d_take (i := 3) rfl rfl rfl (by decide +kernel) (by decide +kernel) (by decide +kernel) (Fz.le_refl _) (by simp) rfl (v_move rfl) ?_
    refine d_take (i := 4) rfl rfl rfl (by decide +kernel) (by decide +kernel) (by decide +kernel) (Fz.le_refl _) (by simp) rfl (v_move rfl) ?_
    refine d_take (i := 5) rfl rfl rfl (by decide +kernel) (by decide +kernel) (by decide +kernel) (Fz.le_refl _) (by simp) rfl (v_sliceL (sz := 4) rfl rfl rfl rfl rfl (by omega)) ?_
    have hcut := Bf.cut (.at b cap) i 4
    have hcut' : Go.sliced (some ⟨b, 0, none⟩) 0 i cap 4 = .slice (some ⟨b, 0, none⟩) i cap := hcut
    rw [hcut']
    refine d_one (i := 6) (by decide +kernel) ?_
    refine d1_act rfl rfl rfl rfl (a_appendIn 0 (n := i) (m := n - j) (sz := 4) (bytes := 48) ⟨⟨_, _, _, rfl, rfl, rfl, rfl, rfl, rfl⟩, by decide⟩ rfl rfl rfl hsl hd1 (by omega) (by rw [hz]; omega)) ?_
    rintro v' H' ⟨rfl, rfl⟩
    refine ⟨fun w hw => held_of hw (by first | exact Fz.le_refl _ | assumption) (by simp), ?_⟩
    have e1 : putAt zs (i * 4) (zs.drop (j * 4)) = (zs.take (i * 4) ++ zs.drop (j * 4)) ++ zs.drop (i * 4 + (zs.drop (j * 4)).length) := rfl
    have hl1 : (zs.take (i * 4) ++ zs.drop (j * 4)).length = (i + (n - j)) * 4 := by simp [hz]; omega
    have hl2 : (putAt zs (i * 4) (zs.drop (j * 4))).length = n * 4 := by rw [putAt_length _ _ _ (by simp [hz]; omega), hz]
    refine j_heap (H' := .mem b (putAt zs (i * 4) (zs.drop (j * 4))) (cap * 4) :: Fr) rfl ?_
    refine d_take (i := 7) rfl rfl rfl (by decide +kernel) (by decide +kernel) (by decide +kernel) (Fz.le_refl _) (by simp) rfl (v_assign rfl) ?_
    refine d_end (by decide +kernel) ?_
    refine r_seq ?_
    refine r_region rfl ?_
    refine o_val rfl rfl rfl rfl (v_move rfl) ?_
    refine o_val rfl rfl rfl rfl (v_move rfl) ?_
    refine o_val rfl rfl rfl rfl (v_len rfl rfl) ?_
    refine o_val rfl rfl rfl rfl (v_move rfl) ?_
    refine o_val rfl rfl rfl rfl (v_slice2 (sz := 4) rfl rfl rfl rfl rfl rfl rfl (by omega) (by omega)) ?_
    have hadd : (⟨b, 0, none⟩ : Addr).add ((i + (n - j)) * 4) = ⟨b, (i + (n - j)) * 4, none⟩ := by rw [sliced_add, Nat.zero_add]
    have hcl : Go.sliced (some ⟨b, 0, none⟩) (i + (n - j)) n cap 4 = .slice (some ⟨b, (i + (n - j)) * 4, none⟩) (n - (i + (n - j))) (cap - (i + (n - j))) := by
      unfold Go.sliced
      rw [if_neg (by omega), Option.map_some, hadd]
    rw [hcl]
    refine o_actN rfl rfl rfl (a_clear 0 (zc := [.int .u64 0, .int .i64 0, .int .i64 0, .slice none 0 0]) (bytes := 48) ⟨⟨_, _, _, rfl, rfl, rfl, rfl, rfl, rfl⟩, by decide⟩ rfl rfl rfl (by rw [hl2]; simp; omega)) ?_
    rintro v' H' rfl
    refine j_cut 0 ((i + (n - j)) * 4) (b := b) (n := cap * 4) rfl ?_
    have e2 : (putAt (putAt zs (i * 4) (zs.drop (j * 4))) ((i + (n - j)) * 4) (zeros [.int .u64 0, .int .i64 0, .int .i64 0, .slice none 0 0] (n - (i + (n - j))))).take ((i + (n - j)) * 4) = zs.take (i * 4) ++ zs.drop (j * 4) := by
      unfold putAt
      rw [List.append_assoc, List.take_append_of_le_length (by simp [hz]; omega), List.take_take, Nat.min_self]
      exact List.take_left' (by rw [hl1])
    refine j_heap (H' := .mem b (zs.take (i * 4) ++ zs.drop (j * 4)) (cap * 4) :: Fr) (by rw [← e2]; rfl) ?_
    refine o_end ?_
    refine r_seq ?_
    refine r_region rfl ?_
    refine o_val rfl rfl rfl rfl (v_move rfl) ?_
    refine o_val rfl rfl rfl rfl (v_assign rfl) ?_
    refine o_end ?_
    exact r_ret1 Try.func36 rfl rfl ⟨⟨rfl, rfl, rfl⟩, Fz.le_refl _⟩
end Go.SX
