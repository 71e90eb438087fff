/-
  The law WalCompacts: an image in the place of all comes back, whatever a crash leaves.
-/
import Derived.Test.YtmpbgnffdpppbaaWalQ
namespace Go.SX
open Go Go.Proofs
set_option maxRecDepth 4000
set_option linter.unusedSimpArgs false
set_option linter.unusedVariables false

structure CpG where
  i : Nat
  bf : Bf
  l : List En
def imC (r : RecI) (lv : Value) (l : List En) : Im := ⟨r.b, 2, 1 + r.a % 1000, r.b, 7, r.dv, r.d, lv, l⟩
set_option maxHeartbeats 3200000 in
theorem law_WalCompacts (O : World) (F : Fz) (vr : Value) (rs : List RecI) (r : RecI) (keep : Int) (v : Value) (b : List UInt8) (hrv : Sl F [] 5 vr rs.length (rs.flatMap RecI.cells)) (hrl : rs.length ≤ 9223372036854775807)
    (hrs : ∀ r ∈ rs, (r.k < 256 ∧ r.a < 18446744073709551616 ∧ r.b < 18446744073709551616 ∧ -32768 ≤ r.v ∧ r.v ≤ 32767) ∧ SlB F [] r.dv r.d)
    (hr : r.k < 256 ∧ r.a < 18446744073709551616 ∧ r.b < 18446744073709551616 ∧ -32768 ≤ r.v ∧ r.v ≤ 32767) (hrd : SlB F [] r.dv r.d) (hk1 : -9223372036854775808 ≤ keep) (hk2 : keep ≤ 9223372036854775807) (hv : SlB F [] v b) (hbl : b.length ≤ 140737488351232) :
    Does Try.prog O 8 #[vr, .agg r.cells.toArray, .int .i64 keep, v] F [] (fun r _ _ => r = .bool true) := by
  obtain ⟨a0, cap, rfl, hcap⟩ := Sl.shape hv
  obtain ⟨a9, cap9, rfl, hcap9⟩ := Sl.shape hrv
  obtain ⟨ad, cd, hdv, hcd⟩ := Sl.shape hrd
  have hrc : r.cells = [.int .u8 r.k, .int .u64 r.a, .int .u64 r.b, .int .i16 r.v, .slice ad r.d.length cd] := by unfold RecI.cells; rw [hdv]
  obtain ⟨r1, r2, r3, r4, r5⟩ := hr
  obtain ⟨rc, hrc'⟩ : ∃ rc : List Value, rc = r.cells := ⟨_, rfl⟩
  have ra : rc[1]? = some (.int .u64 r.a) := by rw [hrc', hrc]; rfl
  have rb : rc[2]? = some (.int .u64 r.b) := by rw [hrc', hrc]; rfl
  have rd : rc[4]? = some (.slice ad r.d.length cd) := by rw [hrc', hrc]; rfl
  refine does_of_run (args := [_, _, _, _]) Try.func8 rfl rfl ?_
  refine r_seq ?_
  refine r_region rfl ?_
  refine o_act rfl rfl rfl rfl (a_box rfl) ?_
  rintro v' H' ⟨s, rfl, rfl⟩
  refine j_heap (H' := [.mem s rc 5]) (by rw [hrc']; rfl) ?_
  refine o_val rfl rfl rfl rfl (v_assign rfl) ?_
  refine o_end ?_
  refine r_seq ?_
  refine r_seq ?_
  refine r_region rfl ?_
  refine o_call rfl rfl rfl rfl (c_call callable9 rfl) (law_awake _ _ _) ?_
  rintro v' F1 H' ⟨rfl, rfl⟩ hF1
  refine o_val rfl rfl rfl rfl (v_not rfl) ?_
  refine o_val rfl rfl rfl rfl (v_move rfl) ?_
  refine o_val rfl rfl rfl rfl (v_move rfl) ?_
  refine o_call rfl rfl rfl rfl (c_call callable10 rfl) (law_short _ _ _ rs _ (hrv.frz hF1) (fun r hr => (hrs r hr).2.frz hF1) hrl) ?_
  rintro v' F1 H' ⟨rfl, rfl, hsh⟩ _
  rcases hsh with rfl | ⟨rfl, hs60, hs200⟩
  · skip
    refine o_val rfl rfl rfl rfl (v_not rfl) ?_
    refine o_val rfl rfl rfl rfl (v_pick0 rfl rfl) ?_
    refine o_val rfl rfl rfl rfl (v_move rfl) ?_
    refine o_skip rfl rfl rfl rfl ?_
    refine o_skip rfl rfl rfl rfl ?_
    refine o_skip rfl rfl rfl rfl ?_
    refine o_skip rfl rfl rfl rfl ?_
    refine o_val rfl rfl rfl rfl (v_pick1 rfl rfl) ?_
    refine o_val rfl rfl rfl rfl (v_move rfl) ?_
    refine o_skip rfl rfl rfl rfl ?_
    refine o_skip rfl rfl rfl rfl ?_
    refine o_skip rfl rfl rfl rfl ?_
    refine o_val rfl rfl rfl rfl (v_pick1 rfl rfl) ?_
    refine o_end ?_
    refine r_true rfl ?_
    refine r_seq ?_
    refine r_region rfl ?_
    refine o_call rfl rfl rfl rfl (c_call callable9 rfl) (law_awake _ _ _) ?_
    rintro v' F2 H' ⟨rfl, rfl⟩ hF2
    refine o_val rfl rfl rfl rfl (v_assign rfl) ?_
    refine o_end ?_
    exact r_ret1 Try.func8 rfl rfl ⟨rfl, Fz.le_trans hF1 hF2⟩
  · skip
    refine o_val rfl rfl rfl rfl (v_not rfl) ?_
    refine o_val rfl rfl rfl rfl (v_pick0 rfl rfl) ?_
    refine o_val rfl rfl rfl rfl (v_move rfl) ?_
    refine o_val rfl rfl rfl rfl (v_field (k := 4) rfl rfl rfl) ?_
    refine o_val rfl rfl rfl rfl (v_load (v := .slice ad r.d.length cd) rfl rfl (cell_at (j := 0) rfl rd)) ?_
    refine o_val rfl rfl rfl rfl (v_len rfl rfl) ?_
    refine o_val rfl rfl rfl rfl (v_gtr rfl rfl) ?_
    refine o_val rfl rfl rfl rfl (v_pick0 rfl rfl) ?_
    refine j_prop 27 rfl (fun g1 => ?_) (fun g1 => ?_)
    · refine o_val rfl rfl rfl rfl (v_move rfl) ?_
      refine o_skip rfl rfl rfl rfl ?_
      refine o_skip rfl rfl rfl rfl ?_
      refine o_skip rfl rfl rfl rfl ?_
      refine o_val rfl rfl rfl rfl (v_pick1 rfl rfl) ?_
      refine o_end ?_
      refine r_true rfl ?_
      refine r_seq ?_
      refine r_region rfl ?_
      refine o_call rfl rfl rfl rfl (c_call callable9 rfl) (law_awake _ _ _) ?_
      rintro v' F2 H' ⟨rfl, rfl⟩ hF2
      refine o_val rfl rfl rfl rfl (v_assign rfl) ?_
      refine o_end ?_
      exact r_ret1 Try.func8 rfl rfl ⟨rfl, Fz.le_trans hF1 hF2⟩
    · refine o_val rfl rfl rfl rfl (v_move rfl) ?_
      refine o_val rfl rfl rfl rfl (v_move rfl) ?_
      refine o_val rfl rfl rfl rfl (v_len rfl rfl) ?_
      refine o_val rfl rfl rfl rfl (v_gtr rfl rfl) ?_
      refine o_val rfl rfl rfl rfl (v_pick0 rfl rfl) ?_
      refine o_end ?_
      refine r_if rfl (fun g2 => ?_) (fun g2 => ?_)
      · refine r_seq ?_
        refine r_region rfl ?_
        refine o_call rfl rfl rfl rfl (c_call callable9 rfl) (law_awake _ _ _) ?_
        rintro v' F2 H' ⟨rfl, rfl⟩ hF2
        refine o_val rfl rfl rfl rfl (v_assign rfl) ?_
        refine o_end ?_
        exact r_ret1 Try.func8 rfl rfl ⟨rfl, Fz.le_trans hF1 hF2⟩
      · refine r_skip ?_
        refine r_seq ?_
        refine r_region rfl ?_
        refine o_call rfl rfl rfl rfl (c_call callable24 rfl) (dk_New _ _ _) ?_
        rintro v' F1 H' ⟨rfl, d, rfl, rfl⟩ _
        refine o_val rfl rfl rfl rfl (v_assign rfl) ?_
        refine o_end ?_
        refine r_seq ?_
        refine r_region rfl ?_
        refine o_val rfl rfl rfl rfl (v_move rfl) ?_
        refine o_val rfl rfl rfl rfl (v_move rfl) ?_
        refine o_call rfl rfl rfl rfl (c_call callable29 rfl) (dk_Append _ _ d .nil [] b 0 0 _ [.mem s rc 5] rfl (hv.frz hF1) (by simp; omega) (by decide)) ?_
        rintro v' F1 H' ⟨rfl, rfl, bd, okd, rfl⟩ _
        rw [List.nil_append] at okd ⊢
        refine j_sel (H' := Ent.mem s rc 5 :: (DkE d bd b 0 (0 + 1) :: (bd.ents 1 (bytesV b)))) [[DkE d bd b 0 (0 + 1)], bd.ents 1 (bytesV b), [Ent.mem s rc 5]] [2, 0, 1] rfl rfl rfl ?_
        refine o_end ?_
        refine r_seq ?_
        refine r_region rfl ?_
        refine o_val rfl rfl rfl rfl (v_field (k := 2) rfl rfl rfl) ?_
        refine o_val rfl rfl rfl rfl (v_load (v := .int .u64 r.b) rfl rfl (cell_at (j := 0) rfl rb)) ?_
        refine o_val rfl rfl rfl rfl (v_build rfl rfl) ?_
        refine o_val rfl rfl rfl rfl (v_field (k := 1) rfl rfl rfl) ?_
        refine o_val rfl rfl rfl rfl (v_load (v := .int .u64 r.a) rfl rfl (cell_at (j := 0) rfl ra)) ?_
        refine o_val rfl rfl rfl rfl (v_rem rfl rfl (by decide) (r := ((r.a % 1000 : Nat) : Int)) rfl) ?_
        refine o_val rfl rfl rfl rfl (v_add rfl rfl (r := ((1 + r.a % 1000 : Nat) : Int)) (wrap_u64 (by omega) (by omega))) ?_
        refine o_val rfl rfl rfl rfl (v_field (k := 2) rfl rfl rfl) ?_
        refine o_val rfl rfl rfl rfl (v_load (v := .int .u64 r.b) rfl rfl (cell_at (j := 0) rfl rb)) ?_
        refine o_val rfl rfl rfl rfl (v_field (k := 4) rfl rfl rfl) ?_
        refine o_val rfl rfl rfl rfl (v_load (v := .slice ad r.d.length cd) rfl rfl (cell_at (j := 0) rfl rd)) ?_
        refine o_val rfl rfl rfl rfl (v_build rfl rfl) ?_
        refine o_val rfl rfl rfl rfl (v_build rfl rfl) ?_
        refine o_act rfl rfl rfl rfl (a_alloc rfl) ?_
        rintro v' H' ⟨t, rfl, rfl⟩
        refine o_act0 rfl rfl rfl (a_store (sz := 7) 0 rfl rfl rfl rfl rfl rfl (Nat.le_of_ble_eq_true rfl)) ?_
        have hic : ∀ lv l, (imC r lv l).cells = [.int .u64 r.b, .int .i64 2, .int .u64 (1 + r.a % 1000 : Nat), .int .u64 r.b, .int .u64 7, .slice ad r.d.length cd, lv] := fun lv l => by unfold imC Im.cells; rw [hdv]; rfl
        refine j_heap (H' := .mem t (imC r (Bf.nil.val 0) []).cells 7 :: .mem s rc 5 :: DkE d bd b 0 1 :: (bd.ents 1 (bytesV b))) (by rw [hic]; rfl) ?_
        refine j_sel (H' := .mem t (imC r (Bf.nil.val 0) []).cells 7 :: (Bf.nil.ents 4 (enV []) ++ (DkE d bd b 0 1 :: (bd.ents 1 (bytesV b) ++ [])))) [[Ent.mem t (imC r (Bf.nil.val 0) []).cells 7], [Ent.mem s rc 5], [DkE d bd b 0 1], bd.ents 1 (bytesV b)] [0, 2, 3] rfl rfl (by simp [cat, pick1, Bf.ents]) ?_
        refine o_end ?_
        refine r_seq ?_
        refine r_seq ?_
        refine r_region rfl ?_
        refine o_val rfl rfl rfl rfl (v_assign rfl) ?_
        refine o_end ?_
        refine r_block ?_
        refine r_loop (fun g : CpG => g.i ≤ rs.length ∧ g.l.length = g.i ∧ (∀ e ∈ g.l, e.ok F1 ∧ e.data.length ≤ 200) ∧ Consec (1 + r.a % 1000) g.l ∧ g.bf.ok g.i) (fun g => [(0, .slice a9 rs.length cap9), (2, .int .i64 keep), (9, ptrV d), (10, ptrV t), (11, .int .i64 g.i)]) (fun _ => F1) (fun g => .mem t (imC r (g.bf.val g.i) g.l).cells 7 :: (g.bf.ents 4 (enV g.l) ++ (DkE d bd b 0 1 :: (bd.ents 1 (bytesV b) ++ [])))) (fun g => rs.length - g.i) ⟨0, .nil, []⟩ ⟨Nat.zero_le _, rfl, by simp, Consec.nil _, rfl⟩ ⟨rfl, rfl, rfl, rfl, rfl, trivial⟩ rfl rfl ?_
        rintro ⟨i, bf, l⟩ ⟨hi, hll, hlo, hlc, hok⟩ IH
        dsimp only at hi hll hlo hlc hok ⊢
        subst hll
        refine r_seq ?_
        refine r_seq ?_
        refine r_region rfl ?_
        refine o_val rfl rfl rfl rfl (v_move rfl) ?_
        refine o_val rfl rfl rfl rfl (v_move rfl) ?_
        refine o_val rfl rfl rfl rfl (v_len rfl rfl) ?_
        refine o_val rfl rfl rfl rfl (v_lss rfl rfl) ?_
        refine o_end ?_
        refine r_if rfl (fun h => ?_) (fun h => ?_)
        · have hil : l.length < rs.length := by omega
          obtain ⟨b0, off0, c0, hab, hcl⟩ := rec_cells hrv hil
          simp only [Value.slice.injEq] at hab
          obtain ⟨rfl, _, rfl⟩ := hab
          have hri := hrs rs[l.length] (List.getElem_mem _)
          have hdi := hs200 rs[l.length] (List.getElem_mem _)
          generalize rs[l.length] = q at *
          obtain ⟨⟨w1, w2, w3, w4, w5⟩, w6⟩ := hri
          obtain ⟨a1, c1, hqv, hc1⟩ := Sl.shape w6
          obtain ⟨e, hee⟩ : ∃ e : En, e = ⟨1 + r.a % 1000 + l.length + 1, q.b, q.k, .slice a1 q.d.length c1, q.d⟩ := ⟨_, rfl⟩
          have heok : e.ok F1 := by rw [hee]; exact ⟨by dsimp only; omega, w3, w1, by dsimp only; rw [← hqv]; exact w6.frz hF1, by dsimp only; omega⟩
          have hel : e.data.length ≤ 200 := by rw [hee]; exact hdi
          have heix : e.ix = 1 + r.a % 1000 + l.length + 1 := by rw [hee]
          have hec : e.cells = [.int .u64 (1 + r.a % 1000 + l.length + 1 : Nat), .int .u64 q.b, .int .u8 q.k, .slice a1 q.d.length c1] := by rw [hee]; rfl
          have i2 : (imC r (bf.val l.length) l).cells[2]? = some (.int .u64 (1 + r.a % 1000 : Nat)) := by rw [hic]; rfl
          have i6 : (imC r (bf.val l.length) l).cells[6]? = some (bf.val l.length) := by rw [hic]; rfl
          refine r_skip ?_
          refine r_seq ?_
          refine r_block ?_
          refine d_region 28 rfl ([.mem t (imC r (bf.val l.length) l).cells 7]) ?_
          refine d_take (i := 0) rfl rfl rfl (by decide +kernel) (by decide +kernel) (by decide +kernel) (Fz.le_refl _) (by intro w hw; simp only [List.mem_cons, List.not_mem_nil, or_false] at hw; subst hw; simp) rfl (v_field (k := 6) rfl rfl rfl) ?_
          refine d_take (i := 1) rfl rfl rfl (by decide +kernel) (by decide +kernel) (by decide +kernel) (Fz.le_refl _) (by intro w hw; simp only [List.mem_cons, List.not_mem_nil, or_false] at hw; subst hw; simp) rfl (v_load (v := bf.val l.length) rfl rfl (cell_at (j := 0) rfl i6)) ?_
          refine d_take (i := 2) rfl rfl rfl (by decide +kernel) (by decide +kernel) (by decide +kernel) (Fz.le_refl _) (by intro w hw; simp only [List.mem_cons, List.not_mem_nil, or_false] at hw; subst hw; simp) rfl (v_field (k := 2) rfl rfl rfl) ?_
          refine d_take (i := 3) rfl rfl rfl (by decide +kernel) (by decide +kernel) (by decide +kernel) (Fz.le_refl _) (by intro w hw; simp only [List.mem_cons, List.not_mem_nil, or_false] at hw; subst hw; simp) rfl (v_field (k := 0) rfl rfl rfl) ?_
          refine d_take (i := 4) rfl rfl rfl (by decide +kernel) (by decide +kernel) (by decide +kernel) (Fz.le_refl _) (by intro w hw; simp only [List.mem_cons, List.not_mem_nil, or_false] at hw; subst hw; simp) rfl (v_load (v := .int .u64 (1 + r.a % 1000 : Nat)) rfl rfl (cell_at (j := 0) rfl i2)) ?_
          refine d_take (i := 5) rfl rfl rfl (by decide +kernel) (by decide +kernel) (by decide +kernel) (Fz.le_refl _) (by intro w hw; simp only [List.mem_cons, List.not_mem_nil, or_false] at hw; subst hw; simp) rfl (v_move rfl) ?_
          refine d_take (i := 6) rfl rfl rfl (by decide +kernel) (by decide +kernel) (by decide +kernel) (Fz.le_refl _) (by intro w hw; simp only [List.mem_cons, List.not_mem_nil, or_false] at hw; subst hw; simp) rfl (v_conv rfl rfl rfl (wrap_u64 (by omega) (by omega))) ?_
          refine d_take (i := 7) rfl rfl rfl (by decide +kernel) (by decide +kernel) (by decide +kernel) (Fz.le_refl _) (by intro w hw; simp only [List.mem_cons, List.not_mem_nil, or_false] at hw; subst hw; simp) rfl (v_add rfl rfl (r := ((1 + r.a % 1000 + l.length : Nat) : Int)) (wrap_u64 (by omega) (by omega))) ?_
          refine d_take (i := 8) rfl rfl rfl (by decide +kernel) (by decide +kernel) (by decide +kernel) (Fz.le_refl _) (by intro w hw; simp only [List.mem_cons, List.not_mem_nil, or_false] at hw; subst hw; simp) rfl (v_add rfl rfl (r := ((1 + r.a % 1000 + l.length + 1 : Nat) : Int)) (wrap_u64 (by omega) (by omega))) ?_
          refine d_take (i := 9) rfl rfl rfl (by decide +kernel) (by decide +kernel) (by decide +kernel) (Fz.le_refl _) (by intro w hw; simp only [List.mem_cons, List.not_mem_nil, or_false] at hw; subst hw; simp) rfl (v_move rfl) ?_
          refine d_take (i := 10) rfl rfl rfl (by decide +kernel) (by decide +kernel) (by decide +kernel) (Fz.le_refl _) (by intro w hw; simp only [List.mem_cons, List.not_mem_nil, or_false] at hw; subst hw; simp) rfl (v_move rfl) ?_
          refine d_take (i := 11) rfl rfl rfl (by decide +kernel) (by decide +kernel) (by decide +kernel) (Fz.le_refl _) (by intro w hw; simp only [List.mem_cons, List.not_mem_nil, or_false] at hw; subst hw; simp) rfl (v_indexN (sz := 5) rfl rfl rfl rfl hil) ?_
          refine d_take (i := 12) rfl rfl rfl (by decide +kernel) (by decide +kernel) (by decide +kernel) (Fz.le_refl _) (by intro w hw; simp only [List.mem_cons, List.not_mem_nil, or_false] at hw; subst hw; simp) rfl (v_field (k := 2) rfl rfl rfl) ?_
          refine d_take (i := 13) rfl rfl rfl (by decide +kernel) (by decide +kernel) (by decide +kernel) (Fz.le_refl _) (by intro w hw; simp only [List.mem_cons, List.not_mem_nil, or_false] at hw; subst hw; simp) rfl (v_load (v := .int .u64 q.b) rfl rfl ((hcl 2 _ rfl).mono hF1 (by simp))) ?_
          refine d_take (i := 14) rfl rfl rfl (by decide +kernel) (by decide +kernel) (by decide +kernel) (Fz.le_refl _) (by intro w hw; simp only [List.mem_cons, List.not_mem_nil, or_false] at hw; subst hw; simp) rfl (v_move rfl) ?_
          refine d_take (i := 15) rfl rfl rfl (by decide +kernel) (by decide +kernel) (by decide +kernel) (Fz.le_refl _) (by intro w hw; simp only [List.mem_cons, List.not_mem_nil, or_false] at hw; subst hw; simp) rfl (v_move rfl) ?_
          refine d_take (i := 16) rfl rfl rfl (by decide +kernel) (by decide +kernel) (by decide +kernel) (Fz.le_refl _) (by intro w hw; simp only [List.mem_cons, List.not_mem_nil, or_false] at hw; subst hw; simp) rfl (v_indexN (sz := 5) rfl rfl rfl rfl hil) ?_
          refine d_take (i := 17) rfl rfl rfl (by decide +kernel) (by decide +kernel) (by decide +kernel) (Fz.le_refl _) (by intro w hw; simp only [List.mem_cons, List.not_mem_nil, or_false] at hw; subst hw; simp) rfl (v_field (k := 0) rfl rfl rfl) ?_
          refine d_take (i := 18) rfl rfl rfl (by decide +kernel) (by decide +kernel) (by decide +kernel) (Fz.le_refl _) (by intro w hw; simp only [List.mem_cons, List.not_mem_nil, or_false] at hw; subst hw; simp) rfl (v_load (v := .int .u8 q.k) rfl rfl ((hcl 0 _ rfl).mono hF1 (by simp))) ?_
          refine d_take (i := 19) rfl rfl rfl (by decide +kernel) (by decide +kernel) (by decide +kernel) (Fz.le_refl _) (by intro w hw; simp only [List.mem_cons, List.not_mem_nil, or_false] at hw; subst hw; simp) rfl (v_move rfl) ?_
          refine d_take (i := 20) rfl rfl rfl (by decide +kernel) (by decide +kernel) (by decide +kernel) (Fz.le_refl _) (by intro w hw; simp only [List.mem_cons, List.not_mem_nil, or_false] at hw; subst hw; simp) rfl (v_move rfl) ?_
          refine d_take (i := 21) rfl rfl rfl (by decide +kernel) (by decide +kernel) (by decide +kernel) (Fz.le_refl _) (by intro w hw; simp only [List.mem_cons, List.not_mem_nil, or_false] at hw; subst hw; simp) rfl (v_indexN (sz := 5) rfl rfl rfl rfl hil) ?_
          refine d_take (i := 22) rfl rfl rfl (by decide +kernel) (by decide +kernel) (by decide +kernel) (Fz.le_refl _) (by intro w hw; simp only [List.mem_cons, List.not_mem_nil, or_false] at hw; subst hw; simp) rfl (v_field (k := 4) rfl rfl rfl) ?_
          refine d_take (i := 23) rfl rfl rfl (by decide +kernel) (by decide +kernel) (by decide +kernel) (Fz.le_refl _) (by intro w hw; simp only [List.mem_cons, List.not_mem_nil, or_false] at hw; subst hw; simp) rfl (v_load (v := .slice a1 q.d.length c1) rfl rfl ((hcl 4 _ (by show some q.dv = _; rw [hqv])).mono hF1 (by simp))) ?_
          refine d_take (i := 24) rfl rfl rfl (by decide +kernel) (by decide +kernel) (by decide +kernel) (Fz.le_refl _) (by intro w hw; simp only [List.mem_cons, List.not_mem_nil, or_false] at hw; subst hw; simp) rfl (v_build rfl rfl) ?_
          refine d_one (i := 25) (by decide +kernel) ?_
          refine d1_act rfl rfl rfl rfl (a_buildS (sz := 4) (cs := [.int .u64 (1 + r.a % 1000 + l.length + 1 : Nat), .int .u64 q.b, .int .u8 q.k, .slice a1 q.d.length c1]) [.tmp 81] rfl rfl rfl rfl rfl rfl rfl rfl rfl rfl) ?_
          rintro v' H' ⟨y, rfl, rfl⟩
          refine ⟨fun w hw => held_of hw (by first | exact Fz.le_refl _ | assumption) (by intro w hw; simp only [List.mem_cons, List.not_mem_nil, or_false] at hw; subst hw; simp), ?_⟩
          rw [← hec]
          refine d_one (i := 26) (by decide +kernel) ?_
          refine d1_act rfl rfl rfl rfl (a_appendP (bf := bf) (n := l.length) (sz := 4) (bytes := 48) [.mem y e.cells 4, .mem t (imC r (bf.val l.length) l).cells 7] ⟨⟨_, _, _, rfl, rfl, rfl, rfl, rfl, rfl⟩, by decide⟩ rfl hok (by rw [en_len]) rfl rfl (sl_lit (e := e) (List.mem_cons_self ..)) (by simpa [enV] using heok.one) (by unfold maxLen; omega) (by omega)) ?_
          rintro v' H' ⟨bf2, rfl, hok2, rfl⟩
          refine ⟨fun w hw => held_of hw (by first | exact Fz.le_refl _ | assumption) (by intro w hw; simp only [List.mem_cons, List.not_mem_nil, or_false] at hw; subst hw; simp), ?_⟩
          rw [← vec_append]
          refine d_take (i := 27) rfl rfl rfl (by decide +kernel) (by decide +kernel) (by decide +kernel) (Fz.le_refl _) (by intro w hw; simp only [List.mem_cons, List.not_mem_nil, or_false] at hw; subst hw; simp) rfl (v_field (k := 6) rfl rfl rfl) ?_
          refine d_one (i := 28) (by decide +kernel) ?_
          refine d1_last 1000000 ([]) rfl rfl rfl (a_store1 1 rfl rfl rfl rfl rfl (Nat.le_of_ble_eq_true rfl)) ?_
          refine j_heap (H' := .mem y e.cells 4 :: .mem t (imC r (bf2.val (l.length + 1)) (l ++ [e])).cells 7 :: (bf2.ents 4 (enV (l ++ [e])) ++ (DkE d bd b 0 1 :: (bd.ents 1 (bytesV b) ++ [])))) (by rw [hic, hic]; rfl) ?_
          refine j_drop (List.sublist_cons_self _ _) ?_
          have hl1 : (l ++ [e]).length = l.length + 1 := by simp
          refine d_end (by decide +kernel) ?_
          refine r_inBlock ?_
          refine r_region rfl ?_
          refine o_val rfl rfl rfl rfl (v_move rfl) ?_
          refine o_val rfl rfl rfl rfl (v_add rfl rfl (wrap_i64 (by omega) (by omega))) ?_
          refine o_val rfl rfl rfl rfl (v_assign rfl) ?_
          refine o_end ?_
          refine j_keep ?_ (IH ⟨l.length + 1, bf2, l ++ [e]⟩ ⟨by dsimp only; omega, hl1, ?_, ?_, hok2⟩ (by dsimp only; omega))
          · exact ⟨rfl, rfl, rfl, rfl, rfl, trivial⟩
          · intro w hw
            rcases List.mem_append.1 hw with hw | hw
            · exact hlo w hw
            · rw [List.mem_singleton] at hw
              rw [hw]
              exact ⟨heok, hel⟩
          · have := Consec.more (e := e) hlc (Nat.le_refl _) heix
            rwa [List.take_length] at this
        · have hle : l.length = rs.length := by omega
          clear IH
          refine j_sel (H' := bf.ents 4 (enV l) ++ (DkE d bd b 0 1 :: (bd.ents 1 (bytesV b) ++ [.mem t (imC r (bf.val l.length) l).cells 7]))) [[Ent.mem t (imC r (bf.val l.length) l).cells 7], bf.ents 4 (enV l), [DkE d bd b 0 1], bd.ents 1 (bytesV b), []] [1, 2, 3, 0] rfl rfl rfl ?_
          refine j_freezeBf (n := l.length) hok (by rw [en_len]) fun F3 hF3 hs3 => ?_
          obtain ⟨p, hp⟩ : ∃ p : Im, p = imC r (bf.val l.length) l := ⟨_, rfl⟩
          rw [← hp]
          have hpok : p.ok F3 := by
            rw [hp]
            exact ⟨r3, by show (-1 : Int) ≤ 2; decide, by show (2 : Int) < 65535; decide, by show 1 + r.a % 1000 < 18446744073709551616; omega, r3, by show (7 : Nat) < 18446744073709551616; decide, hrd.frz (Fz.le_trans hF1 hF3), by show r.d.length ≤ 1048576; omega, hs3, fun e he => (hlo e he).1.frz hF3⟩
          have hpl : p.l.length = rs.length := by rw [hp]; exact hle
          have hpi : p.pure = ⟨r.b, 2, 1 + r.a % 1000, r.b, 7, r.d, l.map En.pure⟩ := by rw [hp]; rfl
          have hreach : Reaches p.pure.whole p.pure := by
            rw [hpi]
            refine whole_reaches _ (.inl (by dsimp only; omega)) r3 (by dsimp only; omega) (by dsimp only; omega) (by dsimp only; omega) r3 (by dsimp only; omega) (by dsimp only; omega) ?_ ?_
            · intro w hw
              obtain ⟨e, he, rfl⟩ := List.mem_map.1 hw
              have h1 := (hlo e he).1
              have h2 := (hlo e he).2
              exact ⟨h1.ix, h1.tm, h1.kd, by show e.data.length ≤ _; omega⟩
            · intro j hj
              dsimp only at hj ⊢
              rw [List.getElem_map]
              exact hlc j (by simpa using hj)
          have hpo := hpok.one
          have hscan := hreach.end_
          have hwl : p.pure.whole.length ≤ 100000 := by
            have h1 : ∀ (w : List PE), (∀ e ∈ w, e.data.length ≤ 200) → (entsB w).length ≤ w.length * 230 := fun w => by
              induction w with
              | nil => intro _; simp
              | cons e w ih =>
                intro hw
                have h2 := ih fun x hx => hw x (List.mem_cons_of_mem _ hx)
                have h3 := hw e (List.mem_cons_self ..)
                have h4 : (PE.bs e).length = e.data.length + 30 := by simp [PE.bs]; omega
                simp only [entsB, List.flatMap_cons, List.length_append, List.length_cons] at h2 ⊢
                omega
            have h5 := h1 (l.map En.pure) (fun e0 he0 => by obtain ⟨e1, he1, rfl⟩ := List.mem_map.1 he0; exact (hlo e1 he1).2)
            rw [List.length_map] at h5
            have h6 := hdrB_le true r.b 2
            rw [hpi]
            show (snB (1 + r.a % 1000) r.b 7 r.d ++ (hdrB true r.b 2 ++ entsB (l.map En.pure))).length ≤ _
            have h7 : (snB (1 + r.a % 1000) r.b 7 r.d).length ≤ 300 := by unfold snB; split <;> simp; omega
            simp only [List.length_append]
            omega
          refine r_exit rfl ?_
          refine r_seq ?_
          refine r_region rfl ?_
          refine o_val rfl rfl rfl rfl (v_move rfl) ?_
          refine o_val rfl rfl rfl rfl (v_loadAgg (sz := 7) (cs := p.cells) rfl rfl rfl rfl (fun j c hj => cell_own (n := 7) (cs := p.cells) (by simp) (by rw [Nat.zero_add]; exact hj))) ?_
          refine o_call rfl rfl rfl rfl (c_call callable22 rfl) (wal_Compact _ _ d bd b 0 1 p _ (by decide) hpok (by omega)) ?_
          rintro v' F3 H' ⟨rfl, rfl, bw, okw, rfl⟩ _
          generalize hW : p.pure.whole = W at *
          refine o_val rfl rfl rfl rfl (v_assign rfl) ?_
          refine o_end ?_
          refine r_seq ?_
          refine r_region rfl ?_
          refine o_val rfl rfl rfl rfl (v_move rfl) ?_
          refine o_val rfl rfl rfl rfl (v_move rfl) ?_
          refine o_call rfl rfl rfl rfl (c_call callable28 rfl) (dk_Crash _ _ d bw W W.length (1 + 1) keep _ okw (by omega) (Nat.le_refl _) hk1 hk2) ?_
          rintro v' F3 H' ⟨rfl, rfl, rfl⟩ _
          have hsm : W.length + min keep.toNat (W.length - W.length) = W.length := by omega
          rw [hsm, List.take_length]
          refine o_end ?_
          refine r_seq ?_
          refine r_region rfl ?_
          refine o_val rfl rfl rfl rfl (v_move rfl) ?_
          refine o_call rfl rfl rfl rfl (c_call callable20 rfl) (wal_Open _ _ d bw W W.length (1 + 1) _ okw (by omega) (by decide)) ?_
          rintro v' F4 H' ⟨hF4, p2, bf2, sure2, ops2, hp2, hpl2, hpp2, rfl, okf2, hsu, rfl⟩ _
          rw [hscan] at hpp2 hsu okf2 ⊢
          dsimp only at hpp2 hsu okf2 ⊢
          rw [List.take_length] at okf2 ⊢
          have hsu := hsu rfl
          rw [hsu]
          have hpo2 := hp2.one
          refine o_val rfl rfl rfl rfl (v_move rfl) ?_
          refine o_val rfl rfl rfl rfl (v_extract rfl rfl) ?_
          refine o_val rfl rfl rfl rfl (v_extract rfl rfl) ?_
          refine o_act rfl rfl rfl rfl (a_alloc rfl) ?_
          rintro v' H' ⟨z, rfl, rfl⟩
          refine o_act0 rfl rfl rfl (a_store (sz := 7) 0 rfl rfl rfl (by simpa [Value.cells] using hpo2) rfl rfl (Nat.le_of_ble_eq_true rfl)) ?_
          refine j_heap (H' := .mem z p2.cells 7 :: DkE d bf2 W W.length ops2 :: (bf2.ents 1 (bytesV W) ++ [.mem t p.cells 7])) rfl ?_
          refine j_sel (H' := DkE d bf2 W W.length ops2 :: [.mem z p2.cells 7, .mem t p.cells 7]) [[Ent.mem z p2.cells 7], [DkE d bf2 W W.length ops2], bf2.ents 1 (bytesV W), [Ent.mem t p.cells 7]] [1, 0, 3] rfl rfl rfl ?_
          refine o_val rfl rfl rfl rfl (v_assign rfl) ?_
          refine o_end ?_
          refine r_seq ?_
          refine d_region 1000000 rfl ([.mem z p2.cells 7, .mem t p.cells 7]) ?_
          refine d_take (i := 0) rfl rfl rfl (by decide +kernel) (by decide +kernel) (by decide +kernel) (Fz.le_refl _) (by intro w hw; simp only [List.mem_cons, List.not_mem_nil, or_false] at hw; rcases hw with rfl | rfl <;> simp) rfl (v_move rfl) ?_
          refine d_take (i := 1) rfl rfl rfl (by decide +kernel) (by decide +kernel) (by decide +kernel) (Fz.le_refl _) (by intro w hw; simp only [List.mem_cons, List.not_mem_nil, or_false] at hw; rcases hw with rfl | rfl <;> simp) rfl (v_eql rfl rfl) ?_
          refine d_take (i := 2) rfl rfl rfl (by decide +kernel) (by decide +kernel) (by decide +kernel) (Fz.le_refl _) (by intro w hw; simp only [List.mem_cons, List.not_mem_nil, or_false] at hw; rcases hw with rfl | rfl <;> simp) rfl (v_move rfl) ?_
          refine d_take (i := 3) rfl rfl rfl (by decide +kernel) (by decide +kernel) (by decide +kernel) (Fz.le_refl _) (by intro w hw; simp only [List.mem_cons, List.not_mem_nil, or_false] at hw; rcases hw with rfl | rfl <;> simp) rfl (v_move rfl) ?_
          refine d_take (i := 4) rfl rfl rfl (by decide +kernel) (by decide +kernel) (by decide +kernel) (Fz.le_refl _) (by intro w hw; simp only [List.mem_cons, List.not_mem_nil, or_false] at hw; rcases hw with rfl | rfl <;> simp) rfl (v_eql rfl rfl) ?_
          refine d_take (i := 5) rfl rfl rfl (by decide +kernel) (by decide +kernel) (by decide +kernel) (Fz.le_refl _) (by intro w hw; simp only [List.mem_cons, List.not_mem_nil, or_false] at hw; rcases hw with rfl | rfl <;> simp) rfl (v_pick1 rfl rfl) ?_
          refine d_take (i := 6) rfl rfl rfl (by decide +kernel) (by decide +kernel) (by decide +kernel) (Fz.le_refl _) (by intro w hw; simp only [List.mem_cons, List.not_mem_nil, or_false] at hw; rcases hw with rfl | rfl <;> simp) rfl (v_move rfl) ?_
          refine d_take (i := 7) rfl rfl rfl (by decide +kernel) (by decide +kernel) (by decide +kernel) (Fz.le_refl _) (by intro w hw; simp only [List.mem_cons, List.not_mem_nil, or_false] at hw; rcases hw with rfl | rfl <;> simp) rfl (v_loadAgg (sz := 7) (cs := p2.cells) rfl rfl rfl rfl (cells_of (j := 0) _ _ rfl rfl)) ?_
          refine d_take (i := 9) rfl rfl rfl (by decide +kernel) (by decide +kernel) (by decide +kernel) (Fz.le_refl _) (by intro w hw; simp only [List.mem_cons, List.not_mem_nil, or_false] at hw; rcases hw with rfl | rfl <;> simp) rfl (v_loadAgg (sz := 7) (cs := p.cells) rfl rfl rfl rfl (cells_of (j := 1) _ _ rfl rfl)) ?_
          refine d_one (i := 8) (by decide +kernel) ?_
          refine d1_call rfl rfl rfl rfl (c_call callable14 rfl) (law_image _ _ p2 _ hp2) ?_
          rintro v' F4 H' ⟨rfl, rfl, rfl⟩ _
          refine ⟨fun w hw => held_of hw (by first | exact Fz.le_refl _ | assumption) (by intro w hw; simp only [List.mem_cons, List.not_mem_nil, or_false] at hw; rcases hw with rfl | rfl <;> simp), ?_⟩
          refine d_one (i := 10) (by decide +kernel) ?_
          refine d1_call rfl rfl rfl rfl (c_call callable14 rfl) (law_image _ _ p _ (hpok.frz hF4)) ?_
          rintro v' F4 H' ⟨rfl, rfl, rfl⟩ _
          refine ⟨fun w hw => held_of hw (by first | exact Fz.le_refl _ | assumption) (by intro w hw; simp only [List.mem_cons, List.not_mem_nil, or_false] at hw; rcases hw with rfl | rfl <;> simp), ?_⟩
          refine d_one (i := 11) (by decide +kernel) ?_
          refine d1_call rfl rfl rfl rfl (c_call callable13 rfl) (ref_Same _ _ p2 p _ hp2 (hpok.frz hF4) hpp2 (by omega)) ?_
          rintro v' F4 H' ⟨rfl, rfl, rfl⟩ _
          refine ⟨fun w hw => held_of hw (by first | exact Fz.le_refl _ | assumption) (by intro w hw; simp only [List.mem_cons, List.not_mem_nil, or_false] at hw; rcases hw with rfl | rfl <;> simp), ?_⟩
          refine d_take (i := 12) rfl rfl rfl (by decide +kernel) (by decide +kernel) (by decide +kernel) (Fz.le_refl _) (by intro w hw; simp only [List.mem_cons, List.not_mem_nil, or_false] at hw; rcases hw with rfl | rfl <;> simp) rfl (v_pick1 rfl rfl) ?_
          refine d_take (i := 13) rfl rfl rfl (by decide +kernel) (by decide +kernel) (by decide +kernel) (Fz.le_refl _) (by intro w hw; simp only [List.mem_cons, List.not_mem_nil, or_false] at hw; rcases hw with rfl | rfl <;> simp) rfl (v_move rfl) ?_
          refine d_take (i := 14) rfl rfl rfl (by decide +kernel) (by decide +kernel) (by decide +kernel) (Fz.le_refl _) (by intro w hw; simp only [List.mem_cons, List.not_mem_nil, or_false] at hw; rcases hw with rfl | rfl <;> simp) rfl (v_move rfl) ?_
          refine d_take (i := 16) rfl rfl rfl (by decide +kernel) (by decide +kernel) (by decide +kernel) (Fz.le_refl _) (by intro w hw; simp only [List.mem_cons, List.not_mem_nil, or_false] at hw; rcases hw with rfl | rfl <;> simp) rfl (v_move rfl) ?_
          refine d_one (i := 15) (by decide +kernel) ?_
          refine d1_call rfl rfl rfl rfl (c_call callable27 rfl) (dk_Sure _ _ d bf2 W W.length ops2 _) ?_
          rintro v' F4 H' ⟨rfl, rfl, rfl⟩ _
          refine ⟨fun w hw => held_of hw (by first | exact Fz.le_refl _ | assumption) (by intro w hw; simp only [List.mem_cons, List.not_mem_nil, or_false] at hw; rcases hw with rfl | rfl <;> simp), ?_⟩
          refine d_one (i := 17) (by decide +kernel) ?_
          refine d1_call rfl rfl rfl rfl (c_call callable26 rfl) (dk_Len _ _ d bf2 W W.length ops2 _) ?_
          rintro v' F4 H' ⟨rfl, rfl, rfl⟩ _
          refine ⟨fun w hw => held_of hw (by first | exact Fz.le_refl _ | assumption) (by intro w hw; simp only [List.mem_cons, List.not_mem_nil, or_false] at hw; rcases hw with rfl | rfl <;> simp), ?_⟩
          refine d_take (i := 18) rfl rfl rfl (by decide +kernel) (by decide +kernel) (by decide +kernel) (Fz.le_refl _) (by intro w hw; simp only [List.mem_cons, List.not_mem_nil, or_false] at hw; rcases hw with rfl | rfl <;> simp) rfl (v_eql rfl rfl) ?_
          refine d_take (i := 19) rfl rfl rfl (by decide +kernel) (by decide +kernel) (by decide +kernel) (Fz.le_refl _) (by intro w hw; simp only [List.mem_cons, List.not_mem_nil, or_false] at hw; rcases hw with rfl | rfl <;> simp) rfl (v_pick1 rfl rfl) ?_
          refine d_take (i := 20) rfl rfl rfl (by decide +kernel) (by decide +kernel) (by decide +kernel) (Fz.le_refl _) (by intro w hw; simp only [List.mem_cons, List.not_mem_nil, or_false] at hw; rcases hw with rfl | rfl <;> simp) rfl (v_assign rfl) ?_
          refine d_end (by decide +kernel) ?_
          refine r_ret1 Try.func8 rfl rfl ⟨by rw [decide_eq_true rfl], Fz.le_trans hF1 (Fz.le_trans hF3 hF4)⟩
theorem in_WalCompacts (W : World) (vr : Value) (rs : List RecI) (hr : InRec W vr rs) (hrl : rs.length ≤ 9223372036854775807) (r : RecI) (hrk : r.ok W) (n : Int) (hn : (Lit.int .i64 n).wf = true) (v : Value) (zs : List Int) (h : InInts .u8 W v zs) (hz : zs.length * 1 ≤ 140737488351232) :
    Calls Try.prog 8 #[vr, .agg r.cells.toArray, .int .i64 n, v] W fun e w' => e = .returned (.bool true) ∧ Go.RowKit.Below W.heap.size W w' := by
  obtain ⟨l, hl, hv⟩ := inBytes h
  simp [Lit.wf, IntKind.min, IntKind.max, IntKind.signed, IntKind.bits] at hn
  exact below_of_does (law_WalCompacts _ _ vr rs r n v l hr.1 hrl (fun r hr' => ⟨⟨(hr.2 r hr').k, (hr.2 r hr').a, (hr.2 r hr').b, (hr.2 r hr').v1, (hr.2 r hr').v2⟩, (hr.2 r hr').d⟩) ⟨hrk.k, hrk.a, hrk.b, hrk.v1, hrk.v2⟩ hrk.d (by omega) (by omega) hv (by omega))
end Go.SX
