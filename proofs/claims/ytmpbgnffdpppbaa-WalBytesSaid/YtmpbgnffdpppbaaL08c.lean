/-
  The law WalBytes: what is to be kept, and an image, as records.
-/
import Derived.Test.YtmpbgnffdpppbaaWal10
namespace Go.SX
open Go Go.Proofs
set_option maxRecDepth 4000
set_option linter.unusedSimpArgs false
set_option linter.unusedVariables false

structure WbG where
  i : Nat
  be : Bf
  bb : Bf
  l : List En
def imB (r : RecI) (a : Nat) (vo : Int) (lv : Value) (l : List En) : Im := ⟨a, vo, r.a, r.b, r.a / 2, r.dv, r.d, lv, l⟩
set_option maxHeartbeats 3200000 in
theorem law_WalBytes (O : World) (F : Fz) (have_ : Bool) (a : Nat) (v16 : Int) (vr : Value) (rs : List RecI) (r : RecI) (ha : a < 18446744073709551616) (hv1 : -32768 ≤ v16) (hv2 : v16 ≤ 32767) (hrv : Sl F [] 5 vr rs.length (rs.flatMap RecI.cells)) (hrl : rs.length ≤ 9223372036854775807)
    (hrs : ∀ r ∈ rs, (r.k < 256 ∧ r.a < 18446744073709551616 ∧ r.b < 18446744073709551616 ∧ -32768 ≤ r.v ∧ r.v ≤ 32767) ∧ SlB F [] r.dv r.d)
    (hr : r.k < 256 ∧ r.a < 18446744073709551616 ∧ r.b < 18446744073709551616 ∧ -32768 ≤ r.v ∧ r.v ≤ 32767) (hrd : SlB F [] r.dv r.d) :
    Does Try.prog O 5 #[.bool have_, .int .u64 a, .int .i16 v16, vr, .agg r.cells.toArray] F [] (fun r _ _ => r = .bool true) := by
  obtain ⟨a9, cap9, rfl, hcap9⟩ := Sl.shape hrv
  obtain ⟨ad, cd, hdv, hcd⟩ := Sl.shape hrd
  have hrc : r.cells = [.int .u8 r.k, .int .u64 r.a, .int .u64 r.b, .int .i16 r.v, .slice ad r.d.length cd] := by unfold RecI.cells; rw [hdv]
  obtain ⟨r1, r2, r3, r4, r5⟩ := hr
  obtain ⟨rc, hrc'⟩ : ∃ rc : List Value, rc = r.cells := ⟨_, rfl⟩
  have ra : rc[1]? = some (.int .u64 r.a) := by rw [hrc', hrc]; rfl
  have rb : rc[2]? = some (.int .u64 r.b) := by rw [hrc', hrc]; rfl
  have rd : rc[4]? = some (.slice ad r.d.length cd) := by rw [hrc', hrc]; rfl
  refine does_of_run (args := [_, _, _, _, _]) Try.func5 rfl rfl ?_
  refine r_seq ?_
  refine r_region rfl ?_
  refine o_act rfl rfl rfl rfl (a_box rfl) ?_
  rintro v' H' ⟨s, rfl, rfl⟩
  refine j_heap (H' := [.mem s rc 5]) (by rw [hrc']; rfl) ?_
  refine o_val rfl rfl rfl rfl (v_assign rfl) ?_
  refine o_end ?_
  refine r_seq ?_
  refine r_seq ?_
  refine r_region rfl ?_
  refine o_call rfl rfl rfl rfl (c_call callable9 rfl) (law_awake _ _ _) ?_
  rintro v' F1 H' ⟨rfl, rfl⟩ hF1
  refine o_val rfl rfl rfl rfl (v_not rfl) ?_
  refine o_val rfl rfl rfl rfl (v_move rfl) ?_
  refine o_val rfl rfl rfl rfl (v_move rfl) ?_
  refine o_call rfl rfl rfl rfl (c_call callable10 rfl) (law_short _ _ _ rs _ (hrv.frz hF1) (fun r hr => (hrs r hr).2.frz hF1) hrl) ?_
  rintro v' F1 H' ⟨rfl, rfl, hsh⟩ _
  rcases hsh with rfl | ⟨rfl, hs60, hs200⟩
  · skip
    refine o_val rfl rfl rfl rfl (v_not rfl) ?_
    refine o_val rfl rfl rfl rfl (v_pick0 rfl rfl) ?_
    refine o_val rfl rfl rfl rfl (v_move rfl) ?_
    refine o_skip rfl rfl rfl rfl ?_
    refine o_skip rfl rfl rfl rfl ?_
    refine o_skip rfl rfl rfl rfl ?_
    refine o_skip rfl rfl rfl rfl ?_
    refine o_val rfl rfl rfl rfl (v_pick1 rfl rfl) ?_
    refine o_end ?_
    refine r_true rfl ?_
    refine r_seq ?_
    refine r_region rfl ?_
    refine o_call rfl rfl rfl rfl (c_call callable9 rfl) (law_awake _ _ _) ?_
    rintro v' F2 H' ⟨rfl, rfl⟩ hF2
    refine o_val rfl rfl rfl rfl (v_assign rfl) ?_
    refine o_end ?_
    exact r_ret1 Try.func5 rfl rfl ⟨rfl, Fz.le_trans hF1 hF2⟩
  · skip
    refine o_val rfl rfl rfl rfl (v_not rfl) ?_
    refine o_val rfl rfl rfl rfl (v_pick0 rfl rfl) ?_
    refine o_val rfl rfl rfl rfl (v_move rfl) ?_
    refine o_val rfl rfl rfl rfl (v_field (k := 4) rfl rfl rfl) ?_
    refine o_val rfl rfl rfl rfl (v_load (v := .slice ad r.d.length cd) rfl rfl (cell_at (j := 0) rfl rd)) ?_
    refine o_val rfl rfl rfl rfl (v_len rfl rfl) ?_
    refine o_val rfl rfl rfl rfl (v_gtr rfl rfl) ?_
    refine o_val rfl rfl rfl rfl (v_pick0 rfl rfl) ?_
    refine o_end ?_
    refine r_if rfl (fun g1 => ?_) (fun g1 => ?_)
    · refine r_seq ?_
      refine r_region rfl ?_
      refine o_call rfl rfl rfl rfl (c_call callable9 rfl) (law_awake _ _ _) ?_
      rintro v' F2 H' ⟨rfl, rfl⟩ hF2
      refine o_val rfl rfl rfl rfl (v_assign rfl) ?_
      refine o_end ?_
      exact r_ret1 Try.func5 rfl rfl ⟨rfl, Fz.le_trans hF1 hF2⟩
    · refine r_skip ?_
      refine r_seq ?_
      refine r_region rfl ?_
      refine o_val rfl rfl rfl rfl (v_move rfl) ?_
      refine o_val rfl rfl rfl rfl (v_conv rfl rfl rfl (wrap_i64 (by omega) (by omega))) ?_
      refine o_val rfl rfl rfl rfl (v_assign rfl) ?_
      refine o_end ?_
      refine r_seq ?_
      refine r_join (fun _ : Unit => True) (fun _ => [(0, .bool have_), (1, .int .u64 a), (3, .slice a9 rs.length cap9), (9, ptrV s), (11, .int .i64 (voR v16))]) (fun _ => F1) (fun _ => [.mem s rc 5]) ?_ ?_
      · intro J
        refine r_seq ?_
        refine r_region rfl ?_
        refine o_val rfl rfl rfl rfl (v_move rfl) ?_
        refine o_val rfl rfl rfl rfl (v_lss rfl rfl) ?_
        refine o_end ?_
        refine r_if rfl (fun g => ?_) (fun g => ?_)
        · have hv : voR v16 = -1 := by unfold voR; rw [if_pos g]
          refine r_region rfl ?_
          refine o_val rfl rfl rfl rfl (v_assign rfl) ?_
          refine o_end ?_
          refine j_keep ?_ (J () trivial)
          exact ⟨rfl, rfl, rfl, rfl, by rw [hv]; rfl, trivial⟩
        · have hv : voR v16 = v16 := by unfold voR; rw [if_neg g]
          refine r_skip ?_
          refine j_keep ?_ (J () trivial)
          exact ⟨rfl, rfl, rfl, rfl, by rw [hv]; rfl, trivial⟩
      rintro _ _
      have hvo1 : -1 ≤ voR v16 := by unfold voR; split <;> omega
      have hvo2 : voR v16 < 65535 := by unfold voR; split <;> omega
      generalize voR v16 = vo at *
      refine r_seq ?_
      refine r_region rfl ?_
      refine o_val rfl rfl rfl rfl (v_move rfl) ?_
      refine o_val rfl rfl rfl rfl (v_move rfl) ?_
      refine o_val rfl rfl rfl rfl (v_build rfl rfl) ?_
      refine o_act rfl rfl rfl rfl (a_alloc rfl) ?_
      rintro v' H' ⟨hh, rfl, rfl⟩
      refine o_act0 rfl rfl rfl (a_store (sz := 2) 0 rfl rfl rfl rfl rfl rfl (Nat.le_of_ble_eq_true rfl)) ?_
      refine j_heap (H' := .mem hh [.int .u64 a, .int .i64 vo] 2 :: .mem s rc 5 :: (Bf.nil.ents 1 (bytesV []) ++ [])) rfl ?_
      refine o_end ?_
      refine r_seq ?_
      refine r_region rfl ?_
      refine o_val rfl rfl rfl rfl (v_assign rfl) ?_
      refine o_end ?_
      refine r_seq ?_
      refine r_region rfl ?_
      refine o_val rfl rfl rfl rfl (v_assign rfl) ?_
      refine o_end ?_
      refine r_seq ?_
      refine r_join (fun bf : Bf => bf.ok (hdrB have_ a vo).length) (fun bf => [(0, .bool have_), (3, .slice a9 rs.length cap9), (9, ptrV s), (12, ptrV hh), (13, .slice none 0 0), (14, bf.val (hdrB have_ a vo).length)]) (fun _ => F1) (fun bf => .mem hh [.int .u64 a, .int .i64 vo] 2 :: .mem s rc 5 :: (bf.ents 1 (bytesV (hdrB have_ a vo)) ++ [])) ?_ ?_
      · intro J
        refine r_seq ?_
        refine r_region rfl ?_
        refine o_val rfl rfl rfl rfl (v_move rfl) ?_
        refine o_end ?_
        cases have_ with
        | true =>
          refine r_true rfl ?_
          refine r_region rfl ?_
          refine o_val rfl rfl rfl rfl (v_loadAgg (sz := 2) (cs := [.int .u64 a, .int .i64 vo]) rfl rfl rfl rfl (cells_of (j := 0) _ _ rfl rfl)) ?_
          refine o_call rfl rfl rfl rfl (c_call callable15 rfl) (ref_Hard _ _ a vo _ hvo1 hvo2) ?_
          rintro v' F1 H' ⟨rfl, b1, ok1, rfl, rfl⟩ _
          refine j_sel (H' := .mem hh [.int .u64 a, .int .i64 vo] 2 :: .mem s rc 5 :: (b1.ents 1 (bytesV (hdrB true a vo)) ++ [])) [b1.ents 1 (bytesV (hdrB true a vo)), [Ent.mem hh [.int .u64 a, .int .i64 vo] 2], [Ent.mem s rc 5], []] [1, 2, 0, 3] rfl rfl rfl ?_
          refine o_val rfl rfl rfl rfl (v_assign rfl) ?_
          refine o_end ?_
          refine j_keep ?_ (J b1 ok1)
          exact ⟨rfl, rfl, rfl, rfl, rfl, rfl, trivial⟩
        | false =>
          refine r_false rfl ?_
          refine r_skip ?_
          refine j_keep ?_ (J .nil rfl)
          exact ⟨rfl, rfl, rfl, rfl, rfl, rfl, trivial⟩
      · rintro bh hbh
        have hhl := hdrB_le have_ a vo
        refine r_seq ?_
        refine r_region rfl ?_
        refine o_val rfl rfl rfl rfl (v_loadAgg (sz := 2) (cs := [.int .u64 a, .int .i64 vo]) rfl rfl rfl rfl (cells_of (j := 0) _ _ rfl rfl)) ?_
        refine o_val rfl rfl rfl rfl (v_field (k := 1) rfl rfl rfl) ?_
        refine o_val rfl rfl rfl rfl (v_load (v := .int .u64 r.a) rfl rfl (cell_at (j := 1) rfl ra)) ?_
        refine o_val rfl rfl rfl rfl (v_field (k := 2) rfl rfl rfl) ?_
        refine o_val rfl rfl rfl rfl (v_load (v := .int .u64 r.b) rfl rfl (cell_at (j := 1) rfl rb)) ?_
        refine o_val rfl rfl rfl rfl (v_field (k := 1) rfl rfl rfl) ?_
        refine o_val rfl rfl rfl rfl (v_load (v := .int .u64 r.a) rfl rfl (cell_at (j := 1) rfl ra)) ?_
        refine o_val rfl rfl rfl rfl (v_quo rfl rfl (by decide) (r := ((r.a / 2 : Nat) : Int)) (by show IntKind.u64.wrap ((r.a / 2 : Nat) : Int) = _; exact wrap_u64 (by omega) (by omega))) ?_
        refine o_val rfl rfl rfl rfl (v_field (k := 4) rfl rfl rfl) ?_
        refine o_val rfl rfl rfl rfl (v_load (v := .slice ad r.d.length cd) rfl rfl (cell_at (j := 1) rfl rd)) ?_
        refine o_val rfl rfl rfl rfl (v_build rfl rfl) ?_
        refine o_val rfl rfl rfl rfl (v_build rfl rfl) ?_
        refine o_act rfl rfl rfl rfl (a_alloc rfl) ?_
        rintro v' H' ⟨t, rfl, rfl⟩
        refine o_act0 rfl rfl rfl (a_store (sz := 7) 0 rfl rfl rfl rfl rfl rfl (Nat.le_of_ble_eq_true rfl)) ?_
        have hic : ∀ lv l, (imB r a vo lv l).cells = [.int .u64 a, .int .i64 vo, .int .u64 r.a, .int .u64 r.b, .int .u64 (r.a / 2 : Nat), .slice ad r.d.length cd, lv] := fun lv l => by unfold imB Im.cells; rw [hdv]
        obtain ⟨tc, htc⟩ : ∃ tc : List Value, tc = (imB r a vo (.slice none 0 0) []).cells := ⟨_, rfl⟩
        have t2 : tc[2]? = some (.int .u64 r.a) := by rw [htc, hic]; rfl
        have hz : hdrB have_ a vo ++ entsB (([] : List En).map En.pure) = hdrB have_ a vo := by simp
        refine j_heap (H' := .mem t tc 7 :: .mem hh [.int .u64 a, .int .i64 vo] 2 :: .mem s rc 5 :: (bh.ents 1 (bytesV (hdrB have_ a vo)) ++ [])) (by rw [htc, hic]; rfl) ?_
        refine j_sel (H' := .mem t tc 7 :: .mem hh [.int .u64 a, .int .i64 vo] 2 :: (Bf.nil.ents 4 (enV []) ++ (bh.ents 1 (bytesV (hdrB have_ a vo)) ++ []))) [[Ent.mem t tc 7], [Ent.mem hh [.int .u64 a, .int .i64 vo] 2], [Ent.mem s rc 5], bh.ents 1 (bytesV (hdrB have_ a vo)), []] [0, 1, 3, 4] rfl rfl rfl ?_
        refine o_end ?_
        refine r_seq ?_
        refine r_seq ?_
        refine r_region rfl ?_
        refine o_val rfl rfl rfl rfl (v_assign rfl) ?_
        refine o_end ?_
        refine r_block ?_
        refine r_loop (fun g : WbG => g.i ≤ rs.length ∧ g.l.length = g.i ∧ (∀ e ∈ g.l, e.ok F1 ∧ e.data.length ≤ 200) ∧ g.be.ok g.i ∧ g.bb.ok (hdrB have_ a vo ++ entsB (g.l.map En.pure)).length ∧ (hdrB have_ a vo ++ entsB (g.l.map En.pure)).length ≤ 19 + g.i * 230) (fun g => [(0, .bool have_), (3, .slice a9 rs.length cap9), (12, ptrV hh), (13, g.be.val g.i), (14, g.bb.val (hdrB have_ a vo ++ entsB (g.l.map En.pure)).length), (15, ptrV t), (16, .int .i64 g.i)]) (fun _ => F1) (fun g => .mem t tc 7 :: .mem hh [.int .u64 a, .int .i64 vo] 2 :: (g.be.ents 4 (enV g.l) ++ (g.bb.ents 1 (bytesV (hdrB have_ a vo ++ entsB (g.l.map En.pure))) ++ []))) (fun g => rs.length - g.i) ⟨0, .nil, bh, []⟩ ⟨Nat.zero_le _, rfl, by simp, rfl, by dsimp only; rw [hz]; exact hbh, by dsimp only; rw [hz]; omega⟩ ⟨rfl, rfl, rfl, rfl, by dsimp only; rw [hz]; rfl, rfl, rfl, trivial⟩ rfl (by dsimp only; rw [hz]) ?_
        rintro ⟨i, be, bb, l⟩ ⟨hi, hll, hlo, hbe, hbb, hbl⟩ IH
        dsimp only at hi hll hlo hbe hbb hbl ⊢
        subst hll
        refine r_seq ?_
        refine r_seq ?_
        refine r_region rfl ?_
        refine o_val rfl rfl rfl rfl (v_move rfl) ?_
        refine o_val rfl rfl rfl rfl (v_move rfl) ?_
        refine o_val rfl rfl rfl rfl (v_len rfl rfl) ?_
        refine o_val rfl rfl rfl rfl (v_lss rfl rfl) ?_
        refine o_end ?_
        refine r_if rfl (fun h => ?_) (fun h => ?_)
        · have hil : l.length < rs.length := by omega
          obtain ⟨b0, off0, c0, hab, hcl⟩ := rec_cells hrv hil
          simp only [Value.slice.injEq] at hab
          obtain ⟨rfl, _, rfl⟩ := hab
          have hri := hrs rs[l.length] (List.getElem_mem _)
          have hdi := hs200 rs[l.length] (List.getElem_mem _)
          generalize rs[l.length] = q at *
          obtain ⟨⟨w1, w2, w3, w4, w5⟩, w6⟩ := hri
          obtain ⟨a1, c1, hqv, hc1⟩ := Sl.shape w6
          obtain ⟨e, hee⟩ : ∃ e : En, e = ⟨((r.a + l.length) % 18446744073709551616 + 1) % 18446744073709551616, q.b, q.k, .slice a1 q.d.length c1, q.d⟩ := ⟨_, rfl⟩
          have heok : e.ok F1 := by rw [hee]; exact ⟨by dsimp only; omega, w3, w1, by dsimp only; rw [← hqv]; exact w6.frz hF1, by dsimp only; omega⟩
          have hel : e.data.length ≤ 200 := by rw [hee]; exact hdi
          have hec : e.cells = [.int .u64 (((r.a + l.length) % 18446744073709551616 + 1) % 18446744073709551616 : Nat), .int .u64 q.b, .int .u8 q.k, .slice a1 q.d.length c1] := by rw [hee]; rfl
          have hpl : (PE.bs e.pure).length ≤ 230 := by simp [PE.bs, En.pure]; omega
          have happ : hdrB have_ a vo ++ entsB ((l ++ [e]).map En.pure) = (hdrB have_ a vo ++ entsB (l.map En.pure)) ++ PE.bs e.pure := by
            simp only [List.map_append, List.map_cons, List.map_nil, entsB, List.flatMap_append, List.flatMap_cons, List.flatMap_nil, List.append_nil, List.append_assoc]
          generalize hpre : hdrB have_ a vo ++ entsB (l.map En.pure) = pre at *
          refine r_skip ?_
          refine r_seq ?_
          refine r_block ?_
          refine r_seq ?_
          refine d_region 1000000 rfl ([.mem t tc 7]) ?_
          refine d_take (i := 0) rfl rfl rfl (by decide +kernel) (by decide +kernel) (by decide +kernel) (Fz.le_refl _) (by intro w hw; simp only [List.mem_cons, List.not_mem_nil, or_false] at hw; subst hw; simp) rfl (v_field (k := 2) rfl rfl rfl) ?_
          refine d_take (i := 1) rfl rfl rfl (by decide +kernel) (by decide +kernel) (by decide +kernel) (Fz.le_refl _) (by intro w hw; simp only [List.mem_cons, List.not_mem_nil, or_false] at hw; subst hw; simp) rfl (v_field (k := 0) rfl rfl rfl) ?_
          refine d_take (i := 2) rfl rfl rfl (by decide +kernel) (by decide +kernel) (by decide +kernel) (Fz.le_refl _) (by intro w hw; simp only [List.mem_cons, List.not_mem_nil, or_false] at hw; subst hw; simp) rfl (v_load (v := .int .u64 r.a) rfl rfl (cell_at (j := 0) rfl t2)) ?_
          refine d_take (i := 3) rfl rfl rfl (by decide +kernel) (by decide +kernel) (by decide +kernel) (Fz.le_refl _) (by intro w hw; simp only [List.mem_cons, List.not_mem_nil, or_false] at hw; subst hw; simp) rfl (v_move rfl) ?_
          refine d_take (i := 4) rfl rfl rfl (by decide +kernel) (by decide +kernel) (by decide +kernel) (Fz.le_refl _) (by intro w hw; simp only [List.mem_cons, List.not_mem_nil, or_false] at hw; subst hw; simp) rfl (v_conv rfl rfl rfl (wrap_u64 (by omega) (by omega))) ?_
          refine d_take (i := 5) rfl rfl rfl (by decide +kernel) (by decide +kernel) (by decide +kernel) (Fz.le_refl _) (by intro w hw; simp only [List.mem_cons, List.not_mem_nil, or_false] at hw; subst hw; simp) rfl (v_add rfl rfl (r := (((r.a + l.length) % 18446744073709551616 : Nat) : Int)) (by rw [wrap_u64']; omega)) ?_
          refine d_take (i := 6) rfl rfl rfl (by decide +kernel) (by decide +kernel) (by decide +kernel) (Fz.le_refl _) (by intro w hw; simp only [List.mem_cons, List.not_mem_nil, or_false] at hw; subst hw; simp) rfl (v_add rfl rfl (r := ((((r.a + l.length) % 18446744073709551616 + 1) % 18446744073709551616 : Nat) : Int)) (by rw [wrap_u64']; omega)) ?_
          refine d_take (i := 7) rfl rfl rfl (by decide +kernel) (by decide +kernel) (by decide +kernel) (Fz.le_refl _) (by intro w hw; simp only [List.mem_cons, List.not_mem_nil, or_false] at hw; subst hw; simp) rfl (v_move rfl) ?_
          refine d_take (i := 8) rfl rfl rfl (by decide +kernel) (by decide +kernel) (by decide +kernel) (Fz.le_refl _) (by intro w hw; simp only [List.mem_cons, List.not_mem_nil, or_false] at hw; subst hw; simp) rfl (v_move rfl) ?_
          refine d_take (i := 9) rfl rfl rfl (by decide +kernel) (by decide +kernel) (by decide +kernel) (Fz.le_refl _) (by intro w hw; simp only [List.mem_cons, List.not_mem_nil, or_false] at hw; subst hw; simp) rfl (v_indexN (sz := 5) rfl rfl rfl rfl hil) ?_
          refine d_take (i := 10) rfl rfl rfl (by decide +kernel) (by decide +kernel) (by decide +kernel) (Fz.le_refl _) (by intro w hw; simp only [List.mem_cons, List.not_mem_nil, or_false] at hw; subst hw; simp) rfl (v_field (k := 2) rfl rfl rfl) ?_
          refine d_take (i := 11) rfl rfl rfl (by decide +kernel) (by decide +kernel) (by decide +kernel) (Fz.le_refl _) (by intro w hw; simp only [List.mem_cons, List.not_mem_nil, or_false] at hw; subst hw; simp) rfl (v_load (v := .int .u64 q.b) rfl rfl ((hcl 2 _ rfl).mono hF1 (by simp))) ?_
          refine d_take (i := 12) rfl rfl rfl (by decide +kernel) (by decide +kernel) (by decide +kernel) (Fz.le_refl _) (by intro w hw; simp only [List.mem_cons, List.not_mem_nil, or_false] at hw; subst hw; simp) rfl (v_move rfl) ?_
          refine d_take (i := 13) rfl rfl rfl (by decide +kernel) (by decide +kernel) (by decide +kernel) (Fz.le_refl _) (by intro w hw; simp only [List.mem_cons, List.not_mem_nil, or_false] at hw; subst hw; simp) rfl (v_move rfl) ?_
          refine d_take (i := 14) rfl rfl rfl (by decide +kernel) (by decide +kernel) (by decide +kernel) (Fz.le_refl _) (by intro w hw; simp only [List.mem_cons, List.not_mem_nil, or_false] at hw; subst hw; simp) rfl (v_indexN (sz := 5) rfl rfl rfl rfl hil) ?_
          refine d_take (i := 15) rfl rfl rfl (by decide +kernel) (by decide +kernel) (by decide +kernel) (Fz.le_refl _) (by intro w hw; simp only [List.mem_cons, List.not_mem_nil, or_false] at hw; subst hw; simp) rfl (v_field (k := 0) rfl rfl rfl) ?_
          refine d_take (i := 16) rfl rfl rfl (by decide +kernel) (by decide +kernel) (by decide +kernel) (Fz.le_refl _) (by intro w hw; simp only [List.mem_cons, List.not_mem_nil, or_false] at hw; subst hw; simp) rfl (v_load (v := .int .u8 q.k) rfl rfl ((hcl 0 _ rfl).mono hF1 (by simp))) ?_
          refine d_take (i := 17) rfl rfl rfl (by decide +kernel) (by decide +kernel) (by decide +kernel) (Fz.le_refl _) (by intro w hw; simp only [List.mem_cons, List.not_mem_nil, or_false] at hw; subst hw; simp) rfl (v_move rfl) ?_
          refine d_take (i := 18) rfl rfl rfl (by decide +kernel) (by decide +kernel) (by decide +kernel) (Fz.le_refl _) (by intro w hw; simp only [List.mem_cons, List.not_mem_nil, or_false] at hw; subst hw; simp) rfl (v_move rfl) ?_
          refine d_take (i := 19) rfl rfl rfl (by decide +kernel) (by decide +kernel) (by decide +kernel) (Fz.le_refl _) (by intro w hw; simp only [List.mem_cons, List.not_mem_nil, or_false] at hw; subst hw; simp) rfl (v_indexN (sz := 5) rfl rfl rfl rfl hil) ?_
          refine d_take (i := 20) rfl rfl rfl (by decide +kernel) (by decide +kernel) (by decide +kernel) (Fz.le_refl _) (by intro w hw; simp only [List.mem_cons, List.not_mem_nil, or_false] at hw; subst hw; simp) rfl (v_field (k := 4) rfl rfl rfl) ?_
          refine d_take (i := 21) rfl rfl rfl (by decide +kernel) (by decide +kernel) (by decide +kernel) (Fz.le_refl _) (by intro w hw; simp only [List.mem_cons, List.not_mem_nil, or_false] at hw; subst hw; simp) rfl (v_load (v := .slice a1 q.d.length c1) rfl rfl ((hcl 4 _ (by show some q.dv = _; rw [hqv])).mono hF1 (by simp))) ?_
          refine d_take (i := 22) rfl rfl rfl (by decide +kernel) (by decide +kernel) (by decide +kernel) (Fz.le_refl _) (by intro w hw; simp only [List.mem_cons, List.not_mem_nil, or_false] at hw; subst hw; simp) rfl (v_build rfl rfl) ?_
          refine d_one (i := 23) (by decide +kernel) ?_
          refine d1_act rfl rfl rfl rfl (a_alloc rfl) ?_
          rintro v' H' ⟨x, rfl, rfl⟩
          refine ⟨fun w hw => held_of hw (by first | exact Fz.le_refl _ | assumption) (by intro w hw; simp only [List.mem_cons, List.not_mem_nil, or_false] at hw; subst hw; simp), ?_⟩
          refine d_one (i := 24) (by decide +kernel) ?_
          refine d1_act0 rfl rfl rfl (a_store (sz := 4) 0 rfl rfl rfl rfl rfl rfl (Nat.le_of_ble_eq_true rfl)) (fun w hw => held_of hw (Fz.le_refl _) (by intro w hw; simp only [List.mem_cons, List.not_mem_nil, or_false] at hw; subst hw; simp)) ?_
          refine j_heap (H' := .mem x e.cells 4 :: .mem t tc 7 :: .mem hh [.int .u64 a, .int .i64 vo] 2 :: (be.ents 4 (enV l) ++ (bb.ents 1 (bytesV pre) ++ []))) (by rw [hec]; rfl) ?_
          refine d_end (by decide +kernel) ?_
          refine r_seq ?_
          refine r_region rfl ?_
          refine o_val rfl rfl rfl rfl (v_move rfl) ?_
          refine o_val rfl rfl rfl rfl (v_loadAgg (sz := 4) (cs := e.cells) rfl rfl rfl rfl (cells_of (j := 0) _ _ rfl rfl)) ?_
          refine o_act rfl rfl rfl rfl (a_buildS (sz := 4) (cs := e.cells) [.tmp 84] rfl rfl rfl rfl rfl rfl rfl rfl rfl rfl) ?_
          rintro v' H' ⟨y, rfl, rfl⟩
          refine o_act rfl rfl rfl rfl (a_appendP (bf := be) (n := l.length) (sz := 4) (bytes := 48) [.mem y e.cells 4, .mem x e.cells 4, .mem t tc 7, .mem hh [.int .u64 a, .int .i64 vo] 2] ⟨⟨_, _, _, rfl, rfl, rfl, rfl, rfl, rfl⟩, by decide⟩ rfl hbe (by rw [en_len]) rfl rfl (sl_lit (e := e) (List.mem_cons_self ..)) (by simpa [enV] using heok.one) (by unfold maxLen; omega) (by omega)) ?_
          rintro v' H' ⟨be2, rfl, hbe2, rfl⟩
          rw [← vec_append]
          refine o_val rfl rfl rfl rfl (v_assign rfl) ?_
          refine o_end ?_
          refine r_region rfl ?_
          refine o_val rfl rfl rfl rfl (v_move rfl) ?_
          refine o_val rfl rfl rfl rfl (v_loadAgg (sz := 4) (cs := e.cells) rfl rfl rfl rfl (cells_of (j := 1) _ _ rfl rfl)) ?_
          refine o_call rfl rfl rfl rfl (c_call callable16 rfl) (ref_Entry _ _ e _ heok) ?_
          rintro v' F1 H' ⟨rfl, b2, ok2, rfl, rfl⟩ _
          refine j_sel (H' := .mem t tc 7 :: .mem hh [.int .u64 a, .int .i64 vo] 2 :: (be2.ents 4 (enV (l ++ [e])) ++ (bb.ents 1 (bytesV pre) ++ (b2.ents 1 (bytesV (PE.bs e.pure)) ++ [])))) [b2.ents 1 (bytesV (PE.bs e.pure)), [Ent.mem y e.cells 4], [Ent.mem x e.cells 4], [Ent.mem t tc 7], [Ent.mem hh [.int .u64 a, .int .i64 vo] 2], be2.ents 4 (enV (l ++ [e])), bb.ents 1 (bytesV pre), []] [3, 4, 5, 6, 0, 7] rfl rfl rfl ?_
          have rd2 : SlB F1 (b2.ents 1 (bytesV (PE.bs e.pure))) (b2.val (PE.bs e.pure).length) (PE.bs e.pure) := bf_reads ok2 (by intro z hz; exact hz)
          refine o_act rfl rfl rfl rfl (a_appendP (bf := bb) (n := pre.length) (sz := 1) (bytes := 1) (m := (PE.bs e.pure).length) (.mem t tc 7 :: .mem hh [.int .u64 a, .int .i64 vo] 2 :: be2.ents 4 (enV (l ++ [e]))) ⟨⟨_, _, _, rfl, rfl, rfl, rfl, rfl, rfl⟩, by decide⟩ rfl hbb (by simp) rfl rfl (rd2.mono (Fz.le_refl _) (by intro z hz; simp [hz])) (bytes_one _) (by unfold maxLen; omega) (by omega)) ?_
          rintro v' H' ⟨b3, rfl, ok3, rfl⟩
          rw [← List.length_append, ← happ] at ok3 ⊢
          rw [← bytesV_append, ← happ]
          have hbl3 : (hdrB have_ a vo ++ entsB ((l ++ [e]).map En.pure)).length ≤ 19 + (l.length + 1) * 230 := by
            rw [happ, List.length_append]
            omega
          refine j_sel (H' := .mem t tc 7 :: .mem hh [.int .u64 a, .int .i64 vo] 2 :: (be2.ents 4 (enV (l ++ [e])) ++ (b3.ents 1 (bytesV (hdrB have_ a vo ++ entsB ((l ++ [e]).map En.pure))) ++ []))) [[Ent.mem t tc 7], [Ent.mem hh [.int .u64 a, .int .i64 vo] 2], be2.ents 4 (enV (l ++ [e])), b3.ents 1 (bytesV (hdrB have_ a vo ++ entsB ((l ++ [e]).map En.pure))), b2.ents 1 (bytesV (PE.bs e.pure)), []] [0, 1, 2, 3, 5] rfl rfl rfl ?_
          have hl1 : (l ++ [e]).length = l.length + 1 := by simp
          refine o_val rfl rfl rfl rfl (v_assign rfl) ?_
          refine o_end ?_
          refine r_inBlock ?_
          refine r_region rfl ?_
          refine o_val rfl rfl rfl rfl (v_move rfl) ?_
          refine o_val rfl rfl rfl rfl (v_add rfl rfl (wrap_i64 (by omega) (by omega))) ?_
          refine o_val rfl rfl rfl rfl (v_assign rfl) ?_
          refine o_end ?_
          refine j_keep ?_ (IH ⟨l.length + 1, be2, b3, l ++ [e]⟩ ⟨by dsimp only; omega, hl1, ?_, hbe2, ok3, hbl3⟩ (by dsimp only; omega))
          · exact ⟨rfl, rfl, rfl, rfl, rfl, rfl, rfl, trivial⟩
          · intro w hw
            rcases List.mem_append.1 hw with hw | hw
            · exact hlo w hw
            · rw [List.mem_singleton] at hw
              rw [hw]
              exact ⟨heok, hel⟩
        · have hle : l.length = rs.length := by omega
          clear IH
          have hsave : hdrB have_ a vo ++ entsB (l.map En.pure) = saveB have_ a vo (l.map En.pure) := rfl
          rw [hsave] at hbb hbl ⊢
          generalize hSV : saveB have_ a vo (l.map En.pure) = SV at *
          refine j_sel (H' := be.ents 4 (enV l) ++ (bb.ents 1 (bytesV SV) ++ [.mem t tc 7, .mem hh [.int .u64 a, .int .i64 vo] 2])) [[Ent.mem t tc 7], [Ent.mem hh [.int .u64 a, .int .i64 vo] 2], be.ents 4 (enV l), bb.ents 1 (bytesV SV), []] [2, 3, 0, 1] rfl rfl rfl ?_
          refine j_freezeBf (n := l.length) hbe (by rw [en_len]) fun F3 hF3 hs3 => ?_
          refine j_freezeBf (n := SV.length) hbb (by simp) fun F4 hF4 hs4 => ?_
          refine r_exit rfl ?_
          refine r_seq ?_
          refine r_region rfl ?_
          refine o_val rfl rfl rfl rfl (v_move rfl) ?_
          refine o_val rfl rfl rfl rfl (v_field (k := 6) rfl rfl rfl) ?_
          refine o_act0 rfl rfl rfl (a_store1 0 rfl rfl rfl rfl rfl (by rw [htc, hic]; exact Nat.le_of_ble_eq_true rfl)) ?_
          obtain ⟨p, hp⟩ : ∃ p : Im, p = imB r a vo (be.val l.length) l := ⟨_, rfl⟩
          refine j_heap (H' := [.mem t p.cells 7, .mem hh [.int .u64 a, .int .i64 vo] 2]) (by rw [hp, htc, hic, hic]; rfl) ?_
          have hF14 := Fz.le_trans hF1 (Fz.le_trans hF3 hF4)
          have hpok : p.ok F4 := by
            rw [hp]
            exact ⟨ha, hvo1, hvo2, r2, r3, by show r.a / 2 < 18446744073709551616; omega, hrd.frz hF14, by show r.d.length ≤ 1048576; omega, hs3.frz hF4, fun e he => (hlo e he).1.frz (Fz.le_trans hF3 hF4)⟩
          have hpl : p.l.length ≤ 1000 := by rw [hp]; show l.length ≤ _; omega
          refine o_end ?_
          refine r_seq ?_
          refine d_region 1000000 rfl ([.mem t p.cells 7, .mem hh [.int .u64 a, .int .i64 vo] 2]) ?_
          refine d_take (i := 0) rfl rfl rfl (by decide +kernel) (by decide +kernel) (by decide +kernel) (Fz.le_refl _) (by intro w hw; simp only [List.mem_cons, List.not_mem_nil, or_false] at hw; rcases hw with rfl | rfl <;> simp) rfl (v_move rfl) ?_
          refine d_take (i := 1) rfl rfl rfl (by decide +kernel) (by decide +kernel) (by decide +kernel) (Fz.le_refl _) (by intro w hw; simp only [List.mem_cons, List.not_mem_nil, or_false] at hw; rcases hw with rfl | rfl <;> simp) rfl (v_loadAgg (sz := 2) (cs := [.int .u64 a, .int .i64 vo]) rfl rfl rfl rfl (cells_of (j := 1) _ _ rfl rfl)) ?_
          refine d_take (i := 2) rfl rfl rfl (by decide +kernel) (by decide +kernel) (by decide +kernel) (Fz.le_refl _) (by intro w hw; simp only [List.mem_cons, List.not_mem_nil, or_false] at hw; rcases hw with rfl | rfl <;> simp) rfl (v_move rfl) ?_
          refine d_take (i := 3) rfl rfl rfl (by decide +kernel) (by decide +kernel) (by decide +kernel) (Fz.le_refl _) (by intro w hw; simp only [List.mem_cons, List.not_mem_nil, or_false] at hw; rcases hw with rfl | rfl <;> simp) rfl (v_build rfl rfl) ?_
          refine d_take (i := 6) rfl rfl rfl (by decide +kernel) (by decide +kernel) (by decide +kernel) (Fz.le_refl _) (by intro w hw; simp only [List.mem_cons, List.not_mem_nil, or_false] at hw; rcases hw with rfl | rfl <;> simp) rfl (v_move rfl) ?_
          refine d_take (i := 7) rfl rfl rfl (by decide +kernel) (by decide +kernel) (by decide +kernel) (Fz.le_refl _) (by intro w hw; simp only [List.mem_cons, List.not_mem_nil, or_false] at hw; rcases hw with rfl | rfl <;> simp) rfl (v_bytesString rfl rfl rfl rfl (l := SV) (Sl.frz hs4 (Fz.le_refl _))) ?_
          refine d_one (i := 4) (by decide +kernel) ?_
          refine d1_call rfl rfl rfl rfl (c_call callable17 rfl) (wal_Bytes _ _ have_ a vo (be.val l.length) l _ (hs3.frz hF4) (fun e he => (hlo e he).1.frz (Fz.le_trans hF3 hF4)) (by omega) hvo1 hvo2) ?_
          rintro v' F4 H' ⟨rfl, b5, ok5, rfl, rfl⟩ _
          refine ⟨fun w hw => held_of hw (by first | exact Fz.le_refl _ | assumption) (by intro w hw; simp only [List.mem_cons, List.not_mem_nil, or_false] at hw; rcases hw with rfl | rfl <;> simp), ?_⟩
          rw [hSV] at ok5 ⊢
          refine j_freezeBf (n := SV.length) ok5 (by simp) fun F5 hF5 hs5 => ?_
          refine d_more ([.mem t p.cells 7, .mem hh [.int .u64 a, .int .i64 vo] 2]) (by first | assumption | exact Fz.le_refl _) (by intro w hw; simp only [List.mem_cons, List.not_mem_nil, or_false] at hw; rcases hw with rfl | rfl <;> simp) ?_
          refine d_take (i := 5) rfl rfl rfl (by decide +kernel) (by decide +kernel) (by decide +kernel) (Fz.le_refl _) (by intro w hw; simp only [List.mem_cons, List.not_mem_nil, or_false] at hw; rcases hw with rfl | rfl <;> simp) rfl (v_bytesString rfl rfl rfl rfl (l := SV) (Sl.frz hs5 (Fz.le_refl _))) ?_
          refine d_take (i := 8) rfl rfl rfl (by decide +kernel) (by decide +kernel) (by decide +kernel) (Fz.le_refl _) (by intro w hw; simp only [List.mem_cons, List.not_mem_nil, or_false] at hw; rcases hw with rfl | rfl <;> simp) rfl (v_seql rfl rfl) ?_
          refine j_slot 101 rfl (v' := .bool true) (by simp) ?_
          refine d_take (i := 9) rfl rfl rfl (by decide +kernel) (by decide +kernel) (by decide +kernel) (Fz.le_refl _) (by intro w hw; simp only [List.mem_cons, List.not_mem_nil, or_false] at hw; rcases hw with rfl | rfl <;> simp) rfl (v_move rfl) ?_
          refine d_take (i := 10) rfl rfl rfl (by decide +kernel) (by decide +kernel) (by decide +kernel) (Fz.le_refl _) (by intro w hw; simp only [List.mem_cons, List.not_mem_nil, or_false] at hw; rcases hw with rfl | rfl <;> simp) rfl (v_loadAgg (sz := 7) (cs := p.cells) rfl rfl rfl rfl (cells_of (j := 0) _ _ rfl rfl)) ?_
          refine d_take (i := 13) rfl rfl rfl (by decide +kernel) (by decide +kernel) (by decide +kernel) (Fz.le_refl _) (by intro w hw; simp only [List.mem_cons, List.not_mem_nil, or_false] at hw; rcases hw with rfl | rfl <;> simp) rfl (v_loadAgg (sz := 7) (cs := p.cells) rfl rfl rfl rfl (cells_of (j := 0) _ _ rfl rfl)) ?_
          refine d_one (i := 11) (by decide +kernel) ?_
          refine d1_call rfl rfl rfl rfl (c_call callable18 rfl) (wal_Whole _ _ p _ (hpok.frz hF5) hpl) ?_
          rintro v' F5 H' ⟨rfl, b6, ok6, rfl, rfl⟩ _
          refine ⟨fun w hw => held_of hw (by first | exact Fz.le_refl _ | assumption) (by intro w hw; simp only [List.mem_cons, List.not_mem_nil, or_false] at hw; rcases hw with rfl | rfl <;> simp), ?_⟩
          refine j_freezeBf (n := p.pure.whole.length) ok6 (by simp) fun F6 hF6 hs6 => ?_
          refine d_more ([.mem t p.cells 7, .mem hh [.int .u64 a, .int .i64 vo] 2]) (by first | assumption | exact Fz.le_refl _) (by intro w hw; simp only [List.mem_cons, List.not_mem_nil, or_false] at hw; rcases hw with rfl | rfl <;> simp) ?_
          refine d_take (i := 12) rfl rfl rfl (by decide +kernel) (by decide +kernel) (by decide +kernel) (Fz.le_refl _) (by intro w hw; simp only [List.mem_cons, List.not_mem_nil, or_false] at hw; rcases hw with rfl | rfl <;> simp) rfl (v_bytesString rfl rfl rfl rfl (l := p.pure.whole) (Sl.frz hs6 (Fz.le_refl _))) ?_
          refine d_one (i := 14) (by decide +kernel) ?_
          refine d1_call rfl rfl rfl rfl (c_call callable14 rfl) (law_image _ _ p _ (hpok.frz (Fz.le_trans hF5 hF6))) ?_
          rintro v' F6 H' ⟨rfl, rfl, rfl⟩ _
          refine ⟨fun w hw => held_of hw (by first | exact Fz.le_refl _ | assumption) (by intro w hw; simp only [List.mem_cons, List.not_mem_nil, or_false] at hw; rcases hw with rfl | rfl <;> simp), ?_⟩
          refine d_one (i := 15) (by decide +kernel) ?_
          refine d1_call rfl rfl rfl rfl (c_call callable19 rfl) (ref_Whole _ _ p _ (hpok.frz (Fz.le_trans hF5 hF6)) hpl) ?_
          rintro v' F6 H' ⟨rfl, b7, ok7, rfl, rfl⟩ _
          refine ⟨fun w hw => held_of hw (by first | exact Fz.le_refl _ | assumption) (by intro w hw; simp only [List.mem_cons, List.not_mem_nil, or_false] at hw; rcases hw with rfl | rfl <;> simp), ?_⟩
          refine j_freezeBf (n := p.pure.whole.length) ok7 (by simp) fun F7 hF7 hs7 => ?_
          refine d_more ([.mem t p.cells 7, .mem hh [.int .u64 a, .int .i64 vo] 2]) (by first | assumption | exact Fz.le_refl _) (by intro w hw; simp only [List.mem_cons, List.not_mem_nil, or_false] at hw; rcases hw with rfl | rfl <;> simp) ?_
          refine d_take (i := 16) rfl rfl rfl (by decide +kernel) (by decide +kernel) (by decide +kernel) (Fz.le_refl _) (by intro w hw; simp only [List.mem_cons, List.not_mem_nil, or_false] at hw; rcases hw with rfl | rfl <;> simp) rfl (v_bytesString rfl rfl rfl rfl (l := p.pure.whole) (Sl.frz hs7 (Fz.le_refl _))) ?_
          refine d_take (i := 17) rfl rfl rfl (by decide +kernel) (by decide +kernel) (by decide +kernel) (Fz.le_refl _) (by intro w hw; simp only [List.mem_cons, List.not_mem_nil, or_false] at hw; rcases hw with rfl | rfl <;> simp) rfl (v_seql rfl rfl) ?_
          refine d_take (i := 18) rfl rfl rfl (by decide +kernel) (by decide +kernel) (by decide +kernel) (Fz.le_refl _) (by intro w hw; simp only [List.mem_cons, List.not_mem_nil, or_false] at hw; rcases hw with rfl | rfl <;> simp) rfl (v_pick1 rfl rfl) ?_
          refine d_take (i := 19) rfl rfl rfl (by decide +kernel) (by decide +kernel) (by decide +kernel) (Fz.le_refl _) (by intro w hw; simp only [List.mem_cons, List.not_mem_nil, or_false] at hw; rcases hw with rfl | rfl <;> simp) rfl (v_assign rfl) ?_
          refine d_end (by decide +kernel) ?_
          refine r_ret1 Try.func5 rfl rfl ⟨by simp, Fz.le_trans hF14 (Fz.le_trans hF5 (Fz.le_trans hF6 hF7))⟩
theorem in_WalBytes (W : World) (h_ : Bool) (n : Int) (hn : (Lit.int .u64 n).wf = true) (c : Int) (hc : (Lit.int .i16 c).wf = true) (vr : Value) (rs : List RecI) (hr : InRec W vr rs) (hrl : rs.length ≤ 9223372036854775807) (r : RecI) (hrk : r.ok W) :
    Calls Try.prog 5 #[.bool h_, .int .u64 n, .int .i16 c, vr, .agg r.cells.toArray] W fun e w' => e = .returned (.bool true) ∧ Go.RowKit.Below W.heap.size W w' := by
  simp [Lit.wf, IntKind.min, IntKind.max, IntKind.signed, IntKind.bits] at hn hc
  obtain ⟨n, rfl⟩ := Int.eq_ofNat_of_zero_le hn.1
  exact below_of_does (law_WalBytes _ _ h_ n c vr rs r (by omega) (by omega) (by omega) hr.1 hrl (fun r hr' => ⟨⟨(hr.2 r hr').k, (hr.2 r hr').a, (hr.2 r hr').b, (hr.2 r hr').v1, (hr.2 r hr').v2⟩, (hr.2 r hr').d⟩) ⟨hrk.k, hrk.a, hrk.b, hrk.v1, hrk.v2⟩ hrk.d)
end Go.SX
