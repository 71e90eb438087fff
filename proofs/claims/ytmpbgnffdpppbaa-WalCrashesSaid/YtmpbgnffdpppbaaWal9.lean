/-
  The law's own: bytes of one record, and the image behind it.
-/
import Derived.Test.YtmpbgnffdpppbaaWal8
namespace Go.SX
open Go Go.Proofs
set_option maxRecDepth 4000
set_option linter.unusedSimpArgs false
set_option linter.unusedVariables false

def voR (v : Int) : Int := if v < -1 then -1 else v
def ixR (p : PI) (r : RecI) : Nat := if r.k % 4 = 2 then p.ix + p.l.length + 1 else r.a % 12
def eR (p : PI) (r : RecI) : PE := ⟨ixR p r, r.b, r.k / 4 % 2, r.d⟩
def stepB (p : PI) (r : RecI) : List UInt8 := if r.k % 4 = 0 then recB 1 (hardP r.a (voR r.v + 1).toNat) else if r.k % 4 = 3 then recB 3 (snapP (r.a % 9) r.b r.a r.d) else PE.bs (eR p r)
def stepQ (p : PI) (r : RecI) : Option PI := if r.k % 4 = 0 then some { p with term := r.a, vote := voR r.v } else if r.k % 4 = 3 then some { p with ix := r.a % 9, tm := r.b, vt := r.a, data := r.d, l := [] } else addE p (eR p r)
/-- The numbers of a record are numbers. -/
structure RecI.fit (r : RecI) : Prop where
  k : r.k < 256
  a : r.a < 18446744073709551616
  b : r.b < 18446744073709551616
  v1 : -32768 ≤ r.v
  v2 : r.v ≤ 32767
  d : r.d.length ≤ 200
theorem voR_ge (r : RecI) (h : r.fit) : -1 ≤ voR r.v ∧ voR r.v ≤ 32767 := by
  have := h.v2
  unfold voR
  split <;> omega
theorem step_fed (p : PI) (r : RecI) (h : r.fit) (hb : p.ix + p.l.length ≤ 9000000000000000000) : ∃ k d, k < 256 ∧ d.length ≤ 300 ∧ stepB p r = recB k d ∧ addP p k d = stepQ p r := by
  have hv := voR_ge r h
  have h1 := h.a
  have h2 := h.b
  have h3 := h.d
  have h4 := h.k
  unfold stepB stepQ
  by_cases k0 : r.k % 4 = 0
  · refine ⟨1, hardP r.a (voR r.v + 1).toNat, by decide, by simp, by rw [if_pos k0], ?_⟩
    rw [if_pos k0]
    have : (((voR r.v + 1).toNat : Nat) : Int) - 1 = voR r.v := by omega
    rw [addP, if_pos rfl, hardR_hardP h1 (by omega), this]
    rfl
  · by_cases k3 : r.k % 4 = 3
    · refine ⟨3, snapP (r.a % 9) r.b r.a r.d, by decide, by simp; omega, by rw [if_neg k0, if_pos k3], ?_⟩
      rw [if_neg k0, if_pos k3]
      rw [addP, if_neg (by decide), if_neg (by decide), if_pos rfl, snapR_snapP (by omega) h2 h1 (by omega)]
      rfl
    · have hix : ixR p r < 18446744073709551616 := by unfold ixR; split <;> omega
      refine ⟨2, entP (ixR p r) r.b (r.k / 4 % 2) r.d, by decide, by simp; omega, by rw [if_neg k0, if_neg k3]; rfl, ?_⟩
      rw [if_neg k0, if_neg k3]
      rw [addP, if_neg (by decide), if_pos rfl, entR_entP hix h2 (by omega) (by omega)]
      rfl

set_option maxHeartbeats 3200000 in
theorem law_bytes (O : World) (F : Fz) (p : Im) (r : RecI) (Fr : List Ent) (hp : p.ok F) (hc : Consec p.ix p.l) (hn : p.l.length ≤ 500) (hb : p.ix ≤ 1000) (hr : r.fit) (hd : SlB F [] r.dv r.d) :
    Does Try.prog O 11 #[.agg p.cells.toArray, .agg r.cells.toArray] F Fr (fun rr F' H' => F.le F' ∧ ∃ (bf : Bf) (q : Im) (ok : Bool), bf.ok (stepB p.pure r).length ∧ H' = bf.ents 1 (bytesV (stepB p.pure r)) ++ Fr ∧ rr = .tuple #[bf.val (stepB p.pure r).length, .agg q.cells.toArray, .bool ok] ∧
      q.ok F' ∧ Consec q.ix q.l ∧ q.ix ≤ 1000 ∧ q.l.length ≤ p.l.length + 1 ∧ ((ok = true ∧ stepQ p.pure r = some q.pure) ∨ (ok = false ∧ stepQ p.pure r = none ∧ q.pure = p.pure))) := by
  have hone := hp.one
  have hvr := voR_ge r hr
  obtain ⟨r1, r2, r3, r4, r5, r6⟩ := hr
  obtain ⟨a1, c1, hdv, hc1⟩ := Sl.shape hd
  have hrc : r.cells = [.int .u8 r.k, .int .u64 r.a, .int .u64 r.b, .int .i16 r.v, .slice a1 r.d.length c1] := by unfold RecI.cells; rw [hdv]
  rw [hdv] at hd
  obtain ⟨a2, c2, hlv, hc2⟩ := Sl.shape hp.lv
  refine does_of_run (args := [_, _]) Try.func11 rfl rfl ?_
  refine r_seq ?_
  refine r_region rfl ?_
  refine o_act rfl rfl rfl rfl (a_box rfl) ?_
  rintro v' H' ⟨s, rfl, rfl⟩
  refine o_act rfl rfl rfl rfl (a_box rfl) ?_
  rintro v' H' ⟨s', rfl, rfl⟩
  refine o_val rfl rfl rfl rfl (v_assign rfl) ?_
  refine o_act rfl rfl rfl rfl (a_alloc rfl) ?_
  rintro v' H' ⟨x, rfl, rfl⟩
  obtain ⟨z0, hz0⟩ : ∃ z0 : Im, z0 = ⟨0, 0, 0, 0, 0, .slice none 0 0, [], .slice none 0 0, []⟩ := ⟨_, rfl⟩
  obtain ⟨rc, hrc'⟩ : ∃ rc : List Value, rc = r.cells := ⟨_, rfl⟩
  rw [hrc] at hrc'
  refine j_heap (H' := .mem x z0.cells 7 :: .mem s' rc 5 :: .mem s p.cells 7 :: Fr) (by rw [hz0, hrc', ← hrc]; rfl) ?_
  have rk : rc[0]? = some (.int .u8 r.k) := by rw [hrc']; rfl
  have ra : rc[1]? = some (.int .u64 r.a) := by rw [hrc']; rfl
  have rb : rc[2]? = some (.int .u64 r.b) := by rw [hrc']; rfl
  have rv : rc[3]? = some (.int .i16 r.v) := by rw [hrc']; rfl
  have rd : rc[4]? = some (.slice a1 r.d.length c1) := by rw [hrc']; rfl
  have pl : p.cells[6]? = some (.slice a2 p.l.length c2) := by show some p.lv = _; rw [hlv]
  refine o_val rfl rfl rfl rfl (v_assign rfl) ?_
  refine o_end ?_
  refine r_seq ?_
  refine r_region rfl ?_
  refine o_val rfl rfl rfl rfl (v_field (k := 3) rfl rfl rfl) ?_
  refine o_val rfl rfl rfl rfl (v_load (v := .int .i16 r.v) rfl rfl (cell_at (j := 1) rfl rv)) ?_
  refine o_val rfl rfl rfl rfl (v_conv rfl rfl rfl (wrap_i64 (by omega) (by omega))) ?_
  refine o_val rfl rfl rfl rfl (v_assign rfl) ?_
  refine o_end ?_
  refine r_seq ?_
  refine r_join (fun _ : Unit => True) (fun _ => [(2, ptrV s), (3, ptrV s'), (5, ptrV x), (7, .int .i64 (voR r.v))]) (fun _ => F) (fun _ => .mem x z0.cells 7 :: .mem s' rc 5 :: .mem s p.cells 7 :: Fr) ?_ ?_
  · intro J
    refine r_seq ?_
    refine r_region rfl ?_
    refine o_val rfl rfl rfl rfl (v_move rfl) ?_
    refine o_val rfl rfl rfl rfl (v_lss rfl rfl) ?_
    refine o_end ?_
    refine r_if rfl (fun g => ?_) (fun g => ?_)
    · have hv : voR r.v = -1 := by unfold voR; rw [if_pos g]
      refine r_region rfl ?_
      refine o_val rfl rfl rfl rfl (v_assign rfl) ?_
      refine o_end ?_
      refine j_keep ?_ (J () trivial)
      exact ⟨rfl, rfl, rfl, by rw [hv]; rfl, trivial⟩
    · have hv : voR r.v = r.v := by unfold voR; rw [if_neg g]
      refine r_skip ?_
      refine j_keep ?_ (J () trivial)
      exact ⟨rfl, rfl, rfl, by rw [hv]; rfl, trivial⟩
  rintro _ _
  generalize hvo : voR r.v = vo at *
  have m4 : (r.k : Int).tmod 4 = ((r.k % 4 : Nat) : Int) := rfl
  have hk4 : r.k % 4 = 0 ∨ r.k % 4 = 1 ∨ r.k % 4 = 2 ∨ r.k % 4 = 3 := by omega
  rcases hk4 with hk | hk | hk | hk
  · rw [hk] at m4
    have hsB : stepB p.pure r = recB 1 (hardP r.a (vo + 1).toNat) := by unfold stepB; rw [if_pos hk, hvo]
    have hsQ : stepQ p.pure r = some { p.pure with term := r.a, vote := vo } := by unfold stepQ; rw [if_pos hk, hvo]
    rw [hsB, hsQ]
    refine r_seq ?_
    refine r_seq ?_
    refine r_region rfl ?_
    refine o_val rfl rfl rfl rfl (v_field (k := 0) rfl rfl rfl) ?_
    refine o_val rfl rfl rfl rfl (v_load (v := .int .u8 r.k) rfl rfl (cell_at (j := 1) rfl rk)) ?_
    refine o_val rfl rfl rfl rfl (v_rem rfl rfl (by decide) m4) ?_
    refine o_end ?_
    refine r_block ?_
    refine r_seq ?_
    refine r_region rfl ?_
    refine o_val rfl rfl rfl rfl (v_eql rfl rfl) ?_
    refine o_val rfl rfl rfl rfl (v_assign rfl) ?_
    refine o_end ?_
    refine r_true rfl ?_
    refine r_seq ?_
    refine r_region rfl ?_
    refine o_val rfl rfl rfl rfl (v_field (k := 1) rfl rfl rfl) ?_
    refine o_val rfl rfl rfl rfl (v_load (v := .int .u64 r.a) rfl rfl (cell_at (j := 1) rfl ra)) ?_
    refine o_val rfl rfl rfl rfl (v_move rfl) ?_
    refine o_val rfl rfl rfl rfl (v_build rfl rfl) ?_
    refine o_act rfl rfl rfl rfl (a_alloc rfl) ?_
    rintro v' H' ⟨h, rfl, rfl⟩
    refine o_act0 rfl rfl rfl (a_store (sz := 2) 0 rfl rfl rfl rfl rfl rfl (Nat.le_of_ble_eq_true rfl)) ?_
    refine j_heap (H' := .mem h [.int .u64 r.a, .int .i64 vo] 2 :: .mem x z0.cells 7 :: .mem s' rc 5 :: .mem s p.cells 7 :: Fr) rfl ?_
    refine o_end ?_
    refine r_seq ?_
    refine r_region rfl ?_
    refine o_val rfl rfl rfl rfl (v_loadAgg (sz := 2) (cs := [.int .u64 r.a, .int .i64 vo]) rfl rfl rfl rfl (cells_of (j := 0) _ _ rfl rfl)) ?_
    refine o_val rfl rfl rfl rfl (v_field (k := 0) rfl rfl rfl) ?_
    refine o_act0 rfl rfl rfl (a_store (sz := 2) 3 rfl rfl rfl rfl rfl rfl (Nat.le_of_ble_eq_true rfl)) ?_
    obtain ⟨q, hq⟩ : ∃ q : Im, q = { p with term := r.a, vote := vo } := ⟨_, rfl⟩
    have hqok : q.ok F := by rw [hq]; exact ⟨r2, hvr.1, by dsimp only; omega, hp.ix, hp.tm, hp.vt, hp.dv, hp.dl, hp.lv, hp.l⟩
    have hqo := hqok.one
    refine j_heap (H' := .mem h [.int .u64 r.a, .int .i64 vo] 2 :: .mem x z0.cells 7 :: .mem s' rc 5 :: .mem s q.cells 7 :: Fr) (by rw [hq]; rfl) ?_
    refine o_end ?_
    refine r_seq ?_
    refine d_region 4 rfl ([.mem h [.int .u64 r.a, .int .i64 vo] 2, .mem s q.cells 7]) ?_
    refine d_take (i := 0) rfl rfl rfl (by decide +kernel) (by decide +kernel) (by decide +kernel) (Fz.le_refl _) (by intro w hw; simp only [List.mem_cons, List.not_mem_nil, or_false] at hw; rcases hw with rfl | rfl <;> simp) rfl (v_loadAgg (sz := 2) (cs := [.int .u64 r.a, .int .i64 vo]) rfl rfl rfl rfl (cells_of (j := 0) _ _ rfl rfl)) ?_
    refine d_take (i := 2) rfl rfl rfl (by decide +kernel) (by decide +kernel) (by decide +kernel) (Fz.le_refl _) (by intro w hw; simp only [List.mem_cons, List.not_mem_nil, or_false] at hw; rcases hw with rfl | rfl <;> simp) rfl (v_loadAgg (sz := 7) (cs := q.cells) rfl rfl rfl rfl (cells_of (j := 1) _ _ rfl rfl)) ?_
    refine d_one (i := 1) (by decide +kernel) ?_
    refine d1_call rfl rfl rfl rfl (c_call callable15 rfl) (ref_Hard _ _ r.a vo _ hvr.1 (by omega)) ?_
    rintro v' F H' ⟨rfl, bf, hok, rfl, rfl⟩ _
    refine ⟨fun w hw => held_of hw (by first | exact Fz.le_refl _ | assumption) (by intro w hw; simp only [List.mem_cons, List.not_mem_nil, or_false] at hw; rcases hw with rfl | rfl <;> simp), ?_⟩
    refine j_sel (H' := Ent.mem x z0.cells 7 :: (Ent.mem h [.int .u64 r.a, .int .i64 vo] 2 :: (Ent.mem s q.cells 7 :: (bf.ents 1 (bytesV (recB 1 (hardP r.a (vo + 1).toNat))) ++ (Fr))))) [bf.ents 1 (bytesV (recB 1 (hardP r.a (vo + 1).toNat))), [Ent.mem h [.int .u64 r.a, .int .i64 vo] 2], [Ent.mem x z0.cells 7], [Ent.mem s' rc 5], [Ent.mem s q.cells 7], Fr] [2, 1, 4, 0, 5] rfl rfl rfl ?_
    refine d_take (i := 3) rfl rfl rfl (by decide +kernel) (by decide +kernel) (by decide +kernel) (Fz.le_refl _) (by intro w hw; simp only [List.mem_cons, List.not_mem_nil, or_false] at hw; rcases hw with rfl | rfl <;> simp) rfl (v_assign rfl) ?_
    refine d_one (i := 4) (by decide +kernel) ?_
    refine d1_last 1000000 ([]) rfl rfl rfl (a_store (sz := 7) 0 rfl rfl rfl (by simpa [Value.cells] using hqo) rfl rfl (by rw [hz0]; exact Nat.le_of_ble_eq_true rfl)) ?_
    refine j_heap (H' := .mem x q.cells 7 :: .mem h [.int .u64 r.a, .int .i64 vo] 2 :: .mem s q.cells 7 :: (bf.ents 1 (bytesV (recB 1 (hardP r.a (vo + 1).toNat))) ++ Fr)) (by rw [hz0]; rfl) ?_
    refine d_take (i := 5) rfl rfl rfl (by decide +kernel) (by decide +kernel) (by decide +kernel) (Fz.le_refl _) (by simp) rfl (v_assign rfl) ?_
    refine d_end (by decide +kernel) ?_
    exact r_ret1C1 Try.func11 rfl rfl rfl rfl rfl rfl rfl (cells_of (j := 0) _ _ rfl rfl) (H' := bf.ents 1 (bytesV (recB 1 (hardP r.a (vo + 1).toNat))) ++ Fr) ((List.sublist_cons_self _ _).trans ((List.sublist_cons_self _ _).trans (List.sublist_cons_self _ _))) ⟨⟨Fz.le_refl _, bf, q, true, hok, rfl, rfl, hqok, by rw [hq]; exact hc, by rw [hq]; exact hb, by rw [hq]; dsimp only; omega, .inl ⟨rfl, by rw [hq]; rfl⟩⟩, Fz.le_refl _⟩
  · rw [hk] at m4
    have hsB : stepB p.pure r = PE.bs (eR p.pure r) := by unfold stepB; rw [if_neg (by omega), if_neg (by omega)]
    have hsQ : stepQ p.pure r = addE p.pure (eR p.pure r) := by unfold stepQ; rw [if_neg (by omega), if_neg (by omega)]
    have hixv : ixR p.pure r = r.a % 12 := by unfold ixR; rw [if_neg (by omega)]
    have hixb : ixR p.pure r < 18446744073709551616 := by rw [hixv]; omega
    rw [hsB, hsQ]
    refine r_seq ?_
    refine r_seq ?_
    refine r_region rfl ?_
    refine o_val rfl rfl rfl rfl (v_field (k := 0) rfl rfl rfl) ?_
    refine o_val rfl rfl rfl rfl (v_load (v := .int .u8 r.k) rfl rfl (cell_at (j := 1) rfl rk)) ?_
    refine o_val rfl rfl rfl rfl (v_rem rfl rfl (by decide) m4) ?_
    refine o_end ?_
    refine r_block ?_
    refine r_seq ?_
    refine r_region rfl ?_
    refine o_val rfl rfl rfl rfl (v_eql rfl rfl) ?_
    refine o_val rfl rfl rfl rfl (v_assign rfl) ?_
    refine o_end ?_
    refine r_false rfl ?_
    refine r_seq ?_
    refine r_seq ?_
    refine r_region rfl ?_
    refine o_val rfl rfl rfl rfl (v_eql rfl rfl) ?_
    refine o_val rfl rfl rfl rfl (v_assign rfl) ?_
    refine o_end ?_
    refine r_true rfl ?_
    refine r_skip ?_
    refine r_true rfl ?_
    refine r_seq ?_
    refine r_region rfl ?_
    refine o_val rfl rfl rfl rfl (v_field (k := 1) rfl rfl rfl) ?_
    refine o_val rfl rfl rfl rfl (v_load (v := .int .u64 r.a) rfl rfl (cell_at (j := 1) rfl ra)) ?_
    refine o_val rfl rfl rfl rfl (v_rem rfl rfl (by decide) (r := ((r.a % 12 : Nat) : Int)) rfl) ?_
    refine o_val rfl rfl rfl rfl (v_assign rfl) ?_
    refine o_end ?_
    refine r_seq ?_
    refine r_seq ?_
    refine r_region rfl ?_
    refine o_val rfl rfl rfl rfl (v_field (k := 0) rfl rfl rfl) ?_
    refine o_val rfl rfl rfl rfl (v_load (v := .int .u8 r.k) rfl rfl (cell_at (j := 1) rfl rk)) ?_
    refine o_val rfl rfl rfl rfl (v_rem rfl rfl (by decide) m4) ?_
    refine o_val rfl rfl rfl rfl (v_eql rfl rfl) ?_
    refine o_end ?_
    refine r_false rfl ?_
    refine r_skip ?_
    refine r_seq ?_
    refine r_region rfl ?_
    refine o_val rfl rfl rfl rfl (v_move rfl) ?_
    refine o_val rfl rfl rfl rfl (v_field (k := 2) rfl rfl rfl) ?_
    obtain ⟨e, hee⟩ : ∃ e : En, e = ⟨ixR p.pure r, r.b, r.k / 4 % 2, .slice a1 r.d.length c1, r.d⟩ := ⟨_, rfl⟩
    have hep : e.pure = eR p.pure r := by rw [hee]; rfl
    have heok : e.ok F := by rw [hee]; exact ⟨hixb, r3, by dsimp only; omega, hd, by dsimp only; omega⟩
    refine o_val rfl rfl rfl rfl (v_load (v := .int .u64 r.b) rfl rfl (cell_at (j := 1) rfl rb)) ?_
    refine o_val rfl rfl rfl rfl (v_field (k := 0) rfl rfl rfl) ?_
    refine o_val rfl rfl rfl rfl (v_load (v := .int .u8 r.k) rfl rfl (cell_at (j := 1) rfl rk)) ?_
    refine o_val rfl rfl rfl rfl (v_quo rfl rfl (by decide) (r := ((r.k / 4 : Nat) : Int)) (by show IntKind.u8.wrap ((r.k / 4 : Nat) : Int) = _; exact wrap_u8 (by omega) (by omega))) ?_
    refine o_val rfl rfl rfl rfl (v_rem rfl rfl (by decide) (r := ((r.k / 4 % 2 : Nat) : Int)) rfl) ?_
    refine o_val rfl rfl rfl rfl (v_field (k := 4) rfl rfl rfl) ?_
    refine o_val rfl rfl rfl rfl (v_load (v := .slice a1 r.d.length c1) rfl rfl (cell_at (j := 1) rfl rd)) ?_
    refine o_val rfl rfl rfl rfl (v_build rfl rfl) ?_
    refine o_act rfl rfl rfl rfl (a_alloc rfl) ?_
    rintro v' H' ⟨y, rfl, rfl⟩
    refine o_act0 rfl rfl rfl (a_store (sz := 4) 0 rfl rfl rfl rfl rfl rfl (Nat.le_of_ble_eq_true rfl)) ?_
    refine j_heap (H' := .mem y e.cells 4 :: .mem x z0.cells 7 :: .mem s' rc 5 :: .mem s p.cells 7 :: Fr) (by rw [hee, hixv]; rfl) ?_
    have heo := heok.one
    refine o_end ?_
    refine r_seq ?_
    refine r_region rfl ?_
    refine o_val rfl rfl rfl rfl (v_loadAgg (sz := 7) (cs := p.cells) rfl rfl rfl rfl (cells_of (j := 3) _ _ rfl rfl)) ?_
    refine o_val rfl rfl rfl rfl (v_loadAgg (sz := 4) (cs := e.cells) rfl rfl rfl rfl (cells_of (j := 0) _ _ rfl rfl)) ?_
    refine o_call rfl rfl rfl rfl (c_call callable30 rfl) (ref_Add _ _ p e _ hp heok hc (by omega) (by omega)) ?_
    rintro v' F2 H' ⟨hF2, rfl, had⟩ _
    obtain ⟨q, ok, rfl, hqok, hqc, hqix, hql, hqs⟩ : ∃ (q : Im) (ok : Bool), v' = .tuple #[.agg q.cells.toArray, .bool ok] ∧ q.ok F2 ∧ Consec q.ix q.l ∧ q.ix ≤ 1000 ∧ q.l.length ≤ p.l.length + 1 ∧ ((ok = true ∧ addE p.pure e.pure = some q.pure) ∨ (ok = false ∧ addE p.pure e.pure = none ∧ q.pure = p.pure)) := by
      rcases had with ⟨h1, rfl⟩ | ⟨q, h1, h2, h3, h4, h5, rfl⟩
      · exact ⟨p, false, rfl, hp.frz hF2, hc, hb, by omega, .inr ⟨rfl, h1, rfl⟩⟩
      · exact ⟨q, true, rfl, h2, h3, by omega, h5, .inl ⟨rfl, h1⟩⟩
    have hqo := hqok.one
    rw [hep] at hqs
    refine o_val rfl rfl rfl rfl (v_move rfl) ?_
    refine o_val rfl rfl rfl rfl (v_extract rfl rfl) ?_
    refine o_val rfl rfl rfl rfl (v_extract rfl rfl) ?_
    refine o_act rfl rfl rfl rfl (a_alloc rfl) ?_
    rintro v' H' ⟨n, rfl, rfl⟩
    refine o_act0 rfl rfl rfl (a_store (sz := 7) 0 rfl rfl rfl (by simpa [Value.cells] using hqo) rfl rfl (Nat.le_of_ble_eq_true rfl)) ?_
    refine j_heap (H' := .mem n q.cells 7 :: .mem y e.cells 4 :: .mem x z0.cells 7 :: .mem s' rc 5 :: .mem s p.cells 7 :: Fr) rfl ?_
    refine o_val rfl rfl rfl rfl (v_assign rfl) ?_
    refine o_end ?_
    refine r_seq ?_
    refine d_region 1000000 rfl ([.mem y e.cells 4, .mem n q.cells 7]) ?_
    refine d_take (i := 0) rfl rfl rfl (by decide +kernel) (by decide +kernel) (by decide +kernel) (Fz.le_refl _) (by intro w hw; simp only [List.mem_cons, List.not_mem_nil, or_false] at hw; rcases hw with rfl | rfl <;> simp) rfl (v_loadAgg (sz := 4) (cs := e.cells) rfl rfl rfl rfl (cells_of (j := 0) _ _ rfl rfl)) ?_
    refine d_take (i := 2) rfl rfl rfl (by decide +kernel) (by decide +kernel) (by decide +kernel) (Fz.le_refl _) (by intro w hw; simp only [List.mem_cons, List.not_mem_nil, or_false] at hw; rcases hw with rfl | rfl <;> simp) rfl (v_loadAgg (sz := 7) (cs := q.cells) rfl rfl rfl rfl (cells_of (j := 1) _ _ rfl rfl)) ?_
    refine d_take (i := 3) rfl rfl rfl (by decide +kernel) (by decide +kernel) (by decide +kernel) (Fz.le_refl _) (by intro w hw; simp only [List.mem_cons, List.not_mem_nil, or_false] at hw; rcases hw with rfl | rfl <;> simp) rfl (v_move rfl) ?_
    refine d_one (i := 1) (by decide +kernel) ?_
    refine d1_call rfl rfl rfl rfl (c_call callable16 rfl) (ref_Entry _ _ e _ (heok.frz hF2)) ?_
    rintro v' F2 H' ⟨rfl, bf, hok, rfl, rfl⟩ _
    refine ⟨fun w hw => held_of hw (by first | exact Fz.le_refl _ | assumption) (by intro w hw; simp only [List.mem_cons, List.not_mem_nil, or_false] at hw; rcases hw with rfl | rfl <;> simp), ?_⟩
    rw [hep] at hok ⊢
    refine j_sel (H' := Ent.mem x z0.cells 7 :: (Ent.mem y e.cells 4 :: (Ent.mem n q.cells 7 :: (bf.ents 1 (bytesV (PE.bs (eR p.pure r))) ++ (Fr))))) [bf.ents 1 (bytesV (PE.bs (eR p.pure r))), [Ent.mem n q.cells 7], [Ent.mem y e.cells 4], [Ent.mem x z0.cells 7], [Ent.mem s' rc 5], [Ent.mem s p.cells 7], Fr] [3, 2, 1, 0, 6] rfl rfl rfl ?_
    refine d_take (i := 4) rfl rfl rfl (by decide +kernel) (by decide +kernel) (by decide +kernel) (Fz.le_refl _) (by intro w hw; simp only [List.mem_cons, List.not_mem_nil, or_false] at hw; rcases hw with rfl | rfl <;> simp) rfl (v_assign rfl) ?_
    refine d_one (i := 5) (by decide +kernel) ?_
    refine d1_act0 rfl rfl rfl (a_store (sz := 7) 0 rfl rfl rfl (by simpa [Value.cells] using hqo) rfl rfl (by rw [hz0]; exact Nat.le_of_ble_eq_true rfl)) (fun w hw => held_of hw (Fz.le_refl _) (by intro w hw; simp only [List.mem_cons, List.not_mem_nil, or_false] at hw; rcases hw with rfl | rfl <;> simp)) ?_
    refine j_heap (H' := .mem x q.cells 7 :: .mem y e.cells 4 :: .mem n q.cells 7 :: (bf.ents 1 (bytesV (PE.bs (eR p.pure r))) ++ Fr)) (by rw [hz0]; rfl) ?_
    refine d_take (i := 6) rfl rfl rfl (by decide +kernel) (by decide +kernel) (by decide +kernel) (Fz.le_refl _) (by intro w hw; simp only [List.mem_cons, List.not_mem_nil, or_false] at hw; rcases hw with rfl | rfl <;> simp) rfl (v_assign rfl) ?_
    refine d_end (by decide +kernel) ?_
    exact r_ret1C1 Try.func11 rfl rfl rfl rfl rfl rfl rfl (cells_of (j := 0) _ _ rfl rfl) (H' := bf.ents 1 (bytesV (PE.bs (eR p.pure r))) ++ Fr) ((List.sublist_cons_self _ _).trans ((List.sublist_cons_self _ _).trans (List.sublist_cons_self _ _))) ⟨⟨hF2, bf, q, ok, hok, rfl, rfl, hqok, hqc, hqix, hql, hqs⟩, hF2⟩
  · rw [hk] at m4
    have hsB : stepB p.pure r = PE.bs (eR p.pure r) := by unfold stepB; rw [if_neg (by omega), if_neg (by omega)]
    have hsQ : stepQ p.pure r = addE p.pure (eR p.pure r) := by unfold stepQ; rw [if_neg (by omega), if_neg (by omega)]
    have hixv : ixR p.pure r = p.ix + p.l.length + 1 := by
      unfold ixR
      rw [if_pos hk]
      show p.ix + (p.l.map En.pure).length + 1 = _
      rw [List.length_map]
    have hixb : ixR p.pure r < 18446744073709551616 := by rw [hixv]; omega
    rw [hsB, hsQ]
    refine r_seq ?_
    refine r_seq ?_
    refine r_region rfl ?_
    refine o_val rfl rfl rfl rfl (v_field (k := 0) rfl rfl rfl) ?_
    refine o_val rfl rfl rfl rfl (v_load (v := .int .u8 r.k) rfl rfl (cell_at (j := 1) rfl rk)) ?_
    refine o_val rfl rfl rfl rfl (v_rem rfl rfl (by decide) m4) ?_
    refine o_end ?_
    refine r_block ?_
    refine r_seq ?_
    refine r_region rfl ?_
    refine o_val rfl rfl rfl rfl (v_eql rfl rfl) ?_
    refine o_val rfl rfl rfl rfl (v_assign rfl) ?_
    refine o_end ?_
    refine r_false rfl ?_
    refine r_seq ?_
    refine r_seq ?_
    refine r_region rfl ?_
    refine o_val rfl rfl rfl rfl (v_eql rfl rfl) ?_
    refine o_val rfl rfl rfl rfl (v_assign rfl) ?_
    refine o_end ?_
    refine r_false rfl ?_
    refine r_region rfl ?_
    refine o_val rfl rfl rfl rfl (v_eql rfl rfl) ?_
    refine o_val rfl rfl rfl rfl (v_assign rfl) ?_
    refine o_end ?_
    refine r_true rfl ?_
    refine r_seq ?_
    refine r_region rfl ?_
    refine o_val rfl rfl rfl rfl (v_field (k := 1) rfl rfl rfl) ?_
    refine o_val rfl rfl rfl rfl (v_load (v := .int .u64 r.a) rfl rfl (cell_at (j := 1) rfl ra)) ?_
    refine o_val rfl rfl rfl rfl (v_rem rfl rfl (by decide) (r := ((r.a % 12 : Nat) : Int)) rfl) ?_
    refine o_val rfl rfl rfl rfl (v_assign rfl) ?_
    refine o_end ?_
    refine r_seq ?_
    refine r_seq ?_
    refine r_region rfl ?_
    refine o_val rfl rfl rfl rfl (v_field (k := 0) rfl rfl rfl) ?_
    refine o_val rfl rfl rfl rfl (v_load (v := .int .u8 r.k) rfl rfl (cell_at (j := 1) rfl rk)) ?_
    refine o_val rfl rfl rfl rfl (v_rem rfl rfl (by decide) m4) ?_
    refine o_val rfl rfl rfl rfl (v_eql rfl rfl) ?_
    refine o_end ?_
    refine r_true rfl ?_
    refine r_region rfl ?_
    refine o_val rfl rfl rfl rfl (v_field (k := 2) rfl rfl rfl) ?_
    refine o_val rfl rfl rfl rfl (v_field (k := 0) rfl rfl rfl) ?_
    refine o_val rfl rfl rfl rfl (v_load (v := .int .u64 p.ix) rfl rfl (cell_at (j := 2) rfl rfl)) ?_
    refine o_val rfl rfl rfl rfl (v_field (k := 6) rfl rfl rfl) ?_
    refine o_val rfl rfl rfl rfl (v_load (v := .slice a2 p.l.length c2) rfl rfl (cell_at (j := 2) rfl pl)) ?_
    refine o_val rfl rfl rfl rfl (v_len rfl rfl) ?_
    refine o_val rfl rfl rfl rfl (v_conv rfl rfl rfl (wrap_u64 (by omega) (by omega))) ?_
    refine o_val rfl rfl rfl rfl (v_add rfl rfl (r := ((p.ix + p.l.length : Nat) : Int)) (wrap_u64 (by omega) (by omega))) ?_
    refine o_val rfl rfl rfl rfl (v_add rfl rfl (r := ((p.ix + p.l.length + 1 : Nat) : Int)) (wrap_u64 (by omega) (by omega))) ?_
    refine o_val rfl rfl rfl rfl (v_assign rfl) ?_
    refine o_end ?_
    refine r_seq ?_
    refine r_region rfl ?_
    refine o_val rfl rfl rfl rfl (v_move rfl) ?_
    refine o_val rfl rfl rfl rfl (v_field (k := 2) rfl rfl rfl) ?_
    obtain ⟨e, hee⟩ : ∃ e : En, e = ⟨ixR p.pure r, r.b, r.k / 4 % 2, .slice a1 r.d.length c1, r.d⟩ := ⟨_, rfl⟩
    have hep : e.pure = eR p.pure r := by rw [hee]; rfl
    have heok : e.ok F := by rw [hee]; exact ⟨hixb, r3, by dsimp only; omega, hd, by dsimp only; omega⟩
    refine o_val rfl rfl rfl rfl (v_load (v := .int .u64 r.b) rfl rfl (cell_at (j := 1) rfl rb)) ?_
    refine o_val rfl rfl rfl rfl (v_field (k := 0) rfl rfl rfl) ?_
    refine o_val rfl rfl rfl rfl (v_load (v := .int .u8 r.k) rfl rfl (cell_at (j := 1) rfl rk)) ?_
    refine o_val rfl rfl rfl rfl (v_quo rfl rfl (by decide) (r := ((r.k / 4 : Nat) : Int)) (by show IntKind.u8.wrap ((r.k / 4 : Nat) : Int) = _; exact wrap_u8 (by omega) (by omega))) ?_
    refine o_val rfl rfl rfl rfl (v_rem rfl rfl (by decide) (r := ((r.k / 4 % 2 : Nat) : Int)) rfl) ?_
    refine o_val rfl rfl rfl rfl (v_field (k := 4) rfl rfl rfl) ?_
    refine o_val rfl rfl rfl rfl (v_load (v := .slice a1 r.d.length c1) rfl rfl (cell_at (j := 1) rfl rd)) ?_
    refine o_val rfl rfl rfl rfl (v_build rfl rfl) ?_
    refine o_act rfl rfl rfl rfl (a_alloc rfl) ?_
    rintro v' H' ⟨y, rfl, rfl⟩
    refine o_act0 rfl rfl rfl (a_store (sz := 4) 0 rfl rfl rfl rfl rfl rfl (Nat.le_of_ble_eq_true rfl)) ?_
    refine j_heap (H' := .mem y e.cells 4 :: .mem x z0.cells 7 :: .mem s' rc 5 :: .mem s p.cells 7 :: Fr) (by rw [hee, hixv]; rfl) ?_
    have heo := heok.one
    refine o_end ?_
    refine r_seq ?_
    refine r_region rfl ?_
    refine o_val rfl rfl rfl rfl (v_loadAgg (sz := 7) (cs := p.cells) rfl rfl rfl rfl (cells_of (j := 3) _ _ rfl rfl)) ?_
    refine o_val rfl rfl rfl rfl (v_loadAgg (sz := 4) (cs := e.cells) rfl rfl rfl rfl (cells_of (j := 0) _ _ rfl rfl)) ?_
    refine o_call rfl rfl rfl rfl (c_call callable30 rfl) (ref_Add _ _ p e _ hp heok hc (by omega) (by omega)) ?_
    rintro v' F2 H' ⟨hF2, rfl, had⟩ _
    obtain ⟨q, ok, rfl, hqok, hqc, hqix, hql, hqs⟩ : ∃ (q : Im) (ok : Bool), v' = .tuple #[.agg q.cells.toArray, .bool ok] ∧ q.ok F2 ∧ Consec q.ix q.l ∧ q.ix ≤ 1000 ∧ q.l.length ≤ p.l.length + 1 ∧ ((ok = true ∧ addE p.pure e.pure = some q.pure) ∨ (ok = false ∧ addE p.pure e.pure = none ∧ q.pure = p.pure)) := by
      rcases had with ⟨h1, rfl⟩ | ⟨q, h1, h2, h3, h4, h5, rfl⟩
      · exact ⟨p, false, rfl, hp.frz hF2, hc, hb, by omega, .inr ⟨rfl, h1, rfl⟩⟩
      · exact ⟨q, true, rfl, h2, h3, by omega, h5, .inl ⟨rfl, h1⟩⟩
    have hqo := hqok.one
    rw [hep] at hqs
    refine o_val rfl rfl rfl rfl (v_move rfl) ?_
    refine o_val rfl rfl rfl rfl (v_extract rfl rfl) ?_
    refine o_val rfl rfl rfl rfl (v_extract rfl rfl) ?_
    refine o_act rfl rfl rfl rfl (a_alloc rfl) ?_
    rintro v' H' ⟨n, rfl, rfl⟩
    refine o_act0 rfl rfl rfl (a_store (sz := 7) 0 rfl rfl rfl (by simpa [Value.cells] using hqo) rfl rfl (Nat.le_of_ble_eq_true rfl)) ?_
    refine j_heap (H' := .mem n q.cells 7 :: .mem y e.cells 4 :: .mem x z0.cells 7 :: .mem s' rc 5 :: .mem s p.cells 7 :: Fr) rfl ?_
    refine o_val rfl rfl rfl rfl (v_assign rfl) ?_
    refine o_end ?_
    refine r_seq ?_
    refine d_region 1000000 rfl ([.mem y e.cells 4, .mem n q.cells 7]) ?_
    refine d_take (i := 0) rfl rfl rfl (by decide +kernel) (by decide +kernel) (by decide +kernel) (Fz.le_refl _) (by intro w hw; simp only [List.mem_cons, List.not_mem_nil, or_false] at hw; rcases hw with rfl | rfl <;> simp) rfl (v_loadAgg (sz := 4) (cs := e.cells) rfl rfl rfl rfl (cells_of (j := 0) _ _ rfl rfl)) ?_
    refine d_take (i := 2) rfl rfl rfl (by decide +kernel) (by decide +kernel) (by decide +kernel) (Fz.le_refl _) (by intro w hw; simp only [List.mem_cons, List.not_mem_nil, or_false] at hw; rcases hw with rfl | rfl <;> simp) rfl (v_loadAgg (sz := 7) (cs := q.cells) rfl rfl rfl rfl (cells_of (j := 1) _ _ rfl rfl)) ?_
    refine d_take (i := 3) rfl rfl rfl (by decide +kernel) (by decide +kernel) (by decide +kernel) (Fz.le_refl _) (by intro w hw; simp only [List.mem_cons, List.not_mem_nil, or_false] at hw; rcases hw with rfl | rfl <;> simp) rfl (v_move rfl) ?_
    refine d_one (i := 1) (by decide +kernel) ?_
    refine d1_call rfl rfl rfl rfl (c_call callable16 rfl) (ref_Entry _ _ e _ (heok.frz hF2)) ?_
    rintro v' F2 H' ⟨rfl, bf, hok, rfl, rfl⟩ _
    refine ⟨fun w hw => held_of hw (by first | exact Fz.le_refl _ | assumption) (by intro w hw; simp only [List.mem_cons, List.not_mem_nil, or_false] at hw; rcases hw with rfl | rfl <;> simp), ?_⟩
    rw [hep] at hok ⊢
    refine j_sel (H' := Ent.mem x z0.cells 7 :: (Ent.mem y e.cells 4 :: (Ent.mem n q.cells 7 :: (bf.ents 1 (bytesV (PE.bs (eR p.pure r))) ++ (Fr))))) [bf.ents 1 (bytesV (PE.bs (eR p.pure r))), [Ent.mem n q.cells 7], [Ent.mem y e.cells 4], [Ent.mem x z0.cells 7], [Ent.mem s' rc 5], [Ent.mem s p.cells 7], Fr] [3, 2, 1, 0, 6] rfl rfl rfl ?_
    refine d_take (i := 4) rfl rfl rfl (by decide +kernel) (by decide +kernel) (by decide +kernel) (Fz.le_refl _) (by intro w hw; simp only [List.mem_cons, List.not_mem_nil, or_false] at hw; rcases hw with rfl | rfl <;> simp) rfl (v_assign rfl) ?_
    refine d_one (i := 5) (by decide +kernel) ?_
    refine d1_act0 rfl rfl rfl (a_store (sz := 7) 0 rfl rfl rfl (by simpa [Value.cells] using hqo) rfl rfl (by rw [hz0]; exact Nat.le_of_ble_eq_true rfl)) (fun w hw => held_of hw (Fz.le_refl _) (by intro w hw; simp only [List.mem_cons, List.not_mem_nil, or_false] at hw; rcases hw with rfl | rfl <;> simp)) ?_
    refine j_heap (H' := .mem x q.cells 7 :: .mem y e.cells 4 :: .mem n q.cells 7 :: (bf.ents 1 (bytesV (PE.bs (eR p.pure r))) ++ Fr)) (by rw [hz0]; rfl) ?_
    refine d_take (i := 6) rfl rfl rfl (by decide +kernel) (by decide +kernel) (by decide +kernel) (Fz.le_refl _) (by intro w hw; simp only [List.mem_cons, List.not_mem_nil, or_false] at hw; rcases hw with rfl | rfl <;> simp) rfl (v_assign rfl) ?_
    refine d_end (by decide +kernel) ?_
    exact r_ret1C1 Try.func11 rfl rfl rfl rfl rfl rfl rfl (cells_of (j := 0) _ _ rfl rfl) (H' := bf.ents 1 (bytesV (PE.bs (eR p.pure r))) ++ Fr) ((List.sublist_cons_self _ _).trans ((List.sublist_cons_self _ _).trans (List.sublist_cons_self _ _))) ⟨⟨hF2, bf, q, ok, hok, rfl, rfl, hqok, hqc, hqix, hql, hqs⟩, hF2⟩
  · rw [hk] at m4
    have hsB : stepB p.pure r = recB 3 (snapP (r.a % 9) r.b r.a r.d) := by unfold stepB; rw [if_neg (by omega), if_pos hk]
    have hsQ : stepQ p.pure r = some { p.pure with ix := r.a % 9, tm := r.b, vt := r.a, data := r.d, l := [] } := by unfold stepQ; rw [if_neg (by omega), if_pos hk]
    rw [hsB, hsQ]
    refine r_seq ?_
    refine r_seq ?_
    refine r_region rfl ?_
    refine o_val rfl rfl rfl rfl (v_field (k := 0) rfl rfl rfl) ?_
    refine o_val rfl rfl rfl rfl (v_load (v := .int .u8 r.k) rfl rfl (cell_at (j := 1) rfl rk)) ?_
    refine o_val rfl rfl rfl rfl (v_rem rfl rfl (by decide) m4) ?_
    refine o_end ?_
    refine r_block ?_
    refine r_seq ?_
    refine r_region rfl ?_
    refine o_val rfl rfl rfl rfl (v_eql rfl rfl) ?_
    refine o_val rfl rfl rfl rfl (v_assign rfl) ?_
    refine o_end ?_
    refine r_false rfl ?_
    refine r_seq ?_
    refine r_seq ?_
    refine r_region rfl ?_
    refine o_val rfl rfl rfl rfl (v_eql rfl rfl) ?_
    refine o_val rfl rfl rfl rfl (v_assign rfl) ?_
    refine o_end ?_
    refine r_false rfl ?_
    refine r_region rfl ?_
    refine o_val rfl rfl rfl rfl (v_eql rfl rfl) ?_
    refine o_val rfl rfl rfl rfl (v_assign rfl) ?_
    refine o_end ?_
    refine r_false rfl ?_
    refine r_skip ?_
    refine r_inBlock ?_
    refine r_seq ?_
    refine r_region rfl ?_
    refine o_val rfl rfl rfl rfl (v_field (k := 1) rfl rfl rfl) ?_
    refine o_val rfl rfl rfl rfl (v_load (v := .int .u64 r.a) rfl rfl (cell_at (j := 1) rfl ra)) ?_
    refine o_val rfl rfl rfl rfl (v_rem rfl rfl (by decide) (r := ((r.a % 9 : Nat) : Int)) rfl) ?_
    refine o_val rfl rfl rfl rfl (v_field (k := 2) rfl rfl rfl) ?_
    refine o_val rfl rfl rfl rfl (v_load (v := .int .u64 r.b) rfl rfl (cell_at (j := 1) rfl rb)) ?_
    refine o_val rfl rfl rfl rfl (v_field (k := 1) rfl rfl rfl) ?_
    refine o_val rfl rfl rfl rfl (v_load (v := .int .u64 r.a) rfl rfl (cell_at (j := 1) rfl ra)) ?_
    refine o_val rfl rfl rfl rfl (v_field (k := 4) rfl rfl rfl) ?_
    refine o_val rfl rfl rfl rfl (v_load (v := .slice a1 r.d.length c1) rfl rfl (cell_at (j := 1) rfl rd)) ?_
    refine o_val rfl rfl rfl rfl (v_build rfl rfl) ?_
    refine o_act rfl rfl rfl rfl (a_alloc rfl) ?_
    rintro v' H' ⟨n, rfl, rfl⟩
    refine o_act0 rfl rfl rfl (a_store (sz := 4) 0 rfl rfl rfl rfl rfl rfl (Nat.le_of_ble_eq_true rfl)) ?_
    refine j_heap (H' := .mem n [.int .u64 (r.a % 9 : Nat), .int .u64 r.b, .int .u64 r.a, .slice a1 r.d.length c1] 4 :: .mem x z0.cells 7 :: .mem s' rc 5 :: .mem s p.cells 7 :: Fr) rfl ?_
    refine o_end ?_
    refine r_seq ?_
    refine r_region rfl ?_
    refine o_val rfl rfl rfl rfl (v_loadAgg (sz := 4) (cs := [.int .u64 (r.a % 9 : Nat), .int .u64 r.b, .int .u64 r.a, .slice a1 r.d.length c1]) rfl rfl rfl rfl (cells_of (j := 0) _ _ rfl rfl)) ?_
    refine o_val rfl rfl rfl rfl (v_field (k := 2) rfl rfl rfl) ?_
    refine o_act0 rfl rfl rfl (a_store (sz := 4) 3 rfl rfl rfl rfl rfl rfl (Nat.le_of_ble_eq_true rfl)) ?_
    refine o_end ?_
    refine r_seq ?_
    refine r_region rfl ?_
    refine o_val rfl rfl rfl rfl (v_field (k := 6) rfl rfl rfl) ?_
    refine o_act0 rfl rfl rfl (a_store1 3 rfl rfl rfl rfl rfl (Nat.le_of_ble_eq_true rfl)) ?_
    obtain ⟨q, hq⟩ : ∃ q : Im, q = { p with ix := r.a % 9, tm := r.b, vt := r.a, dv := .slice a1 r.d.length c1, data := r.d, lv := .slice none 0 0, l := [] } := ⟨_, rfl⟩
    have hqok : q.ok F := by rw [hq]; exact ⟨hp.term, hp.vote1, hp.vote2, by dsimp only; omega, r3, r2, hd, by dsimp only; omega, Sl.nil _ _ _, by simp⟩
    have hqo := hqok.one
    refine j_heap (H' := .mem n [.int .u64 (r.a % 9 : Nat), .int .u64 r.b, .int .u64 r.a, .slice a1 r.d.length c1] 4 :: .mem x z0.cells 7 :: .mem s' rc 5 :: .mem s q.cells 7 :: Fr) (by rw [hq]; rfl) ?_
    refine o_end ?_
    refine r_seq ?_
    refine d_region 4 rfl ([.mem n [.int .u64 (r.a % 9 : Nat), .int .u64 r.b, .int .u64 r.a, .slice a1 r.d.length c1] 4, .mem s q.cells 7]) ?_
    refine d_take (i := 0) rfl rfl rfl (by decide +kernel) (by decide +kernel) (by decide +kernel) (Fz.le_refl _) (by intro w hw; simp only [List.mem_cons, List.not_mem_nil, or_false] at hw; rcases hw with rfl | rfl <;> simp) rfl (v_loadAgg (sz := 4) (cs := [.int .u64 (r.a % 9 : Nat), .int .u64 r.b, .int .u64 r.a, .slice a1 r.d.length c1]) rfl rfl rfl rfl (cells_of (j := 0) _ _ rfl rfl)) ?_
    refine d_take (i := 2) rfl rfl rfl (by decide +kernel) (by decide +kernel) (by decide +kernel) (Fz.le_refl _) (by intro w hw; simp only [List.mem_cons, List.not_mem_nil, or_false] at hw; rcases hw with rfl | rfl <;> simp) rfl (v_loadAgg (sz := 7) (cs := q.cells) rfl rfl rfl rfl (cells_of (j := 1) _ _ rfl rfl)) ?_
    refine d_one (i := 1) (by decide +kernel) ?_
    refine d1_call rfl rfl rfl rfl (c_call callable31 rfl) (ref_Snap _ _ (r.a % 9) r.b r.a (.slice a1 r.d.length c1) r.d _ hd (by omega)) ?_
    rintro v' F H' ⟨rfl, bf, hok, rfl, rfl⟩ _
    refine ⟨fun w hw => held_of hw (by first | exact Fz.le_refl _ | assumption) (by intro w hw; simp only [List.mem_cons, List.not_mem_nil, or_false] at hw; rcases hw with rfl | rfl <;> simp), ?_⟩
    refine j_sel (H' := Ent.mem x z0.cells 7 :: (Ent.mem n [.int .u64 (r.a % 9 : Nat), .int .u64 r.b, .int .u64 r.a, .slice a1 r.d.length c1] 4 :: (Ent.mem s q.cells 7 :: (bf.ents 1 (bytesV (recB 3 (snapP (r.a % 9) r.b r.a r.d))) ++ (Fr))))) [bf.ents 1 (bytesV (recB 3 (snapP (r.a % 9) r.b r.a r.d))), [Ent.mem n [.int .u64 (r.a % 9 : Nat), .int .u64 r.b, .int .u64 r.a, .slice a1 r.d.length c1] 4], [Ent.mem x z0.cells 7], [Ent.mem s' rc 5], [Ent.mem s q.cells 7], Fr] [2, 1, 4, 0, 5] rfl rfl rfl ?_
    refine d_take (i := 3) rfl rfl rfl (by decide +kernel) (by decide +kernel) (by decide +kernel) (Fz.le_refl _) (by intro w hw; simp only [List.mem_cons, List.not_mem_nil, or_false] at hw; rcases hw with rfl | rfl <;> simp) rfl (v_assign rfl) ?_
    refine d_one (i := 4) (by decide +kernel) ?_
    refine d1_last 1000000 ([]) rfl rfl rfl (a_store (sz := 7) 0 rfl rfl rfl (by simpa [Value.cells] using hqo) rfl rfl (by rw [hz0]; exact Nat.le_of_ble_eq_true rfl)) ?_
    refine j_heap (H' := .mem x q.cells 7 :: .mem n [.int .u64 (r.a % 9 : Nat), .int .u64 r.b, .int .u64 r.a, .slice a1 r.d.length c1] 4 :: .mem s q.cells 7 :: (bf.ents 1 (bytesV (recB 3 (snapP (r.a % 9) r.b r.a r.d))) ++ Fr)) (by rw [hz0]; rfl) ?_
    refine d_take (i := 5) rfl rfl rfl (by decide +kernel) (by decide +kernel) (by decide +kernel) (Fz.le_refl _) (by simp) rfl (v_assign rfl) ?_
    refine d_end (by decide +kernel) ?_
    exact r_ret1C1 Try.func11 rfl rfl rfl rfl rfl rfl rfl (cells_of (j := 0) _ _ rfl rfl) (H' := bf.ents 1 (bytesV (recB 3 (snapP (r.a % 9) r.b r.a r.d))) ++ Fr) ((List.sublist_cons_self _ _).trans ((List.sublist_cons_self _ _).trans (List.sublist_cons_self _ _))) ⟨⟨Fz.le_refl _, bf, q, true, hok, rfl, rfl, hqok, by rw [hq]; exact Consec.nil _, by rw [hq]; dsimp only; omega, by rw [hq]; simp, .inl ⟨rfl, by rw [hq]; rfl⟩⟩, Fz.le_refl _⟩
end Go.SX
