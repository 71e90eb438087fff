/-
  The reference's next image: one more entry.
-/
import Derived.Test.YtmpbgnffdpppbaaWal7
namespace Go.SX
open Go Go.Proofs
set_option maxRecDepth 4000
set_option linter.unusedSimpArgs false
set_option linter.unusedVariables false

/-- Entries stand one behind the other. -/
def Consec (ix : Nat) (l : List En) : Prop := ∀ (i : Nat) (h : i < l.length), l[i].ix = ix + i + 1
theorem Consec.nil (ix : Nat) : Consec ix [] := fun i h => by simp at h
theorem Consec.more {ix : Nat} {l : List En} {e : En} {n : Nat} (h : Consec ix l) (hn : n ≤ l.length) (he : e.ix = ix + n + 1) : Consec ix (l.take n ++ [e]) := fun i hi => by
  have hl : (l.take n).length = n := by simp; omega
  rcases Nat.lt_or_ge i n with h1 | h1
  · rw [List.getElem_append_left (by omega), List.getElem_take]
    exact h i (by omega)
  · rw [List.getElem_append_right (by omega)]
    have : i = n := by simp [hl] at hi; omega
    subst this
    simp [hl, he]

structure AdG where
  i : Nat
  bf : Bf
set_option maxHeartbeats 1600000 in
theorem ref_Add (O : World) (F : Fz) (p : Im) (e : En) (Fr : List Ent) (hp : p.ok F) (he : e.ok F) (hc : Consec p.ix p.l) (hn : p.l.length ≤ 1000) (hb : p.ix ≤ 9000000000000000000) :
    Does Try.prog O 30 #[.agg p.cells.toArray, .agg e.cells.toArray] F Fr (fun r F' H' => F.le F' ∧ H' = Fr ∧ ((addE p.pure e.pure = none ∧ r = .tuple #[.agg p.cells.toArray, .bool false]) ∨
      ∃ q : Im, addE p.pure e.pure = some q.pure ∧ q.ok F' ∧ Consec q.ix q.l ∧ q.ix = p.ix ∧ q.l.length ≤ p.l.length + 1 ∧ r = .tuple #[.agg q.cells.toArray, .bool true])) := by
  have hone := hp.one
  have heone := he.one
  obtain ⟨eix, etm, ekd, edv, edata⟩ := e
  obtain ⟨term, vote, ix, tm, vt, dv, data, lv, l⟩ := p
  obtain ⟨q1, q2, q3, q4, q5, q6, hpd, hpdl, hplv, hpl⟩ := id hp
  have he1 := he.ix
  dsimp only at *
  obtain ⟨a2, c2, hlv, hc2⟩ := Sl.shape hplv
  subst hlv
  have hade : addE (Im.pure ⟨term, vote, ix, tm, vt, dv, data, .slice a2 l.length c2, l⟩) (En.pure ⟨eix, etm, ekd, edv, edata⟩) = if eix ≤ ix ∨ (l.map En.pure).length < eix - ix - 1 then none else some { Im.pure ⟨term, vote, ix, tm, vt, dv, data, .slice a2 l.length c2, l⟩ with l := (l.map En.pure).take (eix - ix - 1) ++ [En.pure ⟨eix, etm, ekd, edv, edata⟩] } := rfl
  rw [List.length_map] at hade
  refine does_of_run (args := [_, _]) Try.func30 rfl rfl ?_
  refine r_seq ?_
  refine r_region rfl ?_
  refine o_act rfl rfl rfl rfl (a_box rfl) ?_
  rintro v' H' ⟨s, rfl, rfl⟩
  refine o_act rfl rfl rfl rfl (a_box rfl) ?_
  rintro v' H' ⟨s', rfl, rfl⟩
  refine o_act rfl rfl rfl rfl (a_alloc rfl) ?_
  rintro v' H' ⟨x, rfl, rfl⟩
  obtain ⟨ce, hce⟩ : ∃ ce : List Value, ce = (En.cells ⟨eix, etm, ekd, edv, edata⟩) := ⟨_, rfl⟩
  obtain ⟨cp, hcp⟩ : ∃ cp : List Value, cp = (Im.cells ⟨term, vote, ix, tm, vt, dv, data, .slice a2 l.length c2, l⟩) := ⟨_, rfl⟩
  obtain ⟨z0, hz0⟩ : ∃ z0 : Im, z0 = ⟨0, 0, 0, 0, 0, .slice none 0 0, [], .slice none 0 0, []⟩ := ⟨_, rfl⟩
  refine j_heap (H' := .mem x z0.cells 7 :: .mem s' ce 4 :: .mem s cp 7 :: Fr) (by rw [hz0, hce, hcp]; rfl) ?_
  have pix : cp[2]? = some (.int .u64 ix) := by rw [hcp]; rfl
  have pl : cp[6]? = some (.slice a2 l.length c2) := by rw [hcp]; rfl
  have eix_ : ce[0]? = some (.int .u64 eix) := by rw [hce]; rfl
  refine o_val rfl rfl rfl rfl (v_assign rfl) ?_
  refine o_end ?_
  refine r_seq ?_
  refine r_region rfl ?_
  refine o_val rfl rfl rfl rfl (v_field (k := 2) rfl rfl rfl) ?_
  refine o_val rfl rfl rfl rfl (v_field (k := 0) rfl rfl rfl) ?_
  refine o_val rfl rfl rfl rfl (v_load (v := .int .u64 ix) rfl rfl (cell_at (j := 2) rfl pix)) ?_
  refine o_val rfl rfl rfl rfl (v_field (k := 6) rfl rfl rfl) ?_
  refine o_val rfl rfl rfl rfl (v_load (v := .slice a2 l.length c2) rfl rfl (cell_at (j := 2) rfl pl)) ?_
  refine o_val rfl rfl rfl rfl (v_len rfl rfl) ?_
  refine o_val rfl rfl rfl rfl (v_conv rfl rfl rfl (wrap_u64 (by omega) (by omega))) ?_
  refine o_val rfl rfl rfl rfl (v_add rfl rfl (r := ((ix + l.length : Nat) : Int)) (wrap_u64 (by omega) (by omega))) ?_
  refine o_val rfl rfl rfl rfl (v_assign rfl) ?_
  refine o_end ?_
  refine r_seq ?_
  refine r_seq ?_
  refine r_region rfl ?_
  refine o_val rfl rfl rfl rfl (v_field (k := 0) rfl rfl rfl) ?_
  refine o_val rfl rfl rfl rfl (v_load (v := .int .u64 eix) rfl rfl (cell_at (j := 1) rfl eix_)) ?_
  refine o_val rfl rfl rfl rfl (v_field (k := 2) rfl rfl rfl) ?_
  refine o_val rfl rfl rfl rfl (v_field (k := 0) rfl rfl rfl) ?_
  refine o_val rfl rfl rfl rfl (v_load (v := .int .u64 ix) rfl rfl (cell_at (j := 2) rfl pix)) ?_
  refine o_val rfl rfl rfl rfl (v_leq rfl rfl) ?_
  refine j_prop 22 rfl (fun g1 => ?_) (fun g1 => ?_)
  · have hno := hade.trans (if_pos (.inl (by omega)))
    refine o_val rfl rfl rfl rfl (v_move rfl) ?_
    refine o_skip rfl rfl rfl rfl ?_
    refine o_skip rfl rfl rfl rfl ?_
    refine o_skip rfl rfl rfl rfl ?_
    refine o_skip rfl rfl rfl rfl ?_
    refine o_skip rfl rfl rfl rfl ?_
    refine o_val rfl rfl rfl rfl (v_pick1 rfl rfl) ?_
    refine o_end ?_
    refine r_true rfl ?_
    refine r_seq ?_
    refine r_region rfl ?_
    refine o_val rfl rfl rfl rfl (v_loadAgg (sz := 7) (cs := cp) rfl rfl rfl (by rw [hcp]; rfl) (cells_of (j := 2) _ _ rfl (by rw [hcp]; rfl))) ?_
    refine o_act0 rfl rfl rfl (a_store (sz := 7) 0 rfl rfl (by rw [hcp]; rfl) (by rw [hcp]; simpa [Value.cells] using hone) rfl rfl (by rw [hz0, hcp]; exact Nat.le_of_ble_eq_true rfl)) ?_
    refine j_heap (H' := .mem x cp 7 :: .mem s' ce 4 :: .mem s cp 7 :: Fr) (by rw [hz0, hcp]; rfl) ?_
    refine o_val rfl rfl rfl rfl (v_assign rfl) ?_
    refine o_end ?_
    rw [hcp]
    exact r_retC1 Try.func30 rfl rfl rfl rfl rfl rfl (cells_of (j := 0) _ _ rfl rfl) (H' := Fr) ((List.sublist_cons_self _ _).trans ((List.sublist_cons_self _ _).trans (List.sublist_cons_self _ _))) ⟨⟨Fz.le_refl _, rfl, .inl ⟨hno, rfl⟩⟩, Fz.le_refl _⟩
  · refine o_val rfl rfl rfl rfl (v_move rfl) ?_
    refine o_val rfl rfl rfl rfl (v_field (k := 0) rfl rfl rfl) ?_
    refine o_val rfl rfl rfl rfl (v_load (v := .int .u64 eix) rfl rfl (cell_at (j := 1) rfl eix_)) ?_
    refine o_val rfl rfl rfl rfl (v_move rfl) ?_
    refine o_val rfl rfl rfl rfl (v_add rfl rfl (r := ((ix + l.length + 1 : Nat) : Int)) (wrap_u64 (by omega) (by omega))) ?_
    refine o_val rfl rfl rfl rfl (v_gtr rfl rfl) ?_
    refine o_val rfl rfl rfl rfl (v_pick0 rfl rfl) ?_
    refine o_end ?_
    refine r_if rfl (fun g2 => ?_) (fun g2 => ?_)
    · have hno := hade.trans (if_pos (.inr (by omega)))
      refine r_seq ?_
      refine r_region rfl ?_
      refine o_val rfl rfl rfl rfl (v_loadAgg (sz := 7) (cs := cp) rfl rfl rfl (by rw [hcp]; rfl) (cells_of (j := 2) _ _ rfl (by rw [hcp]; rfl))) ?_
      refine o_act0 rfl rfl rfl (a_store (sz := 7) 0 rfl rfl (by rw [hcp]; rfl) (by rw [hcp]; simpa [Value.cells] using hone) rfl rfl (by rw [hz0, hcp]; exact Nat.le_of_ble_eq_true rfl)) ?_
      refine j_heap (H' := .mem x cp 7 :: .mem s' ce 4 :: .mem s cp 7 :: Fr) (by rw [hz0, hcp]; rfl) ?_
      refine o_val rfl rfl rfl rfl (v_assign rfl) ?_
      refine o_end ?_
      rw [hcp]
      exact r_retC1 Try.func30 rfl rfl rfl rfl rfl rfl (cells_of (j := 0) _ _ rfl rfl) (H' := Fr) ((List.sublist_cons_self _ _).trans ((List.sublist_cons_self _ _).trans (List.sublist_cons_self _ _))) ⟨⟨Fz.le_refl _, rfl, .inl ⟨hno, rfl⟩⟩, Fz.le_refl _⟩
    · have hyes := hade.trans (if_neg (by omega))
      obtain ⟨at_, hat⟩ : ∃ at_ : Nat, at_ = eix - ix - 1 := ⟨_, rfl⟩
      rw [← hat] at hyes
      have hatl : at_ ≤ l.length := by omega
      have hlt : (l.take at_).length = at_ := by simp; omega
      refine r_skip ?_
      refine r_seq ?_
      refine r_region rfl ?_
      refine o_val rfl rfl rfl rfl (v_assign rfl) ?_
      refine o_end ?_
      refine r_seq ?_
      refine r_seq ?_
      refine r_region rfl ?_
      refine o_val rfl rfl rfl rfl (v_assign rfl) ?_
      refine o_end ?_
      refine r_block ?_
      refine j_sel (H' := Ent.mem x z0.cells 7 :: (Ent.mem s' ce 4 :: (Ent.mem s cp 7 :: (Fr)))) [[Ent.mem x z0.cells 7], [Ent.mem s' ce 4], [Ent.mem s cp 7], Fr] [0, 1, 2, 3] rfl rfl rfl ?_
      refine r_loop (fun g : AdG => g.i ≤ l.length ∧ g.bf.ok (min g.i at_)) (fun g => [(2, ptrV s), (3, ptrV s'), (4, ptrV x), (7, g.bf.val (min g.i at_)), (8, .int .i64 g.i)]) (fun _ => F) (fun g => g.bf.ents 4 (enV ((l.take at_).take g.i)) ++ ([.mem x z0.cells 7, .mem s' ce 4, .mem s cp 7] ++ Fr)) (fun g => l.length - g.i) ⟨0, .nil⟩ ⟨Nat.zero_le _, by show min 0 at_ = 0; omega⟩ ⟨rfl, rfl, rfl, by rw [Nat.zero_min]; rfl, rfl, trivial⟩ rfl rfl ?_
      rintro ⟨i, bf⟩ ⟨hi, hok⟩ IH
      dsimp only at hi hok ⊢
      have rs : ∀ (B : List Ent), Ent.mem s cp 7 ∈ B ++ ([Ent.mem x z0.cells 7, Ent.mem s' ce 4, Ent.mem s cp 7] ++ Fr) := fun B => by simp
      have rs' : ∀ (B : List Ent), Ent.mem s' ce 4 ∈ B ++ ([Ent.mem x z0.cells 7, Ent.mem s' ce 4, Ent.mem s cp 7] ++ Fr) := fun B => by simp
      refine r_seq ?_
      refine r_seq ?_
      refine r_region rfl ?_
      refine o_val rfl rfl rfl rfl (v_move rfl) ?_
      refine o_val rfl rfl rfl rfl (v_field (k := 6) rfl rfl rfl) ?_
      refine o_val rfl rfl rfl rfl (v_load (v := .slice a2 l.length c2) rfl rfl (cell_own (rs _) pl)) ?_
      refine o_val rfl rfl rfl rfl (v_len rfl rfl) ?_
      refine o_val rfl rfl rfl rfl (v_lss rfl rfl) ?_
      refine o_end ?_
      refine r_if rfl (fun h => ?_) (fun h => ?_)
      · have hil : i < l.length := by omega
        obtain ⟨b0, off0, c0, hab, hcl⟩ := sl_cells hplv hil
        simp only [Value.slice.injEq] at hab
        obtain ⟨rfl, _, rfl⟩ := hab
        have hei := hpl l[i] (List.getElem_mem _)
        have hci := hc i hil
        have htk : i < at_ → (l.take at_).take (i + 1) = (l.take at_).take i ++ [l[i]] := fun hia => by
          have h9 := List.take_succ_eq_append_getElem (show i < (l.take at_).length by omega)
          rw [h9, List.getElem_take]
        have htk' : at_ ≤ i → (l.take at_).take (i + 1) = (l.take at_).take i := fun hia => (List.take_of_length_le (show (l.take at_).length ≤ i + 1 by omega)).trans (List.take_of_length_le (show (l.take at_).length ≤ i by omega)).symm
        generalize l[i] = ei at *
        refine r_skip ?_
        refine r_seq ?_
        refine r_block ?_
        refine r_seq ?_
        refine d_region 1000000 rfl ([.mem s' ce 4, .mem s cp 7]) ?_
        refine d_take (i := 0) rfl rfl rfl (by decide +kernel) (by decide +kernel) (by decide +kernel) (Fz.le_refl _) (by intro q hq; simp only [List.mem_cons, List.not_mem_nil, or_false] at hq; rcases hq with rfl | rfl <;> simp) rfl (v_field (k := 6) rfl rfl rfl) ?_
        refine d_take (i := 1) rfl rfl rfl (by decide +kernel) (by decide +kernel) (by decide +kernel) (Fz.le_refl _) (by intro q hq; simp only [List.mem_cons, List.not_mem_nil, or_false] at hq; rcases hq with rfl | rfl <;> simp) rfl (v_load (v := .slice (some ⟨b0, off0, none⟩) l.length c2) rfl rfl (cell_at (j := 1) rfl pl)) ?_
        refine d_take (i := 2) rfl rfl rfl (by decide +kernel) (by decide +kernel) (by decide +kernel) (Fz.le_refl _) (by intro q hq; simp only [List.mem_cons, List.not_mem_nil, or_false] at hq; rcases hq with rfl | rfl <;> simp) rfl (v_move rfl) ?_
        refine d_take (i := 3) rfl rfl rfl (by decide +kernel) (by decide +kernel) (by decide +kernel) (Fz.le_refl _) (by intro q hq; simp only [List.mem_cons, List.not_mem_nil, or_false] at hq; rcases hq with rfl | rfl <;> simp) rfl (v_indexN (sz := 4) rfl rfl rfl rfl hil) ?_
        refine d_take (i := 4) rfl rfl rfl (by decide +kernel) (by decide +kernel) (by decide +kernel) (Fz.le_refl _) (by intro q hq; simp only [List.mem_cons, List.not_mem_nil, or_false] at hq; rcases hq with rfl | rfl <;> simp) rfl (v_field (k := 0) rfl rfl rfl) ?_
        refine d_take (i := 5) rfl rfl rfl (by decide +kernel) (by decide +kernel) (by decide +kernel) (Fz.le_refl _) (by intro q hq; simp only [List.mem_cons, List.not_mem_nil, or_false] at hq; rcases hq with rfl | rfl <;> simp) rfl (v_load (v := .int .u64 ei.ix) rfl rfl ((hcl 0 _ rfl).mono (Fz.le_refl _) (by simp))) ?_
        refine d_take (i := 6) rfl rfl rfl (by decide +kernel) (by decide +kernel) (by decide +kernel) (Fz.le_refl _) (by intro q hq; simp only [List.mem_cons, List.not_mem_nil, or_false] at hq; rcases hq with rfl | rfl <;> simp) rfl (v_field (k := 0) rfl rfl rfl) ?_
        refine d_take (i := 7) rfl rfl rfl (by decide +kernel) (by decide +kernel) (by decide +kernel) (Fz.le_refl _) (by intro q hq; simp only [List.mem_cons, List.not_mem_nil, or_false] at hq; rcases hq with rfl | rfl <;> simp) rfl (v_load (v := .int .u64 eix) rfl rfl (cell_at (j := 0) rfl eix_)) ?_
        refine d_take (i := 8) rfl rfl rfl (by decide +kernel) (by decide +kernel) (by decide +kernel) (Fz.le_refl _) (by intro q hq; simp only [List.mem_cons, List.not_mem_nil, or_false] at hq; rcases hq with rfl | rfl <;> simp) rfl (v_lss rfl rfl) ?_
        refine d_end (by decide +kernel) ?_
        refine r_if rfl (fun h2 => ?_) (fun h2 => ?_)
        · have hia : i < at_ := by omega
          have e1 : min i at_ = i := by omega
          have e2 : min (i + 1) at_ = i + 1 := by omega
          rw [e1] at hok ⊢
          have htl : ((l.take at_).take i).length = i := by simp; omega
          refine r_region rfl ?_
          refine o_val rfl rfl rfl rfl (v_move rfl) ?_
          refine o_val rfl rfl rfl rfl (v_field (k := 6) rfl rfl rfl) ?_
          refine o_val rfl rfl rfl rfl (v_load (v := .slice (some ⟨b0, off0, none⟩) l.length c2) rfl rfl (cell_own (rs _) pl)) ?_
          refine o_val rfl rfl rfl rfl (v_move rfl) ?_
          refine o_val rfl rfl rfl rfl (v_indexN (sz := 4) rfl rfl rfl rfl hil) ?_
          refine o_val rfl rfl rfl rfl (v_loadAgg (sz := 4) (cs := ei.cells) rfl rfl rfl rfl (fun j c hj => (hcl j c hj).mono (Fz.le_refl _) (by simp))) ?_
          refine o_act rfl rfl rfl rfl (a_buildS (sz := 4) (cs := ei.cells) [.tmp 52] rfl rfl rfl rfl rfl rfl rfl rfl rfl rfl) ?_
          rintro v' H' ⟨y, rfl, rfl⟩
          refine o_act rfl rfl rfl rfl (a_appendP (bf := bf) (n := i) (sz := 4) (bytes := 48) [.mem y ei.cells 4] ⟨⟨_, _, _, rfl, rfl, rfl, rfl, rfl, rfl⟩, by decide⟩ rfl hok (by rw [en_len, htl]) rfl rfl (sl_lit (e := ei) (List.mem_cons_self ..)) (by simpa [enV] using hei.one) (by unfold maxLen; omega) (by omega)) ?_
          rintro v' H' ⟨bf2, rfl, hok2, rfl⟩
          rw [← vec_append, ← htk hia]
          refine j_drop (List.sublist_cons_self _ _) ?_
          refine o_val rfl rfl rfl rfl (v_assign rfl) ?_
          refine o_end ?_
          refine r_inBlock ?_
          refine r_region rfl ?_
          refine o_val rfl rfl rfl rfl (v_move rfl) ?_
          refine o_val rfl rfl rfl rfl (v_add rfl rfl (wrap_i64 (by omega) (by omega))) ?_
          refine o_val rfl rfl rfl rfl (v_assign rfl) ?_
          refine o_end ?_
          refine j_keep ?_ (IH ⟨i + 1, bf2⟩ ⟨by dsimp only; omega, by dsimp only; rw [e2]; exact hok2⟩ (by dsimp only; omega))
          exact ⟨rfl, rfl, rfl, by dsimp only; rw [e2]; rfl, rfl, trivial⟩
        · have hia : at_ ≤ i := by omega
          have e1 : min i at_ = at_ := by omega
          have e2 : min (i + 1) at_ = at_ := by omega
          rw [e1] at hok ⊢
          rw [← htk' hia]
          refine r_skip ?_
          refine r_inBlock ?_
          refine r_region rfl ?_
          refine o_val rfl rfl rfl rfl (v_move rfl) ?_
          refine o_val rfl rfl rfl rfl (v_add rfl rfl (wrap_i64 (by omega) (by omega))) ?_
          refine o_val rfl rfl rfl rfl (v_assign rfl) ?_
          refine o_end ?_
          refine j_keep ?_ (IH ⟨i + 1, bf⟩ ⟨by dsimp only; omega, by dsimp only; rw [e2]; exact hok⟩ (by dsimp only; omega))
          exact ⟨rfl, rfl, rfl, by dsimp only; rw [e2]; rfl, rfl, trivial⟩
      · obtain rfl : i = l.length := by omega
        have e1 : min l.length at_ = at_ := by omega
        have e3 : (l.take at_).take l.length = l.take at_ := List.take_of_length_le (show (l.take at_).length ≤ l.length by omega)
        rw [e1] at hok ⊢
        rw [e3]
        clear IH
        refine r_exit rfl ?_
        refine r_seq ?_
        refine r_region rfl ?_
        refine o_val rfl rfl rfl rfl (v_move rfl) ?_
        refine o_val rfl rfl rfl rfl (v_loadAgg (sz := 4) (cs := ce) rfl rfl rfl (by rw [hce]; rfl) (fun j c hj => cell_own (rs' _) (by rw [Nat.zero_add]; exact hj))) ?_
        have hci : ce.length = 4 := by rw [hce]; rfl
        subst hce
        refine o_act rfl rfl rfl rfl (a_buildS (sz := 4) (cs := (En.cells ⟨eix, etm, ekd, edv, edata⟩)) [.tmp 56] rfl rfl rfl rfl rfl rfl rfl rfl rfl rfl) ?_
        rintro v' H' ⟨y, rfl, rfl⟩
        refine o_act rfl rfl rfl rfl (a_appendP (bf := bf) (n := at_) (sz := 4) (bytes := 48) [.mem y (En.cells ⟨eix, etm, ekd, edv, edata⟩) 4] ⟨⟨_, _, _, rfl, rfl, rfl, rfl, rfl, rfl⟩, by decide⟩ rfl hok (by rw [en_len, hlt]) rfl rfl (sl_lit (e := ⟨eix, etm, ekd, edv, edata⟩) (List.mem_cons_self ..)) (by simpa [enV] using heone) (by unfold maxLen; omega) (by omega)) ?_
        rintro v' H' ⟨bf2, rfl, hok2, rfl⟩
        rw [← vec_append]
        refine j_drop (List.sublist_cons_self _ _) ?_
        obtain ⟨l2, hl2⟩ : ∃ l2 : List En, l2 = l.take at_ ++ [⟨eix, etm, ekd, edv, edata⟩] := ⟨_, rfl⟩
        have hl2l : l2.length = at_ + 1 := by rw [hl2]; simp; omega
        rw [← hl2]
        refine j_freezeBf (n := at_ + 1) hok2 (by rw [en_len, hl2l]) fun F2 hF2 hs2 => ?_
        subst hcp
        refine o_val rfl rfl rfl rfl (v_field (k := 6) rfl rfl rfl) ?_
        refine o_act0 rfl rfl rfl (a_store1 2 rfl rfl rfl rfl rfl (Nat.le_of_ble_eq_true rfl)) ?_
        obtain ⟨q, hq⟩ : ∃ q : Im, q = ⟨term, vote, ix, tm, vt, dv, data, bf2.val (at_ + 1), l2⟩ := ⟨_, rfl⟩
        have hqok : q.ok F2 := by
          rw [hq]
          refine ⟨q1, q2, q3, q4, q5, q6, hpd.frz hF2, hpdl, ?_, ?_⟩
          · show Sl F2 [] 4 _ l2.length _
            rw [hl2l]
            exact hs2
          · intro r hr
            rw [hl2] at hr
            rcases List.mem_append.1 hr with hr | hr
            · exact (hpl r (List.mem_of_mem_take hr)).frz hF2
            · rw [List.mem_singleton] at hr
              rw [hr]
              exact he.frz hF2
        have hqp : q.pure = { Im.pure ⟨term, vote, ix, tm, vt, dv, data, .slice a2 l.length c2, l⟩ with l := (l.map En.pure).take at_ ++ [En.pure ⟨eix, etm, ekd, edv, edata⟩] } := by
          rw [hq, hl2]
          simp only [Im.pure, List.map_append, List.map_take, List.map_cons, List.map_nil]
        have hqc : Consec q.ix q.l := by
          rw [hq]
          dsimp only
          rw [hl2]
          exact Consec.more hc hatl (by dsimp only; omega)
        rw [← hqp] at hyes
        refine j_heap (H' := .mem x z0.cells 7 :: .mem s' (En.cells ⟨eix, etm, ekd, edv, edata⟩) 4 :: .mem s q.cells 7 :: Fr) (by rw [hq]; rfl) ?_
        have hqo := hqok.one
        refine o_end ?_
        refine r_seq ?_
        refine r_region rfl ?_
        refine o_val rfl rfl rfl rfl (v_loadAgg (sz := 7) (cs := q.cells) rfl rfl rfl rfl (cells_of (j := 2) _ _ rfl rfl)) ?_
        refine o_act0 rfl rfl rfl (a_store (sz := 7) 0 rfl rfl rfl (by simpa [Value.cells] using hqo) rfl rfl (by rw [hz0]; exact Nat.le_of_ble_eq_true rfl)) ?_
        refine j_heap (H' := .mem x q.cells 7 :: .mem s' (En.cells ⟨eix, etm, ekd, edv, edata⟩) 4 :: .mem s q.cells 7 :: Fr) (by rw [hz0]; rfl) ?_
        refine o_val rfl rfl rfl rfl (v_assign rfl) ?_
        refine o_end ?_
        exact r_retC1 Try.func30 rfl rfl rfl rfl rfl rfl (cells_of (j := 0) _ _ rfl rfl) (H' := Fr) ((List.sublist_cons_self _ _).trans ((List.sublist_cons_self _ _).trans (List.sublist_cons_self _ _))) ⟨⟨hF2, rfl, .inr ⟨q, hyes, hqok, hqc, by rw [hq], by rw [hq]; dsimp only; omega, rfl⟩⟩, hF2⟩
end Go.SX
