/-
  Chapter 09: the law LogsMakes.
-/
import Derived.Test.YthhcfpignfiabaaLogs9
namespace Go.SX
open Go Go.Proofs
set_option linter.unusedSimpArgs false
set_option linter.unusedVariables false

theorem En.cells_length (e : En) : e.cells.length = 4 := rfl
theorem enV_put : ∀ (l : List En) (k : Nat) (hk : k < l.length) (e : En), putAt (enV l) (k * 4) e.cells = enV (l.set k e)
  | x :: r, 0, _, e => by
    show (enV (x :: r)).take (0 * 4) ++ e.cells ++ (enV (x :: r)).drop (0 * 4 + 4) = e.cells ++ enV r
    rw [Nat.zero_mul, List.take_zero, Nat.zero_add, List.nil_append]
    congr 1
  | x :: r, k + 1, hk, e => by
    have ih := enV_put r k (by simpa using hk) e
    show (x.cells ++ enV r).take ((k + 1) * 4) ++ e.cells ++ (x.cells ++ enV r).drop ((k + 1) * 4 + 4) = x.cells ++ enV (r.set k e)
    have e1 : (k + 1) * 4 = x.cells.length + k * 4 := by rw [En.cells_length]; omega
    have e2 : (k + 1) * 4 + 4 = x.cells.length + (k * 4 + 4) := by rw [En.cells_length]; omega
    rw [e2, e1, List.take_append, List.drop_append]
    rw [List.take_of_length_le (by omega), List.drop_eq_nil_of_le (by omega), Nat.add_sub_cancel_left, Nat.add_sub_cancel_left, List.nil_append, ← ih]
    simp only [putAt, List.append_assoc, En.cells_length]
theorem putAt_one (cs : List Value) (off : Nat) (v : Value) (h : off < cs.length) : putAt cs off [v] = cs.set off v := by
  rw [List.set_eq_take_append_cons_drop, if_pos h]
  simp [putAt]
theorem enV_set (l : List En) (k j : Nat) (hk : k < l.length) (hj : j < 4) (e : En) (v : Value) (he : e.cells = l[k].cells.set j v) : (enV l).set (k * 4 + j) v = enV (l.set k e) := by
  rw [← enV_put l k hk e, he]
  have hlen : (enV l).length = l.length * 4 := enV_length l
  apply List.ext_getElem?
  intro i
  have hkl : k * 4 + 4 ≤ (enV l).length := by rw [hlen]; omega
  rw [List.getElem?_set]
  simp only [putAt, List.length_set, En.cells_length]
  by_cases h1 : i < k * 4
  · rw [if_neg (by omega), List.append_assoc, List.getElem?_append_left (by simp; omega), List.getElem?_take, if_pos h1]
  · by_cases h2 : i < k * 4 + 4
    · rw [List.getElem?_append_left (by simp [En.cells_length]; omega), List.getElem?_append_right (by simp; omega), List.getElem?_set]
      have h3 : ((enV l).take (k * 4)).length = k * 4 := by simp; omega
      rw [h3]
      by_cases h4 : k * 4 + j = i
      · rw [if_pos h4, if_pos (by omega), if_pos (by omega), if_pos (by rw [En.cells_length]; omega)]
      · rw [if_neg h4, if_neg (by omega), ← enV_get l k hk (i - k * 4) (by omega)]
        congr 1
        omega
    · rw [if_neg (by omega), List.getElem?_append_right (by simp [En.cells_length]; omega), List.getElem?_drop]
      congr 1
      simp [En.cells_length]
      omega
theorem lgLast_take (ix tm : Nat) (l : List En) (i : Nat) (hi : i ≤ l.length) : lgLastTerm ix tm (l.take i) = if h : i = 0 then tm else l[i - 1].tm := by
  split
  · rename_i h
    subst h
    rw [List.take_zero, lgLastTerm_nil]
  · have hl : (l.take i).length = i := by simp; omega
    rw [lgLastTerm_pos _ _ _ (by omega), List.getElem_take]
    simp only [hl]
/-- One entry's term is another one. -/
theorem lgNew_set {ix tm : Nat} {l : List En} (h : lgNew ix tm l) (k : Nat) (hk : k < l.length) (e : En) (he : e.ix = ix + k + 1) :
    lgNew ix tm (l.set k e) ↔ (if h : k = 0 then tm else l[k - 1].tm) ≤ e.tm ∧ (k = l.length - 1 ∨ ∃ h : k + 1 < l.length, e.tm ≤ l[k + 1].tm) := by
  have hset : ∀ (i : Nat) (hi : i < (l.set k e).length), (l.set k e)[i] = if k = i then e else l[i]'(by simpa using hi) := fun i hi => List.getElem_set ..
  constructor
  · intro hn
    constructor
    · have := (hn k (by simpa using hk)).2
      rw [lgLast_take _ _ _ _ (by simp; omega), hset, if_pos rfl] at this
      split at this
      · rename_i h0; rw [dif_pos h0]; exact this
      · rename_i h0
        rw [dif_neg h0]
        rw [hset, if_neg (by omega)] at this
        exact this
    · by_cases hl : k = l.length - 1
      · exact .inl hl
      · refine .inr ⟨by omega, ?_⟩
        have := (hn (k + 1) (by simp; omega)).2
        rw [lgLast_take _ _ _ _ (by simp; omega), dif_neg (by omega), hset, hset] at this
        rw [if_pos (by omega), if_neg (by omega)] at this
        exact this
  · rintro ⟨h1, h2⟩ i hi
    have hi' : i < l.length := by simpa using hi
    have hh := h i hi'
    rw [lgLast_take _ _ _ _ (by omega)] at hh
    rw [lgLast_take _ _ _ _ (by simp; omega), hset]
    by_cases hki : k = i
    · subst hki
      rw [if_pos rfl]
      refine ⟨he, ?_⟩
      split
      · rename_i h0; rw [dif_pos h0] at h1; exact h1
      · rename_i h0
        rw [dif_neg h0] at h1
        rw [hset, if_neg (by omega)]
        exact h1
    · rw [if_neg hki]
      refine ⟨hh.1, ?_⟩
      split
      · rename_i h0; have := hh.2; rw [dif_pos h0] at this; exact this
      · rename_i h0
        have h3 := hh.2
        rw [dif_neg h0] at h3
        rw [hset]
        split
        · rename_i h4
          rcases h2 with h2 | ⟨h2, h5⟩
          · omega
          · have : l[k + 1] = l[i] := by congr 1; omega
            rw [← this]
            exact h5
        · exact h3

set_option maxHeartbeats 1000000 in
theorem law_LogsMakes (O : World) (F : Fz) (n : Nat) (v u : Value) (terms kinds : List UInt8) (off term : Nat) (hn : n < 256) (hoff : off < 256) (hterm : term < 256) (hv : SlB F [] v terms) (hu : SlB F [] u kinds) :
    Does Try.prog O 5 #[.int .u8 n, v, u, .int .u8 off, .int .u8 term] F [] (fun r _ _ => r = .bool true) := by
  obtain ⟨a0, cap, rfl, hcap⟩ := Sl.shape hv
  obtain ⟨a1, cap1, rfl, hcap1⟩ := Sl.shape hu
  refine does_of_run (args := [_, _, _, _, _]) Try.func5 rfl rfl ?_
  refine r_seq ?_
  refine r_region rfl ?_
  refine o_val rfl rfl rfl rfl (v_assign rfl) ?_
  refine o_end ?_
  refine r_seq ?_
  refine r_seq ?_
  refine r_region rfl ?_
  refine o_call rfl rfl rfl rfl (c_call callable10 rfl) (law_awake _ _ _) ?_
  rintro v' F1 H' ⟨rfl, rfl⟩ hF1
  refine o_val rfl rfl rfl rfl (v_not rfl) ?_
  refine o_end ?_
  refine r_false rfl ?_
  refine r_skip ?_
  refine r_seq ?_
  refine r_region rfl ?_
  refine o_val rfl rfl rfl rfl (v_move rfl) ?_
  refine o_call rfl rfl rfl rfl (c_call callable11 rfl) (law_snap _ _ n _ hn) ?_
  rintro v' F1 H' ⟨rfl, rfl, rfl⟩ _
  refine o_act rfl rfl rfl rfl (a_alloc rfl) ?_
  rintro v' H' ⟨s, rfl, rfl⟩
  refine o_act0 rfl rfl rfl (a_store (sz := 4) 0 rfl rfl rfl rfl rfl rfl (Nat.le_of_ble_eq_true rfl)) ?_
  obtain ⟨ix, hix⟩ : ∃ ix, ix = n % 7 := ⟨_, rfl⟩
  obtain ⟨tm, htm⟩ : ∃ tm, tm = n % 2 := ⟨_, rfl⟩
  obtain ⟨S, hS⟩ : ∃ S, S = Ent.mem s [.int .u64 ix, .int .u64 tm, .int .u64 n, .slice none 0 0] 4 := ⟨_, rfl⟩
  have hcs : ∀ F H j c, S ∈ H → [Value.int .u64 ix, .int .u64 tm, .int .u64 n, .slice none 0 0][j]? = some c → Cell F H s (0 + j) c := fun F H j c hm hc => by
    rw [hS] at hm
    rw [Nat.zero_add]
    exact cell_own hm hc
  refine j_heap (H' := [S]) (by rw [hS, hix, htm]; rfl) ?_
  refine o_end ?_
  refine r_seq ?_
  refine r_region rfl ?_
  refine o_val rfl rfl rfl rfl (v_field (k := 0) rfl rfl rfl) ?_
  refine o_val rfl rfl rfl rfl (v_load (v := .int .u64 ix) rfl rfl (hcs _ _ 0 _ (by simp) rfl)) ?_
  refine o_val rfl rfl rfl rfl (v_move rfl) ?_
  refine o_val rfl rfl rfl rfl (v_move rfl) ?_
  refine o_call rfl rfl rfl rfl (c_call callable12 rfl) (law_entries _ _ ix _ _ terms kinds _ (hv.frz hF1) (hu.frz hF1) (by omega)) ?_
  rintro v' F2 H' ⟨hF2, es, bfe, hes, hens, hoke, rfl, rfl⟩ _
  have hesl : es.length ≤ 30 := by omega
  refine o_val rfl rfl rfl rfl (v_assign rfl) ?_
  refine o_end ?_
  refine r_seq ?_
  refine r_region rfl ?_
  refine o_val rfl rfl rfl rfl (v_loadAgg (sz := 4) (cs := [.int .u64 ix, .int .u64 tm, .int .u64 n, .slice none 0 0]) rfl rfl rfl rfl (fun j c hc => hcs _ _ j c (by simp) hc)) ?_
  refine o_val rfl rfl rfl rfl (v_move rfl) ?_
  refine o_call rfl rfl rfl rfl (c_call callable13 rfl) (lg_New _ _ ix tm n (.slice none 0 0) _ es _ (Bf.reads (bf := bfe) (sz := 4) (n := es.length) hoke (by rw [enV_length]) (by intro q hq; exact List.mem_append_left _ hq)) hens.ok (by omega) (by omega)) ?_
  rintro v' F2 H' ⟨rfl, hnew⟩ _
  have hnw : lgNew ix tm es := hens.new (by omega)
  rcases hnew with ⟨_, a, bf, hok, rfl, rfl⟩ | ⟨hbad, _⟩
  · refine j_heap (H' := LgE a ix tm n bf es.length :: (bf.ents 4 (enV es) ++ (bfe.ents 4 (enV es) ++ [S]))) rfl ?_
    refine j_sel (H' := bfe.ents 4 (enV es) ++ (LgE a ix tm n bf es.length :: (bf.ents 4 (enV es) ++ ([S])))) [[LgE a ix tm n bf es.length], bf.ents 4 (enV es), bfe.ents 4 (enV es), [S]] [2, 0, 1, 3] rfl rfl rfl ?_
    refine j_freezeBf hoke (by rw [enV_length]) fun F3 hF3 hs3 => ?_
    refine o_val rfl rfl rfl rfl (v_move rfl) ?_
    refine o_val rfl rfl rfl rfl (v_extract rfl rfl) ?_
    refine o_val rfl rfl rfl rfl (v_extract rfl rfl) ?_
    refine o_val rfl rfl rfl rfl (v_assign rfl) ?_
    refine o_val rfl rfl rfl rfl (v_assign rfl) ?_
    refine o_end ?_
    refine r_seq ?_
    refine r_seq ?_
    refine r_region rfl ?_
    refine o_val rfl rfl rfl rfl (v_move rfl) ?_
    refine o_val rfl rfl rfl rfl (v_neq rfl rfl) ?_
    refine o_val rfl rfl rfl rfl (v_move rfl) ?_
    refine o_val rfl rfl rfl rfl (v_move rfl) ?_
    refine o_val rfl rfl rfl rfl (v_loadAgg (sz := 4) (cs := [.int .u64 ix, .int .u64 tm, .int .u64 n, .slice none 0 0]) rfl rfl rfl rfl (fun j c hc => hcs _ _ j c (by simp [LgH]) hc)) ?_
    refine o_val rfl rfl rfl rfl (v_move rfl) ?_
    refine o_call rfl rfl rfl rfl (c_call callable21 rfl) (law_told _ _ a ix tm n bf es es (.slice none 0 0) _ [S] hok (fun e he => (hens.ok e he).frz hF3) (fun e he => (hens.ok e he).frz hF3) (Alike.refl _) (by omega) (by omega) hens.data hs3 rfl) ?_
    rintro v' F4 H' ⟨rfl, rfl⟩ hF4
    refine o_val rfl rfl rfl rfl (v_not rfl) ?_
    refine o_val rfl rfl rfl rfl (v_pick0 rfl rfl) ?_
    refine o_end ?_
    refine r_false rfl ?_
    refine j_heap (H' := LgE a ix tm n bf es.length :: (bf.ents 4 (enV es) ++ [S])) rfl ?_
    refine j_sel (H' := [S]) [[LgE a ix tm n bf es.length], bf.ents 4 (enV es), [S]] [2] rfl rfl rfl ?_
    have hs4 := hs3.frz (H := [S]) hF4
    have heok : ∀ e ∈ es, e.ok F4 := fun e he => (hens.ok e he).frz (Fz.le_trans hF3 hF4)
    refine r_skip ?_
    refine r_seq ?_
    refine r_seq ?_
    refine r_region rfl ?_
    refine o_val rfl rfl rfl rfl (v_move rfl) ?_
    refine o_val rfl rfl rfl rfl (v_len rfl rfl) ?_
    refine o_val rfl rfl rfl rfl (v_eql rfl rfl) ?_
    refine o_end ?_
    refine r_if rfl (fun h0 => ?_) (fun h0 => ?_)
    · refine r_seq ?_
      refine r_region rfl ?_
      refine o_val rfl rfl rfl rfl (v_assign rfl) ?_
      refine o_end ?_
      exact r_ret1 Try.func5 rfl rfl ⟨rfl, Fz.le_trans hF1 (Fz.le_trans hF2 (Fz.le_trans hF3 hF4))⟩
    · have hpos : 0 < es.length := by omega
      have hmod : (off : Int).tmod (es.length : Int) = ((off % es.length : Nat) : Int) := rfl
      have hkl : off % es.length < es.length := Nat.mod_lt _ hpos
      obtain ⟨k, hk⟩ : ∃ k, k = off % es.length := ⟨_, rfl⟩
      rw [← hk] at hmod hkl
      have hm3 : (off : Int).tmod 3 = ((off % 3 : Nat) : Int) := rfl
      have hm4 : (term : Int).tmod 4 = ((term % 4 : Nat) : Int) := rfl
      have hone : (enV es).all oneCellB = true := by
        rw [List.all_eq_true]
        intro c hc
        obtain ⟨e, he, hce⟩ := List.mem_flatMap.1 hc
        exact List.all_eq_true.1 (heok e he).one c hce
      refine r_skip ?_
      refine r_seq ?_
      refine r_region rfl ?_
      refine o_val rfl rfl rfl rfl (v_move rfl) ?_
      refine o_val rfl rfl rfl rfl (v_conv rfl rfl rfl (wrap_i64 (by omega) (by omega))) ?_
      refine o_val rfl rfl rfl rfl (v_move rfl) ?_
      refine o_val rfl rfl rfl rfl (v_len rfl rfl) ?_
      refine o_val rfl rfl rfl rfl (v_rem rfl rfl (by omega) hmod) ?_
      refine o_val rfl rfl rfl rfl (v_assign rfl) ?_
      refine o_end ?_
      refine r_seq ?_
      refine r_region rfl ?_
      refine o_val rfl rfl rfl rfl (v_move rfl) ?_
      refine o_act rfl rfl rfl rfl (a_append (bf := .nil) (n := 0) (sz := 4) (bytes := 48) (xs := []) ⟨⟨_, _, _, rfl, rfl, rfl, rfl, rfl, rfl⟩, by decide⟩ rfl rfl rfl rfl rfl hs4 hone (by unfold maxLen; omega) (by omega)) ?_
      rintro v' H' ⟨bf2, rfl, hok2, rfl⟩
      rw [Nat.zero_add] at hok2 ⊢
      rw [List.nil_append]
      cases bf2 with
      | nil =>
        have : es.length = 0 := hok2
        omega
      | «at» b c =>
        have hek := hens.is k hkl
        have hokk := heok es[k] (List.getElem_mem _)
        have hr : ∀ (l : List En), l.length = es.length → ∀ H, Ent.mem b (enV l) (c * 4) ∈ H → ∀ (i : Nat) (hi : i < l.length) (j : Nat) (v : Value), l[i].cells[j]? = some v → Cell F4 H b (0 + i * 4 + j) v := fun l hl H hH i hi j v hj => by
          have hj4 : j < 4 := by
            rcases Nat.lt_or_ge j 4 with h | h
            · exact h
            · rw [List.getElem?_eq_none (by rw [En.cells_length]; exact h)] at hj; cases hj
          rw [Nat.zero_add]
          exact cell_own hH (by rw [enV_get l i hi j hj4]; exact hj)
        have hsl : ∀ (l : List En), l.length = es.length → ∀ (H : List Ent), H = [Ent.mem b (enV l) (c * 4), S] → Sl F4 H 4 (.slice (some ⟨b, 0, none⟩) es.length c) l.length (enV l) := fun l hl H hH => by
          subst hH
          rw [← hl]
          exact Bf.reads (bf := .at b c) (n := l.length) (by rw [hl]; exact hok2) (by rw [enV_length]) (by intro q hq; exact List.mem_append_left [S] hq)
        refine j_heap (H' := [Ent.mem b (enV es) (c * 4), S]) rfl ?_
        obtain ⟨e1, he1⟩ : ∃ e1 : En, e1 = { es[k] with ix := es[k].ix + (off % 3 + 1) } := ⟨_, rfl⟩
        obtain ⟨e3, he3⟩ : ∃ e3 : En, e3 = { es[k] with tm := term % 4 } := ⟨_, rfl⟩
        refine o_val rfl rfl rfl rfl (v_assign rfl) ?_
        refine o_end ?_
        refine r_seq ?_
        refine r_region rfl ?_
        refine o_val rfl rfl rfl rfl (v_move rfl) ?_
        refine o_val rfl rfl rfl rfl (v_move rfl) ?_
        refine o_val rfl rfl rfl rfl (v_indexN (sz := 4) rfl rfl rfl rfl hkl) ?_
        refine o_val rfl rfl rfl rfl (v_field (k := 0) rfl rfl rfl) ?_
        refine o_val rfl rfl rfl rfl (v_load (v := .int .u64 es[k].ix) rfl rfl (hr es rfl _ (by simp) k hkl 0 _ rfl)) ?_
        refine o_val rfl rfl rfl rfl (v_move rfl) ?_
        refine o_val rfl rfl rfl rfl (v_rem rfl rfl (by decide) hm3) ?_
        refine o_val rfl rfl rfl rfl (v_conv rfl rfl rfl (wrap_u64 (by omega) (by omega))) ?_
        refine o_val rfl rfl rfl rfl (v_add rfl rfl (r := ((off % 3 + 1 : Nat) : Int)) (wrap_u64 (by omega) (by omega))) ?_
        refine o_val rfl rfl rfl rfl (v_add rfl rfl (r := ((es[k].ix + (off % 3 + 1) : Nat) : Int)) (wrap_u64 (by omega) (by omega))) ?_
        refine o_val rfl rfl rfl rfl (v_indexN (sz := 4) rfl rfl rfl rfl hkl) ?_
        refine o_val rfl rfl rfl rfl (v_field (k := 0) rfl rfl rfl) ?_
        refine o_act0 rfl rfl rfl (a_store1 0 rfl rfl rfl rfl rfl (by rw [enV_length]; omega)) ?_
        have hs1 : (enV es).set (0 + k * 4) (.int .u64 (es[k].ix + (off % 3 + 1) : Nat)) = enV (es.set k e1) := by
          rw [Nat.zero_add]
          exact enV_set es k 0 hkl (by decide) e1 _ (by rw [he1]; rfl)
        refine j_heap (H' := [Ent.mem b (enV (es.set k e1)) (c * 4), S]) (by rw [← hs1]; rfl) ?_
        have hnot : ¬ lgNew ix tm (es.set k e1) := fun hh => by
          have := (hh k (by simpa using hkl)).1
          rw [List.getElem_set, if_pos rfl, he1] at this
          dsimp only at this
          omega
        have hok1 : ∀ e ∈ es.set k e1, e.ok F4 := fun e he => by
          rcases List.mem_or_eq_of_mem_set he with he | rfl
          · exact heok e he
          · rw [he1]; exact ⟨by dsimp only; omega, hokk.tm, hokk.kd, hokk.dv⟩
        refine o_end ?_
        refine r_seq ?_
        refine r_region rfl ?_
        refine o_val rfl rfl rfl rfl (v_loadAgg (sz := 4) (cs := [.int .u64 ix, .int .u64 tm, .int .u64 n, .slice none 0 0]) rfl rfl rfl rfl (fun j c hc => hcs _ _ j c (by simp) hc)) ?_
        refine o_val rfl rfl rfl rfl (v_move rfl) ?_
        refine o_call rfl rfl rfl rfl (c_call callable13 rfl) (lg_New _ _ ix tm n (.slice none 0 0) _ (es.set k e1) _ (hsl (es.set k e1) (by simp) _ rfl) hok1 (by simp; omega) (by simp; omega)) ?_
        rintro v' F4 H' ⟨rfl, hnew⟩ _
        rcases hnew with ⟨hh, _⟩ | ⟨_, rfl, rfl⟩
        · exact absurd hh hnot
        · obtain ⟨b0, off0, c0, hab, hc0⟩ := sl_cells (hs3.frz (H := []) hF4) hkl
          rw [hab]
          refine o_val rfl rfl rfl rfl (v_move rfl) ?_
          refine o_val rfl rfl rfl rfl (v_extract rfl rfl) ?_
          refine o_val rfl rfl rfl rfl (v_extract rfl rfl) ?_
          refine o_val rfl rfl rfl rfl (v_assign rfl) ?_
          refine o_val rfl rfl rfl rfl (v_assign rfl) ?_
          refine o_end ?_
          refine r_seq ?_
          refine r_region rfl ?_
          refine o_val rfl rfl rfl rfl (v_move rfl) ?_
          refine o_val rfl rfl rfl rfl (v_move rfl) ?_
          refine o_val rfl rfl rfl rfl (v_move rfl) ?_
          refine o_val rfl rfl rfl rfl (v_move rfl) ?_
          refine o_val rfl rfl rfl rfl (v_indexN (sz := 4) rfl rfl rfl rfl hkl) ?_
          refine o_val rfl rfl rfl rfl (v_loadAgg (sz := 4) (cs := es[k].cells) rfl rfl rfl rfl (fun j c hc => (hc0 j c hc).mono (Fz.le_refl _) (by simp))) ?_
          refine o_val rfl rfl rfl rfl (v_indexN (sz := 4) rfl rfl rfl rfl hkl) ?_
          refine o_act0 rfl rfl rfl (a_store (sz := 4) 0 rfl rfl rfl (by simpa [Value.cells] using hokk.one) rfl rfl (by rw [enV_length]; simp [Value.cells, En.cells_length]; omega)) ?_
          have hs2 : putAt (enV (es.set k e1)) (0 + k * 4) es[k].cells = enV es := by
            rw [Nat.zero_add, enV_put _ _ (by simpa using hkl), List.set_set, List.set_getElem_self]
          refine j_heap (H' := [Ent.mem b (enV es) (c * 4), S]) (by rw [← hs2]; rfl) ?_
          have hs5 : (enV es).set (0 + k * 4 + 1) (.int .u64 (term % 4 : Nat)) = enV (es.set k e3) := by
            rw [Nat.zero_add]
            exact enV_set es k 1 hkl (by decide) e3 _ (by rw [he3]; rfl)
          refine o_end ?_
          refine r_seq ?_
          refine r_region rfl ?_
          refine o_val rfl rfl rfl rfl (v_move rfl) ?_
          refine o_val rfl rfl rfl rfl (v_move rfl) ?_
          refine o_val rfl rfl rfl rfl (v_move rfl) ?_
          refine o_val rfl rfl rfl rfl (v_conv rfl rfl rfl (wrap_u64 (by omega) (by omega))) ?_
          refine o_val rfl rfl rfl rfl (v_rem rfl rfl (by decide) hm4) ?_
          refine o_val rfl rfl rfl rfl (v_indexN (sz := 4) rfl rfl rfl rfl hkl) ?_
          refine o_val rfl rfl rfl rfl (v_field (k := 1) rfl rfl rfl) ?_
          refine o_act0 rfl rfl rfl (a_store1 0 rfl rfl rfl rfl rfl (by rw [enV_length]; omega)) ?_
          refine j_heap (H' := [Ent.mem b (enV (es.set k e3)) (c * 4), S]) (by rw [← hs5]; rfl) ?_
          have hl3 : (es.set k e3).length = es.length := by simp
          have hset : ∀ (i : Nat) (hi : i < (es.set k e3).length), (es.set k e3)[i] = if k = i then e3 else es[i]'(by simpa using hi) := fun i hi => List.getElem_set ..
          have hiff := lgNew_set hnw k hkl e3 (by rw [he3]; exact hek.1)
          have ht3 : e3.tm = term % 4 := by rw [he3]
          have hok3 : ∀ e ∈ es.set k e3, e.ok F4 := fun e he => by
            rcases List.mem_or_eq_of_mem_set he with he | rfl
            · exact heok e he
            · rw [he3]; exact ⟨hokk.ix, by dsimp only; omega, hokk.kd, hokk.dv⟩
          refine o_end ?_
          refine r_seq ?_
          refine r_region rfl ?_
          refine o_val rfl rfl rfl rfl (v_field (k := 1) rfl rfl rfl) ?_
          refine o_val rfl rfl rfl rfl (v_load (v := .int .u64 tm) rfl rfl (hcs _ _ 1 _ (by simp) rfl)) ?_
          refine o_val rfl rfl rfl rfl (v_assign rfl) ?_
          refine o_end ?_
          refine r_seq ?_
          refine r_join (fun _ : Unit => True) (fun _ => [(11, ptrV s), (12, .slice (some ⟨b0, off0, none⟩) es.length c0), (15, .int .i64 k), (16, .slice (some ⟨b, 0, none⟩) es.length c), (18, .int .i64 1), (19, .int .u64 (if h : k = 0 then tm else es[k - 1].tm : Nat))]) (fun _ => F4) (fun _ => [Ent.mem b (enV (es.set k e3)) (c * 4), S]) ?_ ?_
          · intro J
            refine r_seq ?_
            refine r_region rfl ?_
            refine o_val rfl rfl rfl rfl (v_move rfl) ?_
            refine o_val rfl rfl rfl rfl (v_gtr rfl rfl) ?_
            refine o_end ?_
            refine r_if rfl (fun h1 => ?_) (fun h1 => ?_)
            · have hkm : k - 1 < (es.set k e3).length := by omega
              have hkv : (es.set k e3)[k - 1].tm = es[k - 1].tm := by rw [hset, if_neg (by omega)]
              refine r_region rfl ?_
              refine o_val rfl rfl rfl rfl (v_move rfl) ?_
              refine o_val rfl rfl rfl rfl (v_move rfl) ?_
              refine o_val rfl rfl rfl rfl (v_sub rfl rfl (r := ((k - 1 : Nat) : Int)) ((wrap_i64 (by omega) (by omega)).trans (by omega))) ?_
              refine o_val rfl rfl rfl rfl (v_indexN (sz := 4) rfl rfl rfl rfl (by omega)) ?_
              refine o_val rfl rfl rfl rfl (v_field (k := 1) rfl rfl rfl) ?_
              refine o_val rfl rfl rfl rfl (v_load (v := .int .u64 (es.set k e3)[k - 1].tm) rfl rfl (hr (es.set k e3) hl3 _ (by simp) (k - 1) hkm 1 _ rfl)) ?_
              refine o_val rfl rfl rfl rfl (v_assign rfl) ?_
              refine o_end ?_
              rw [dif_neg (by omega), ← hkv] at J
              refine j_keep ?_ (J () trivial)
              exact ⟨rfl, rfl, rfl, rfl, rfl, rfl, trivial⟩
            · rw [dif_pos (by omega)] at J
              refine r_skip ?_
              refine j_keep ?_ (J () trivial)
              exact ⟨rfl, rfl, rfl, rfl, rfl, rfl, trivial⟩
          · rintro _ _
            have hks : k < (es.set k e3).length := by omega
            have hkt : (es.set k e3)[k].tm = term % 4 := by rw [hset, if_pos rfl, ht3]
            obtain ⟨rb, hrb⟩ : ∃ rb : Bool, rb = true ↔ lgNew ix tm (es.set k e3) := ⟨@decide _ (Classical.propDecidable _), @decide_eq_true_iff _ (Classical.propDecidable _)⟩
            rw [hiff] at hrb
            generalize hah : (if h : k = 0 then tm else es[k - 1].tm : Nat) = ah at *
            refine r_seq ?_
            refine r_join (fun _ : Unit => True) (fun _ => [(11, ptrV s), (12, .slice (some ⟨b0, off0, none⟩) es.length c0), (15, .int .i64 k), (16, .slice (some ⟨b, 0, none⟩) es.length c), (18, .int .i64 1), (20, .bool rb)]) (fun _ => F4) (fun _ => [Ent.mem b (enV (es.set k e3)) (c * 4), S]) ?_ ?_
            · intro J
              refine d_region 1000000 rfl ([Ent.mem b (enV (es.set k e3)) (c * 4)]) ?_
              refine d_take (i := 0) rfl rfl rfl (by decide +kernel) (by decide +kernel) (by decide +kernel) (Fz.le_refl _) (by simp) rfl (v_move rfl) ?_
              refine d_take (i := 1) rfl rfl rfl (by decide +kernel) (by decide +kernel) (by decide +kernel) (Fz.le_refl _) (by simp) rfl (v_move rfl) ?_
              refine d_take (i := 2) rfl rfl rfl (by decide +kernel) (by decide +kernel) (by decide +kernel) (Fz.le_refl _) (by simp) rfl (v_indexN (sz := 4) rfl rfl rfl rfl (by omega)) ?_
              refine d_take (i := 3) rfl rfl rfl (by decide +kernel) (by decide +kernel) (by decide +kernel) (Fz.le_refl _) (by simp) rfl (v_field (k := 1) rfl rfl rfl) ?_
              refine d_take (i := 4) rfl rfl rfl (by decide +kernel) (by decide +kernel) (by decide +kernel) (Fz.le_refl _) (by simp) rfl (v_load (v := .int .u64 (es.set k e3)[k].tm) rfl rfl (hr (es.set k e3) hl3 _ (by simp) k hks 1 _ rfl)) ?_
              refine d_take (i := 5) rfl rfl rfl (by decide +kernel) (by decide +kernel) (by decide +kernel) (Fz.le_refl _) (by simp) rfl (v_move rfl) ?_
              refine d_take (i := 6) rfl rfl rfl (by decide +kernel) (by decide +kernel) (by decide +kernel) (Fz.le_refl _) (by simp) rfl (v_geq rfl rfl) ?_
              refine j_prop 105 rfl (fun h1 => ?_) (fun h1 => ?_)
              · refine d_take (i := 7) rfl rfl rfl (by decide +kernel) (by decide +kernel) (by decide +kernel) (Fz.le_refl _) (by simp) rfl (v_move rfl) ?_
                refine d_take (i := 8) rfl rfl rfl (by decide +kernel) (by decide +kernel) (by decide +kernel) (Fz.le_refl _) (by simp) rfl (v_move rfl) ?_
                refine d_take (i := 9) rfl rfl rfl (by decide +kernel) (by decide +kernel) (by decide +kernel) (Fz.le_refl _) (by simp) rfl (v_move rfl) ?_
                refine d_take (i := 10) rfl rfl rfl (by decide +kernel) (by decide +kernel) (by decide +kernel) (Fz.le_refl _) (by simp) rfl (v_len rfl rfl) ?_
                refine d_take (i := 11) rfl rfl rfl (by decide +kernel) (by decide +kernel) (by decide +kernel) (Fz.le_refl _) (by simp) rfl (v_sub rfl rfl (r := ((es.length - 1 : Nat) : Int)) ((wrap_i64 (by omega) (by omega)).trans (by omega))) ?_
                refine d_take (i := 12) rfl rfl rfl (by decide +kernel) (by decide +kernel) (by decide +kernel) (Fz.le_refl _) (by simp) rfl (v_eql rfl rfl) ?_
                refine j_prop 111 rfl (fun h2 => ?_) (fun h2 => ?_)
                · refine d_take (i := 13) rfl rfl rfl (by decide +kernel) (by decide +kernel) (by decide +kernel) (Fz.le_refl _) (by simp) rfl (v_move rfl) ?_
                  refine d_skip (i := 14) rfl rfl rfl (by decide +kernel) (by decide +kernel) (by decide +kernel) (Fz.le_refl _) (by simp) rfl ?_
                  refine d_skip (i := 15) rfl rfl rfl (by decide +kernel) (by decide +kernel) (by decide +kernel) (Fz.le_refl _) (by simp) rfl ?_
                  refine d_skip (i := 16) rfl rfl rfl (by decide +kernel) (by decide +kernel) (by decide +kernel) (Fz.le_refl _) (by simp) rfl ?_
                  refine d_skip (i := 17) rfl rfl rfl (by decide +kernel) (by decide +kernel) (by decide +kernel) (Fz.le_refl _) (by simp) rfl ?_
                  refine d_skip (i := 18) rfl rfl rfl (by decide +kernel) (by decide +kernel) (by decide +kernel) (Fz.le_refl _) (by simp) rfl ?_
                  refine d_skip (i := 19) rfl rfl rfl (by decide +kernel) (by decide +kernel) (by decide +kernel) (Fz.le_refl _) (by simp) rfl ?_
                  refine d_skip (i := 20) rfl rfl rfl (by decide +kernel) (by decide +kernel) (by decide +kernel) (Fz.le_refl _) (by simp) rfl ?_
                  refine d_skip (i := 21) rfl rfl rfl (by decide +kernel) (by decide +kernel) (by decide +kernel) (Fz.le_refl _) (by simp) rfl ?_
                  refine d_skip (i := 22) rfl rfl rfl (by decide +kernel) (by decide +kernel) (by decide +kernel) (Fz.le_refl _) (by simp) rfl ?_
                  refine d_skip (i := 23) rfl rfl rfl (by decide +kernel) (by decide +kernel) (by decide +kernel) (Fz.le_refl _) (by simp) rfl ?_
                  refine d_skip (i := 24) rfl rfl rfl (by decide +kernel) (by decide +kernel) (by decide +kernel) (Fz.le_refl _) (by simp) rfl ?_
                  refine d_skip (i := 25) rfl rfl rfl (by decide +kernel) (by decide +kernel) (by decide +kernel) (Fz.le_refl _) (by simp) rfl ?_
                  refine d_take (i := 26) rfl rfl rfl (by decide +kernel) (by decide +kernel) (by decide +kernel) (Fz.le_refl _) (by simp) rfl (v_pick1 rfl rfl) ?_
                  refine d_take (i := 27) rfl rfl rfl (by decide +kernel) (by decide +kernel) (by decide +kernel) (Fz.le_refl _) (by simp) rfl (v_pick1 rfl rfl) ?_
                  refine j_slot 126 rfl (v' := .bool rb) (by rw [hrb.2 ⟨by omega, .inl (by omega)⟩]) ?_
                  refine d_take (i := 28) rfl rfl rfl (by decide +kernel) (by decide +kernel) (by decide +kernel) (Fz.le_refl _) (by simp) rfl (v_assign rfl) ?_
                  refine d_end (by decide +kernel) ?_
                  refine j_keep ?_ (J () trivial)
                  exact ⟨rfl, rfl, rfl, rfl, rfl, rfl, trivial⟩
                · have hkp : k + 1 < (es.set k e3).length := by omega
                  have hkv : (es.set k e3)[k + 1].tm = es[k + 1].tm := by rw [hset, if_neg (by omega)]
                  refine d_take (i := 13) rfl rfl rfl (by decide +kernel) (by decide +kernel) (by decide +kernel) (Fz.le_refl _) (by simp) rfl (v_move rfl) ?_
                  refine d_take (i := 14) rfl rfl rfl (by decide +kernel) (by decide +kernel) (by decide +kernel) (Fz.le_refl _) (by simp) rfl (v_move rfl) ?_
                  refine d_take (i := 15) rfl rfl rfl (by decide +kernel) (by decide +kernel) (by decide +kernel) (Fz.le_refl _) (by simp) rfl (v_move rfl) ?_
                  refine d_take (i := 16) rfl rfl rfl (by decide +kernel) (by decide +kernel) (by decide +kernel) (Fz.le_refl _) (by simp) rfl (v_add rfl rfl (r := ((k + 1 : Nat) : Int)) ((wrap_i64 (by omega) (by omega)).trans (by omega))) ?_
                  refine d_take (i := 17) rfl rfl rfl (by decide +kernel) (by decide +kernel) (by decide +kernel) (Fz.le_refl _) (by simp) rfl (v_indexN (sz := 4) rfl rfl rfl rfl (by omega)) ?_
                  refine d_take (i := 18) rfl rfl rfl (by decide +kernel) (by decide +kernel) (by decide +kernel) (Fz.le_refl _) (by simp) rfl (v_field (k := 1) rfl rfl rfl) ?_
                  refine d_take (i := 19) rfl rfl rfl (by decide +kernel) (by decide +kernel) (by decide +kernel) (Fz.le_refl _) (by simp) rfl (v_load (v := .int .u64 (es.set k e3)[k + 1].tm) rfl rfl (hr (es.set k e3) hl3 _ (by simp) (k + 1) hkp 1 _ rfl)) ?_
                  refine d_take (i := 20) rfl rfl rfl (by decide +kernel) (by decide +kernel) (by decide +kernel) (Fz.le_refl _) (by simp) rfl (v_move rfl) ?_
                  refine d_take (i := 21) rfl rfl rfl (by decide +kernel) (by decide +kernel) (by decide +kernel) (Fz.le_refl _) (by simp) rfl (v_move rfl) ?_
                  refine d_take (i := 22) rfl rfl rfl (by decide +kernel) (by decide +kernel) (by decide +kernel) (Fz.le_refl _) (by simp) rfl (v_indexN (sz := 4) rfl rfl rfl rfl (by omega)) ?_
                  refine d_take (i := 23) rfl rfl rfl (by decide +kernel) (by decide +kernel) (by decide +kernel) (Fz.le_refl _) (by simp) rfl (v_field (k := 1) rfl rfl rfl) ?_
                  refine d_take (i := 24) rfl rfl rfl (by decide +kernel) (by decide +kernel) (by decide +kernel) (Fz.le_refl _) (by simp) rfl (v_load (v := .int .u64 (es.set k e3)[k].tm) rfl rfl (hr (es.set k e3) hl3 _ (by simp) k hks 1 _ rfl)) ?_
                  refine d_take (i := 25) rfl rfl rfl (by decide +kernel) (by decide +kernel) (by decide +kernel) (Fz.le_refl _) (by simp) rfl (v_geq rfl rfl) ?_
                  refine d_take (i := 26) rfl rfl rfl (by decide +kernel) (by decide +kernel) (by decide +kernel) (Fz.le_refl _) (by simp) rfl (v_pick0 rfl rfl) ?_
                  refine d_take (i := 27) rfl rfl rfl (by decide +kernel) (by decide +kernel) (by decide +kernel) (Fz.le_refl _) (by simp) rfl (v_pick1 rfl rfl) ?_
                  refine j_slot 126 rfl (v' := .bool rb) ?_ ?_
                  · congr 1
                    rw [Bool.eq_iff_iff, hrb, decide_eq_true_iff, hkt, hkv]
                    constructor
                    · intro h; exact ⟨by omega, .inr ⟨by omega, by omega⟩⟩
                    · rintro ⟨_, h | ⟨_, h⟩⟩ <;> omega
                  refine d_take (i := 28) rfl rfl rfl (by decide +kernel) (by decide +kernel) (by decide +kernel) (Fz.le_refl _) (by simp) rfl (v_assign rfl) ?_
                  refine d_end (by decide +kernel) ?_
                  refine j_keep ?_ (J () trivial)
                  exact ⟨rfl, rfl, rfl, rfl, rfl, rfl, trivial⟩
              · refine d_take (i := 7) rfl rfl rfl (by decide +kernel) (by decide +kernel) (by decide +kernel) (Fz.le_refl _) (by simp) rfl (v_move rfl) ?_
                refine d_skip (i := 8) rfl rfl rfl (by decide +kernel) (by decide +kernel) (by decide +kernel) (Fz.le_refl _) (by simp) rfl ?_
                refine d_skip (i := 9) rfl rfl rfl (by decide +kernel) (by decide +kernel) (by decide +kernel) (Fz.le_refl _) (by simp) rfl ?_
                refine d_skip (i := 10) rfl rfl rfl (by decide +kernel) (by decide +kernel) (by decide +kernel) (Fz.le_refl _) (by simp) rfl ?_
                refine d_skip (i := 11) rfl rfl rfl (by decide +kernel) (by decide +kernel) (by decide +kernel) (Fz.le_refl _) (by simp) rfl ?_
                refine d_skip (i := 12) rfl rfl rfl (by decide +kernel) (by decide +kernel) (by decide +kernel) (Fz.le_refl _) (by simp) rfl ?_
                refine d_skip (i := 13) rfl rfl rfl (by decide +kernel) (by decide +kernel) (by decide +kernel) (Fz.le_refl _) (by simp) rfl ?_
                refine d_skip (i := 14) rfl rfl rfl (by decide +kernel) (by decide +kernel) (by decide +kernel) (Fz.le_refl _) (by simp) rfl ?_
                refine d_skip (i := 15) rfl rfl rfl (by decide +kernel) (by decide +kernel) (by decide +kernel) (Fz.le_refl _) (by simp) rfl ?_
                refine d_skip (i := 16) rfl rfl rfl (by decide +kernel) (by decide +kernel) (by decide +kernel) (Fz.le_refl _) (by simp) rfl ?_
                refine d_skip (i := 17) rfl rfl rfl (by decide +kernel) (by decide +kernel) (by decide +kernel) (Fz.le_refl _) (by simp) rfl ?_
                refine d_skip (i := 18) rfl rfl rfl (by decide +kernel) (by decide +kernel) (by decide +kernel) (Fz.le_refl _) (by simp) rfl ?_
                refine d_skip (i := 19) rfl rfl rfl (by decide +kernel) (by decide +kernel) (by decide +kernel) (Fz.le_refl _) (by simp) rfl ?_
                refine d_skip (i := 20) rfl rfl rfl (by decide +kernel) (by decide +kernel) (by decide +kernel) (Fz.le_refl _) (by simp) rfl ?_
                refine d_skip (i := 21) rfl rfl rfl (by decide +kernel) (by decide +kernel) (by decide +kernel) (Fz.le_refl _) (by simp) rfl ?_
                refine d_skip (i := 22) rfl rfl rfl (by decide +kernel) (by decide +kernel) (by decide +kernel) (Fz.le_refl _) (by simp) rfl ?_
                refine d_skip (i := 23) rfl rfl rfl (by decide +kernel) (by decide +kernel) (by decide +kernel) (Fz.le_refl _) (by simp) rfl ?_
                refine d_skip (i := 24) rfl rfl rfl (by decide +kernel) (by decide +kernel) (by decide +kernel) (Fz.le_refl _) (by simp) rfl ?_
                refine d_skip (i := 25) rfl rfl rfl (by decide +kernel) (by decide +kernel) (by decide +kernel) (Fz.le_refl _) (by simp) rfl ?_
                refine d_skip (i := 26) rfl rfl rfl (by decide +kernel) (by decide +kernel) (by decide +kernel) (Fz.le_refl _) (by simp) rfl ?_
                refine d_take (i := 27) rfl rfl rfl (by decide +kernel) (by decide +kernel) (by decide +kernel) (Fz.le_refl _) (by simp) rfl (v_pick0 rfl rfl) ?_
                refine j_slot 126 rfl (v' := .bool rb) ?_ ?_
                · congr 1
                  cases hrb' : rb with
                  | false => rfl
                  | true =>
                    have := (hrb.1 hrb').1
                    omega
                refine d_take (i := 28) rfl rfl rfl (by decide +kernel) (by decide +kernel) (by decide +kernel) (Fz.le_refl _) (by simp) rfl (v_assign rfl) ?_
                refine d_end (by decide +kernel) ?_
                refine j_keep ?_ (J () trivial)
                exact ⟨rfl, rfl, rfl, rfl, rfl, rfl, trivial⟩
            · rintro _ _
              rw [← hiff] at hrb
              refine r_seq ?_
              refine r_region rfl ?_
              refine o_val rfl rfl rfl rfl (v_loadAgg (sz := 4) (cs := [.int .u64 ix, .int .u64 tm, .int .u64 n, .slice none 0 0]) rfl rfl rfl rfl (fun j c hc => hcs _ _ j c (by simp) hc)) ?_
              refine o_val rfl rfl rfl rfl (v_move rfl) ?_
              refine o_call rfl rfl rfl rfl (c_call callable13 rfl) (lg_New _ _ ix tm n (.slice none 0 0) _ (es.set k e3) _ (hsl (es.set k e3) (by simp) _ rfl) hok3 (by simp; omega) (by simp; omega)) ?_
              rintro v' F4 H' ⟨rfl, hnew⟩ _
              have hFF := Fz.le_trans hF1 (Fz.le_trans hF2 (Fz.le_trans hF3 hF4))
              rcases hnew with ⟨hh, a2, bf2, _, rfl, rfl⟩ | ⟨hh, rfl, rfl⟩
              · skip
                refine o_val rfl rfl rfl rfl (v_move rfl) ?_
                refine o_val rfl rfl rfl rfl (v_extract rfl rfl) ?_
                refine o_val rfl rfl rfl rfl (v_extract rfl rfl) ?_
                refine o_val rfl rfl rfl rfl (v_assign rfl) ?_
                refine o_val rfl rfl rfl rfl (v_assign rfl) ?_
                refine o_end ?_
                refine r_seq ?_
                refine r_region rfl ?_
                refine o_val rfl rfl rfl rfl (v_move rfl) ?_
                refine o_val rfl rfl rfl rfl (v_eql rfl rfl) ?_
                refine o_val rfl rfl rfl rfl (v_move rfl) ?_
                refine o_val rfl rfl rfl rfl (v_move rfl) ?_
                refine o_val rfl rfl rfl rfl (v_eql rfl rfl) ?_
                refine o_val rfl rfl rfl rfl (v_move rfl) ?_
                refine o_val rfl rfl rfl rfl (v_beql rfl rfl rfl) ?_
                refine o_val rfl rfl rfl rfl (v_pick1 rfl rfl) ?_
                refine o_val rfl rfl rfl rfl (v_assign rfl) ?_
                refine o_end ?_
                exact r_ret1 Try.func5 rfl rfl ⟨by rw [hrb.2 hh]; rfl, hFF⟩
              · skip
                refine o_val rfl rfl rfl rfl (v_move rfl) ?_
                refine o_val rfl rfl rfl rfl (v_extract rfl rfl) ?_
                refine o_val rfl rfl rfl rfl (v_extract rfl rfl) ?_
                refine o_val rfl rfl rfl rfl (v_assign rfl) ?_
                refine o_val rfl rfl rfl rfl (v_assign rfl) ?_
                refine o_end ?_
                refine r_seq ?_
                refine r_region rfl ?_
                refine o_val rfl rfl rfl rfl (v_move rfl) ?_
                refine o_val rfl rfl rfl rfl (v_eql rfl rfl) ?_
                refine o_val rfl rfl rfl rfl (v_move rfl) ?_
                refine o_val rfl rfl rfl rfl (v_move rfl) ?_
                refine o_val rfl rfl rfl rfl (v_eql rfl rfl) ?_
                refine o_val rfl rfl rfl rfl (v_move rfl) ?_
                refine o_val rfl rfl rfl rfl (v_beql rfl rfl rfl) ?_
                refine o_val rfl rfl rfl rfl (v_pick1 rfl rfl) ?_
                refine o_val rfl rfl rfl rfl (v_assign rfl) ?_
                refine o_end ?_
                exact r_ret1 Try.func5 rfl rfl ⟨by
                  have : rb = false := by
                    cases h : rb with
                    | false => rfl
                    | true => exact absurd (hrb.1 h) hh
                  rw [this]
                  rfl, hFF⟩
  · exact absurd hnw hbad
theorem in_LogsMakes (W : World) (n : Int) (hn : (Lit.int .u8 n).wf = true) (v : Value) (z0 : List Int) (h0 : InInts .u8 W v z0) (y0 : z0.length * 1 ≤ 140737488351232) (u : Value) (z1 : List Int) (h1 : InInts .u8 W u z1) (y1 : z1.length * 1 ≤ 140737488351232)
    (i : Int) (hi : (Lit.int .u8 i).wf = true) (t : Int) (ht : (Lit.int .u8 t).wf = true) :
    Calls Try.prog 5 #[.int .u8 n, v, u, .int .u8 i, .int .u8 t] W fun e w' => e = .returned (.bool true) ∧ Go.RowKit.Below W.heap.size W w' := by
  obtain ⟨l0, hl0, hv⟩ := inBytes h0
  obtain ⟨l1, hl1, hu⟩ := inBytes h1
  obtain ⟨n, rfl, hn'⟩ := inU8 hn
  obtain ⟨i, rfl, hi'⟩ := inU8 hi
  obtain ⟨t, rfl, ht'⟩ := inU8 ht
  exact below_of_does (law_LogsMakes _ _ n _ _ l0 l1 i t hn' hi' ht' hv hu)
end Go.SX
