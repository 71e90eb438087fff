/-
  Chapter 09: what its laws make: a snapshot, entries; the law LogsFits.
-/
import Derived.Test.YthhcfpignfiabaaLogs4
namespace Go.SX
open Go Go.Proofs
set_option linter.unusedSimpArgs false
set_option linter.unusedVariables false

abbrev snapV (n : Nat) : Value := .agg #[.int .u64 (n % 7 : Nat), .int .u64 (n % 2 : Nat), .int .u64 n, .slice none 0 0]
theorem law_snap (O : World) (F : Fz) (n : Nat) (Fr : List Ent) (hn : n < 256) : Does Try.prog O 11 #[.int .u8 n] F Fr (fun r F' H' => r = snapV n ∧ F' = F ∧ H' = Fr) := by
  refine does_of_run (args := [_]) Try.func11 rfl rfl ?_
  have h7 : (n : Int).tmod 7 = ((n % 7 : Nat) : Int) := rfl
  have h2 : (n : Int).tmod 2 = ((n % 2 : Nat) : Int) := rfl
  refine r_seq ?_
  refine r_region rfl ?_
  refine o_act rfl rfl rfl rfl (a_alloc rfl) ?_
  rintro v' H' ⟨x, rfl, rfl⟩
  refine o_end ?_
  refine r_seq ?_
  refine r_region rfl ?_
  refine o_val rfl rfl rfl rfl (v_move rfl) ?_
  refine o_val rfl rfl rfl rfl (v_rem rfl rfl (by decide) h7) ?_
  refine o_val rfl rfl rfl rfl (v_conv rfl rfl rfl (wrap_u64 (by omega) (by omega))) ?_
  refine o_val rfl rfl rfl rfl (v_move rfl) ?_
  refine o_val rfl rfl rfl rfl (v_rem rfl rfl (by decide) h2) ?_
  refine o_val rfl rfl rfl rfl (v_conv rfl rfl rfl (wrap_u64 (by omega) (by omega))) ?_
  refine o_val rfl rfl rfl rfl (v_move rfl) ?_
  refine o_val rfl rfl rfl rfl (v_conv rfl rfl rfl (wrap_u64 (by omega) (by omega))) ?_
  refine o_val rfl rfl rfl rfl (v_build rfl rfl) ?_
  refine o_act0 rfl rfl rfl (a_store (sz := 4) 0 rfl rfl rfl rfl rfl rfl (Nat.le_of_ble_eq_true rfl)) ?_
  refine o_end ?_
  exact r_retC (sz := 4) (cs := [.int .u64 (n % 7 : Nat), .int .u64 (n % 2 : Nat), .int .u64 n, .slice none 0 0]) Try.func11 rfl rfl rfl rfl rfl (fun j c hc => cell_at (j := 0) rfl (by rw [Nat.zero_add]; exact hc)) (List.sublist_cons_self _ _) ⟨⟨rfl, rfl, rfl⟩, Fz.le_refl _⟩

def tmAt (terms : List UInt8) (i : Nat) : Nat := 1 + ((terms.take i).map fun b => b.toNat % 3 / 2).sum
def kdAt (kinds : List UInt8) (i : Nat) : Nat :=
  match kinds[i]? with
  | some b => if b.toNat % 5 = 0 then 1 else 0
  | none => 0
structure EnsOk (F : Fz) (at0 : Nat) (terms kinds : List UInt8) (es : List En) : Prop where
  ok : ∀ e ∈ es, e.ok F
  is : ∀ (i : Nat) (h : i < es.length), es[i].ix = at0 + i + 1 ∧ es[i].tm = tmAt terms (i + 1) ∧ es[i].kd = kdAt kinds i ∧ ∃ h : i < terms.length, es[i].data = [terms[i]]
theorem tmAt_le (terms : List UInt8) (i : Nat) : tmAt terms i ≤ 1 + i := by
  unfold tmAt
  induction i generalizing terms with
  | zero => simp
  | succ i ih =>
    cases terms with
    | nil => simp
    | cons b r =>
      have := ih r
      simp only [List.take_succ_cons, List.map_cons, List.sum_cons]
      have : b.toNat % 3 / 2 ≤ 1 := by omega
      omega
theorem tmAt_succ (terms : List UInt8) (i : Nat) (h : i < terms.length) : tmAt terms (i + 1) = tmAt terms i + terms[i].toNat % 3 / 2 := by
  unfold tmAt
  rw [List.take_succ_eq_append_getElem h]
  simp only [List.map_append, List.sum_append, List.map_cons, List.map_nil, List.sum_cons, List.sum_nil, Nat.add_zero, Nat.add_assoc]
structure NG where
  i : Nat
  bf : Bf
  es : List En
  F : Fz
theorem law_entries (O : World) (F : Fz) (at0 : Nat) (v u : Value) (terms kinds : List UInt8) (Fr : List Ent) (hv : SlB F [] v terms) (hu : SlB F [] u kinds) (ha : at0 < 1000) :
    Does Try.prog O 12 #[.int .u64 at0, v, u] F Fr
      (fun r F' H' => F.le F' ∧ ∃ (es : List En) (bf : Bf), es.length = min terms.length 30 ∧ EnsOk F' at0 terms kinds es ∧ bf.ok es.length ∧ r = bf.val es.length ∧ H' = bf.ents 4 (enV es) ++ Fr) := by
  obtain ⟨a0, cap, rfl, hcap⟩ := Sl.shape hv
  obtain ⟨a1, cap1, rfl, hcap1⟩ := Sl.shape hu
  refine does_of_run (args := [_, _, _]) Try.func12 rfl rfl ?_
  refine r_seq ?_
  refine r_region rfl ?_
  refine o_val rfl rfl rfl rfl (v_assign rfl) ?_
  refine o_end ?_
  refine r_seq ?_
  refine r_region rfl ?_
  refine o_val rfl rfl rfl rfl (v_assign rfl) ?_
  refine o_end ?_
  refine r_seq ?_
  refine r_region rfl ?_
  refine o_val rfl rfl rfl rfl (v_assign rfl) ?_
  refine o_end ?_
  refine r_seq ?_
  refine r_join (fun g : NG => F.le g.F ∧ g.bf.ok g.es.length ∧ g.es.length = min terms.length 30 ∧ EnsOk g.F at0 terms kinds g.es) (fun g => [(7, g.bf.val g.es.length)]) (fun g => g.F) (fun g => g.bf.ents 4 (enV g.es) ++ Fr) ?_ ?_
  · intro J
    refine r_seq ?_
    refine r_region rfl ?_
    refine o_val rfl rfl rfl rfl (v_assign rfl) ?_
    refine o_end ?_
    refine r_block ?_
    refine r_loop (fun g : NG => F.le g.F ∧ g.bf.ok g.i ∧ g.es.length = g.i ∧ g.i ≤ min terms.length 30 ∧ EnsOk g.F at0 terms kinds g.es) (fun g => [(0, .int .u64 at0), (1, .slice a0 terms.length cap), (2, .slice a1 kinds.length cap1), (7, g.bf.val g.i), (8, .int .u64 (tmAt terms g.i)), (9, .int .i64 g.i)]) (fun g => g.F) (fun g => g.bf.ents 4 (enV g.es) ++ Fr) (fun g => min terms.length 30 - g.i)
      ⟨0, .nil, [], F⟩ ⟨Fz.le_refl _, rfl, rfl, Nat.zero_le _, ⟨by simp, fun i h => by cases h⟩⟩ ⟨rfl, rfl, rfl, rfl, rfl, rfl, trivial⟩ rfl rfl ?_
    rintro ⟨i, bf, es, F1⟩ ⟨hF1, hok, hes, hi, hens⟩ IH
    dsimp only at hF1 hok hes hi hens ⊢
    refine r_seq ?_
    refine r_seq ?_
    refine r_region rfl ?_
    refine o_val rfl rfl rfl rfl (v_move rfl) ?_
    refine o_val rfl rfl rfl rfl (v_move rfl) ?_
    refine o_val rfl rfl rfl rfl (v_len rfl rfl) ?_
    refine o_val rfl rfl rfl rfl (v_lss rfl rfl) ?_
    refine o_val rfl rfl rfl rfl (v_move rfl) ?_
    refine j_prop 15 rfl (fun h => ?_) (fun h => ?_)
    · refine o_val rfl rfl rfl rfl (v_move rfl) ?_
      refine o_val rfl rfl rfl rfl (v_lss rfl rfl) ?_
      refine o_val rfl rfl rfl rfl (v_pick1 rfl rfl) ?_
      refine o_end ?_
      refine r_if rfl (fun h2 => ?_) (fun h2 => ?_)
      · have hil : i < terms.length := by omega
        obtain ⟨b0, off0, c0, hab, _, hcell⟩ := Sl.view (hv.frz (H := []) hF1) (by omega)
        simp only [Value.slice.injEq] at hab
        obtain ⟨rfl, _, rfl⟩ := hab
        have hask : Cell F1 [] b0 (off0 + i) (byteV terms[i]) := hcell i (byteV terms[i]) (by rw [bytesV_get, List.getElem?_eq_getElem hil]; rfl)
        have hts := tmAt_succ terms i hil
        have htl := tmAt_le terms i
        have hb := terms[i].toNat_lt
        have h3 : (terms[i].toNat : Int).tmod 3 = ((terms[i].toNat % 3 : Nat) : Int) := rfl
        have h4 : IntKind.u8.wrap (((terms[i].toNat % 3 : Nat) : Int).tdiv 2) = ((terms[i].toNat % 3 / 2 : Nat) : Int) := by
          have : ((terms[i].toNat % 3 : Nat) : Int).tdiv 2 = ((terms[i].toNat % 3 / 2 : Nat) : Int) := rfl
          rw [this]
          exact wrap_u8 (by omega) (by omega)
        refine r_skip ?_
        refine r_seq ?_
        refine r_block ?_
        refine r_seq ?_
        refine r_region rfl ?_
        refine o_val rfl rfl rfl rfl (v_move rfl) ?_
        refine o_val rfl rfl rfl rfl (v_move rfl) ?_
        refine o_val rfl rfl rfl rfl (v_move rfl) ?_
        refine o_val rfl rfl rfl rfl (v_index1 rfl rfl rfl rfl hil) ?_
        refine o_val rfl rfl rfl rfl (v_load rfl rfl (hask.mono (Fz.le_refl _) (by simp))) ?_
        refine o_val rfl rfl rfl rfl (v_rem rfl rfl (by decide) h3) ?_
        refine o_val rfl rfl rfl rfl (v_quo rfl rfl (by decide) h4) ?_
        refine o_val rfl rfl rfl rfl (v_conv rfl rfl rfl (wrap_u64 (by omega) (by omega))) ?_
        refine o_val rfl rfl rfl rfl (v_add rfl rfl (r := ((tmAt terms (i + 1) : Nat) : Int)) ((wrap_u64 (by omega) (by omega)).trans (by omega))) ?_
        refine o_val rfl rfl rfl rfl (v_assign rfl) ?_
        refine o_end ?_
        refine r_seq ?_
        refine r_region rfl ?_
        refine o_val rfl rfl rfl rfl (v_move rfl) ?_
        refine o_val rfl rfl rfl rfl (v_move rfl) ?_
        refine o_val rfl rfl rfl rfl (v_conv rfl rfl rfl (wrap_u64 (by omega) (by omega))) ?_
        refine o_val rfl rfl rfl rfl (v_add rfl rfl (r := ((at0 + i : Nat) : Int)) (wrap_u64 (by omega) (by omega))) ?_
        refine o_val rfl rfl rfl rfl (v_add rfl rfl (r := ((at0 + i + 1 : Nat) : Int)) (wrap_u64 (by omega) (by omega))) ?_
        refine o_val rfl rfl rfl rfl (v_move rfl) ?_
        refine o_val rfl rfl rfl rfl (v_move rfl) ?_
        refine o_val rfl rfl rfl rfl (v_move rfl) ?_
        refine o_val rfl rfl rfl rfl (v_index1 rfl rfl rfl rfl hil) ?_
        refine o_val rfl rfl rfl rfl (v_load rfl rfl (hask.mono (Fz.le_refl _) (by simp))) ?_
        refine o_act rfl rfl rfl rfl (a_buildS (sz := 1) (cs := [byteV terms[i]]) [.tmp 39] rfl rfl rfl rfl rfl rfl rfl rfl rfl rfl) ?_
        rintro v' H' ⟨d, rfl, rfl⟩
        refine j_freezeBf (bf := .at d 1) (sz := 1) (n := 1) (cs := bytesV [terms[i]]) (Nat.le_refl _) rfl fun F2 hF2 hs2 => ?_
        have hdv : SlB F2 [] (.slice (some ⟨d, 0, none⟩) 1 1) [terms[i]] := hs2
        refine o_val rfl rfl rfl rfl (v_build rfl rfl) ?_
        refine o_act rfl rfl rfl rfl (a_alloc rfl) ?_
        rintro v' H' ⟨x, rfl, rfl⟩
        refine o_act0 rfl rfl rfl (a_store (sz := 4) 0 rfl rfl rfl rfl rfl rfl (Nat.le_of_ble_eq_true rfl)) ?_
        refine j_heap (H' := .mem x [.int .u64 (at0 + i + 1 : Nat), .int .u64 (tmAt terms (i + 1)), .int .u8 (0 : Nat), .slice (some ⟨d, 0, none⟩) 1 1] 4 :: (bf.ents 4 (enV es) ++ Fr)) rfl ?_
        refine o_end ?_
        refine r_seq ?_
        refine r_join (fun _ : Unit => True) (fun _ => [(0, .int .u64 at0), (1, .slice (some ⟨b0, off0, none⟩) terms.length cap), (2, .slice a1 kinds.length cap1), (7, bf.val i), (8, .int .u64 (tmAt terms (i + 1))), (9, .int .i64 i), (10, ptrV x)]) (fun _ => F2) (fun _ => .mem x [.int .u64 (at0 + i + 1 : Nat), .int .u64 (tmAt terms (i + 1)), .int .u8 (kdAt kinds i), .slice (some ⟨d, 0, none⟩) 1 1] 4 :: (bf.ents 4 (enV es) ++ Fr)) ?_ ?_
        · intro J2
          refine r_seq ?_
          refine r_region rfl ?_
          refine o_val rfl rfl rfl rfl (v_move rfl) ?_
          refine o_val rfl rfl rfl rfl (v_move rfl) ?_
          refine o_val rfl rfl rfl rfl (v_len rfl rfl) ?_
          refine o_val rfl rfl rfl rfl (v_lss rfl rfl) ?_
          refine o_val rfl rfl rfl rfl (v_move rfl) ?_
          refine j_prop 46 rfl (fun h5 => ?_) (fun h5 => ?_)
          · have hik : i < kinds.length := by omega
            obtain ⟨b1, off1, c1, hab, _, hcell1⟩ := Sl.view (hu.frz (H := []) (Fz.le_trans hF1 hF2)) (by omega)
            simp only [Value.slice.injEq] at hab
            obtain ⟨rfl, _, rfl⟩ := hab
            have hk1 : Cell F2 [] b1 (off1 + i) (byteV kinds[i]) := hcell1 i (byteV kinds[i]) (by rw [bytesV_get, List.getElem?_eq_getElem hik]; rfl)
            have hkd : kdAt kinds i = if kinds[i].toNat % 5 = 0 then 1 else 0 := by unfold kdAt; rw [List.getElem?_eq_getElem hik]
            have h6 : (kinds[i].toNat : Int).tmod 5 = ((kinds[i].toNat % 5 : Nat) : Int) := rfl
            refine o_val rfl rfl rfl rfl (v_move rfl) ?_
            refine o_val rfl rfl rfl rfl (v_move rfl) ?_
            refine o_val rfl rfl rfl rfl (v_index1 rfl rfl rfl rfl hik) ?_
            refine o_val rfl rfl rfl rfl (v_load rfl rfl (hk1.mono (Fz.le_refl _) (by simp))) ?_
            refine o_val rfl rfl rfl rfl (v_rem rfl rfl (by decide) h6) ?_
            refine o_val rfl rfl rfl rfl (v_eql rfl rfl) ?_
            refine o_val rfl rfl rfl rfl (v_pick1 rfl rfl) ?_
            refine o_end ?_
            refine r_if rfl (fun h7 => ?_) (fun h7 => ?_)
            · rw [if_pos (by omega)] at hkd
              refine r_region rfl ?_
              refine o_val rfl rfl rfl rfl (v_field (k := 2) rfl rfl rfl) ?_
              refine o_act0 rfl rfl rfl (a_store1 0 rfl rfl rfl rfl rfl (Nat.le_of_ble_eq_true rfl)) ?_
              refine o_end ?_
              rw [hkd] at J2
              refine j_keep ?_ (J2 () trivial)
              exact ⟨rfl, rfl, rfl, rfl, rfl, rfl, rfl, trivial⟩
            · rw [if_neg (by omega)] at hkd
              rw [hkd] at J2
              refine r_skip ?_
              refine j_keep ?_ (J2 () trivial)
              exact ⟨rfl, rfl, rfl, rfl, rfl, rfl, rfl, trivial⟩
          · have hkd : kdAt kinds i = 0 := by unfold kdAt; rw [List.getElem?_eq_none (by omega)]
            rw [hkd] at J2
            refine o_skip rfl rfl rfl rfl ?_
            refine o_skip rfl rfl rfl rfl ?_
            refine o_skip rfl rfl rfl rfl ?_
            refine o_skip rfl rfl rfl rfl ?_
            refine o_skip rfl rfl rfl rfl ?_
            refine o_skip rfl rfl rfl rfl ?_
            refine o_val rfl rfl rfl rfl (v_pick0 rfl rfl) ?_
            refine o_end ?_
            refine r_false rfl ?_
            refine r_skip ?_
            refine j_keep ?_ (J2 () trivial)
            exact ⟨rfl, rfl, rfl, rfl, rfl, rfl, rfl, trivial⟩
        · rintro _ _
          obtain ⟨e, he⟩ : ∃ e : En, e = ⟨at0 + i + 1, tmAt terms (i + 1), kdAt kinds i, .slice (some ⟨d, 0, none⟩) 1 1, [terms[i]]⟩ := ⟨_, rfl⟩
          have hk256 : kdAt kinds i < 256 := by
            unfold kdAt
            split
            · split <;> omega
            · omega
          have heok : e.ok F2 := by rw [he]; exact ⟨by dsimp only; omega, by have := tmAt_le terms (i + 1); dsimp only; omega, hk256, hdv⟩
          refine j_heap (H' := .mem x e.cells 4 :: (bf.ents 4 (enV es) ++ Fr)) (by rw [he]; rfl) ?_
          refine r_region rfl ?_
          refine o_val rfl rfl rfl rfl (v_move rfl) ?_
          refine o_val rfl rfl rfl rfl (v_loadAgg (sz := 4) (cs := e.cells) rfl rfl rfl rfl (fun j c hc => cell_at (j := 0) rfl (by simpa using hc))) ?_
          refine o_act rfl rfl rfl rfl (a_buildS (sz := 4) (cs := e.cells) [.tmp 56] rfl rfl rfl rfl rfl rfl rfl rfl rfl rfl) ?_
          rintro v' H' ⟨y, rfl, rfl⟩
          refine o_act rfl rfl rfl rfl (a_appendP (bf := bf) (n := i) (sz := 4) (bytes := 48) [.mem y e.cells 4, .mem x e.cells 4] ⟨⟨_, _, _, rfl, rfl, rfl, rfl, rfl, rfl⟩, by decide⟩ rfl hok (by rw [enV_length, hes]) rfl rfl (sl_lit (e := e) (List.mem_cons_self ..)) (by simpa [enV] using heok.one) (by unfold maxLen; omega) (by omega)) ?_
          rintro v' H' ⟨bf2, rfl, hok2, rfl⟩
          refine j_drop (List.sublist_append_right _ _) ?_
          rw [← enV_append]
          refine o_val rfl rfl rfl rfl (v_assign rfl) ?_
          refine o_end ?_
          refine r_inBlock ?_
          refine r_region rfl ?_
          refine o_val rfl rfl rfl rfl (v_move rfl) ?_
          refine o_val rfl rfl rfl rfl (v_add rfl rfl (wrap_i64 (by omega) (by omega))) ?_
          refine o_val rfl rfl rfl rfl (v_assign rfl) ?_
          refine o_end ?_
          refine j_keep ?_ (IH ⟨i + 1, bf2, es ++ [e], F2⟩ ⟨Fz.le_trans hF1 hF2, hok2, by simp [hes], by dsimp only; omega, ⟨fun q hq => ?_, fun j hj => ?_⟩⟩ (by dsimp only; omega))
          · exact ⟨rfl, rfl, rfl, rfl, rfl, rfl, trivial⟩
          · rcases List.mem_append.1 hq with h8 | h8
            · exact (hens.ok q h8).frz hF2
            · rw [List.mem_singleton.1 h8]; exact heok
          · dsimp only at hj ⊢
            rcases Nat.lt_or_ge j es.length with h8 | h8
            · rw [List.getElem_append_left h8]
              exact hens.is j h8
            · obtain rfl : j = i := by simp at hj; omega
              rw [List.getElem_append_right h8]
              simp only [hes, Nat.sub_self, List.getElem_cons_zero]
              rw [he]
              exact ⟨rfl, rfl, rfl, hil, rfl⟩
      · have hie : i = min terms.length 30 := by omega
        subst hes
        refine r_exit rfl ?_
        refine j_keep ?_ (J ⟨0, bf, es, F1⟩ ⟨hF1, hok, hie, hens⟩)
        exact ⟨rfl, trivial⟩
    · have hie : i = min terms.length 30 := by omega
      subst hes
      refine o_skip rfl rfl rfl rfl ?_
      refine o_skip rfl rfl rfl rfl ?_
      refine o_val rfl rfl rfl rfl (v_pick0 rfl rfl) ?_
      refine o_end ?_
      refine r_false rfl ?_
      refine r_exit rfl ?_
      refine j_keep ?_ (J ⟨0, bf, es, F1⟩ ⟨hF1, hok, hie, hens⟩)
      exact ⟨rfl, trivial⟩
  · rintro ⟨i0, bf, es, F1⟩ ⟨hF1, hok, hes, hens⟩
    dsimp only at hF1 hok hes hens ⊢
    refine r_seq ?_
    refine r_region rfl ?_
    refine o_val rfl rfl rfl rfl (v_move rfl) ?_
    refine o_val rfl rfl rfl rfl (v_assign rfl) ?_
    refine o_end ?_
    exact r_ret1 Try.func12 rfl rfl ⟨⟨hF1, es, bf, hes, hens, hok, rfl, rfl⟩, hF1⟩


def fitB (ix tm : Nat) (l : List En) (i t : Nat) : Bool := (lgTerm ix tm l i).2 && decide ((lgTerm ix tm l i).1 = t)
def newerB (ix tm : Nat) (l : List En) (i t : Nat) : Bool := decide (lgLastTerm ix tm l < t) || (decide (t = lgLastTerm ix tm l) && decide (ix + l.length ≤ i))
theorem lg_Fit (O : World) (F : Fz) (a ix tm vt : Nat) (bf : Bf) (l : List En) (i t : Nat) (Fr : List Ent) (hb : ix + l.length < 18446744073709551616) (hok : bf.ok l.length) (hi : i < 18446744073709551616) :
    Does Try.prog O 15 #[ptrV a, .int .u64 i, .int .u64 t] F (LgH a ix tm vt bf l Fr) (fun r F' H' => r = .bool (fitB ix tm l i t) ∧ F' = F ∧ H' = LgH a ix tm vt bf l Fr) := by
  refine does_of_run (args := [_, _, _]) Try.func15 rfl rfl ?_
  refine r_seq ?_
  refine r_region rfl ?_
  refine o_val rfl rfl rfl rfl (v_assign rfl) ?_
  refine o_end ?_
  refine r_seq ?_
  refine r_region rfl ?_
  refine o_val rfl rfl rfl rfl (v_move rfl) ?_
  refine o_val rfl rfl rfl rfl (v_move rfl) ?_
  refine o_call rfl rfl rfl rfl (c_call callable26 rfl) (lg_Term _ _ a ix tm vt bf l i _ hb hok hi) ?_
  rintro v' F' H' ⟨rfl, rfl, rfl⟩ _
  unfold fitB
  generalize lgTerm ix tm l i = q
  obtain ⟨q1, q2⟩ := q
  dsimp only
  cases q2 with
  | true =>
    refine o_val rfl rfl rfl rfl (v_move rfl) ?_
    refine o_val rfl rfl rfl rfl (v_extract rfl rfl) ?_
    refine o_val rfl rfl rfl rfl (v_extract rfl rfl) ?_
    refine o_val rfl rfl rfl rfl (v_assign rfl) ?_
    refine o_val rfl rfl rfl rfl (v_assign rfl) ?_
    refine o_end ?_
    refine r_seq ?_
    refine r_region rfl ?_
    refine o_val rfl rfl rfl rfl (v_move rfl) ?_
    refine o_val rfl rfl rfl rfl (v_move rfl) ?_
    refine o_val rfl rfl rfl rfl (v_move rfl) ?_
    refine o_val rfl rfl rfl rfl (v_move rfl) ?_
    refine o_val rfl rfl rfl rfl (v_eql rfl rfl) ?_
    refine o_val rfl rfl rfl rfl (v_pick1 rfl rfl) ?_
    refine o_val rfl rfl rfl rfl (v_assign rfl) ?_
    refine o_end ?_
    refine r_ret1 Try.func15 rfl rfl ⟨⟨?_, rfl, rfl⟩, Fz.le_refl _⟩
    rw [Bool.true_and, decide_eq_decide.2 (show ((q1 : Int) = t ↔ q1 = t) by omega)]
  | false =>
    refine o_val rfl rfl rfl rfl (v_move rfl) ?_
    refine o_val rfl rfl rfl rfl (v_extract rfl rfl) ?_
    refine o_val rfl rfl rfl rfl (v_extract rfl rfl) ?_
    refine o_val rfl rfl rfl rfl (v_assign rfl) ?_
    refine o_val rfl rfl rfl rfl (v_assign rfl) ?_
    refine o_end ?_
    refine r_seq ?_
    refine r_region rfl ?_
    refine o_val rfl rfl rfl rfl (v_move rfl) ?_
    refine o_val rfl rfl rfl rfl (v_move rfl) ?_
    refine o_skip rfl rfl rfl rfl ?_
    refine o_skip rfl rfl rfl rfl ?_
    refine o_skip rfl rfl rfl rfl ?_
    refine o_val rfl rfl rfl rfl (v_pick0 rfl rfl) ?_
    refine o_val rfl rfl rfl rfl (v_assign rfl) ?_
    refine o_end ?_
    exact r_ret1 Try.func15 rfl rfl ⟨⟨rfl, rfl, rfl⟩, Fz.le_refl _⟩
theorem lg_Newer (O : World) (F : Fz) (a ix tm vt : Nat) (bf : Bf) (l : List En) (i t : Nat) (Fr : List Ent) (hb : ix + l.length < 18446744073709551616) (hok : bf.ok l.length) :
    Does Try.prog O 16 #[ptrV a, .int .u64 i, .int .u64 t] F (LgH a ix tm vt bf l Fr) (fun r F' H' => r = .bool (newerB ix tm l i t) ∧ F' = F ∧ H' = LgH a ix tm vt bf l Fr) := by
  refine does_of_run (args := [_, _, _]) Try.func16 rfl rfl ?_
  refine r_seq ?_
  refine r_region rfl ?_
  refine o_val rfl rfl rfl rfl (v_assign rfl) ?_
  refine o_end ?_
  refine r_seq ?_
  refine r_region rfl ?_
  refine o_val rfl rfl rfl rfl (v_move rfl) ?_
  refine o_val rfl rfl rfl rfl (v_move rfl) ?_
  refine o_call rfl rfl rfl rfl (c_call callable14 rfl) (lg_LastTerm _ _ a ix tm vt bf l _ hb hok) ?_
  rintro v' F H' ⟨rfl, rfl, rfl⟩ _
  unfold newerB
  refine o_val rfl rfl rfl rfl (v_gtr rfl rfl) ?_
  refine o_val rfl rfl rfl rfl (v_move rfl) ?_
  refine j_prop 11 rfl (fun h => ?_) (fun h => ?_)
  · refine o_skip rfl rfl rfl rfl ?_
    refine o_skip rfl rfl rfl rfl ?_
    refine o_skip rfl rfl rfl rfl ?_
    refine o_skip rfl rfl rfl rfl ?_
    refine o_skip rfl rfl rfl rfl ?_
    refine o_skip rfl rfl rfl rfl ?_
    refine o_skip rfl rfl rfl rfl ?_
    refine o_skip rfl rfl rfl rfl ?_
    refine o_skip rfl rfl rfl rfl ?_
    refine o_skip rfl rfl rfl rfl ?_
    refine o_val rfl rfl rfl rfl (v_pick1 rfl rfl) ?_
    refine o_val rfl rfl rfl rfl (v_assign rfl) ?_
    refine o_end ?_
    refine r_ret1 Try.func16 rfl rfl ⟨⟨?_, rfl, rfl⟩, Fz.le_refl _⟩
    rw [decide_eq_true (show lgLastTerm ix tm l < t by omega), Bool.true_or]
  · refine o_val rfl rfl rfl rfl (v_move rfl) ?_
    refine o_val rfl rfl rfl rfl (v_move rfl) ?_
    refine o_call rfl rfl rfl rfl (c_call callable14 rfl) (lg_LastTerm _ _ a ix tm vt bf l _ hb hok) ?_
    rintro v' F H' ⟨rfl, rfl, rfl⟩ _
    rw [decide_eq_false (show ¬ lgLastTerm ix tm l < t by omega), Bool.false_or]
    refine o_val rfl rfl rfl rfl (v_eql rfl rfl) ?_
    refine o_val rfl rfl rfl rfl (v_move rfl) ?_
    refine j_prop 16 rfl (fun h2 => ?_) (fun h2 => ?_)
    · refine o_val rfl rfl rfl rfl (v_move rfl) ?_
      refine o_val rfl rfl rfl rfl (v_move rfl) ?_
      refine o_call rfl rfl rfl rfl (c_call callable17 rfl) (lg_Last _ _ a ix tm vt bf l.length _ hb) ?_
      rintro v' F H' ⟨rfl, rfl, rfl⟩ _
      refine o_val rfl rfl rfl rfl (v_geq rfl rfl) ?_
      refine o_val rfl rfl rfl rfl (v_pick1 rfl rfl) ?_
      refine o_val rfl rfl rfl rfl (v_pick0 rfl rfl) ?_
      refine o_val rfl rfl rfl rfl (v_assign rfl) ?_
      refine o_end ?_
      refine r_ret1 Try.func16 rfl rfl ⟨⟨?_, rfl, rfl⟩, Fz.le_refl _⟩
      rw [decide_eq_true (show t = lgLastTerm ix tm l by omega), Bool.true_and, decide_eq_decide.2 (show (((ix + l.length : Nat) : Int) ≤ i ↔ ix + l.length ≤ i) by omega)]
    · refine o_skip rfl rfl rfl rfl ?_
      refine o_skip rfl rfl rfl rfl ?_
      refine o_skip rfl rfl rfl rfl ?_
      refine o_skip rfl rfl rfl rfl ?_
      refine o_val rfl rfl rfl rfl (v_pick0 rfl rfl) ?_
      refine o_val rfl rfl rfl rfl (v_pick0 rfl rfl) ?_
      refine o_val rfl rfl rfl rfl (v_assign rfl) ?_
      refine o_end ?_
      refine r_ret1 Try.func16 rfl rfl ⟨⟨?_, rfl, rfl⟩, Fz.le_refl _⟩
      rw [decide_eq_false (show ¬ t = lgLastTerm ix tm l by omega), Bool.false_and]

theorem lgLastTerm_nil (ix tm : Nat) : lgLastTerm ix tm [] = tm := by simp [lgLastTerm, lgTerm]
theorem lgLastTerm_pos (ix tm : Nat) (l : List En) (h : 0 < l.length) : lgLastTerm ix tm l = l[l.length - 1].tm := by
  unfold lgLastTerm lgTerm
  rw [if_neg (by omega), if_neg (by omega)]
  have e : ix + l.length - ix - 1 = l.length - 1 := by omega
  rw [e, List.getElem?_eq_getElem (by omega)]
  rfl
theorem EnsOk.new {F : Fz} {terms kinds : List UInt8} {es : List En} {ix tm : Nat} (h : EnsOk F ix terms kinds es) (htm : tm ≤ 1) : lgNew ix tm es := by
  intro i hi
  obtain ⟨h1, h2, _⟩ := h.is i hi
  refine ⟨h1, ?_⟩
  rw [h2]
  cases i with
  | zero =>
    rw [List.take_zero, lgLastTerm_nil]
    unfold tmAt
    omega
  | succ i =>
    have hl : (es.take (i + 1)).length = i + 1 := by simp; omega
    rw [lgLastTerm_pos _ _ _ (by omega)]
    have e : (es.take (i + 1))[(es.take (i + 1)).length - 1] = es[i] := by
      rw [List.getElem_take]
      simp only [hl, Nat.add_sub_cancel]
    rw [e]
    obtain ⟨_, h4, _, h5, _⟩ := h.is i (by omega)
    rw [h4]
    obtain ⟨_, _, _, h6, _⟩ := h.is (i + 1) hi
    rw [tmAt_succ terms (i + 1) h6]
    omega

theorem law_LogsFits (O : World) (F : Fz) (n : Nat) (v u : Value) (terms kinds : List UInt8) (i0 t0 : Nat) (near : Bool) (hn : n < 256) (hv : SlB F [] v terms) (hu : SlB F [] u kinds) (hi0 : i0 < 18446744073709551616) (ht0 : t0 < 18446744073709551616) :
    Does Try.prog O 3 #[.int .u8 n, v, u, .int .u64 i0, .int .u64 t0, .bool near] F [] (fun r _ _ => r = .bool true) := by
  obtain ⟨a0, cap, rfl, hcap⟩ := Sl.shape hv
  obtain ⟨a1, cap1, rfl, hcap1⟩ := Sl.shape hu
  refine does_of_run (args := [_, _, _, _, _, _]) Try.func3 rfl rfl ?_
  refine r_seq ?_
  refine r_region rfl ?_
  refine o_val rfl rfl rfl rfl (v_assign rfl) ?_
  refine o_end ?_
  refine r_seq ?_
  refine r_seq ?_
  refine r_region rfl ?_
  refine o_call rfl rfl rfl rfl (c_call callable10 rfl) (law_awake _ _ _) ?_
  rintro v' F1 H' ⟨rfl, rfl⟩ hF1
  refine o_val rfl rfl rfl rfl (v_not rfl) ?_
  refine o_end ?_
  refine r_false rfl ?_
  refine r_skip ?_
  refine r_seq ?_
  refine r_region rfl ?_
  refine o_val rfl rfl rfl rfl (v_move rfl) ?_
  refine o_call rfl rfl rfl rfl (c_call callable11 rfl) (law_snap _ _ n _ hn) ?_
  rintro v' F1 H' ⟨rfl, rfl, rfl⟩ _
  refine o_act rfl rfl rfl rfl (a_alloc rfl) ?_
  rintro v' H' ⟨s, rfl, rfl⟩
  refine o_act0 rfl rfl rfl (a_store (sz := 4) 0 rfl rfl rfl rfl rfl rfl (Nat.le_of_ble_eq_true rfl)) ?_
  obtain ⟨ix, hix⟩ : ∃ ix, ix = n % 7 := ⟨_, rfl⟩
  obtain ⟨tm, htm⟩ : ∃ tm, tm = n % 2 := ⟨_, rfl⟩
  obtain ⟨S, hS⟩ : ∃ S, S = Ent.mem s [.int .u64 ix, .int .u64 tm, .int .u64 n, .slice none 0 0] 4 := ⟨_, rfl⟩
  have hcs : ∀ F H j c, S ∈ H → [Value.int .u64 ix, .int .u64 tm, .int .u64 n, .slice none 0 0][j]? = some c → Cell F H s (0 + j) c := fun F H j c hm hc => by
    rw [hS] at hm
    rw [Nat.zero_add]
    exact cell_own hm hc
  refine j_heap (H' := [S]) (by rw [hS, hix, htm]; rfl) ?_
  refine o_end ?_
  refine r_seq ?_
  refine r_region rfl ?_
  refine o_val rfl rfl rfl rfl (v_field (k := 0) rfl rfl rfl) ?_
  refine o_val rfl rfl rfl rfl (v_load (v := .int .u64 ix) rfl rfl (hcs _ _ 0 _ (by simp) rfl)) ?_
  refine o_val rfl rfl rfl rfl (v_move rfl) ?_
  refine o_val rfl rfl rfl rfl (v_move rfl) ?_
  refine o_call rfl rfl rfl rfl (c_call callable12 rfl) (law_entries _ _ ix _ _ terms kinds _ (hv.frz hF1) (hu.frz hF1) (by omega)) ?_
  rintro v' F2 H' ⟨hF2, es, bfe, hes, hens, hoke, rfl, rfl⟩ _
  refine j_freezeBf hoke (by rw [enV_length]) fun F3 hF3 hsl => ?_
  replace hens : EnsOk F3 ix terms kinds es := ⟨fun e he => (hens.ok e he).frz hF3, hens.is⟩
  replace hF2 := Fz.le_trans hF2 hF3
  obtain ⟨ae, ce, hae, hce⟩ := Sl.shape hsl
  rw [hae] at hsl ⊢
  have hesl : es.length ≤ 30 := by omega
  refine o_val rfl rfl rfl rfl (v_assign rfl) ?_
  refine o_end ?_
  refine r_seq ?_
  refine r_region rfl ?_
  refine o_val rfl rfl rfl rfl (v_loadAgg (sz := 4) (cs := [.int .u64 ix, .int .u64 tm, .int .u64 n, .slice none 0 0]) rfl rfl rfl rfl (fun j c hc => hcs _ _ j c (by simp) hc)) ?_
  refine o_val rfl rfl rfl rfl (v_move rfl) ?_
  refine o_call rfl rfl rfl rfl (c_call callable13 rfl) (lg_New _ _ ix tm n (.slice none 0 0) _ es _ (hsl.frz (Fz.le_refl _)) hens.ok (by omega) (by omega)) ?_
  rintro v' F2 H' ⟨rfl, hnew⟩ _
  rcases hnew with ⟨_, a, bf, hok, rfl, rfl⟩ | ⟨hbad, _⟩
  · have hb64 : ix + es.length < 18446744073709551616 := by omega
    have hF02 := Fz.le_trans hF1 hF2
    refine o_val rfl rfl rfl rfl (v_move rfl) ?_
    refine o_val rfl rfl rfl rfl (v_extract rfl rfl) ?_
    refine o_val rfl rfl rfl rfl (v_extract rfl rfl) ?_
    refine o_val rfl rfl rfl rfl (v_assign rfl) ?_
    refine o_val rfl rfl rfl rfl (v_assign rfl) ?_
    refine o_end ?_
    refine r_seq ?_
    refine r_join (fun g : Nat × Nat => g.1 < 18446744073709551616 ∧ g.2 < 18446744073709551616) (fun g => [(3, .int .u64 g.1), (4, .int .u64 g.2), (13, ptrV s), (14, .slice ae es.length ce), (15, ptrV a)]) (fun _ => F2) (fun _ => LgH a ix tm n bf es [S]) ?_ ?_
    · intro J
      refine r_seq ?_
      refine r_region rfl ?_
      refine o_val rfl rfl rfl rfl (v_move rfl) ?_
      refine o_end ?_
      cases near with
      | true =>
        refine r_true rfl ?_
        refine r_seq ?_
        refine r_region rfl ?_
        refine o_val rfl rfl rfl rfl (v_move rfl) ?_
        refine o_val rfl rfl rfl rfl (v_rem rfl rfl (by decide) (r := ((i0 % 40 : Nat) : Int)) rfl) ?_
        refine o_val rfl rfl rfl rfl (v_assign rfl) ?_
        refine o_end ?_
        refine r_region rfl ?_
        refine o_val rfl rfl rfl rfl (v_move rfl) ?_
        refine o_val rfl rfl rfl rfl (v_rem rfl rfl (by decide) (r := ((t0 % 8 : Nat) : Int)) rfl) ?_
        refine o_val rfl rfl rfl rfl (v_assign rfl) ?_
        refine o_end ?_
        refine j_keep ?_ (J (i0 % 40, t0 % 8) ⟨by dsimp only; omega, by dsimp only; omega⟩)
        exact ⟨rfl, rfl, rfl, rfl, rfl, trivial⟩
      | false =>
        refine r_false rfl ?_
        refine r_skip ?_
        refine j_keep ?_ (J (i0, t0) ⟨hi0, ht0⟩)
        exact ⟨rfl, rfl, rfl, rfl, rfl, trivial⟩
    · clear hi0 ht0
      rintro ⟨i, t⟩ ⟨hi, ht⟩
      dsimp only at hi ht ⊢
      have hSm : S ∈ LgH a ix tm n bf es [S] := by simp [LgH]
      refine r_seq ?_
      refine r_join (fun _ : Unit => True) (fun _ => [(3, .int .u64 i), (4, .int .u64 t), (13, ptrV s), (14, .slice ae es.length ce), (15, ptrV a), (17, .bool (decide (i = ix) && decide (t = tm)))]) (fun _ => F2) (fun _ => LgH a ix tm n bf es [S]) ?_ ?_
      · intro J
        refine r_region rfl ?_
        refine o_val rfl rfl rfl rfl (v_move rfl) ?_
        refine o_val rfl rfl rfl rfl (v_field (k := 0) rfl rfl rfl) ?_
        refine o_val rfl rfl rfl rfl (v_load (v := .int .u64 ix) rfl rfl (hcs _ _ 0 _ hSm rfl)) ?_
        refine o_val rfl rfl rfl rfl (v_eql rfl rfl) ?_
        refine o_val rfl rfl rfl rfl (v_move rfl) ?_
        refine j_prop 43 rfl (fun h => ?_) (fun h => ?_)
        · refine o_val rfl rfl rfl rfl (v_move rfl) ?_
          refine o_val rfl rfl rfl rfl (v_field (k := 1) rfl rfl rfl) ?_
          refine o_val rfl rfl rfl rfl (v_load (v := .int .u64 tm) rfl rfl (hcs _ _ 1 _ hSm rfl)) ?_
          refine o_val rfl rfl rfl rfl (v_eql rfl rfl) ?_
          refine o_val rfl rfl rfl rfl (v_pick1 rfl rfl) ?_
          refine o_val rfl rfl rfl rfl (v_assign rfl) ?_
          refine o_end ?_
          refine j_slot 17 rfl (v' := .bool (decide (i = ix) && decide (t = tm))) (by rw [decide_eq_true (show i = ix by omega), Bool.true_and, decide_eq_decide.2 (show ((t : Int) = tm ↔ t = tm) by omega)]) ?_
          refine j_keep ?_ (J () trivial)
          exact ⟨rfl, rfl, rfl, rfl, rfl, rfl, trivial⟩
        · refine o_skip rfl rfl rfl rfl ?_
          refine o_skip rfl rfl rfl rfl ?_
          refine o_skip rfl rfl rfl rfl ?_
          refine o_skip rfl rfl rfl rfl ?_
          refine o_val rfl rfl rfl rfl (v_pick0 rfl rfl) ?_
          refine o_val rfl rfl rfl rfl (v_assign rfl) ?_
          refine o_end ?_
          refine j_slot 17 rfl (v' := .bool (decide (i = ix) && decide (t = tm))) (by rw [decide_eq_false (show ¬ i = ix by omega), Bool.false_and]) ?_
          refine j_keep ?_ (J () trivial)
          exact ⟨rfl, rfl, rfl, rfl, rfl, rfl, trivial⟩
      · rintro _ _
        refine r_seq ?_
        refine r_join (fun _ : Unit => True) (fun _ => [(3, .int .u64 i), (4, .int .u64 t), (13, ptrV s), (14, .slice ae es.length ce), (15, ptrV a), (17, .bool (fitB ix tm es i t))]) (fun _ => F2) (fun _ => LgH a ix tm n bf es [S]) ?_ ?_
        · intro J
          refine r_seq ?_
          refine r_region rfl ?_
          refine o_val rfl rfl rfl rfl (v_move rfl) ?_
          refine o_val rfl rfl rfl rfl (v_field (k := 0) rfl rfl rfl) ?_
          refine o_val rfl rfl rfl rfl (v_load (v := .int .u64 ix) rfl rfl (hcs _ _ 0 _ hSm rfl)) ?_
          refine o_val rfl rfl rfl rfl (v_gtr rfl rfl) ?_
          refine o_val rfl rfl rfl rfl (v_move rfl) ?_
          refine j_prop 53 rfl (fun h => ?_) (fun h => ?_)
          · refine o_val rfl rfl rfl rfl (v_move rfl) ?_
            refine o_val rfl rfl rfl rfl (v_field (k := 0) rfl rfl rfl) ?_
            refine o_val rfl rfl rfl rfl (v_load (v := .int .u64 ix) rfl rfl (hcs _ _ 0 _ hSm rfl)) ?_
            refine o_val rfl rfl rfl rfl (v_sub rfl rfl (r := ((i - ix : Nat) : Int)) ((wrap_u64 (by omega) (by omega)).trans (by omega))) ?_
            refine o_val rfl rfl rfl rfl (v_move rfl) ?_
            refine o_val rfl rfl rfl rfl (v_len rfl rfl) ?_
            refine o_val rfl rfl rfl rfl (v_conv rfl rfl rfl (wrap_u64 (by omega) (by omega))) ?_
            refine o_val rfl rfl rfl rfl (v_leq rfl rfl) ?_
            refine o_val rfl rfl rfl rfl (v_pick1 rfl rfl) ?_
            refine o_end ?_
            refine r_if rfl (fun h2 => ?_) (fun h2 => ?_)
            · have hil : i - ix - 1 < es.length := by omega
              obtain ⟨b1, off1, c1, hab, _, hcell⟩ := Sl.view hsl (by omega)
              simp only [Value.slice.injEq] at hab
              obtain ⟨rfl, _, rfl⟩ := hab
              have hg := hcell ((i - ix - 1) * 4 + 1) (.int .u64 es[i - ix - 1].tm) (by rw [enV_get es _ hil 1 (by decide)]; rfl)
              rw [← Nat.add_assoc] at hg
              have hft : fitB ix tm es i t = decide (es[i - ix - 1].tm = t) := by
                unfold fitB lgTerm
                rw [if_neg (by omega), if_neg (by omega), List.getElem?_eq_getElem hil]
                rfl
              rw [hft] at J
              refine r_region rfl ?_
              refine o_val rfl rfl rfl rfl (v_move rfl) ?_
              refine o_val rfl rfl rfl rfl (v_move rfl) ?_
              refine o_val rfl rfl rfl rfl (v_field (k := 0) rfl rfl rfl) ?_
              refine o_val rfl rfl rfl rfl (v_load (v := .int .u64 ix) rfl rfl (hcs _ _ 0 _ hSm rfl)) ?_
              refine o_val rfl rfl rfl rfl (v_sub rfl rfl (r := ((i - ix : Nat) : Int)) ((wrap_u64 (by omega) (by omega)).trans (by omega))) ?_
              refine o_val rfl rfl rfl rfl (v_sub rfl rfl (r := ((i - ix - 1 : Nat) : Int)) ((wrap_u64 (by omega) (by omega)).trans (by omega))) ?_
              refine o_val rfl rfl rfl rfl (v_indexN (sz := 4) rfl rfl rfl rfl hil) ?_
              refine o_val rfl rfl rfl rfl (v_field (k := 1) rfl rfl rfl) ?_
              refine o_val rfl rfl rfl rfl (v_load (v := .int .u64 es[i - ix - 1].tm) rfl rfl (hg.mono (Fz.le_refl _) (by simp))) ?_
              refine o_val rfl rfl rfl rfl (v_move rfl) ?_
              refine o_val rfl rfl rfl rfl (v_eql rfl rfl) ?_
              refine o_val rfl rfl rfl rfl (v_assign rfl) ?_
              refine o_end ?_
              refine j_slot 17 rfl (v' := .bool (decide (es[i - ix - 1].tm = t))) (by rw [decide_eq_decide.2 (show ((es[i - ix - 1].tm : Int) = t ↔ es[i - ix - 1].tm = t) by omega)]) ?_
              refine j_keep ?_ (J () trivial)
              exact ⟨rfl, rfl, rfl, rfl, rfl, rfl, trivial⟩
            · have hft : (decide (i = ix) && decide (t = tm)) = fitB ix tm es i t := by
                unfold fitB lgTerm
                rw [if_pos (by omega), decide_eq_false (show ¬ i = ix by omega)]
                rfl
              rw [hft]
              refine r_skip ?_
              refine j_keep ?_ (J () trivial)
              exact ⟨rfl, rfl, rfl, rfl, rfl, rfl, trivial⟩
          · have hft : (decide (i = ix) && decide (t = tm)) = fitB ix tm es i t := by
              unfold fitB lgTerm
              by_cases hlt : i < ix
              · rw [if_pos (.inl hlt), decide_eq_false (show ¬ i = ix by omega)]
                rfl
              · rw [if_neg (by omega), if_pos (by omega), decide_eq_true (show i = ix by omega)]
                simp only [Bool.true_and]
                exact decide_eq_decide.2 eq_comm
            rw [hft]
            refine o_skip rfl rfl rfl rfl ?_
            refine o_skip rfl rfl rfl rfl ?_
            refine o_skip rfl rfl rfl rfl ?_
            refine o_skip rfl rfl rfl rfl ?_
            refine o_skip rfl rfl rfl rfl ?_
            refine o_skip rfl rfl rfl rfl ?_
            refine o_skip rfl rfl rfl rfl ?_
            refine o_skip rfl rfl rfl rfl ?_
            refine o_val rfl rfl rfl rfl (v_pick0 rfl rfl) ?_
            refine o_end ?_
            refine r_false rfl ?_
            refine r_skip ?_
            refine j_keep ?_ (J () trivial)
            exact ⟨rfl, rfl, rfl, rfl, rfl, rfl, trivial⟩
        · rintro _ _
          refine r_seq ?_
          refine r_region rfl ?_
          refine o_val rfl rfl rfl rfl (v_move rfl) ?_
          refine o_call rfl rfl rfl rfl (c_call callable14 rfl) (lg_LastTerm _ _ a ix tm n bf es _ hb64 hok) ?_
          rintro v' F2 H' ⟨rfl, rfl, rfl⟩ _
          refine o_val rfl rfl rfl rfl (v_assign rfl) ?_
          refine o_end ?_
          refine r_seq ?_
          refine r_region rfl ?_
          refine o_val rfl rfl rfl rfl (v_move rfl) ?_
          refine o_val rfl rfl rfl rfl (v_move rfl) ?_
          refine o_val rfl rfl rfl rfl (v_move rfl) ?_
          refine o_call rfl rfl rfl rfl (c_call callable15 rfl) (lg_Fit _ _ a ix tm n bf es i t _ hb64 hok hi) ?_
          rintro v' F2 H' ⟨rfl, rfl, rfl⟩ _
          refine o_val rfl rfl rfl rfl (v_move rfl) ?_
          refine o_val rfl rfl rfl rfl (v_beql rfl rfl rfl) ?_
          refine j_slot 81 rfl (v' := .bool true) (by rw [decide_eq_true rfl]) ?_
          refine o_val rfl rfl rfl rfl (v_move rfl) ?_
          refine o_val rfl rfl rfl rfl (v_move rfl) ?_
          refine o_val rfl rfl rfl rfl (v_move rfl) ?_
          refine o_val rfl rfl rfl rfl (v_move rfl) ?_
          refine o_call rfl rfl rfl rfl (c_call callable16 rfl) (lg_Newer _ _ a ix tm n bf es i t _ hb64 hok) ?_
          rintro v' F2 H' ⟨rfl, rfl, rfl⟩ _
          refine o_val rfl rfl rfl rfl (v_move rfl) ?_
          refine o_val rfl rfl rfl rfl (v_move rfl) ?_
          refine o_val rfl rfl rfl rfl (v_gtr rfl rfl) ?_
          refine o_val rfl rfl rfl rfl (v_move rfl) ?_
          refine j_prop 90 rfl (fun h => ?_) (fun h => ?_)
          · have hnb : newerB ix tm es i t = true := by
              unfold newerB
              rw [decide_eq_true (show lgLastTerm ix tm es < t by omega), Bool.true_or]
            refine o_skip rfl rfl rfl rfl ?_
            refine o_skip rfl rfl rfl rfl ?_
            refine o_skip rfl rfl rfl rfl ?_
            refine o_skip rfl rfl rfl rfl ?_
            refine o_skip rfl rfl rfl rfl ?_
            refine o_skip rfl rfl rfl rfl ?_
            refine o_skip rfl rfl rfl rfl ?_
            refine o_skip rfl rfl rfl rfl ?_
            refine o_skip rfl rfl rfl rfl ?_
            refine o_val rfl rfl rfl rfl (v_pick1 rfl rfl) ?_
            refine o_val rfl rfl rfl rfl (v_beql rfl rfl rfl) ?_
            refine o_val rfl rfl rfl rfl (v_pick1 rfl rfl) ?_
            refine o_val rfl rfl rfl rfl (v_assign rfl) ?_
            refine o_end ?_
            refine r_ret1 Try.func3 rfl rfl ⟨?_, hF02⟩
            rw [hnb]
            rfl
          · refine o_val rfl rfl rfl rfl (v_move rfl) ?_
            refine o_val rfl rfl rfl rfl (v_move rfl) ?_
            refine o_val rfl rfl rfl rfl (v_eql rfl rfl) ?_
            refine o_val rfl rfl rfl rfl (v_move rfl) ?_
            refine j_prop 94 rfl (fun h2 => ?_) (fun h2 => ?_)
            · have hnb : newerB ix tm es i t = decide (((ix + es.length : Nat) : Int) ≤ i) := by
                unfold newerB
                rw [decide_eq_false (show ¬ lgLastTerm ix tm es < t by omega), decide_eq_true (show t = lgLastTerm ix tm es by omega), Bool.false_or, Bool.true_and]
                exact decide_eq_decide.2 (by omega)
              refine o_val rfl rfl rfl rfl (v_move rfl) ?_
              refine o_val rfl rfl rfl rfl (v_move rfl) ?_
              refine o_call rfl rfl rfl rfl (c_call callable17 rfl) (lg_Last _ _ a ix tm n bf es.length _ hb64) ?_
              rintro v' F2 H' ⟨rfl, rfl, rfl⟩ _
              refine o_val rfl rfl rfl rfl (v_geq rfl rfl) ?_
              refine o_val rfl rfl rfl rfl (v_pick1 rfl rfl) ?_
              refine o_val rfl rfl rfl rfl (v_pick0 rfl rfl) ?_
              refine o_val rfl rfl rfl rfl (v_beql rfl rfl rfl) ?_
              refine o_val rfl rfl rfl rfl (v_pick1 rfl rfl) ?_
              refine o_val rfl rfl rfl rfl (v_assign rfl) ?_
              refine o_end ?_
              refine r_ret1 Try.func3 rfl rfl ⟨?_, hF02⟩
              rw [hnb, decide_eq_true rfl]
            · have hnb : newerB ix tm es i t = false := by
                unfold newerB
                rw [decide_eq_false (show ¬ lgLastTerm ix tm es < t by omega), decide_eq_false (show ¬ t = lgLastTerm ix tm es by omega)]
                rfl
              refine o_skip rfl rfl rfl rfl ?_
              refine o_skip rfl rfl rfl rfl ?_
              refine o_skip rfl rfl rfl rfl ?_
              refine o_skip rfl rfl rfl rfl ?_
              refine o_val rfl rfl rfl rfl (v_pick0 rfl rfl) ?_
              refine o_val rfl rfl rfl rfl (v_pick0 rfl rfl) ?_
              refine o_val rfl rfl rfl rfl (v_beql rfl rfl rfl) ?_
              refine o_val rfl rfl rfl rfl (v_pick1 rfl rfl) ?_
              refine o_val rfl rfl rfl rfl (v_assign rfl) ?_
              refine o_end ?_
              refine r_ret1 Try.func3 rfl rfl ⟨?_, hF02⟩
              rw [hnb]
              rfl
  · exact absurd (hens.new (by omega)) hbad

theorem inU8 {n : Int} (h : (Lit.int .u8 n).wf = true) : ∃ m : Nat, n = m ∧ m < 256 := by
  simp [Lit.wf, IntKind.min, IntKind.max, IntKind.signed, IntKind.bits] at h
  exact ⟨n.toNat, by omega, by omega⟩
theorem inU64 {n : Int} (h : (Lit.int .u64 n).wf = true) : ∃ m : Nat, n = m ∧ m < 18446744073709551616 := by
  simp [Lit.wf, IntKind.min, IntKind.max, IntKind.signed, IntKind.bits] at h
  exact ⟨n.toNat, by omega, by omega⟩
theorem in_LogsFits (W : World) (n : Int) (hn : (Lit.int .u8 n).wf = true) (v : Value) (zs : List Int) (h : InInts .u8 W v zs) (hz : zs.length * 1 ≤ 140737488351232) (u : Value) (ys : List Int) (hu : InInts .u8 W u ys) (hy : ys.length * 1 ≤ 140737488351232)
    (i : Int) (hi : (Lit.int .u64 i).wf = true) (t : Int) (ht : (Lit.int .u64 t).wf = true) (near : Bool) :
    Calls Try.prog 3 #[.int .u8 n, v, u, .int .u64 i, .int .u64 t, .bool near] W fun e w' => e = .returned (.bool true) ∧ Go.RowKit.Below W.heap.size W w' := by
  obtain ⟨l, hl, hv⟩ := inBytes h
  obtain ⟨m, hm, hu⟩ := inBytes hu
  obtain ⟨n, rfl, hn'⟩ := inU8 hn
  obtain ⟨i, rfl, hi'⟩ := inU64 hi
  obtain ⟨t, rfl, ht'⟩ := inU64 ht
  exact below_of_does (law_LogsFits _ _ n _ _ l m i t near hn' hv hu hi' ht')
end Go.SX
