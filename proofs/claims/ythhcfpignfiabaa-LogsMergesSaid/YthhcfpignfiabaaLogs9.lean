/-
  Chapter 09: the law LogsPuts.
-/
import Derived.Test.YthhcfpignfiabaaLogs8
import Derived.Test.YthhcfpignfiabaaSxPerm
namespace Go.SX
open Go Go.Proofs
set_option linter.unusedSimpArgs false
set_option linter.unusedVariables false

theorem permL {α : Type} (Pre : List α) (x : α) (B Fr : List α) : (Pre ++ x :: (B ++ Fr)).Perm (x :: (B ++ (Pre ++ Fr))) := by
  refine List.perm_middle.trans (List.Perm.cons _ ?_)
  rw [← List.append_assoc, ← List.append_assoc]
  exact List.Perm.append_right Fr List.perm_append_comm

theorem Alike.refl (l : List En) : Alike l l := ⟨rfl, fun _ _ _ => ⟨rfl, rfl, rfl, rfl⟩⟩
theorem Alike.snoc {l m : List En} (h : Alike l m) {e e' : En} (he : e.like e') : Alike (l ++ [e]) (m ++ [e']) := by
  refine ⟨by simp [h.len], fun i h1 h2 => ?_⟩
  rcases Nat.lt_or_ge i l.length with h3 | h3
  · rw [List.getElem_append_left h3, List.getElem_append_left (by rw [← h.len]; exact h3)]
    exact h.is i h3 (by rw [← h.len]; exact h3)
  · simp only [List.length_append, List.length_singleton] at h1 h2
    have h4 := h.len
    rw [List.getElem_append_right h3, List.getElem_append_right (by omega)]
    simp only [List.getElem_singleton]
    exact he
theorem EnsOk.data {F : Fz} {at0 : Nat} {terms kinds : List UInt8} {es : List En} (h : EnsOk F at0 terms kinds es) : ∀ e ∈ es, e.data.length ≤ 1000000 := fun e he => by
  obtain ⟨i, hi, rfl⟩ := List.getElem_of_mem he
  obtain ⟨_, _, _, _, hd⟩ := h.is i hi
  rw [hd]
  simp

structure PG where
  i : Nat
  bf : Bf
  bl : Bf
  l : List En
  m : List En
  F : Fz
structure PG.ok (F : Fz) (ix tm : Nat) (n0 : Nat) (n : Nat) (g : PG) : Prop where
  le : F.le g.F
  i : g.i ≤ n
  okf : g.bf.ok g.l.length
  okl : g.bl.ok g.m.length
  len : g.l.length = n0 + g.i
  like : Alike g.l g.m
  el : ∀ e ∈ g.l, e.ok g.F
  em : ∀ e ∈ g.m, e.ok g.F
  data : ∀ e ∈ g.l, e.data.length ≤ 1000000
  tb : lgLastTerm ix tm g.l ≤ 40 + g.i

set_option maxHeartbeats 1000000 in
theorem law_LogsPuts (O : World) (F : Fz) (n : Nat) (v u t : Value) (terms kinds more : List UInt8) (vo : Bool) (hn : n < 256) (hv : SlB F [] v terms) (hu : SlB F [] u kinds) (ht : SlB F [] t more) :
    Does Try.prog O 6 #[.int .u8 n, v, u, t, .bool vo] F [] (fun r _ _ => r = .bool true) := by
  obtain ⟨a0, cap, rfl, hcap⟩ := Sl.shape hv
  obtain ⟨a1, cap1, rfl, hcap1⟩ := Sl.shape hu
  obtain ⟨a2, cap2, rfl, hcap2⟩ := Sl.shape ht
  refine does_of_run (args := [_, _, _, _, _]) Try.func6 rfl rfl ?_
  refine r_seq ?_
  refine r_region rfl ?_
  refine o_val rfl rfl rfl rfl (v_assign rfl) ?_
  refine o_end ?_
  refine r_seq ?_
  refine r_seq ?_
  refine r_region rfl ?_
  refine o_call rfl rfl rfl rfl (c_call callable10 rfl) (law_awake _ _ _) ?_
  rintro v' F1 H' ⟨rfl, rfl⟩ hF1
  refine o_val rfl rfl rfl rfl (v_not rfl) ?_
  refine o_val rfl rfl rfl rfl (v_move rfl) ?_
  refine o_val rfl rfl rfl rfl (v_move rfl) ?_
  refine o_val rfl rfl rfl rfl (v_len rfl rfl) ?_
  refine o_val rfl rfl rfl rfl (v_gtr rfl rfl) ?_
  refine o_val rfl rfl rfl rfl (v_pick0 rfl rfl) ?_
  refine o_end ?_
  refine r_if rfl (fun h => ?_) (fun h => ?_)
  · refine r_seq ?_
    refine r_region rfl ?_
    refine o_call rfl rfl rfl rfl (c_call callable10 rfl) (law_awake _ _ _) ?_
    rintro v' F2 H' ⟨rfl, rfl⟩ hF2
    refine o_val rfl rfl rfl rfl (v_assign rfl) ?_
    refine o_end ?_
    exact r_ret1 Try.func6 rfl rfl ⟨rfl, Fz.le_trans hF1 hF2⟩
  · have hml : more.length ≤ 20 := by omega
    refine r_skip ?_
    refine r_seq ?_
    refine r_region rfl ?_
    refine o_val rfl rfl rfl rfl (v_move rfl) ?_
    refine o_call rfl rfl rfl rfl (c_call callable11 rfl) (law_snap _ _ n _ hn) ?_
    rintro v' F1 H' ⟨rfl, rfl, rfl⟩ _
    refine o_act rfl rfl rfl rfl (a_alloc rfl) ?_
    rintro v' H' ⟨s, rfl, rfl⟩
    refine o_act0 rfl rfl rfl (a_store (sz := 4) 0 rfl rfl rfl rfl rfl rfl (Nat.le_of_ble_eq_true rfl)) ?_
    obtain ⟨ix, hix⟩ : ∃ ix, ix = n % 7 := ⟨_, rfl⟩
    obtain ⟨tm, htm⟩ : ∃ tm, tm = n % 2 := ⟨_, rfl⟩
    obtain ⟨S, hS⟩ : ∃ S, S = Ent.mem s [.int .u64 ix, .int .u64 tm, .int .u64 n, .slice none 0 0] 4 := ⟨_, rfl⟩
    have hcs : ∀ F H j c, S ∈ H → [Value.int .u64 ix, .int .u64 tm, .int .u64 n, .slice none 0 0][j]? = some c → Cell F H s (0 + j) c := fun F H j c hm hc => by
      rw [hS] at hm
      rw [Nat.zero_add]
      exact cell_own hm hc
    refine j_heap (H' := [S]) (by rw [hS, hix, htm]; rfl) ?_
    refine o_end ?_
    refine r_seq ?_
    refine r_region rfl ?_
    refine o_val rfl rfl rfl rfl (v_field (k := 0) rfl rfl rfl) ?_
    refine o_val rfl rfl rfl rfl (v_load (v := .int .u64 ix) rfl rfl (hcs _ _ 0 _ (by simp) rfl)) ?_
    refine o_val rfl rfl rfl rfl (v_move rfl) ?_
    refine o_val rfl rfl rfl rfl (v_move rfl) ?_
    refine o_call rfl rfl rfl rfl (c_call callable12 rfl) (law_entries _ _ ix _ _ terms kinds _ (hv.frz hF1) (hu.frz hF1) (by omega)) ?_
    rintro v' F2 H' ⟨hF2, es, bfe, hes, hens, hoke, rfl, rfl⟩ _
    have hesl : es.length ≤ 30 := by omega
    refine o_val rfl rfl rfl rfl (v_assign rfl) ?_
    refine o_end ?_
    refine r_seq ?_
    refine r_region rfl ?_
    refine o_val rfl rfl rfl rfl (v_loadAgg (sz := 4) (cs := [.int .u64 ix, .int .u64 tm, .int .u64 n, .slice none 0 0]) rfl rfl rfl rfl (fun j c hc => hcs _ _ j c (by simp) hc)) ?_
    refine o_val rfl rfl rfl rfl (v_move rfl) ?_
    refine o_call rfl rfl rfl rfl (c_call callable13 rfl) (lg_New _ _ ix tm n (.slice none 0 0) _ es _ (Bf.reads (bf := bfe) (sz := 4) (n := es.length) hoke (by rw [enV_length]) (by intro q hq; exact List.mem_append_left _ hq)) hens.ok (by omega) (by omega)) ?_
    rintro v' F2 H' ⟨rfl, hnew⟩ _
    rcases hnew with ⟨_, a, bf, hok, rfl, rfl⟩ | ⟨hbad, _⟩
    · refine o_val rfl rfl rfl rfl (v_move rfl) ?_
      refine o_val rfl rfl rfl rfl (v_extract rfl rfl) ?_
      refine o_val rfl rfl rfl rfl (v_extract rfl rfl) ?_
      refine o_val rfl rfl rfl rfl (v_assign rfl) ?_
      refine o_val rfl rfl rfl rfl (v_assign rfl) ?_
      refine o_end ?_
      refine r_seq ?_
      refine r_region rfl ?_
      refine o_val rfl rfl rfl rfl (v_assign rfl) ?_
      refine o_end ?_
      have hltb : lgLastTerm ix tm es ≤ 40 + 0 := by
        rcases Nat.eq_zero_or_pos es.length with h0 | h0
        · rw [List.eq_nil_of_length_eq_zero h0, lgLastTerm_nil]; omega
        · rw [lgLastTerm_pos _ _ _ h0, (hens.is _ (by omega)).2.1]
          have := tmAt_le terms (es.length - 1 + 1)
          omega
      refine r_seq ?_
      refine r_join (fun _ : Unit => True) (fun _ => [(3, .slice a2 more.length cap2), (11, ptrV s), (12, bfe.val es.length), (13, ptrV a), (15, .int .u8 (if vo = true then 1 else 0 : Nat))]) (fun _ => F2) (fun _ => LgH a ix tm n bf es (bfe.ents 4 (enV es) ++ [S])) ?_ ?_
      · intro J
        cases vo with
        | true =>
          refine r_seq ?_
          refine r_region rfl ?_
          refine o_val rfl rfl rfl rfl (v_move rfl) ?_
          refine o_end ?_
          refine r_true rfl ?_
          refine r_region rfl ?_
          refine o_val rfl rfl rfl rfl (v_assign rfl) ?_
          refine o_end ?_
          refine j_keep ?_ (J () trivial)
          exact ⟨rfl, rfl, rfl, rfl, rfl, trivial⟩
        | false =>
          refine r_seq ?_
          refine r_region rfl ?_
          refine o_val rfl rfl rfl rfl (v_move rfl) ?_
          refine o_end ?_
          refine r_false rfl ?_
          refine r_skip ?_
          refine j_keep ?_ (J () trivial)
          exact ⟨rfl, rfl, rfl, rfl, rfl, trivial⟩
      · rintro _ _
        refine r_seq ?_
        refine r_seq ?_
        refine r_region rfl ?_
        refine o_val rfl rfl rfl rfl (v_assign rfl) ?_
        refine o_end ?_
        refine r_block ?_
        refine r_loop (PG.ok F2 ix tm es.length more.length) (fun g => [(3, .slice a2 more.length cap2), (11, ptrV s), (12, g.bl.val g.m.length), (13, ptrV a), (15, .int .u8 (if vo = true then 1 else 0 : Nat)), (16, .int .i64 g.i)]) (fun g => g.F) (fun g => LgH a ix tm n g.bf g.l (g.bl.ents 4 (enV g.m) ++ [S])) (fun g => more.length - g.i)
          ⟨0, bf, bfe, es, es, F2⟩ ⟨Fz.le_refl _, Nat.zero_le _, hok, hoke, rfl, Alike.refl _, hens.ok, hens.ok, hens.data, hltb⟩ ⟨rfl, rfl, rfl, rfl, rfl, rfl, trivial⟩ rfl rfl ?_
        rintro ⟨i, bf, bl, l, m, F3⟩ ⟨hF3, hi, hokf, hokl, hll, hlk, hel, hem, hdl, hlt⟩ IH
        dsimp only at hF3 hi hokf hokl hll hlk hel hem hdl hlt ⊢
        refine r_seq ?_
        refine r_seq ?_
        refine r_region rfl ?_
        refine o_val rfl rfl rfl rfl (v_move rfl) ?_
        refine o_val rfl rfl rfl rfl (v_move rfl) ?_
        refine o_val rfl rfl rfl rfl (v_len rfl rfl) ?_
        refine o_val rfl rfl rfl rfl (v_lss rfl rfl) ?_
        refine o_end ?_
        refine r_if rfl (fun h1 => ?_) (fun h1 => ?_)
        · have hil : i < more.length := by omega
          obtain ⟨b2, off2, c2, hab, _, hcell⟩ := Sl.view (ht.frz (F' := F3) (H := []) (Fz.le_trans hF1 (Fz.le_trans hF2 hF3))) (by omega)
          simp only [Value.slice.injEq] at hab
          obtain ⟨rfl, _, rfl⟩ := hab
          have hask : Cell F3 [] b2 (off2 + i) (byteV more[i]) := hcell i (byteV more[i]) (by rw [bytesV_get, List.getElem?_eq_getElem hil]; rfl)
          have hb := more[i].toNat_lt
          have hm2 : (more[i].toNat : Int).tmod 2 = ((more[i].toNat % 2 : Nat) : Int) := rfl
          have hlen := hlk.len
          generalize more[i] = mb at *
          refine r_skip ?_
          refine r_seq ?_
          refine r_block ?_
          refine r_seq ?_
          refine r_join (fun q : Nat × Nat => True) (fun q => [(3, .slice (some ⟨b2, off2, none⟩) more.length cap2), (11, ptrV s), (12, bl.val m.length), (13, ptrV a), (15, .int .u8 (if vo = true then 1 else 0 : Nat)), (16, .int .i64 i), (17, ptrV q.1)]) (fun _ => F3)
            (fun q => Ent.mem q.2 (bytesV [mb, 1]) 2 :: Ent.mem q.1 [.int .u64 (ix + m.length + 1 : Nat), .int .u64 (lgLastTerm ix tm l + mb.toNat % 2 : Nat), .int .u8 (if vo = true then 1 else 0 : Nat), .slice (some ⟨q.2, 0, none⟩) 2 2] 4 :: LgH a ix tm n bf l (bl.ents 4 (enV m) ++ [S])) ?_ ?_
          · intro J
            refine d_region 1000000 rfl ([S]) ?_
            refine d_take (i := 0) rfl rfl rfl (by decide +kernel) (by decide +kernel) (by decide +kernel) (Fz.le_refl _) (by simp [LgH]) rfl (v_field (k := 0) rfl rfl rfl) ?_
            refine d_take (i := 1) rfl rfl rfl (by decide +kernel) (by decide +kernel) (by decide +kernel) (Fz.le_refl _) (by simp [LgH]) rfl (v_load (v := .int .u64 ix) rfl rfl (hcs _ _ 0 _ (by simp) rfl)) ?_
            refine d_take (i := 2) rfl rfl rfl (by decide +kernel) (by decide +kernel) (by decide +kernel) (Fz.le_refl _) (by simp [LgH]) rfl (v_move rfl) ?_
            refine d_take (i := 3) rfl rfl rfl (by decide +kernel) (by decide +kernel) (by decide +kernel) (Fz.le_refl _) (by simp [LgH]) rfl (v_len rfl rfl) ?_
            refine d_take (i := 4) rfl rfl rfl (by decide +kernel) (by decide +kernel) (by decide +kernel) (Fz.le_refl _) (by simp [LgH]) rfl (v_conv rfl rfl rfl (wrap_u64 (by omega) (by omega))) ?_
            refine d_take (i := 5) rfl rfl rfl (by decide +kernel) (by decide +kernel) (by decide +kernel) (Fz.le_refl _) (by simp [LgH]) rfl (v_add rfl rfl (r := ((ix + m.length : Nat) : Int)) (wrap_u64 (by omega) (by omega))) ?_
            refine d_take (i := 6) rfl rfl rfl (by decide +kernel) (by decide +kernel) (by decide +kernel) (Fz.le_refl _) (by simp [LgH]) rfl (v_add rfl rfl (r := ((ix + m.length + 1 : Nat) : Int)) (wrap_u64 (by omega) (by omega))) ?_
            refine d_take (i := 7) rfl rfl rfl (by decide +kernel) (by decide +kernel) (by decide +kernel) (Fz.le_refl _) (by simp [LgH]) rfl (v_move rfl) ?_
            refine d_take (i := 9) rfl rfl rfl (by decide +kernel) (by decide +kernel) (by decide +kernel) (Fz.le_refl _) (by simp [LgH]) rfl (v_move rfl) ?_
            refine d_take (i := 10) rfl rfl rfl (by decide +kernel) (by decide +kernel) (by decide +kernel) (Fz.le_refl _) (by simp [LgH]) rfl (v_move rfl) ?_
            refine d_take (i := 11) rfl rfl rfl (by decide +kernel) (by decide +kernel) (by decide +kernel) (Fz.le_refl _) (by simp [LgH]) rfl (v_index1 rfl rfl rfl rfl hil) ?_
            refine d_take (i := 12) rfl rfl rfl (by decide +kernel) (by decide +kernel) (by decide +kernel) (Fz.le_refl _) (by simp [LgH]) rfl (v_load rfl rfl (hask.mono (Fz.le_refl _) (by simp))) ?_
            refine d_take (i := 13) rfl rfl rfl (by decide +kernel) (by decide +kernel) (by decide +kernel) (Fz.le_refl _) (by simp [LgH]) rfl (v_rem rfl rfl (by decide) hm2) ?_
            refine d_take (i := 14) rfl rfl rfl (by decide +kernel) (by decide +kernel) (by decide +kernel) (Fz.le_refl _) (by simp [LgH]) rfl (v_conv rfl rfl rfl (wrap_u64 (by omega) (by omega))) ?_
            refine d_take (i := 16) rfl rfl rfl (by decide +kernel) (by decide +kernel) (by decide +kernel) (Fz.le_refl _) (by simp [LgH]) rfl (v_move rfl) ?_
            refine d_take (i := 17) rfl rfl rfl (by decide +kernel) (by decide +kernel) (by decide +kernel) (Fz.le_refl _) (by simp [LgH]) rfl (v_move rfl) ?_
            refine d_take (i := 18) rfl rfl rfl (by decide +kernel) (by decide +kernel) (by decide +kernel) (Fz.le_refl _) (by simp [LgH]) rfl (v_move rfl) ?_
            refine d_take (i := 19) rfl rfl rfl (by decide +kernel) (by decide +kernel) (by decide +kernel) (Fz.le_refl _) (by simp [LgH]) rfl (v_index1 rfl rfl rfl rfl hil) ?_
            refine d_take (i := 20) rfl rfl rfl (by decide +kernel) (by decide +kernel) (by decide +kernel) (Fz.le_refl _) (by simp [LgH]) rfl (v_load rfl rfl (hask.mono (Fz.le_refl _) (by simp))) ?_
            refine d_all [8, 21, 23] (by decide +kernel) (by simp) ?_
            intro zz hzz
            simp only [List.mem_cons, List.not_mem_nil, or_false] at hzz
            rcases hzz with rfl | rfl | rfl
            · refine d1_call rfl rfl rfl rfl (c_call callable14 rfl) (does_same (by first | exact .refl _ | exact permL [_] .. | exact permL [_, _] ..) (lg_LastTerm _ _ a ix tm n bf l _ (by omega) hokf)) ?_
              rintro v' F5 H' ⟨rfl, rfl, rfl⟩ _
              refine ⟨fun w hw => held_of hw (Fz.le_refl _) (by simp [LgH]), ?_⟩
              refine d_take (i := 15) rfl rfl rfl (by decide +kernel) (by decide +kernel) (by decide +kernel) (Fz.le_refl _) (by simp [LgH]) rfl (v_add rfl rfl (r := ((lgLastTerm ix tm l + mb.toNat % 2 : Nat) : Int)) (wrap_u64 (by omega) (by omega))) ?_
              refine d_all [21, 23] (by decide +kernel) (by simp) ?_
              intro zz hzz
              simp only [List.mem_cons, List.not_mem_nil, or_false] at hzz
              rcases hzz with rfl | rfl
              · refine d1_act rfl rfl rfl rfl (a_buildS (sz := 1) (cs := [byteV mb, .int .u8 1]) [.tmp 66, .const (.int .u8 1)] rfl rfl rfl rfl rfl rfl rfl rfl rfl rfl) ?_
                rintro v' H' ⟨y, rfl, rfl⟩
                refine ⟨fun w hw => held_of hw (Fz.le_refl _) (by simp [LgH]), ?_⟩
                refine d_take (i := 22) rfl rfl rfl (by decide +kernel) (by decide +kernel) (by decide +kernel) (Fz.le_refl _) (by simp [LgH]) rfl (v_build rfl rfl) ?_
                refine d_one (i := 23) (by decide +kernel) ?_
                refine d1_act rfl rfl rfl rfl (a_alloc rfl) ?_
                rintro v' H' ⟨x, rfl, rfl⟩
                refine ⟨fun w hw => held_of hw (Fz.le_refl _) (by simp [LgH]), ?_⟩
                refine j_perm (H' := .mem x [.int .u64 0, .int .u64 0, .int .u8 0, .slice none 0 0] 4 :: .mem y (bytesV [mb, 1]) 2 :: LgH a ix tm n bf l (bl.ents 4 (enV m) ++ [S])) (by first | exact .refl _ | exact .swap _ _ _) ?_
                refine d_one (i := 24) (by decide +kernel) ?_
                refine d1_act0 rfl rfl rfl (a_store (sz := 4) 0 rfl rfl rfl rfl rfl rfl (Nat.le_of_ble_eq_true rfl)) (fun w hw => held_of hw (Fz.le_refl _) (by simp [LgH])) ?_
                refine d_end (by decide +kernel) ?_
                refine j_perm (.swap _ _ _) ?_
                refine j_keep ?_ (J (x, y) trivial)
                exact ⟨rfl, rfl, rfl, rfl, rfl, rfl, rfl, trivial⟩
              · refine d1_act rfl rfl rfl rfl (a_alloc rfl) ?_
                rintro v' H' ⟨x, rfl, rfl⟩
                refine ⟨fun w hw => held_of hw (Fz.le_refl _) (by simp [LgH]), ?_⟩
                refine d_one (i := 21) (by decide +kernel) ?_
                refine d1_act rfl rfl rfl rfl (a_buildS (sz := 1) (cs := [byteV mb, .int .u8 1]) [.tmp 66, .const (.int .u8 1)] rfl rfl rfl rfl rfl rfl rfl rfl rfl rfl) ?_
                rintro v' H' ⟨y, rfl, rfl⟩
                refine ⟨fun w hw => held_of hw (Fz.le_refl _) (by simp [LgH]), ?_⟩
                refine d_take (i := 22) rfl rfl rfl (by decide +kernel) (by decide +kernel) (by decide +kernel) (Fz.le_refl _) (by simp [LgH]) rfl (v_build rfl rfl) ?_
                refine j_perm (H' := .mem x [.int .u64 0, .int .u64 0, .int .u8 0, .slice none 0 0] 4 :: .mem y (bytesV [mb, 1]) 2 :: LgH a ix tm n bf l (bl.ents 4 (enV m) ++ [S])) (by first | exact .refl _ | exact .swap _ _ _) ?_
                refine d_one (i := 24) (by decide +kernel) ?_
                refine d1_act0 rfl rfl rfl (a_store (sz := 4) 0 rfl rfl rfl rfl rfl rfl (Nat.le_of_ble_eq_true rfl)) (fun w hw => held_of hw (Fz.le_refl _) (by simp [LgH])) ?_
                refine d_end (by decide +kernel) ?_
                refine j_perm (.swap _ _ _) ?_
                refine j_keep ?_ (J (x, y) trivial)
                exact ⟨rfl, rfl, rfl, rfl, rfl, rfl, rfl, trivial⟩
            · refine d1_act rfl rfl rfl rfl (a_buildS (sz := 1) (cs := [byteV mb, .int .u8 1]) [.tmp 66, .const (.int .u8 1)] rfl rfl rfl rfl rfl rfl rfl rfl rfl rfl) ?_
              rintro v' H' ⟨y, rfl, rfl⟩
              refine ⟨fun w hw => held_of hw (Fz.le_refl _) (by simp [LgH]), ?_⟩
              refine d_all [8, 23] (by decide +kernel) (by simp) ?_
              intro zz hzz
              simp only [List.mem_cons, List.not_mem_nil, or_false] at hzz
              rcases hzz with rfl | rfl
              · refine d1_call rfl rfl rfl rfl (c_call callable14 rfl) (does_same (by first | exact .refl _ | exact permL [_] .. | exact permL [_, _] ..) (lg_LastTerm _ _ a ix tm n bf l _ (by omega) hokf)) ?_
                rintro v' F5 H' ⟨rfl, rfl, rfl⟩ _
                refine ⟨fun w hw => held_of hw (Fz.le_refl _) (by simp [LgH]), ?_⟩
                refine d_take (i := 15) rfl rfl rfl (by decide +kernel) (by decide +kernel) (by decide +kernel) (Fz.le_refl _) (by simp [LgH]) rfl (v_add rfl rfl (r := ((lgLastTerm ix tm l + mb.toNat % 2 : Nat) : Int)) (wrap_u64 (by omega) (by omega))) ?_
                refine d_take (i := 22) rfl rfl rfl (by decide +kernel) (by decide +kernel) (by decide +kernel) (Fz.le_refl _) (by simp [LgH]) rfl (v_build rfl rfl) ?_
                refine d_one (i := 23) (by decide +kernel) ?_
                refine d1_act rfl rfl rfl rfl (a_alloc rfl) ?_
                rintro v' H' ⟨x, rfl, rfl⟩
                refine ⟨fun w hw => held_of hw (Fz.le_refl _) (by simp [LgH]), ?_⟩
                refine j_perm (H' := .mem x [.int .u64 0, .int .u64 0, .int .u8 0, .slice none 0 0] 4 :: .mem y (bytesV [mb, 1]) 2 :: LgH a ix tm n bf l (bl.ents 4 (enV m) ++ [S])) (by first | exact .refl _ | exact .swap _ _ _) ?_
                refine d_one (i := 24) (by decide +kernel) ?_
                refine d1_act0 rfl rfl rfl (a_store (sz := 4) 0 rfl rfl rfl rfl rfl rfl (Nat.le_of_ble_eq_true rfl)) (fun w hw => held_of hw (Fz.le_refl _) (by simp [LgH])) ?_
                refine d_end (by decide +kernel) ?_
                refine j_perm (.swap _ _ _) ?_
                refine j_keep ?_ (J (x, y) trivial)
                exact ⟨rfl, rfl, rfl, rfl, rfl, rfl, rfl, trivial⟩
              · refine d1_act rfl rfl rfl rfl (a_alloc rfl) ?_
                rintro v' H' ⟨x, rfl, rfl⟩
                refine ⟨fun w hw => held_of hw (Fz.le_refl _) (by simp [LgH]), ?_⟩
                refine d_one (i := 8) (by decide +kernel) ?_
                refine d1_call rfl rfl rfl rfl (c_call callable14 rfl) (does_same (by first | exact .refl _ | exact permL [_] .. | exact permL [_, _] ..) (lg_LastTerm _ _ a ix tm n bf l _ (by omega) hokf)) ?_
                rintro v' F5 H' ⟨rfl, rfl, rfl⟩ _
                refine ⟨fun w hw => held_of hw (Fz.le_refl _) (by simp [LgH]), ?_⟩
                refine d_take (i := 15) rfl rfl rfl (by decide +kernel) (by decide +kernel) (by decide +kernel) (Fz.le_refl _) (by simp [LgH]) rfl (v_add rfl rfl (r := ((lgLastTerm ix tm l + mb.toNat % 2 : Nat) : Int)) (wrap_u64 (by omega) (by omega))) ?_
                refine d_take (i := 22) rfl rfl rfl (by decide +kernel) (by decide +kernel) (by decide +kernel) (Fz.le_refl _) (by simp [LgH]) rfl (v_build rfl rfl) ?_
                refine j_perm (H' := .mem x [.int .u64 0, .int .u64 0, .int .u8 0, .slice none 0 0] 4 :: .mem y (bytesV [mb, 1]) 2 :: LgH a ix tm n bf l (bl.ents 4 (enV m) ++ [S])) (by first | exact .refl _ | exact .swap _ _ _) ?_
                refine d_one (i := 24) (by decide +kernel) ?_
                refine d1_act0 rfl rfl rfl (a_store (sz := 4) 0 rfl rfl rfl rfl rfl rfl (Nat.le_of_ble_eq_true rfl)) (fun w hw => held_of hw (Fz.le_refl _) (by simp [LgH])) ?_
                refine d_end (by decide +kernel) ?_
                refine j_perm (.swap _ _ _) ?_
                refine j_keep ?_ (J (x, y) trivial)
                exact ⟨rfl, rfl, rfl, rfl, rfl, rfl, rfl, trivial⟩
            · refine d1_act rfl rfl rfl rfl (a_alloc rfl) ?_
              rintro v' H' ⟨x, rfl, rfl⟩
              refine ⟨fun w hw => held_of hw (Fz.le_refl _) (by simp [LgH]), ?_⟩
              refine d_all [8, 21] (by decide +kernel) (by simp) ?_
              intro zz hzz
              simp only [List.mem_cons, List.not_mem_nil, or_false] at hzz
              rcases hzz with rfl | rfl
              · refine d1_call rfl rfl rfl rfl (c_call callable14 rfl) (does_same (by first | exact .refl _ | exact permL [_] .. | exact permL [_, _] ..) (lg_LastTerm _ _ a ix tm n bf l _ (by omega) hokf)) ?_
                rintro v' F5 H' ⟨rfl, rfl, rfl⟩ _
                refine ⟨fun w hw => held_of hw (Fz.le_refl _) (by simp [LgH]), ?_⟩
                refine d_take (i := 15) rfl rfl rfl (by decide +kernel) (by decide +kernel) (by decide +kernel) (Fz.le_refl _) (by simp [LgH]) rfl (v_add rfl rfl (r := ((lgLastTerm ix tm l + mb.toNat % 2 : Nat) : Int)) (wrap_u64 (by omega) (by omega))) ?_
                refine d_one (i := 21) (by decide +kernel) ?_
                refine d1_act rfl rfl rfl rfl (a_buildS (sz := 1) (cs := [byteV mb, .int .u8 1]) [.tmp 66, .const (.int .u8 1)] rfl rfl rfl rfl rfl rfl rfl rfl rfl rfl) ?_
                rintro v' H' ⟨y, rfl, rfl⟩
                refine ⟨fun w hw => held_of hw (Fz.le_refl _) (by simp [LgH]), ?_⟩
                refine d_take (i := 22) rfl rfl rfl (by decide +kernel) (by decide +kernel) (by decide +kernel) (Fz.le_refl _) (by simp [LgH]) rfl (v_build rfl rfl) ?_
                refine j_perm (H' := .mem x [.int .u64 0, .int .u64 0, .int .u8 0, .slice none 0 0] 4 :: .mem y (bytesV [mb, 1]) 2 :: LgH a ix tm n bf l (bl.ents 4 (enV m) ++ [S])) (by first | exact .refl _ | exact .swap _ _ _) ?_
                refine d_one (i := 24) (by decide +kernel) ?_
                refine d1_act0 rfl rfl rfl (a_store (sz := 4) 0 rfl rfl rfl rfl rfl rfl (Nat.le_of_ble_eq_true rfl)) (fun w hw => held_of hw (Fz.le_refl _) (by simp [LgH])) ?_
                refine d_end (by decide +kernel) ?_
                refine j_perm (.swap _ _ _) ?_
                refine j_keep ?_ (J (x, y) trivial)
                exact ⟨rfl, rfl, rfl, rfl, rfl, rfl, rfl, trivial⟩
              · refine d1_act rfl rfl rfl rfl (a_buildS (sz := 1) (cs := [byteV mb, .int .u8 1]) [.tmp 66, .const (.int .u8 1)] rfl rfl rfl rfl rfl rfl rfl rfl rfl rfl) ?_
                rintro v' H' ⟨y, rfl, rfl⟩
                refine ⟨fun w hw => held_of hw (Fz.le_refl _) (by simp [LgH]), ?_⟩
                refine d_one (i := 8) (by decide +kernel) ?_
                refine d1_call rfl rfl rfl rfl (c_call callable14 rfl) (does_same (by first | exact .refl _ | exact permL [_] .. | exact permL [_, _] ..) (lg_LastTerm _ _ a ix tm n bf l _ (by omega) hokf)) ?_
                rintro v' F5 H' ⟨rfl, rfl, rfl⟩ _
                refine ⟨fun w hw => held_of hw (Fz.le_refl _) (by simp [LgH]), ?_⟩
                refine d_take (i := 15) rfl rfl rfl (by decide +kernel) (by decide +kernel) (by decide +kernel) (Fz.le_refl _) (by simp [LgH]) rfl (v_add rfl rfl (r := ((lgLastTerm ix tm l + mb.toNat % 2 : Nat) : Int)) (wrap_u64 (by omega) (by omega))) ?_
                refine d_take (i := 22) rfl rfl rfl (by decide +kernel) (by decide +kernel) (by decide +kernel) (Fz.le_refl _) (by simp [LgH]) rfl (v_build rfl rfl) ?_
                refine j_perm (H' := .mem x [.int .u64 0, .int .u64 0, .int .u8 0, .slice none 0 0] 4 :: .mem y (bytesV [mb, 1]) 2 :: LgH a ix tm n bf l (bl.ents 4 (enV m) ++ [S])) (by first | exact .refl _ | exact .swap _ _ _) ?_
                refine d_one (i := 24) (by decide +kernel) ?_
                refine d1_act0 rfl rfl rfl (a_store (sz := 4) 0 rfl rfl rfl rfl rfl rfl (Nat.le_of_ble_eq_true rfl)) (fun w hw => held_of hw (Fz.le_refl _) (by simp [LgH])) ?_
                refine d_end (by decide +kernel) ?_
                refine j_perm (.swap _ _ _) ?_
                refine j_keep ?_ (J (x, y) trivial)
                exact ⟨rfl, rfl, rfl, rfl, rfl, rfl, rfl, trivial⟩
          · rintro ⟨x, y⟩ _
            dsimp only
            refine j_freezeBf (bf := .at y 2) (sz := 1) (n := 2) (cs := bytesV [mb, 1]) (Nat.le_refl _) rfl fun F4 hF4 hs4 => ?_
            obtain ⟨e, hedef⟩ : ∃ e : En, e = ⟨ix + m.length + 1, lgLastTerm ix tm l + mb.toNat % 2, if vo = true then 1 else 0, .slice (some ⟨y, 0, none⟩) 2 2, [mb, 1]⟩ := ⟨_, rfl⟩
            have heok : e.ok F4 := by rw [hedef]; exact ⟨by dsimp only; omega, by dsimp only; omega, by dsimp only; split <;> omega, hs4⟩
            have hec : e.cells = [.int .u64 (ix + m.length + 1 : Nat), .int .u64 (lgLastTerm ix tm l + mb.toNat % 2 : Nat), .int .u8 (if vo = true then 1 else 0 : Nat), .slice (some ⟨y, 0, none⟩) 2 2] := by rw [hedef]; rfl
            refine j_heap (H' := .mem x e.cells 4 :: LgE a ix tm n bf l.length :: (bf.ents 4 (enV l) ++ (bl.ents 4 (enV m) ++ [S]))) (by rw [hec]) ?_
            refine j_sel (H' := LgE a ix tm n bf l.length :: (bf.ents 4 (enV l) ++ (.mem x e.cells 4 :: (bl.ents 4 (enV m) ++ ([S]))))) [[.mem x e.cells 4], [LgE a ix tm n bf l.length], bf.ents 4 (enV l), bl.ents 4 (enV m), [S]] [1, 2, 0, 3, 4] rfl rfl rfl ?_
            have hcx : ∀ F H j c, Ent.mem x e.cells 4 ∈ H → e.cells[j]? = some c → Cell F H x (0 + j) c := fun F H j c hm hc => by
              rw [Nat.zero_add]
              exact cell_own hm hc
            refine r_seq ?_
            refine r_seq ?_
            refine d_region 1000000 rfl ([.mem x e.cells 4]) ?_
            refine d_take (i := 0) rfl rfl rfl (by decide +kernel) (by decide +kernel) (by decide +kernel) (Fz.le_refl _) (by simp) rfl (v_move rfl) ?_
            refine d_take (i := 1) rfl rfl rfl (by decide +kernel) (by decide +kernel) (by decide +kernel) (Fz.le_refl _) (by simp) rfl (v_field (k := 1) rfl rfl rfl) ?_
            refine d_take (i := 2) rfl rfl rfl (by decide +kernel) (by decide +kernel) (by decide +kernel) (Fz.le_refl _) (by simp) rfl (v_load (v := .int .u64 (lgLastTerm ix tm l + mb.toNat % 2 : Nat)) rfl rfl (hcx _ _ 1 _ (by simp) (by rw [hec]; rfl))) ?_
            refine d_take (i := 3) rfl rfl rfl (by decide +kernel) (by decide +kernel) (by decide +kernel) (Fz.le_refl _) (by simp) rfl (v_field (k := 2) rfl rfl rfl) ?_
            refine d_take (i := 4) rfl rfl rfl (by decide +kernel) (by decide +kernel) (by decide +kernel) (Fz.le_refl _) (by simp) rfl (v_load (v := .int .u8 (if vo = true then 1 else 0 : Nat)) rfl rfl (hcx _ _ 2 _ (by simp) (by rw [hec]; rfl))) ?_
            refine d_take (i := 5) rfl rfl rfl (by decide +kernel) (by decide +kernel) (by decide +kernel) (Fz.le_refl _) (by simp) rfl (v_field (k := 3) rfl rfl rfl) ?_
            refine d_take (i := 6) rfl rfl rfl (by decide +kernel) (by decide +kernel) (by decide +kernel) (Fz.le_refl _) (by simp) rfl (v_load (v := .slice (some ⟨y, 0, none⟩) 2 2) rfl rfl (hcx _ _ 3 _ (by simp) (by rw [hec]; rfl))) ?_
            refine d_take (i := 8) rfl rfl rfl (by decide +kernel) (by decide +kernel) (by decide +kernel) (Fz.le_refl _) (by simp) rfl (v_field (k := 0) rfl rfl rfl) ?_
            refine d_take (i := 9) rfl rfl rfl (by decide +kernel) (by decide +kernel) (by decide +kernel) (Fz.le_refl _) (by simp) rfl (v_load (v := .int .u64 (ix + m.length + 1 : Nat)) rfl rfl (hcx _ _ 0 _ (by simp) (by rw [hec]; rfl))) ?_
            refine d_one (i := 7) (by decide +kernel) ?_
            refine d1_call rfl rfl rfl rfl (c_call callable22 rfl) (lg_Put _ _ a ix tm n bf l (lgLastTerm ix tm l + mb.toNat % 2) (if vo = true then 1 else 0) _ [mb, 1] (.mem x e.cells 4 :: (bl.ents 4 (enV m) ++ [S])) hokf (by omega) (by omega) (by omega) (by split <;> omega) hs4 (by simp)) ?_
            rintro v' F5 H' ⟨rfl, e', bf', hek, hei, het, hekd, hed, hokf', rfl⟩ hF5
            refine ⟨fun w hw => held_of hw hF5 (by simp [LgH]), ?_⟩
            refine d_take (i := 10) rfl rfl rfl (by decide +kernel) (by decide +kernel) (by decide +kernel) hF5 (by simp [LgH]) rfl (v_neq rfl rfl) ?_
            refine j_slot 79 rfl (v' := .bool false) (by rw [hlen]; simp) ?_
            refine d_end (by decide +kernel) ?_
            refine r_false rfl ?_
            refine j_heap (H' := LgE a ix tm n bf' (l ++ [e']).length :: (bf'.ents 4 (enV (l ++ [e'])) ++ (.mem x e.cells 4 :: (bl.ents 4 (enV m) ++ [S])))) rfl ?_
            refine j_sel (H' := .mem x e.cells 4 :: (bl.ents 4 (enV m) ++ (LgE a ix tm n bf' (l ++ [e']).length :: (bf'.ents 4 (enV (l ++ [e'])) ++ ([S]))))) [[LgE a ix tm n bf' (l ++ [e']).length], bf'.ents 4 (enV (l ++ [e'])), [.mem x e.cells 4], bl.ents 4 (enV m), [S]] [2, 3, 0, 1, 4] rfl rfl rfl ?_
            refine r_skip ?_
            refine r_region rfl ?_
            refine o_val rfl rfl rfl rfl (v_move rfl) ?_
            refine o_val rfl rfl rfl rfl (v_loadAgg (sz := 4) (cs := e.cells) rfl rfl rfl rfl (fun j c hc => hcx _ _ j c (by simp) hc)) ?_
            refine o_act rfl rfl rfl rfl (a_buildS (sz := 4) (cs := e.cells) [.tmp 81] rfl rfl rfl rfl rfl rfl rfl rfl rfl rfl) ?_
            rintro v' H' ⟨y2, rfl, rfl⟩
            refine o_act rfl rfl rfl rfl (a_appendP (bf := bl) (n := m.length) (sz := 4) (bytes := 48) [.mem y2 e.cells 4, .mem x e.cells 4] ⟨⟨_, _, _, rfl, rfl, rfl, rfl, rfl, rfl⟩, by decide⟩ rfl hokl (by rw [enV_length]) rfl rfl (sl_lit (e := e) (List.mem_cons_self ..)) (by simpa [enV] using heok.one) (by unfold maxLen; omega) (by omega)) ?_
            rintro v' H' ⟨bl2, rfl, hokl2, rfl⟩
            rw [← enV_append]
            refine j_sel (H' := LgE a ix tm n bf' (l ++ [e']).length :: (bf'.ents 4 (enV (l ++ [e'])) ++ (bl2.ents 4 (enV (m ++ [e])) ++ ([S])))) [[.mem y2 e.cells 4], [.mem x e.cells 4], bl2.ents 4 (enV (m ++ [e])), [LgE a ix tm n bf' (l ++ [e']).length], bf'.ents 4 (enV (l ++ [e'])), [S]] [3, 4, 2, 5] rfl rfl rfl ?_
            refine o_val rfl rfl rfl rfl (v_assign rfl) ?_
            refine o_end ?_
            refine r_inBlock ?_
            refine r_region rfl ?_
            refine o_val rfl rfl rfl rfl (v_move rfl) ?_
            refine o_val rfl rfl rfl rfl (v_add rfl rfl (wrap_i64 (by omega) (by omega))) ?_
            refine o_val rfl rfl rfl rfl (v_assign rfl) ?_
            refine o_end ?_
            have hJ := IH ⟨i + 1, bf', bl2, l ++ [e'], m ++ [e], F5⟩ ⟨Fz.le_trans hF3 (Fz.le_trans hF4 hF5), by dsimp only; omega, hokf', by simpa using hokl2, by simp [hll]; omega, hlk.snoc ⟨by rw [hei, hedef, hlen], by rw [het, hedef], by rw [hekd, hedef], by rw [hed, hedef]⟩,
              fun q hq => by
                rcases List.mem_append.1 hq with hq | hq
                · exact (hel q hq).frz (Fz.le_trans hF4 hF5)
                · rw [List.mem_singleton.1 hq]; exact hek,
              fun q hq => by
                rcases List.mem_append.1 hq with hq | hq
                · exact (hem q hq).frz (Fz.le_trans hF4 hF5)
                · rw [List.mem_singleton.1 hq]; exact heok.frz hF5,
              fun q hq => by
                rcases List.mem_append.1 hq with hq | hq
                · exact hdl q hq
                · rw [List.mem_singleton.1 hq, hed]; simp,
              by
                dsimp only
                rw [lgLastTerm_pos _ _ _ (by simp)]
                simp only [List.length_append, List.length_singleton, Nat.add_sub_cancel]
                rw [List.getElem_append_right (by omega)]
                simp only [Nat.sub_self, List.getElem_singleton]
                omega⟩ (by dsimp only; omega)
            dsimp only at hJ
            rw [List.length_append, List.length_singleton] at hJ
            refine j_keep ?_ hJ
            exact ⟨rfl, rfl, rfl, rfl, rfl, rfl, trivial⟩
        · have hpf : (LgH a ix tm n bf l (bl.ents 4 (enV m) ++ [S])).Perm (bl.ents 4 (enV m) ++ LgH a ix tm n bf l [S]) := by
            show ((LgE a ix tm n bf l.length :: bf.ents 4 (enV l)) ++ (bl.ents 4 (enV m) ++ [S])).Perm _
            rw [← List.append_assoc]
            refine (List.Perm.append_right [S] List.perm_append_comm).trans ?_
            rw [List.append_assoc]
            exact List.Perm.refl _
          refine j_perm hpf ?_
          refine j_freezeBf hokl (by rw [enV_length]) fun F4 hF4 hs4 => ?_
          refine r_exit rfl ?_
          refine r_seq ?_
          refine r_region rfl ?_
          refine o_val rfl rfl rfl rfl (v_move rfl) ?_
          refine o_val rfl rfl rfl rfl (v_loadAgg (sz := 4) (cs := [.int .u64 ix, .int .u64 tm, .int .u64 n, .slice none 0 0]) rfl rfl rfl rfl (fun j c hc => hcs _ _ j c (by simp [LgH]) hc)) ?_
          refine o_val rfl rfl rfl rfl (v_move rfl) ?_
          refine o_call rfl rfl rfl rfl (c_call callable21 rfl) (law_told _ _ a ix tm n bf l m (.slice none 0 0) _ [S] hokf (fun e he => (hel e he).frz hF4) (fun e he => (hem e he).frz hF4) hlk (by omega) (by omega) hdl hs4 rfl) ?_
          rintro v' F5 H' ⟨rfl, rfl⟩ hF5
          refine o_val rfl rfl rfl rfl (v_assign rfl) ?_
          refine o_end ?_
          exact r_ret1 Try.func6 rfl rfl ⟨rfl, Fz.le_trans hF1 (Fz.le_trans hF2 (Fz.le_trans hF3 (Fz.le_trans hF4 hF5)))⟩
    · exact absurd (hens.new (by omega)) hbad
theorem in_LogsPuts (W : World) (n : Int) (hn : (Lit.int .u8 n).wf = true) (v : Value) (z0 : List Int) (h0 : InInts .u8 W v z0) (y0 : z0.length * 1 ≤ 140737488351232) (u : Value) (z1 : List Int) (h1 : InInts .u8 W u z1) (y1 : z1.length * 1 ≤ 140737488351232)
    (t : Value) (z2 : List Int) (h2 : InInts .u8 W t z2) (y2 : z2.length * 1 ≤ 140737488351232) (b : Bool) :
    Calls Try.prog 6 #[.int .u8 n, v, u, t, .bool b] W fun e w' => e = .returned (.bool true) ∧ Go.RowKit.Below W.heap.size W w' := by
  obtain ⟨l0, hl0, hv⟩ := inBytes h0
  obtain ⟨l1, hl1, hu⟩ := inBytes h1
  obtain ⟨l2, hl2, ht⟩ := inBytes h2
  simp [Lit.wf, IntKind.min, IntKind.max, IntKind.signed, IntKind.bits] at hn
  obtain ⟨n, rfl⟩ := Int.eq_ofNat_of_zero_le hn.1
  exact below_of_does (law_LogsPuts _ _ n _ _ _ l0 l1 l2 b (by omega) hv hu ht)
end Go.SX
