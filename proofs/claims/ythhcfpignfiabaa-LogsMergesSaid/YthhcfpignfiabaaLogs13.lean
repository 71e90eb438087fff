/-
  Chapter 09: the law LogsMerges.
-/
import Derived.Test.YthhcfpignfiabaaLogs12
namespace Go.SX
open Go Go.Proofs
set_option linter.unusedSimpArgs false
set_option linter.unusedVariables false

theorem mg_mem (ix tm : Nat) (l : List En) : ∀ (m : List En) (e : En), e ∈ (mg ix tm l m).2 → e ∈ l ∨ e ∈ m
  | [], e, h => .inl h
  | x :: r, e, h => by
    rw [mg] at h
    split at h
    · exact (mg_mem ix tm l r e h).imp id (List.mem_cons_of_mem _)
    · split at h
      · exact (mg_mem ix tm l r e h).imp id (List.mem_cons_of_mem _)
      · split at h
        · exact .inl h
        · rcases List.mem_append.1 h with h | h
          · exact .inl (List.mem_of_mem_take h)
          · exact .inr h
theorem mg_len (ix tm : Nat) (l : List En) : ∀ (m : List En), (mg ix tm l m).2.length ≤ l.length + m.length
  | [] => Nat.le_refl _
  | x :: r => by
    have ih := mg_len ix tm l r
    rw [mg]
    split
    · simp only [List.length_cons]; omega
    · split
      · simp only [List.length_cons]; omega
      · split
        · simp only [List.length_cons]; omega
        · simp only [List.length_append, List.length_take, List.length_cons]; omega
theorem enV_take (l : List En) (k : Nat) (hk : k ≤ l.length) : (enV l).take (k * 4) = enV (l.take k) := by
  have e1 : enV l = enV (l.take k) ++ enV (l.drop k) := by rw [← enV_append, List.take_append_drop]
  rw [e1]
  exact List.take_left' (by rw [enV_length, List.length_take, Nat.min_eq_left hk])
theorem lgTerm_at (ix tm : Nat) (l : List En) (j : Nat) (hj : 0 < j) : lgTerm ix tm l (ix + j) = if h : j - 1 < l.length then (l[j - 1].tm, true) else (0, false) := by
  unfold lgTerm
  by_cases h : j - 1 < l.length
  · have e : ix + j - ix - 1 = j - 1 := by omega
    rw [if_neg (by omega), if_neg (by omega), dif_pos h, e, List.getElem?_eq_getElem h]
    rfl
  · rw [if_pos (by omega), dif_neg h]

structure CG where
  i : Nat
  bc : Bf
  cm : List En
  F : Fz
structure CG.ok (F : Fz) (ix k n : Nat) (g : CG) : Prop where
  le : F.le g.F
  i : g.i ≤ n ∧ g.i ≤ 12
  okc : g.bc.ok g.cm.length
  len : g.cm.length = g.i
  el : ∀ e ∈ g.cm, e.ok g.F
  at' : ∀ (j : Nat) (h : j < g.cm.length), g.cm[j].ix = ix + (k + j)
  data : ∀ e ∈ g.cm, e.data.length ≤ 1000000

set_option maxHeartbeats 2000000 in
theorem law_LogsMerges (O : World) (F : Fz) (n : Nat) (v u : Value) (terms kinds : List UInt8) (frm turn : Nat) (t : Value) (others : List UInt8) (hn : n < 256) (hfr : frm < 256) (htu : turn < 256) (hv : SlB F [] v terms) (hu : SlB F [] u kinds) (ht : SlB F [] t others) :
    Does Try.prog O 8 #[.int .u8 n, v, u, .int .u8 frm, .int .u8 turn, t] F [] (fun r _ _ => r = .bool true) := by
  obtain ⟨a0, cap, rfl, hcap⟩ := Sl.shape hv
  obtain ⟨a1, cap1, rfl, hcap1⟩ := Sl.shape hu
  obtain ⟨a2, cap2, rfl, hcap2⟩ := Sl.shape ht
  refine does_of_run (args := [_, _, _, _, _, _]) Try.func8 rfl rfl ?_
  refine r_seq ?_
  refine r_region rfl ?_
  refine o_val rfl rfl rfl rfl (v_assign rfl) ?_
  refine o_end ?_
  refine r_seq ?_
  refine r_seq ?_
  refine r_region rfl ?_
  refine o_call rfl rfl rfl rfl (c_call callable10 rfl) (law_awake _ _ _) ?_
  rintro v' F1 H' ⟨rfl, rfl⟩ hF1
  refine o_val rfl rfl rfl rfl (v_not rfl) ?_
  refine o_end ?_
  refine r_false rfl ?_
  refine r_skip ?_
  refine r_seq ?_
  refine r_region rfl ?_
  refine o_val rfl rfl rfl rfl (v_move rfl) ?_
  refine o_call rfl rfl rfl rfl (c_call callable11 rfl) (law_snap _ _ n _ hn) ?_
  rintro v' F1 H' ⟨rfl, rfl, rfl⟩ _
  refine o_act rfl rfl rfl rfl (a_alloc rfl) ?_
  rintro v' H' ⟨s, rfl, rfl⟩
  refine o_act0 rfl rfl rfl (a_store (sz := 4) 0 rfl rfl rfl rfl rfl rfl (Nat.le_of_ble_eq_true rfl)) ?_
  obtain ⟨ix, hix⟩ : ∃ ix, ix = n % 7 := ⟨_, rfl⟩
  obtain ⟨tm, htm⟩ : ∃ tm, tm = n % 2 := ⟨_, rfl⟩
  obtain ⟨S, hS⟩ : ∃ S, S = Ent.mem s [.int .u64 ix, .int .u64 tm, .int .u64 n, .slice none 0 0] 4 := ⟨_, rfl⟩
  have hcs : ∀ F H j c, S ∈ H → [Value.int .u64 ix, .int .u64 tm, .int .u64 n, .slice none 0 0][j]? = some c → Cell F H s (0 + j) c := fun F H j c hm hc => by
    rw [hS] at hm
    rw [Nat.zero_add]
    exact cell_own hm hc
  refine j_heap (H' := [S]) (by rw [hS, hix, htm]; rfl) ?_
  refine o_end ?_
  refine r_seq ?_
  refine r_region rfl ?_
  refine o_val rfl rfl rfl rfl (v_field (k := 0) rfl rfl rfl) ?_
  refine o_val rfl rfl rfl rfl (v_load (v := .int .u64 ix) rfl rfl (hcs _ _ 0 _ (by simp) rfl)) ?_
  refine o_val rfl rfl rfl rfl (v_move rfl) ?_
  refine o_val rfl rfl rfl rfl (v_move rfl) ?_
  refine o_call rfl rfl rfl rfl (c_call callable12 rfl) (law_entries _ _ ix _ _ terms kinds _ (hv.frz hF1) (hu.frz hF1) (by omega)) ?_
  rintro v' F2 H' ⟨hF2, es, bfe, hes, hens, hoke, rfl, rfl⟩ _
  have hesl : es.length ≤ 30 := by omega
  refine o_val rfl rfl rfl rfl (v_assign rfl) ?_
  refine o_end ?_
  refine r_seq ?_
  refine r_region rfl ?_
  refine o_val rfl rfl rfl rfl (v_loadAgg (sz := 4) (cs := [.int .u64 ix, .int .u64 tm, .int .u64 n, .slice none 0 0]) rfl rfl rfl rfl (fun j c hc => hcs _ _ j c (by simp) hc)) ?_
  refine o_val rfl rfl rfl rfl (v_move rfl) ?_
  refine o_call rfl rfl rfl rfl (c_call callable13 rfl) (lg_New _ _ ix tm n (.slice none 0 0) _ es _ (Bf.reads (bf := bfe) (sz := 4) (n := es.length) hoke (by rw [enV_length]) (by intro q hq; exact List.mem_append_left _ hq)) hens.ok (by omega) (by omega)) ?_
  rintro v' F2 H' ⟨rfl, hnew⟩ _
  have hnw : lgNew ix tm es := hens.new (by omega)
  have hmod : (frm : Int).tmod ((es.length : Int) + 3) = ((frm % (es.length + 3) : Nat) : Int) := rfl
  have hkl := Nat.mod_lt frm (show 0 < es.length + 3 by omega)
  have hm8 : (turn : Int).tmod 8 = ((turn % 8 : Nat) : Int) := rfl
  obtain ⟨k, hk⟩ : ∃ k, k = frm % (es.length + 3) := ⟨_, rfl⟩
  rw [← hk] at hmod hkl
  rcases hnew with ⟨_, a, bf, hok, rfl, rfl⟩ | ⟨hbad, _⟩
  · refine j_heap (H' := LgE a ix tm n bf es.length :: (bf.ents 4 (enV es) ++ (bfe.ents 4 (enV es) ++ [S]))) rfl ?_
    refine j_sel (H' := bfe.ents 4 (enV es) ++ (LgE a ix tm n bf es.length :: (bf.ents 4 (enV es) ++ ([S])))) [[LgE a ix tm n bf es.length], bf.ents 4 (enV es), bfe.ents 4 (enV es), [S]] [2, 0, 1, 3] rfl rfl rfl ?_
    refine j_freezeBf hoke (by rw [enV_length]) fun F3 hF3 hs3 => ?_
    have heok : ∀ e ∈ es, e.ok F3 := fun e he => (hens.ok e he).frz hF3
    have hix9 : ∀ (i : Nat) (h : i < es.length), es[i].ix = ix + i + 1 := fun i h => (hens.is i h).1
    have hFF := Fz.le_trans hF1 (Fz.le_trans hF2 hF3)
    have hot := ht.frz (H := []) hFF
    obtain ⟨R0, hR0⟩ : ∃ R0, R0 = LgH a ix tm n bf es [S] := ⟨_, rfl⟩
    have hSR : S ∈ R0 := by rw [hR0]; simp [LgH]
    refine j_heap (H' := Bf.nil.ents 4 (enV []) ++ R0) (by rw [hR0]; rfl) ?_
    refine o_val rfl rfl rfl rfl (v_move rfl) ?_
    refine o_val rfl rfl rfl rfl (v_extract rfl rfl) ?_
    refine o_val rfl rfl rfl rfl (v_extract rfl rfl) ?_
    refine o_val rfl rfl rfl rfl (v_assign rfl) ?_
    refine o_val rfl rfl rfl rfl (v_assign rfl) ?_
    refine o_end ?_
    refine r_seq ?_
    refine r_region rfl ?_
    refine o_val rfl rfl rfl rfl (v_move rfl) ?_
    refine o_val rfl rfl rfl rfl (v_conv rfl rfl rfl (wrap_i64 (by omega) (by omega))) ?_
    refine o_val rfl rfl rfl rfl (v_move rfl) ?_
    refine o_val rfl rfl rfl rfl (v_len rfl rfl) ?_
    refine o_val rfl rfl rfl rfl (v_add rfl rfl (wrap_i64 (by omega) (by omega))) ?_
    refine o_val rfl rfl rfl rfl (v_rem rfl rfl (by omega) hmod) ?_
    refine o_val rfl rfl rfl rfl (v_assign rfl) ?_
    refine o_end ?_
    refine r_seq ?_
    refine r_region rfl ?_
    refine o_val rfl rfl rfl rfl (v_assign rfl) ?_
    refine o_end ?_
    refine r_seq ?_
    refine r_join (CG.ok F3 ix k others.length) (fun g => [(13, ptrV s), (14, bfe.val es.length), (15, ptrV a), (18, g.bc.val g.cm.length)]) (fun g => g.F) (fun g => g.bc.ents 4 (enV g.cm) ++ R0) ?_ ?_
    intro JL
    refine r_seq ?_
    refine r_region rfl ?_
    refine o_val rfl rfl rfl rfl (v_assign rfl) ?_
    refine o_end ?_
    refine r_block ?_
    refine r_loop (CG.ok F3 ix k others.length) (fun g => [(4, .int .u8 turn), (5, .slice a2 others.length cap2), (13, ptrV s), (14, bfe.val es.length), (15, ptrV a), (17, .int .i64 k), (18, g.bc.val g.cm.length), (19, .int .i64 g.i)]) (fun g => g.F) (fun g => g.bc.ents 4 (enV g.cm) ++ R0) (fun g => 12 - g.i)
      ⟨0, .nil, [], F3⟩ ⟨Fz.le_refl _, ⟨Nat.zero_le _, Nat.zero_le _⟩, rfl, rfl, by simp, fun j h => absurd h (by simp), by simp⟩ ⟨rfl, rfl, rfl, rfl, rfl, rfl, rfl, rfl, trivial⟩ rfl rfl ?_
    rintro ⟨i, bc, cm, F4⟩ ⟨hF4, hi, hokc, hcl, hce, hcx, hcd⟩ IH
    dsimp only at hF4 hi hokc hcl hce hcx hcd ⊢
    refine r_seq ?_
    refine r_seq ?_
    refine r_region rfl ?_
    refine o_val rfl rfl rfl rfl (v_move rfl) ?_
    refine o_val rfl rfl rfl rfl (v_move rfl) ?_
    refine o_val rfl rfl rfl rfl (v_len rfl rfl) ?_
    refine o_val rfl rfl rfl rfl (v_lss rfl rfl) ?_
    refine j_prop 52 rfl (fun h => ?_) (fun h => ?_)
    · refine o_val rfl rfl rfl rfl (v_move rfl) ?_
      refine o_val rfl rfl rfl rfl (v_move rfl) ?_
      refine o_val rfl rfl rfl rfl (v_lss rfl rfl) ?_
      refine o_val rfl rfl rfl rfl (v_pick1 rfl rfl) ?_
      refine o_end ?_
      refine r_if rfl (fun h2 => ?_) (fun h2 => ?_)
      · have hil : i < others.length := by omega
        obtain ⟨b2, off2, c2, hab, _, hcell⟩ := Sl.view (hot.frz (F' := F4) (H := []) hF4) (by omega)
        simp only [Value.slice.injEq] at hab
        obtain ⟨rfl, _, rfl⟩ := hab
        have hask : Cell F4 [] b2 (off2 + i) (byteV others[i]) := hcell i (byteV others[i]) (by rw [bytesV_get, List.getElem?_eq_getElem hil]; rfl)
        have hob := others[i].toNat_lt
        have hm2 : (others[i].toNat : Int).tmod 2 = ((others[i].toNat % 2 : Nat) : Int) := rfl
        generalize others[i] = ob at *
        refine r_skip ?_
        refine r_seq ?_
        refine r_block ?_
        refine r_seq ?_
        refine r_region rfl ?_
        refine o_val rfl rfl rfl rfl (v_field (k := 0) rfl rfl rfl) ?_
        refine o_val rfl rfl rfl rfl (v_load (v := .int .u64 ix) rfl rfl (hcs _ _ 0 _ (by simp [hSR]) rfl)) ?_
        refine o_val rfl rfl rfl rfl (v_move rfl) ?_
        refine o_val rfl rfl rfl rfl (v_move rfl) ?_
        refine o_val rfl rfl rfl rfl (v_add rfl rfl (r := ((k + i : Nat) : Int)) (wrap_i64 (by omega) (by omega))) ?_
        refine o_val rfl rfl rfl rfl (v_conv rfl rfl rfl (wrap_u64 (by omega) (by omega))) ?_
        refine o_val rfl rfl rfl rfl (v_add rfl rfl (r := ((ix + (k + i) : Nat) : Int)) (wrap_u64 (by omega) (by omega))) ?_
        refine o_val rfl rfl rfl rfl (v_assign rfl) ?_
        refine o_end ?_
        refine r_seq ?_
        refine r_join (fun q : Nat × Nat => True) (fun q => [(4, .int .u8 turn), (5, .slice (some ⟨b2, off2, none⟩) others.length cap2), (13, ptrV s), (14, bfe.val es.length), (15, ptrV a), (17, .int .i64 k), (18, bc.val cm.length), (19, .int .i64 i), (21, ptrV q.1)]) (fun _ => F4)
          (fun q => Ent.mem q.2 (bytesV [ob]) 1 :: Ent.mem q.1 [.int .u64 (ix + (k + i) : Nat), .int .u64 (50 + ob.toNat % 2 : Nat), .int .u8 (0 : Nat), .slice (some ⟨q.2, 0, none⟩) 1 1] 4 :: (bc.ents 4 (enV cm) ++ R0)) ?_ ?_
        · intro J
          refine d_region 1000000 rfl ([]) ?_
          refine d_take (i := 0) rfl rfl rfl (by decide +kernel) (by decide +kernel) (by decide +kernel) (Fz.le_refl _) (by simp) rfl (v_move rfl) ?_
          refine d_take (i := 1) rfl rfl rfl (by decide +kernel) (by decide +kernel) (by decide +kernel) (Fz.le_refl _) (by simp) rfl (v_move rfl) ?_
          refine d_take (i := 2) rfl rfl rfl (by decide +kernel) (by decide +kernel) (by decide +kernel) (Fz.le_refl _) (by simp) rfl (v_move rfl) ?_
          refine d_take (i := 3) rfl rfl rfl (by decide +kernel) (by decide +kernel) (by decide +kernel) (Fz.le_refl _) (by simp) rfl (v_index1 rfl rfl rfl rfl hil) ?_
          refine d_take (i := 4) rfl rfl rfl (by decide +kernel) (by decide +kernel) (by decide +kernel) (Fz.le_refl _) (by simp) rfl (v_load rfl rfl (hask.mono (Fz.le_refl _) (by simp))) ?_
          refine d_take (i := 5) rfl rfl rfl (by decide +kernel) (by decide +kernel) (by decide +kernel) (Fz.le_refl _) (by simp) rfl (v_rem rfl rfl (by decide) hm2) ?_
          refine d_take (i := 6) rfl rfl rfl (by decide +kernel) (by decide +kernel) (by decide +kernel) (Fz.le_refl _) (by simp) rfl (v_conv rfl rfl rfl (wrap_u64 (by omega) (by omega))) ?_
          refine d_take (i := 7) rfl rfl rfl (by decide +kernel) (by decide +kernel) (by decide +kernel) (Fz.le_refl _) (by simp) rfl (v_add rfl rfl (r := ((50 + ob.toNat % 2 : Nat) : Int)) (wrap_u64 (by omega) (by omega))) ?_
          refine d_take (i := 8) rfl rfl rfl (by decide +kernel) (by decide +kernel) (by decide +kernel) (Fz.le_refl _) (by simp) rfl (v_move rfl) ?_
          refine d_take (i := 9) rfl rfl rfl (by decide +kernel) (by decide +kernel) (by decide +kernel) (Fz.le_refl _) (by simp) rfl (v_move rfl) ?_
          refine d_take (i := 10) rfl rfl rfl (by decide +kernel) (by decide +kernel) (by decide +kernel) (Fz.le_refl _) (by simp) rfl (v_index1 rfl rfl rfl rfl hil) ?_
          refine d_take (i := 11) rfl rfl rfl (by decide +kernel) (by decide +kernel) (by decide +kernel) (Fz.le_refl _) (by simp) rfl (v_load rfl rfl (hask.mono (Fz.le_refl _) (by simp))) ?_
          refine d_all [12, 14] (by decide +kernel) (by simp) ?_
          intro zz hzz
          simp only [List.mem_cons, List.not_mem_nil, or_false] at hzz
          rcases hzz with rfl | rfl
          · refine d1_act rfl rfl rfl rfl (a_buildS (sz := 1) (cs := [byteV ob]) [.tmp 77] rfl rfl rfl rfl rfl rfl rfl rfl rfl rfl) ?_
            rintro v' H' ⟨y, rfl, rfl⟩
            refine ⟨fun w hw => held_of hw (Fz.le_refl _) (by simp), ?_⟩
            refine d_take (i := 13) rfl rfl rfl (by decide +kernel) (by decide +kernel) (by decide +kernel) (Fz.le_refl _) (by simp) rfl (v_build rfl rfl) ?_
            refine d_one (i := 14) (by decide +kernel) ?_
            refine d1_act rfl rfl rfl rfl (a_alloc rfl) ?_
            rintro v' H' ⟨x, rfl, rfl⟩
            refine ⟨fun w hw => held_of hw (Fz.le_refl _) (by simp), ?_⟩
            refine j_perm (H' := .mem x [.int .u64 0, .int .u64 0, .int .u8 0, .slice none 0 0] 4 :: .mem y (bytesV [ob]) 1 :: (bc.ents 4 (enV cm) ++ R0)) (by first | exact .refl _ | exact .swap _ _ _) ?_
            refine d_one (i := 15) (by decide +kernel) ?_
            refine d1_act0 rfl rfl rfl (a_store (sz := 4) 0 rfl rfl rfl rfl rfl rfl (Nat.le_of_ble_eq_true rfl)) (fun w hw => held_of hw (Fz.le_refl _) (by simp)) ?_
            refine d_end (by decide +kernel) ?_
            refine j_perm (.swap _ _ _) ?_
            refine j_keep ?_ (J (x, y) trivial)
            exact ⟨rfl, rfl, rfl, rfl, rfl, rfl, rfl, rfl, rfl, trivial⟩
          · refine d1_act rfl rfl rfl rfl (a_alloc rfl) ?_
            rintro v' H' ⟨x, rfl, rfl⟩
            refine ⟨fun w hw => held_of hw (Fz.le_refl _) (by simp), ?_⟩
            refine d_one (i := 12) (by decide +kernel) ?_
            refine d1_act rfl rfl rfl rfl (a_buildS (sz := 1) (cs := [byteV ob]) [.tmp 77] rfl rfl rfl rfl rfl rfl rfl rfl rfl rfl) ?_
            rintro v' H' ⟨y, rfl, rfl⟩
            refine ⟨fun w hw => held_of hw (Fz.le_refl _) (by simp), ?_⟩
            refine d_take (i := 13) rfl rfl rfl (by decide +kernel) (by decide +kernel) (by decide +kernel) (Fz.le_refl _) (by simp) rfl (v_build rfl rfl) ?_
            refine j_perm (H' := .mem x [.int .u64 0, .int .u64 0, .int .u8 0, .slice none 0 0] 4 :: .mem y (bytesV [ob]) 1 :: (bc.ents 4 (enV cm) ++ R0)) (by first | exact .refl _ | exact .swap _ _ _) ?_
            refine d_one (i := 15) (by decide +kernel) ?_
            refine d1_act0 rfl rfl rfl (a_store (sz := 4) 0 rfl rfl rfl rfl rfl rfl (Nat.le_of_ble_eq_true rfl)) (fun w hw => held_of hw (Fz.le_refl _) (by simp)) ?_
            refine d_end (by decide +kernel) ?_
            refine j_perm (.swap _ _ _) ?_
            refine j_keep ?_ (J (x, y) trivial)
            exact ⟨rfl, rfl, rfl, rfl, rfl, rfl, rfl, rfl, rfl, trivial⟩
        · rintro ⟨x, y⟩ _
          dsimp only
          refine j_freezeBf (bf := .at y 1) (sz := 1) (n := 1) (cs := bytesV [ob]) (Nat.le_refl _) rfl fun F5 hF5 hs5 => ?_
          obtain ⟨e0, he0⟩ : ∃ e : En, e = ⟨ix + (k + i), 50 + ob.toNat % 2, 0, .slice (some ⟨y, 0, none⟩) 1 1, [ob]⟩ := ⟨_, rfl⟩
          have he0k : e0.ok F5 := by rw [he0]; exact ⟨by dsimp only; omega, by dsimp only; omega, by dsimp only; omega, hs5⟩
          refine j_heap (H' := .mem x e0.cells 4 :: (bc.ents 4 (enV cm) ++ R0)) (by rw [he0]; rfl) ?_
          refine r_seq ?_
          refine r_region rfl ?_
          refine o_val rfl rfl rfl rfl (v_move rfl) ?_
          refine o_val rfl rfl rfl rfl (v_move rfl) ?_
          refine o_val rfl rfl rfl rfl (v_add rfl rfl (r := ((k + i : Nat) : Int)) (wrap_i64 (by omega) (by omega))) ?_
          refine o_val rfl rfl rfl rfl (v_sub rfl rfl (r := ((k + i : Nat) : Int) - 1) (wrap_i64 (by omega) (by omega))) ?_
          refine o_val rfl rfl rfl rfl (v_assign rfl) ?_
          refine o_end ?_
          refine r_seq ?_
          refine r_join (fun e : En => e.ok F5 ∧ e.ix = ix + (k + i) ∧ e.data.length ≤ 1000000) (fun _ => [(4, .int .u8 turn), (5, .slice (some ⟨b2, off2, none⟩) others.length cap2), (13, ptrV s), (14, bfe.val es.length), (15, ptrV a), (17, .int .i64 k), (18, bc.val cm.length), (19, .int .i64 i), (21, ptrV x)]) (fun _ => F5)
            (fun e => .mem x e.cells 4 :: (bc.ents 4 (enV cm) ++ R0)) ?_ ?_
          · intro J
            have J0 := J e0 ⟨he0k, by rw [he0], by rw [he0]; simp⟩
            refine r_seq ?_
            refine r_region rfl ?_
            refine o_val rfl rfl rfl rfl (v_move rfl) ?_
            refine o_val rfl rfl rfl rfl (v_geq rfl rfl) ?_
            refine j_prop 85 rfl (fun h3 => ?_) (fun h3 => ?_)
            · refine o_val rfl rfl rfl rfl (v_move rfl) ?_
              refine o_val rfl rfl rfl rfl (v_move rfl) ?_
              refine o_val rfl rfl rfl rfl (v_move rfl) ?_
              refine o_val rfl rfl rfl rfl (v_len rfl rfl) ?_
              refine o_val rfl rfl rfl rfl (v_lss rfl rfl) ?_
              refine j_prop 90 rfl (fun h4 => ?_) (fun h4 => ?_)
              · refine o_val rfl rfl rfl rfl (v_pick1 rfl rfl) ?_
                refine o_val rfl rfl rfl rfl (v_move rfl) ?_
                refine o_val rfl rfl rfl rfl (v_move rfl) ?_
                refine o_val rfl rfl rfl rfl (v_move rfl) ?_
                refine o_val rfl rfl rfl rfl (v_conv rfl rfl rfl (wrap_i64 (by omega) (by omega))) ?_
                refine o_val rfl rfl rfl rfl (v_rem rfl rfl (by decide) hm8) ?_
                refine o_val rfl rfl rfl rfl (v_lss rfl rfl) ?_
                refine o_val rfl rfl rfl rfl (v_pick1 rfl rfl) ?_
                refine o_end ?_
                refine r_if rfl (fun h5 => ?_) (fun h5 => ?_)
                · have hjl : k + i - 1 < es.length := by omega
                  have hej := hix9 _ hjl
                  have heo := (heok es[k + i - 1] (List.getElem_mem _)).frz (Fz.le_trans hF4 hF5)
                  have hdj := hens.data es[k + i - 1] (List.getElem_mem _)
                  obtain ⟨b3, off3, c3, hab, hc3⟩ := sl_cells (hs3.frz (F' := F5) (H := []) (Fz.le_trans hF4 hF5)) hjl
                  rw [hab] at J ⊢
                  generalize es[k + i - 1] = ej at *
                  refine r_region rfl ?_
                  refine o_val rfl rfl rfl rfl (v_move rfl) ?_
                  refine o_val rfl rfl rfl rfl (v_move rfl) ?_
                  refine o_val rfl rfl rfl rfl (v_index (sz := 4) rfl rfl rfl rfl (by omega) (by omega) (r := off3 + (k + i - 1) * 4) (by congr 2; omega)) ?_
                  refine o_val rfl rfl rfl rfl (v_loadAgg (sz := 4) (cs := ej.cells) rfl rfl rfl rfl (fun j c hc => (hc3 j c hc).mono (Fz.le_refl _) (by simp))) ?_
                  refine o_act0 rfl rfl rfl (a_store (sz := 4) 0 rfl rfl rfl (by simpa [Value.cells] using heo.one) rfl rfl (Nat.le_of_ble_eq_true rfl)) ?_
                  refine j_heap (H' := .mem x ej.cells 4 :: (bc.ents 4 (enV cm) ++ R0)) rfl ?_
                  refine o_end ?_
                  refine j_keep ?_ (J ej ⟨heo, by omega, hdj⟩)
                  exact ⟨rfl, rfl, rfl, rfl, rfl, rfl, rfl, rfl, rfl, trivial⟩
                · refine r_skip ?_
                  refine j_keep ?_ J0
                  exact ⟨rfl, rfl, rfl, rfl, rfl, rfl, rfl, rfl, rfl, trivial⟩
              · refine o_val rfl rfl rfl rfl (v_pick1 rfl rfl) ?_
                refine o_val rfl rfl rfl rfl (v_move rfl) ?_
                refine o_skip rfl rfl rfl rfl ?_
                refine o_skip rfl rfl rfl rfl ?_
                refine o_skip rfl rfl rfl rfl ?_
                refine o_skip rfl rfl rfl rfl ?_
                refine o_skip rfl rfl rfl rfl ?_
                refine o_val rfl rfl rfl rfl (v_pick0 rfl rfl) ?_
                refine o_end ?_
                refine r_false rfl ?_
                refine r_skip ?_
                refine j_keep ?_ J0
                exact ⟨rfl, rfl, rfl, rfl, rfl, rfl, rfl, rfl, rfl, trivial⟩
            · refine o_val rfl rfl rfl rfl (v_move rfl) ?_
              refine o_skip rfl rfl rfl rfl ?_
              refine o_skip rfl rfl rfl rfl ?_
              refine o_skip rfl rfl rfl rfl ?_
              refine o_skip rfl rfl rfl rfl ?_
              refine o_val rfl rfl rfl rfl (v_pick0 rfl rfl) ?_
              refine o_val rfl rfl rfl rfl (v_move rfl) ?_
              refine o_skip rfl rfl rfl rfl ?_
              refine o_skip rfl rfl rfl rfl ?_
              refine o_skip rfl rfl rfl rfl ?_
              refine o_skip rfl rfl rfl rfl ?_
              refine o_skip rfl rfl rfl rfl ?_
              refine o_val rfl rfl rfl rfl (v_pick0 rfl rfl) ?_
              refine o_end ?_
              refine r_false rfl ?_
              refine r_skip ?_
              refine j_keep ?_ J0
              exact ⟨rfl, rfl, rfl, rfl, rfl, rfl, rfl, rfl, rfl, trivial⟩
          · rintro e ⟨heo, hei, hed⟩
            refine r_region rfl ?_
            refine o_val rfl rfl rfl rfl (v_move rfl) ?_
            refine o_val rfl rfl rfl rfl (v_loadAgg (sz := 4) (cs := e.cells) rfl rfl rfl rfl (fun j c hc => cell_at (j := 0) rfl (by rw [Nat.zero_add]; exact hc))) ?_
            refine o_act rfl rfl rfl rfl (a_buildS (sz := 4) (cs := e.cells) [.tmp 104] rfl rfl rfl rfl rfl rfl rfl rfl rfl rfl) ?_
            rintro v' H' ⟨y2, rfl, rfl⟩
            refine o_act rfl rfl rfl rfl (a_appendP (bf := bc) (n := cm.length) (sz := 4) (bytes := 48) [.mem y2 e.cells 4, .mem x e.cells 4] ⟨⟨_, _, _, rfl, rfl, rfl, rfl, rfl, rfl⟩, by decide⟩ rfl hokc (by rw [enV_length]) rfl rfl (sl_lit (e := e) (List.mem_cons_self ..)) (by simpa [enV] using heo.one) (by unfold maxLen; omega) (by omega)) ?_
            rintro v' H' ⟨bc2, rfl, hokc2, rfl⟩
            rw [← enV_append]
            refine j_drop (H' := bc2.ents 4 (enV (cm ++ [e])) ++ R0) ((List.sublist_cons_self _ _).trans (List.sublist_cons_self _ _)) ?_
            have hJ := IH ⟨i + 1, bc2, cm ++ [e], F5⟩ ⟨Fz.le_trans hF4 hF5, by dsimp only; omega, by simpa using hokc2, by simp [hcl],
              fun q hq => by
                rcases List.mem_append.1 hq with hq | hq
                · exact (hce q hq).frz hF5
                · rw [List.mem_singleton.1 hq]; exact heo,
              fun j hj => by
                dsimp only at hj ⊢
                rcases Nat.lt_or_ge j cm.length with h6 | h6
                · rw [List.getElem_append_left h6]; exact hcx j h6
                · simp only [List.length_append, List.length_singleton] at hj
                  rw [List.getElem_append_right h6]
                  simp only [List.getElem_singleton]
                  omega,
              fun q hq => by
                rcases List.mem_append.1 hq with hq | hq
                · exact hcd q hq
                · rw [List.mem_singleton.1 hq]; exact hed⟩ (by dsimp only; omega)
            dsimp only at hJ
            rw [List.length_append, List.length_singleton] at hJ
            refine o_val rfl rfl rfl rfl (v_assign rfl) ?_
            refine o_end ?_
            refine r_inBlock ?_
            refine r_region rfl ?_
            refine o_val rfl rfl rfl rfl (v_move rfl) ?_
            refine o_val rfl rfl rfl rfl (v_add rfl rfl (wrap_i64 (by omega) (by omega))) ?_
            refine o_val rfl rfl rfl rfl (v_assign rfl) ?_
            refine o_end ?_
            refine j_keep ?_ hJ
            exact ⟨rfl, rfl, rfl, rfl, rfl, rfl, rfl, rfl, trivial⟩
      · clear IH
        refine r_exit rfl ?_
        refine j_keep ?_ (JL ⟨i, bc, cm, F4⟩ ⟨hF4, hi, hokc, hcl, hce, hcx, hcd⟩)
        exact ⟨rfl, rfl, rfl, rfl, trivial⟩
    · clear IH
      refine o_val rfl rfl rfl rfl (v_move rfl) ?_
      refine o_skip rfl rfl rfl rfl ?_
      refine o_skip rfl rfl rfl rfl ?_
      refine o_val rfl rfl rfl rfl (v_pick0 rfl rfl) ?_
      refine o_end ?_
      refine r_false rfl ?_
      refine r_exit rfl ?_
      refine j_keep ?_ (JL ⟨i, bc, cm, F4⟩ ⟨hF4, hi, hokc, hcl, hce, hcx, hcd⟩)
      exact ⟨rfl, rfl, rfl, rfl, trivial⟩
    rintro ⟨i, bc, cm, F4⟩ ⟨hF4, hi, hokc, hcl, hce, hcx, hcd⟩
    dsimp only at hF4 hi hokc hcl hce hcx hcd ⊢
    refine j_freezeBf hokc (by rw [enV_length]) fun F5 hF5 hs5 => ?_
    have hcok : ∀ e ∈ cm, e.ok F5 := fun e he => (hce e he).frz hF5
    rw [hR0]
    refine r_seq ?_
    refine r_region rfl ?_
    refine o_val rfl rfl rfl rfl (v_move rfl) ?_
    refine o_val rfl rfl rfl rfl (v_move rfl) ?_
    refine o_call rfl rfl rfl rfl (c_call callable25 rfl) (lg_Merge _ _ a ix tm n bf es cm _ [S] (by omega) hok (fun e he => (heok e he).frz (Fz.le_trans hF4 hF5)) hcok (by omega) (by omega) hs5) ?_
    rintro v' F5 H' ⟨rfl, rfl, bf2, hok2, rfl⟩ _
    have hs35 := hs3.frz (F' := F5) (H := []) (Fz.le_trans hF4 hF5)
    have hwok : ∀ e ∈ (mg ix tm es cm).2, e.ok F5 := fun e he => by
      rcases mg_mem ix tm es cm e he with h | h
      · exact (heok e h).frz (Fz.le_trans hF4 hF5)
      · exact hcok e h
    have hwd : ∀ e ∈ (mg ix tm es cm).2, e.data.length ≤ 1000000 := fun e he => by
      rcases mg_mem ix tm es cm e he with h | h
      · exact hens.data e h
      · exact hcd e h
    have hwl := mg_len ix tm es cm
    refine o_val rfl rfl rfl rfl (v_assign rfl) ?_
    refine o_end ?_
    refine r_seq ?_
    refine r_region rfl ?_
    refine o_val rfl rfl rfl rfl (v_move rfl) ?_
    refine o_val rfl rfl rfl rfl (v_assign rfl) ?_
    refine o_end ?_
    refine r_seq ?_
    refine r_region rfl ?_
    refine o_val rfl rfl rfl rfl (v_assign rfl) ?_
    refine o_end ?_
    refine r_seq ?_
    refine r_join (fun g : Value × Fz => F5.le g.2 ∧ Sl g.2 [] 4 g.1 (mg ix tm es cm).2.length (enV (mg ix tm es cm).2)) (fun g => [(13, ptrV s), (15, ptrV a), (23, .int .u64 (mg ix tm es cm).1), (24, g.1), (25, .int .u64 (mg ix tm es cm).1)]) (fun g => g.2) (fun _ => LgH a ix tm n bf2 (mg ix tm es cm).2 [S]) ?_ ?_
    · intro JM
      refine r_seq ?_
      refine r_region rfl ?_
      refine o_val rfl rfl rfl rfl (v_assign rfl) ?_
      refine o_end ?_
      refine r_block ?_
      refine r_loop (fun i : Nat => i ≤ cm.length ∧ mg ix tm es cm = mg ix tm es (cm.drop i)) (fun i => [(13, ptrV s), (14, bfe.val es.length), (15, ptrV a), (18, bc.val cm.length), (23, .int .u64 (mg ix tm es cm).1), (24, bfe.val es.length), (25, .int .u64 0), (26, .int .i64 i)]) (fun _ => F5) (fun _ => LgH a ix tm n bf2 (mg ix tm es cm).2 [S]) (fun i => cm.length - i)
        0 ⟨Nat.zero_le _, rfl⟩ ⟨rfl, rfl, rfl, rfl, rfl, rfl, rfl, rfl, trivial⟩ rfl rfl ?_
      rintro i ⟨hi2, hmg⟩ IH
      refine r_seq ?_
      refine r_seq ?_
      refine r_region rfl ?_
      refine o_val rfl rfl rfl rfl (v_move rfl) ?_
      refine o_val rfl rfl rfl rfl (v_move rfl) ?_
      refine o_val rfl rfl rfl rfl (v_len rfl rfl) ?_
      refine o_val rfl rfl rfl rfl (v_lss rfl rfl) ?_
      refine o_end ?_
      refine r_if rfl (fun h => ?_) (fun h => ?_)
      · have hil : i < cm.length := by omega
        have hcxi := hcx i hil
        have hd : cm.drop i = cm[i] :: cm.drop (i + 1) := List.drop_eq_getElem_cons hil
        have hsr := Sl.sliced (l := i) (h := cm.length) (cap := bc.cp) (a := bc.addr) hs5 hi2 (Nat.le_refl _)
        rw [enV_drop, List.take_of_length_le (by rw [enV_length, List.length_drop]; omega), ← List.length_drop] at hsr
        have hdc : ∀ e ∈ cm.drop i, e.ok F5 := fun e he => hcok e (List.mem_of_mem_drop he)
        have hdn : (cm.drop i).length ≤ 12 := by simp; omega
        obtain ⟨b0, off0, c0, hab, hc0⟩ := sl_cells hs5 hil
        have IH' : mg ix tm es cm = mg ix tm es (cm.drop (i + 1)) → _ := fun hq => IH (i + 1) ⟨hil, hq⟩ (by omega)
        rw [hd] at hmg hsr hdc hdn
        clear hd IH
        generalize cm.drop (i + 1) = cm' at *
        generalize cm[i] = x at *
        have hab' := hab
        simp only [Bf.val, Value.slice.injEq] at hab'
        rw [hab'.1, hab'.2.2] at hsr
        clear hab'
        rw [hab] at *
        generalize hML : mg ix tm es cm = ML at *
        have hm64 : IntKind.i64.wrap (((k + i : Nat) : Int)) = ((k + i : Nat) : Int) := wrap_i64 (by omega) (by omega)
        refine r_skip ?_
        refine r_seq ?_
        refine r_block ?_
        refine r_seq ?_
        refine d_region 1000000 rfl ([S]) ?_
        refine d_take (i := 0) rfl rfl rfl (by decide +kernel) (by decide +kernel) (by decide +kernel) (Fz.le_refl _) (by simp [LgH]) rfl (v_move rfl) ?_
        refine d_take (i := 1) rfl rfl rfl (by decide +kernel) (by decide +kernel) (by decide +kernel) (Fz.le_refl _) (by simp [LgH]) rfl (v_move rfl) ?_
        refine d_take (i := 2) rfl rfl rfl (by decide +kernel) (by decide +kernel) (by decide +kernel) (Fz.le_refl _) (by simp [LgH]) rfl (v_indexN (sz := 4) rfl rfl rfl rfl hil) ?_
        refine d_take (i := 3) rfl rfl rfl (by decide +kernel) (by decide +kernel) (by decide +kernel) (Fz.le_refl _) (by simp [LgH]) rfl (v_field (k := 0) rfl rfl rfl) ?_
        refine d_take (i := 4) rfl rfl rfl (by decide +kernel) (by decide +kernel) (by decide +kernel) (Fz.le_refl _) (by simp [LgH]) rfl (v_load (v := .int .u64 x.ix) rfl rfl ((hc0 0 _ rfl).mono (Fz.le_refl _) (by simp))) ?_
        refine d_take (i := 5) rfl rfl rfl (by decide +kernel) (by decide +kernel) (by decide +kernel) (Fz.le_refl _) (by simp [LgH]) rfl (v_conv rfl rfl rfl (wrap_i64 (by omega) (by omega))) ?_
        refine d_take (i := 6) rfl rfl rfl (by decide +kernel) (by decide +kernel) (by decide +kernel) (Fz.le_refl _) (by simp [LgH]) rfl (v_field (k := 0) rfl rfl rfl) ?_
        refine d_take (i := 7) rfl rfl rfl (by decide +kernel) (by decide +kernel) (by decide +kernel) (Fz.le_refl _) (by simp [LgH]) rfl (v_load (v := .int .u64 ix) rfl rfl (hcs _ _ 0 _ (by simp) rfl)) ?_
        refine d_take (i := 8) rfl rfl rfl (by decide +kernel) (by decide +kernel) (by decide +kernel) (Fz.le_refl _) (by simp [LgH]) rfl (v_conv rfl rfl rfl (wrap_i64 (by omega) (by omega))) ?_
        refine d_take (i := 9) rfl rfl rfl (by decide +kernel) (by decide +kernel) (by decide +kernel) (Fz.le_refl _) (by simp [LgH]) rfl (v_sub rfl rfl (r := ((k + i : Nat) : Int)) ((wrap_i64 (by omega) (by omega)).trans (by omega))) ?_
        refine d_take (i := 10) rfl rfl rfl (by decide +kernel) (by decide +kernel) (by decide +kernel) (Fz.le_refl _) (by simp [LgH]) rfl (v_sub rfl rfl (r := ((k + i : Nat) : Int) - 1) (wrap_i64 (by omega) (by omega))) ?_
        refine d_take (i := 11) rfl rfl rfl (by decide +kernel) (by decide +kernel) (by decide +kernel) (Fz.le_refl _) (by simp [LgH]) rfl (v_assign rfl) ?_
        refine d_end (by decide +kernel) ?_
        refine r_seq ?_
        refine r_join (fun _ : Unit => 0 < k + i ∧ ¬ lgTerm ix tm es x.ix = (x.tm, true)) (fun _ => [(13, ptrV s), (14, bfe.val es.length), (15, ptrV a), (18, .slice (some ⟨b0, off0, none⟩) cm.length c0), (23, .int .u64 ML.1), (24, bfe.val es.length), (25, .int .u64 0), (26, .int .i64 i), (27, .int .i64 (k + i - 1 : Nat))]) (fun _ => F5) (fun _ => LgH a ix tm n bf2 ML.2 [S]) ?_ ?_
        · intro J
          refine r_seq ?_
          refine d_region 1000000 rfl ([]) ?_
          refine d_take (i := 0) rfl rfl rfl (by decide +kernel) (by decide +kernel) (by decide +kernel) (Fz.le_refl _) (by simp) rfl (v_move rfl) ?_
          refine d_take (i := 1) rfl rfl rfl (by decide +kernel) (by decide +kernel) (by decide +kernel) (Fz.le_refl _) (by simp) rfl (v_lss rfl rfl) ?_
          refine j_prop 129 rfl (fun c1 => ?_) (fun c1 => ?_)
          · have hq : mg ix tm es (x :: cm') = mg ix tm es cm' := by rw [mg, if_pos (by omega)]
            refine d_take (i := 2) rfl rfl rfl (by decide +kernel) (by decide +kernel) (by decide +kernel) (Fz.le_refl _) (by simp) rfl (v_move rfl) ?_
            refine d_skip (i := 3) rfl rfl rfl (by decide +kernel) (by decide +kernel) (by decide +kernel) (Fz.le_refl _) (by simp) rfl ?_
            refine d_skip (i := 4) rfl rfl rfl (by decide +kernel) (by decide +kernel) (by decide +kernel) (Fz.le_refl _) (by simp) rfl ?_
            refine d_skip (i := 5) rfl rfl rfl (by decide +kernel) (by decide +kernel) (by decide +kernel) (Fz.le_refl _) (by simp) rfl ?_
            refine d_skip (i := 6) rfl rfl rfl (by decide +kernel) (by decide +kernel) (by decide +kernel) (Fz.le_refl _) (by simp) rfl ?_
            refine d_skip (i := 7) rfl rfl rfl (by decide +kernel) (by decide +kernel) (by decide +kernel) (Fz.le_refl _) (by simp) rfl ?_
            refine d_skip (i := 8) rfl rfl rfl (by decide +kernel) (by decide +kernel) (by decide +kernel) (Fz.le_refl _) (by simp) rfl ?_
            refine d_skip (i := 9) rfl rfl rfl (by decide +kernel) (by decide +kernel) (by decide +kernel) (Fz.le_refl _) (by simp) rfl ?_
            refine d_skip (i := 10) rfl rfl rfl (by decide +kernel) (by decide +kernel) (by decide +kernel) (Fz.le_refl _) (by simp) rfl ?_
            refine d_skip (i := 11) rfl rfl rfl (by decide +kernel) (by decide +kernel) (by decide +kernel) (Fz.le_refl _) (by simp) rfl ?_
            refine d_skip (i := 12) rfl rfl rfl (by decide +kernel) (by decide +kernel) (by decide +kernel) (Fz.le_refl _) (by simp) rfl ?_
            refine d_skip (i := 13) rfl rfl rfl (by decide +kernel) (by decide +kernel) (by decide +kernel) (Fz.le_refl _) (by simp) rfl ?_
            refine d_skip (i := 14) rfl rfl rfl (by decide +kernel) (by decide +kernel) (by decide +kernel) (Fz.le_refl _) (by simp) rfl ?_
            refine d_skip (i := 15) rfl rfl rfl (by decide +kernel) (by decide +kernel) (by decide +kernel) (Fz.le_refl _) (by simp) rfl ?_
            refine d_skip (i := 16) rfl rfl rfl (by decide +kernel) (by decide +kernel) (by decide +kernel) (Fz.le_refl _) (by simp) rfl ?_
            refine d_skip (i := 17) rfl rfl rfl (by decide +kernel) (by decide +kernel) (by decide +kernel) (Fz.le_refl _) (by simp) rfl ?_
            refine d_skip (i := 18) rfl rfl rfl (by decide +kernel) (by decide +kernel) (by decide +kernel) (Fz.le_refl _) (by simp) rfl ?_
            refine d_skip (i := 19) rfl rfl rfl (by decide +kernel) (by decide +kernel) (by decide +kernel) (Fz.le_refl _) (by simp) rfl ?_
            refine d_take (i := 20) rfl rfl rfl (by decide +kernel) (by decide +kernel) (by decide +kernel) (Fz.le_refl _) (by simp) rfl (v_pick1 rfl rfl) ?_
            refine d_end (by decide +kernel) ?_
            refine r_true rfl ?_
            refine r_exit rfl ?_
            refine r_region rfl ?_
            refine o_val rfl rfl rfl rfl (v_move rfl) ?_
            refine o_val rfl rfl rfl rfl (v_add rfl rfl (wrap_i64 (by omega) (by omega))) ?_
            refine o_val rfl rfl rfl rfl (v_assign rfl) ?_
            refine o_end ?_
            refine j_keep ?_ (IH' (hmg.trans hq))
            exact ⟨rfl, rfl, rfl, rfl, rfl, rfl, rfl, rfl, trivial⟩
          · refine j_slot 27 rfl (v' := .int .i64 (k + i - 1 : Nat)) (by congr 1; omega) ?_
            have hta := lgTerm_at ix tm es (k + i) (by omega)
            rw [← hcxi] at hta
            refine d_take (i := 2) rfl rfl rfl (by decide +kernel) (by decide +kernel) (by decide +kernel) (Fz.le_refl _) (by simp) rfl (v_move rfl) ?_
            refine d_take (i := 3) rfl rfl rfl (by decide +kernel) (by decide +kernel) (by decide +kernel) (Fz.le_refl _) (by simp) rfl (v_move rfl) ?_
            refine d_take (i := 4) rfl rfl rfl (by decide +kernel) (by decide +kernel) (by decide +kernel) (Fz.le_refl _) (by simp) rfl (v_move rfl) ?_
            refine d_take (i := 5) rfl rfl rfl (by decide +kernel) (by decide +kernel) (by decide +kernel) (Fz.le_refl _) (by simp) rfl (v_len rfl rfl) ?_
            refine d_take (i := 6) rfl rfl rfl (by decide +kernel) (by decide +kernel) (by decide +kernel) (Fz.le_refl _) (by simp) rfl (v_lss rfl rfl) ?_
            refine j_prop 134 rfl (fun c2 => ?_) (fun c2 => ?_)
            · have hjl : k + i - 1 < es.length := by omega
              obtain ⟨b3, off3, c3, hab3, hc3⟩ := sl_cells hs35 hjl
              rw [dif_pos hjl] at hta
              rw [hab3] at J IH' ⊢
              generalize es[k + i - 1] = ej at *
              refine d_take (i := 7) rfl rfl rfl (by decide +kernel) (by decide +kernel) (by decide +kernel) (Fz.le_refl _) (by simp) rfl (v_move rfl) ?_
              refine d_take (i := 8) rfl rfl rfl (by decide +kernel) (by decide +kernel) (by decide +kernel) (Fz.le_refl _) (by simp) rfl (v_move rfl) ?_
              refine d_take (i := 9) rfl rfl rfl (by decide +kernel) (by decide +kernel) (by decide +kernel) (Fz.le_refl _) (by simp) rfl (v_move rfl) ?_
              refine d_take (i := 10) rfl rfl rfl (by decide +kernel) (by decide +kernel) (by decide +kernel) (Fz.le_refl _) (by simp) rfl (v_indexN (sz := 4) rfl rfl rfl rfl hjl) ?_
              refine d_take (i := 11) rfl rfl rfl (by decide +kernel) (by decide +kernel) (by decide +kernel) (Fz.le_refl _) (by simp) rfl (v_field (k := 1) rfl rfl rfl) ?_
              refine d_take (i := 12) rfl rfl rfl (by decide +kernel) (by decide +kernel) (by decide +kernel) (Fz.le_refl _) (by simp) rfl (v_load (v := .int .u64 ej.tm) rfl rfl ((hc3 1 _ rfl).mono (Fz.le_refl _) (by simp))) ?_
              refine d_take (i := 13) rfl rfl rfl (by decide +kernel) (by decide +kernel) (by decide +kernel) (Fz.le_refl _) (by simp) rfl (v_move rfl) ?_
              refine d_take (i := 14) rfl rfl rfl (by decide +kernel) (by decide +kernel) (by decide +kernel) (Fz.le_refl _) (by simp) rfl (v_move rfl) ?_
              refine d_take (i := 15) rfl rfl rfl (by decide +kernel) (by decide +kernel) (by decide +kernel) (Fz.le_refl _) (by simp) rfl (v_indexN (sz := 4) rfl rfl rfl rfl hil) ?_
              refine d_take (i := 16) rfl rfl rfl (by decide +kernel) (by decide +kernel) (by decide +kernel) (Fz.le_refl _) (by simp) rfl (v_field (k := 1) rfl rfl rfl) ?_
              refine d_take (i := 17) rfl rfl rfl (by decide +kernel) (by decide +kernel) (by decide +kernel) (Fz.le_refl _) (by simp) rfl (v_load (v := .int .u64 x.tm) rfl rfl ((hc0 1 _ rfl).mono (Fz.le_refl _) (by simp))) ?_
              refine d_take (i := 18) rfl rfl rfl (by decide +kernel) (by decide +kernel) (by decide +kernel) (Fz.le_refl _) (by simp) rfl (v_eql rfl rfl) ?_
              refine d_take (i := 19) rfl rfl rfl (by decide +kernel) (by decide +kernel) (by decide +kernel) (Fz.le_refl _) (by simp) rfl (v_pick1 rfl rfl) ?_
              refine d_take (i := 20) rfl rfl rfl (by decide +kernel) (by decide +kernel) (by decide +kernel) (Fz.le_refl _) (by simp) rfl (v_pick0 rfl rfl) ?_
              refine d_end (by decide +kernel) ?_
              refine r_if rfl (fun c4 => ?_) (fun c4 => ?_)
              · have hq : mg ix tm es (x :: cm') = mg ix tm es cm' := by rw [mg, if_neg (by omega), if_pos (by rw [hta]; simp; omega)]
                refine r_exit rfl ?_
                refine r_region rfl ?_
                refine o_val rfl rfl rfl rfl (v_move rfl) ?_
                refine o_val rfl rfl rfl rfl (v_add rfl rfl (wrap_i64 (by omega) (by omega))) ?_
                refine o_val rfl rfl rfl rfl (v_assign rfl) ?_
                refine o_end ?_
                refine j_keep ?_ (IH' (hmg.trans hq))
                exact ⟨rfl, rfl, rfl, rfl, rfl, rfl, rfl, rfl, trivial⟩
              · refine r_skip ?_
                refine j_keep ?_ (J () ⟨by omega, by rw [hta]; simp; omega⟩)
                exact ⟨rfl, rfl, rfl, rfl, rfl, rfl, rfl, rfl, rfl, trivial⟩
            · rw [dif_neg (by omega)] at hta
              refine d_take (i := 7) rfl rfl rfl (by decide +kernel) (by decide +kernel) (by decide +kernel) (Fz.le_refl _) (by simp) rfl (v_move rfl) ?_
              refine d_skip (i := 8) rfl rfl rfl (by decide +kernel) (by decide +kernel) (by decide +kernel) (Fz.le_refl _) (by simp) rfl ?_
              refine d_skip (i := 9) rfl rfl rfl (by decide +kernel) (by decide +kernel) (by decide +kernel) (Fz.le_refl _) (by simp) rfl ?_
              refine d_skip (i := 10) rfl rfl rfl (by decide +kernel) (by decide +kernel) (by decide +kernel) (Fz.le_refl _) (by simp) rfl ?_
              refine d_skip (i := 11) rfl rfl rfl (by decide +kernel) (by decide +kernel) (by decide +kernel) (Fz.le_refl _) (by simp) rfl ?_
              refine d_skip (i := 12) rfl rfl rfl (by decide +kernel) (by decide +kernel) (by decide +kernel) (Fz.le_refl _) (by simp) rfl ?_
              refine d_skip (i := 13) rfl rfl rfl (by decide +kernel) (by decide +kernel) (by decide +kernel) (Fz.le_refl _) (by simp) rfl ?_
              refine d_skip (i := 14) rfl rfl rfl (by decide +kernel) (by decide +kernel) (by decide +kernel) (Fz.le_refl _) (by simp) rfl ?_
              refine d_skip (i := 15) rfl rfl rfl (by decide +kernel) (by decide +kernel) (by decide +kernel) (Fz.le_refl _) (by simp) rfl ?_
              refine d_skip (i := 16) rfl rfl rfl (by decide +kernel) (by decide +kernel) (by decide +kernel) (Fz.le_refl _) (by simp) rfl ?_
              refine d_skip (i := 17) rfl rfl rfl (by decide +kernel) (by decide +kernel) (by decide +kernel) (Fz.le_refl _) (by simp) rfl ?_
              refine d_skip (i := 18) rfl rfl rfl (by decide +kernel) (by decide +kernel) (by decide +kernel) (Fz.le_refl _) (by simp) rfl ?_
              refine d_take (i := 19) rfl rfl rfl (by decide +kernel) (by decide +kernel) (by decide +kernel) (Fz.le_refl _) (by simp) rfl (v_pick0 rfl rfl) ?_
              refine d_take (i := 20) rfl rfl rfl (by decide +kernel) (by decide +kernel) (by decide +kernel) (Fz.le_refl _) (by simp) rfl (v_pick0 rfl rfl) ?_
              refine d_end (by decide +kernel) ?_
              refine r_false rfl ?_
              refine r_skip ?_
              refine j_keep ?_ (J () ⟨by omega, by rw [hta]; simp⟩)
              exact ⟨rfl, rfl, rfl, rfl, rfl, rfl, rfl, rfl, rfl, trivial⟩
        · rintro _ ⟨hp, hne⟩
          obtain ⟨jn, hjn⟩ : ∃ jn, jn = k + i - 1 := ⟨_, rfl⟩
          rw [← hjn]
          have hjx : x.ix - ix - 1 = jn := by omega
          refine r_seq ?_
          refine r_seq ?_
          refine r_region rfl ?_
          refine o_val rfl rfl rfl rfl (v_move rfl) ?_
          refine o_val rfl rfl rfl rfl (v_move rfl) ?_
          refine o_val rfl rfl rfl rfl (v_len rfl rfl) ?_
          refine o_val rfl rfl rfl rfl (v_leq rfl rfl) ?_
          refine o_end ?_
          refine r_if rfl (fun d1 => ?_) (fun d1 => ?_)
          · have hjl : jn ≤ es.length := by omega
            have hq : mg ix tm es (x :: cm') = (x.ix, es.take jn ++ (x :: cm')) := by rw [mg, if_neg (by omega), if_neg hne, if_neg (by omega), hjx]
            have h1 : ML.1 = x.ix := by rw [hmg, hq]
            have h2 : ML.2 = es.take jn ++ (x :: cm') := by rw [hmg, hq]
            have hes1 := Sl.sliced (l := 0) (h := jn) (a := bfe.addr) (cap := bfe.cp) hs35 (Nat.zero_le _) hjl
            rw [Nat.sub_zero, Nat.zero_mul, List.drop_zero, enV_take _ _ hjl] at hes1
            have htl : (es.take jn).length = jn := by simp; omega
            have hcp := Bf.ok_cp hoke
            refine r_seq ?_
            refine r_region rfl ?_
            refine o_val rfl rfl rfl rfl (v_move rfl) ?_
            refine o_val rfl rfl rfl rfl (v_move rfl) ?_
            refine o_val rfl rfl rfl rfl (v_indexN (sz := 4) rfl rfl rfl rfl hil) ?_
            refine o_val rfl rfl rfl rfl (v_field (k := 0) rfl rfl rfl) ?_
            refine o_val rfl rfl rfl rfl (v_load (v := .int .u64 x.ix) rfl rfl ((hc0 0 _ rfl).mono (Fz.le_refl _) (by simp))) ?_
            refine o_val rfl rfl rfl rfl (v_assign rfl) ?_
            refine o_end ?_
            refine d_region 1000000 rfl ([]) ?_
            refine d_take (i := 0) rfl rfl rfl (by decide +kernel) (by decide +kernel) (by decide +kernel) (Fz.le_refl _) (by simp) rfl (v_move rfl) ?_
            refine d_take (i := 1) rfl rfl rfl (by decide +kernel) (by decide +kernel) (by decide +kernel) (Fz.le_refl _) (by simp) rfl (v_move rfl) ?_
            refine d_take (i := 2) rfl rfl rfl (by decide +kernel) (by decide +kernel) (by decide +kernel) (Fz.le_refl _) (by simp) rfl (v_sliceH (sz := 4) rfl rfl rfl rfl rfl (by omega)) ?_
            refine d_take (i := 4) rfl rfl rfl (by decide +kernel) (by decide +kernel) (by decide +kernel) (Fz.le_refl _) (by simp) rfl (v_move rfl) ?_
            refine d_take (i := 5) rfl rfl rfl (by decide +kernel) (by decide +kernel) (by decide +kernel) (Fz.le_refl _) (by simp) rfl (v_move rfl) ?_
            refine d_take (i := 6) rfl rfl rfl (by decide +kernel) (by decide +kernel) (by decide +kernel) (Fz.le_refl _) (by simp) rfl (v_sliceL (sz := 4) rfl rfl rfl rfl rfl hi2) ?_
            refine d_one (i := 3) (by decide +kernel) ?_
            refine d1_act rfl rfl rfl rfl (a_append (bf := .nil) (n := 0) (sz := 4) (bytes := 48) (xs := []) ⟨⟨_, _, _, rfl, rfl, rfl, rfl, rfl, rfl⟩, by decide⟩ rfl rfl rfl rfl rfl (hes1.frz (Fz.le_refl _)) (enV_one (F := F3) fun e he => heok e (List.mem_of_mem_take he)) (by unfold maxLen; omega) (by omega)) ?_
            rintro v' H' ⟨bw, rfl, hokw, rfl⟩
            refine ⟨fun w hw => held_of hw (Fz.le_refl _) (by simp), ?_⟩
            rw [Nat.zero_add] at hokw ⊢
            rw [List.nil_append]
            simp only [List.length_cons] at hdn hsr
            refine d_one (i := 7) (by decide +kernel) ?_
            refine d1_act rfl rfl rfl rfl (a_append (bf := bw) (n := jn) (m := cm'.length + 1) (sz := 4) (bytes := 48) ⟨⟨_, _, _, rfl, rfl, rfl, rfl, rfl, rfl⟩, by decide⟩ rfl hokw (by rw [enV_length, htl]) rfl rfl (hsr.frz (Fz.le_refl _)) (enV_one hdc) (by unfold maxLen; omega) (by omega)) ?_
            rintro v' H' ⟨bw2, rfl, hokw2, rfl⟩
            refine ⟨fun w hw => held_of hw (Fz.le_refl _) (by simp), ?_⟩
            rw [← enV_append]
            refine d_take (i := 8) rfl rfl rfl (by decide +kernel) (by decide +kernel) (by decide +kernel) (Fz.le_refl _) (by simp) rfl (v_assign rfl) ?_
            refine d_end (by decide +kernel) ?_
            refine r_exit rfl ?_
            refine j_freezeBf hokw2 (by rw [enV_length]; simp [htl]) fun F6 hF6 hs6 => ?_
            refine j_keep ?_ (JM (bw2.val (jn + (cm'.length + 1)), F6) ⟨hF6, by
              have : jn + (cm'.length + 1) = ML.2.length := by rw [h2]; simp [htl]
              rw [h2] at this ⊢
              rw [this] at hs6 ⊢
              exact hs6⟩)
            exact ⟨rfl, rfl, rfl, rfl, by rw [h1]; rfl, trivial⟩
          · have hq : mg ix tm es (x :: cm') = (0, es) := by rw [mg, if_neg (by omega), if_neg hne, if_pos (by omega)]
            have h1 : ML.1 = 0 := by rw [hmg, hq]
            have h2 : ML.2 = es := by rw [hmg, hq]
            refine r_skip ?_
            refine r_exit rfl ?_
            refine j_keep ?_ (JM (bfe.val es.length, F5) ⟨Fz.le_refl _, by rw [h2]; exact hs35⟩)
            exact ⟨rfl, rfl, rfl, rfl, by rw [h1]; rfl, trivial⟩
      · obtain rfl : i = cm.length := by omega
        rw [List.drop_length] at hmg
        have h1 : (mg ix tm es cm).1 = 0 := by rw [hmg]; rfl
        have h2 : (mg ix tm es cm).2 = es := by rw [hmg]; rfl
        refine r_exit rfl ?_
        refine j_keep ?_ (JM (bfe.val es.length, F5) ⟨Fz.le_refl _, by rw [h2]; exact hs35⟩)
        exact ⟨rfl, rfl, rfl, rfl, by rw [h1]; rfl, trivial⟩
    · rintro ⟨vw, F6⟩ ⟨hF6, hs6⟩
      dsimp only at hF6 hs6 ⊢
      refine r_seq ?_
      refine r_region rfl ?_
      refine o_val rfl rfl rfl rfl (v_move rfl) ?_
      refine o_val rfl rfl rfl rfl (v_move rfl) ?_
      refine o_val rfl rfl rfl rfl (v_eql rfl rfl) ?_
      refine j_slot 168 rfl (v' := .bool true) (by simp) ?_
      refine o_val rfl rfl rfl rfl (v_move rfl) ?_
      refine o_val rfl rfl rfl rfl (v_move rfl) ?_
      refine o_val rfl rfl rfl rfl (v_loadAgg (sz := 4) (cs := [.int .u64 ix, .int .u64 tm, .int .u64 n, .slice none 0 0]) rfl rfl rfl rfl (fun j c hc => hcs _ _ j c (by simp [LgH]) hc)) ?_
      refine o_val rfl rfl rfl rfl (v_move rfl) ?_
      refine o_call rfl rfl rfl rfl (c_call callable21 rfl) (law_told _ _ a ix tm n bf2 (mg ix tm es cm).2 (mg ix tm es cm).2 (.slice none 0 0) _ [S] hok2 (fun e he => (hwok e he).frz hF6) (fun e he => (hwok e he).frz hF6) (Alike.refl _) (by omega) (by omega) hwd hs6 rfl) ?_
      rintro v' F7 H' ⟨rfl, rfl⟩ hF7
      refine o_val rfl rfl rfl rfl (v_pick1 rfl rfl) ?_
      refine o_val rfl rfl rfl rfl (v_assign rfl) ?_
      refine o_end ?_
      exact r_ret1 Try.func8 rfl rfl ⟨rfl, Fz.le_trans hFF (Fz.le_trans hF4 (Fz.le_trans hF5 (Fz.le_trans hF6 hF7)))⟩
  · exact absurd hnw hbad
theorem in_LogsMerges (W : World) (n : Int) (hn : (Lit.int .u8 n).wf = true) (v : Value) (z0 : List Int) (h0 : InInts .u8 W v z0) (y0 : z0.length * 1 ≤ 140737488351232) (u : Value) (z1 : List Int) (h1 : InInts .u8 W u z1) (y1 : z1.length * 1 ≤ 140737488351232)
    (i : Int) (hi : (Lit.int .u8 i).wf = true) (t : Int) (ht : (Lit.int .u8 t).wf = true) (x : Value) (z2 : List Int) (h2 : InInts .u8 W x z2) (y2 : z2.length * 1 ≤ 140737488351232) :
    Calls Try.prog 8 #[.int .u8 n, v, u, .int .u8 i, .int .u8 t, x] W fun e w' => e = .returned (.bool true) ∧ Go.RowKit.Below W.heap.size W w' := by
  obtain ⟨l0, hl0, hv⟩ := inBytes h0
  obtain ⟨l1, hl1, hu⟩ := inBytes h1
  obtain ⟨l2, hl2, hx⟩ := inBytes h2
  obtain ⟨n, rfl, hn'⟩ := inU8 hn
  obtain ⟨i, rfl, hi'⟩ := inU8 hi
  obtain ⟨t, rfl, ht'⟩ := inU8 ht
  exact below_of_does (law_LogsMerges _ _ n _ _ l0 l1 i t _ l2 hn' hi' ht' hv hu hx)
end Go.SX
