/-
  Contracts and plain laws, laid together: part 17.
-/
import Derived.Calls
import Derived.Orders
import Derived.OrdersHeld
import Derived.Tactics
import Derived.OwnWalk
import Derived.Laws.Small
import Derived.Laws.Strings
import Derived.Laws.Pointers
import Derived.Laws.CopyRow
import Derived.Laws.Append
import Derived.Laws.AppendOwn
import Derived.Laws.BytesArg
import Derived.Laws.Slices
import Derived.Laws.MakeOwn
import Derived.Laws.Tables
import Derived.Great.BuildSlice
import Derived.Laws.Cover3
import Derived.Laws.Concat
import Derived.Test.YtaeeagekgjjhjaaGreatProg
import Derived.Below
import Derived.SizedLaws
import Derived.ChangeSlices
import Derived.ChangeOld
import Derived.MapKept
import Derived.Carry
import Derived.WideLaws
import Derived.Laws.StructEq
import Derived.Deep.Matrix
import Derived.Deep.SlicePairs
import Derived.Deep.Grids
import Derived.Test.YtaeeagekgjjhjaaGreatMt16
namespace Go.SX
open Go Go.Proofs
set_option maxRecDepth 4000
set_option linter.unusedSimpArgs false
set_option linter.unusedVariables false
/-- What the first j entries come to. -/
def imK (l : List En) (j : Nat) : PI := { nilI with l := (l.take j).map En.pure }
structure Kept (l : List En) (rl : List (Nat × List UInt8)) (W : List PI) : Prop where
  tr : Track rl W
  n : rl.length = l.length
  st : ∀ j, j ≤ l.length → stW W j = imK l j
theorem Kept.nil : Kept [] [] [] := ⟨Track.nil, rfl, fun j hj => by
  obtain rfl : j = 0 := by simpa using hj
  rfl⟩
abbrev recE (e : En) : Nat × List UInt8 := (2, entP e.ix e.tm e.kd e.data)
theorem Kept.more {l : List En} {rl : List (Nat × List UInt8)} {W : List PI} {e : En} (h : Kept l rl W) (hi : e.ix = l.length + 1) (hix : e.ix < 18446744073709551616) (ht : e.tm < 18446744073709551616) (hk : e.kd < 256) (hd : e.data.length ≤ 200) : Kept (l ++ [e]) (rl ++ [recE e]) (W ++ [imK (l ++ [e]) (l.length + 1)]) := by
  have hq : (imK (l ++ [e]) (l.length + 1)).l = l.map En.pure ++ [e.pure] := by
    unfold imK
    rw [List.take_of_length_le (by simp)]
    simp
  have had : addP (stW W rl.length) 2 (entP e.ix e.tm e.kd e.data) = some (imK (l ++ [e]) (l.length + 1)) := by
    rw [h.n, h.st l.length (Nat.le_refl _), addP, if_neg (by decide), if_pos rfl, entR_entP hix ht hk (by omega)]
    show addE _ _ = _
    have h1 : (imK l l.length).l = l.map En.pure := by unfold imK; rw [List.take_length]
    unfold addE
    dsimp only
    rw [h1, if_neg (by show ¬(e.ix ≤ 0 ∨ (l.map En.pure).length < e.ix - 0 - 1); rw [List.length_map]; omega)]
    have h2 : (l.map En.pure).take (e.ix - (imK l l.length).ix - 1) = l.map En.pure := List.take_of_length_le (by show _ ≤ e.ix - 0 - 1; rw [List.length_map]; omega)
    rw [h2]
    congr 1
    unfold imK
    rw [List.take_of_length_le (l := l ++ [e]) (by simp)]
    simp [En.pure]
  refine ⟨h.tr.more (by decide) (by simp [entP, lenB]; omega) had, by simp [h.n], fun j hj => ?_⟩
  have hW : W.length = l.length := by rw [h.tr.len, h.n]
  rcases Nat.lt_or_ge l.length j with h1 | h1
  · obtain rfl : j = l.length + 1 := by simp at hj; omega
    have := stW_end W (imK (l ++ [e]) (l.length + 1))
    rwa [hW] at this
  · rw [stW_app (by omega), h.st j h1]
    unfold imK
    rw [List.take_append_of_le_length h1]
theorem enV_tk (l : List En) (k : Nat) (hk : k ≤ l.length) : (enV l).take (k * 4) = enV (l.take k) := by
  have e1 : enV l = enV (l.take k) ++ enV (l.drop k) := by rw [← List.flatMap_append, List.take_append_drop]
  rw [e1]
  exact List.take_left' (by rw [en_len, List.length_take, Nat.min_eq_left hk])
structure TpG where
  i : Nat
  F : Fz
  t : Nat
  l : List En
  rl : List (Nat × List UInt8)
  W : List PI
  bl : Bf
  be : Bf
  bd : Bf
  j0 : Nat
  ops : Nat
structure TpI (F0 : Fz) (n : Nat) (g : TpG) : Prop where
  F : F0.le g.F
  i : g.i ≤ n
  t : g.t ≤ g.i + 1
  l : g.l.length = g.i
  ok : ∀ e ∈ g.l, e.ok g.F
  kp : Kept g.l g.rl g.W
  al : (catR g.rl).length ≤ g.i * 230
  okl : g.bl.ok g.l.length
  oke : g.be.ok g.rl.length
  okd : g.bd.ok (catR g.rl).length
  j0 : g.j0 ≤ g.i
  ops : g.ops ≤ 2 * g.i
abbrev tpH (d : Nat) (g : TpG) : List Ent := DkE d g.bd (catR g.rl) (endAt g.rl g.j0) g.ops :: (g.bd.ents 1 (bytesV (catR g.rl)) ++ (g.bl.ents 4 (enV g.l) ++ (g.be.ents 1 (endsV g.rl) ++ [])))
set_option maxHeartbeats 3200000 in
theorem law_TopRecovers (O : World) (F : Fz) (vt : Value) (ts : List UInt8) (vp : Value) (rs : List (Value × List UInt8)) (vs : Value) (bs : List Bool) (keep : Nat) (hkeep : keep < 65536) (htv : SlB F [] vt ts) (hpv : Sl F [] 1 vp rs.length (rs.map (·.1))) (hr : ∀ r ∈ rs, SlB F [] r.1 r.2) (hsv : Sl F [] 1 vs bs.length (bs.map .bool)) :
    Does Tryz.prog O 3 #[vt, vp, vs, .int .u16 keep] F [] (fun r _ _ => r = .bool true) := by
  obtain ⟨a0, cap0, rfl, hcap0⟩ := Sl.shape htv
  obtain ⟨a1, cap1, rfl, hcap1⟩ := Sl.shape hpv
  obtain ⟨a2, cap2, rfl, hcap2⟩ := Sl.shape hsv
  refine does_of_run (args := [_, _, _, _]) Tryz.func3 rfl rfl ?_
  refine r_seq ?_
  refine r_region rfl ?_
  refine o_val rfl rfl rfl rfl (v_assign rfl) ?_
  refine o_end ?_
  refine r_seq ?_
  refine r_seq ?_
  refine r_region rfl ?_
  refine o_call rfl rfl rfl rfl (c_call callable4 rfl) (goes_ok _ _ _) ?_
  rintro v' F1 H' ⟨rfl, rfl, rfl⟩ _
  refine o_val rfl rfl rfl rfl (v_not rfl) ?_
  refine o_val rfl rfl rfl rfl (v_move rfl) ?_
  refine o_val rfl rfl rfl rfl (v_move rfl) ?_
  refine o_val rfl rfl rfl rfl (v_len rfl rfl) ?_
  refine o_val rfl rfl rfl rfl (v_gtr rfl rfl) ?_
  refine o_val rfl rfl rfl rfl (v_pick0 rfl rfl) ?_
  refine o_val rfl rfl rfl rfl (v_move rfl) ?_
  refine j_prop 26 rfl (fun g0 => ?_) (fun g0 => ?_)
  · refine o_skip rfl rfl rfl rfl ?_
    refine o_skip rfl rfl rfl rfl ?_
    refine o_skip rfl rfl rfl rfl ?_
    refine o_val rfl rfl rfl rfl (v_pick1 rfl rfl) ?_
    refine o_end ?_
    refine r_true rfl ?_
    refine r_seq ?_
    refine r_region rfl ?_
    refine o_call rfl rfl rfl rfl (c_call callable4 rfl) (goes_ok _ _ _) ?_
    rintro v' F2 H' ⟨rfl, rfl, rfl⟩ _
    refine o_val rfl rfl rfl rfl (v_assign rfl) ?_
    refine o_end ?_
    exact r_ret1 Tryz.func3 rfl rfl ⟨rfl, Fz.le_refl _⟩
  · refine o_val rfl rfl rfl rfl (v_move rfl) ?_
    refine o_val rfl rfl rfl rfl (v_len rfl rfl) ?_
    refine o_val rfl rfl rfl rfl (v_gtr rfl rfl) ?_
    refine o_val rfl rfl rfl rfl (v_pick0 rfl rfl) ?_
    refine o_end ?_
    refine r_if rfl (fun g1 => ?_) (fun g1 => ?_)
    · skip
      refine r_seq ?_
      refine r_region rfl ?_
      refine o_call rfl rfl rfl rfl (c_call callable4 rfl) (goes_ok _ _ _) ?_
      rintro v' F2 H' ⟨rfl, rfl, rfl⟩ _
      refine o_val rfl rfl rfl rfl (v_assign rfl) ?_
      refine o_end ?_
      exact r_ret1 Tryz.func3 rfl rfl ⟨rfl, Fz.le_refl _⟩
    · refine r_skip ?_
      refine r_seq ?_
      refine r_region rfl ?_
      refine o_call rfl rfl rfl rfl (c_call callable5 rfl) (dk_New _ _ _) ?_
      rintro v' F1 H' ⟨rfl, d, rfl, rfl⟩ _
      have he00 : endAt [] 0 = 0 := rfl
      refine o_val rfl rfl rfl rfl (v_assign rfl) ?_
      refine o_end ?_
      refine r_seq ?_
      refine r_region rfl ?_
      refine o_val rfl rfl rfl rfl (v_assign rfl) ?_
      refine o_end ?_
      refine r_seq ?_
      refine r_region rfl ?_
      refine o_val rfl rfl rfl rfl (v_assign rfl) ?_
      refine o_end ?_
      refine r_seq ?_
      refine r_region rfl ?_
      refine o_val rfl rfl rfl rfl (v_assign rfl) ?_
      refine o_end ?_
      refine r_seq ?_
      refine r_region rfl ?_
      refine o_val rfl rfl rfl rfl (v_assign rfl) ?_
      refine o_end ?_
      refine r_seq ?_
      refine r_seq ?_
      refine r_region rfl ?_
      refine o_val rfl rfl rfl rfl (v_assign rfl) ?_
      refine o_end ?_
      refine r_block ?_
      refine j_heap (H' := tpH d ⟨0, F1, 1, [], [], [], .nil, .nil, .nil, 0, 0⟩) rfl ?_
      refine r_loop (fun g : TpG => TpI F1 ts.length g) (fun g => [(0, .slice a0 ts.length cap0), (1, .slice a1 rs.length cap1), (2, .slice a2 bs.length cap2), (3, .int .u16 keep), (9, ptrV d), (10, g.bl.val g.l.length), (11, g.be.val g.rl.length), (12, .int .i64 g.j0), (13, .int .u64 g.t), (14, .int .i64 g.i)]) (fun g => g.F) (fun g => tpH d g) (fun g => ts.length - g.i) ⟨0, F1, 1, [], [], [], .nil, .nil, .nil, 0, 0⟩ ⟨Fz.le_refl _, Nat.zero_le _, Nat.le_refl _, rfl, by simp, Kept.nil, by simp, rfl, rfl, rfl, Nat.zero_le _, Nat.zero_le _⟩ ⟨rfl, rfl, rfl, rfl, rfl, rfl, rfl, rfl, rfl, rfl, trivial⟩ rfl rfl ?_
      rintro ⟨i, F4, t, l, rl, W, bl, be, bd, j0, ops⟩ hI IH
      obtain ⟨hF4, hi, ht, hl, hok, hkp, hal, okl, oke, okd, hj0, hops⟩ := hI
      dsimp only at hF4 hi ht hl hok hkp hal okl oke okd hj0 hops ⊢
      have hrl : rl.length = l.length := hkp.n
      have hts : ts.length ≤ 40 := by omega
      refine r_seq ?_
      refine r_seq ?_
      refine r_region rfl ?_
      refine o_val rfl rfl rfl rfl (v_move rfl) ?_
      refine o_val rfl rfl rfl rfl (v_move rfl) ?_
      refine o_val rfl rfl rfl rfl (v_len rfl rfl) ?_
      refine o_val rfl rfl rfl rfl (v_lss rfl rfl) ?_
      refine o_val rfl rfl rfl rfl (v_move rfl) ?_
      refine j_prop 37 rfl (fun h1 => ?_) (fun h1 => ?_)
      · refine o_val rfl rfl rfl rfl (v_move rfl) ?_
        refine o_val rfl rfl rfl rfl (v_move rfl) ?_
        refine o_val rfl rfl rfl rfl (v_len rfl rfl) ?_
        refine o_val rfl rfl rfl rfl (v_lss rfl rfl) ?_
        refine o_val rfl rfl rfl rfl (v_pick1 rfl rfl) ?_
        refine o_end ?_
        refine r_if rfl (fun h2 => ?_) (fun h2 => ?_)
        · have hit : i < ts.length := by omega
          have hip : i < rs.length := by omega
          obtain ⟨b0, off0, c0, hab, _, hc0⟩ := Sl.view (htv.frz (H := []) hF4) (by simp; omega)
          simp only [Value.slice.injEq] at hab
          obtain ⟨rfl, _, rfl⟩ := hab
          have hct : Cell F4 [] b0 (off0 + i) (.int .u8 ts[i].toNat) := hc0 i (byteV ts[i]) (by rw [bytesV_get, List.getElem?_eq_getElem hit]; rfl)
          have hq256 := ts[i].toNat_lt
          generalize ts[i].toNat = q at hct hq256
          obtain ⟨b1, off1, c1, hab, _, hc1⟩ := Sl.view (hpv.frz (H := []) hF4) (by omega)
          simp only [Value.slice.injEq] at hab
          obtain ⟨rfl, _, rfl⟩ := hab
          have hcp : Cell F4 [] b1 (off1 + i) rs[i].1 := hc1 i rs[i].1 (by rw [List.getElem?_map, List.getElem?_eq_getElem hip]; rfl)
          have hrb : SlB F4 [] rs[i].1 rs[i].2 := (hr rs[i] (List.getElem_mem _)).frz hF4
          generalize rs[i].1 = pv at hcp hrb
          generalize rs[i].2 = pb at hrb
          obtain ⟨ap, cp, rfl, hcap⟩ := Sl.shape hrb
          have m2 : (q : Int).tmod 2 = ((q % 2 : Nat) : Int) := rfl
          refine r_skip ?_
          refine r_seq ?_
          refine r_block ?_
          refine r_seq ?_
          refine r_seq ?_
          refine r_region rfl ?_
          refine o_val rfl rfl rfl rfl (v_move rfl) ?_
          refine o_val rfl rfl rfl rfl (v_move rfl) ?_
          refine o_val rfl rfl rfl rfl (v_index1 rfl rfl rfl rfl hip) ?_
          refine o_val rfl rfl rfl rfl (v_load rfl rfl (hcp.mono (Fz.le_refl _) (by simp))) ?_
          refine o_val rfl rfl rfl rfl (v_len rfl rfl) ?_
          refine o_val rfl rfl rfl rfl (v_gtr rfl rfl) ?_
          refine o_end ?_
          refine r_if rfl (fun h3 => ?_) (fun h3 => ?_)
          · refine r_seq ?_
            refine r_region rfl ?_
            refine o_val rfl rfl rfl rfl (v_assign rfl) ?_
            refine o_end ?_
            exact r_ret1 Tryz.func3 rfl rfl ⟨rfl, hF4⟩
          · have hpb : pb.length ≤ 200 := by omega
            obtain ⟨e, he⟩ : ∃ e : En, e = ⟨i + 1, t + q % 2, 0, .slice ap pb.length cp, pb⟩ := ⟨_, rfl⟩
            have heo : e.ok F4 := by rw [he]; exact ⟨by dsimp only; omega, by dsimp only; omega, by dsimp only; omega, hrb, by dsimp only; omega⟩
            have heo1 := heo.one
            refine r_skip ?_
            refine r_seq ?_
            refine r_region rfl ?_
            refine o_val rfl rfl rfl rfl (v_move rfl) ?_
            refine o_val rfl rfl rfl rfl (v_move rfl) ?_
            refine o_val rfl rfl rfl rfl (v_move rfl) ?_
            refine o_val rfl rfl rfl rfl (v_index1 rfl rfl rfl rfl hit) ?_
            refine o_val rfl rfl rfl rfl (v_load rfl rfl (hct.mono (Fz.le_refl _) (by simp))) ?_
            refine o_val rfl rfl rfl rfl (v_rem rfl rfl (by decide) m2) ?_
            refine o_val rfl rfl rfl rfl (v_conv rfl rfl rfl (wrap_u64 (by omega) (by omega))) ?_
            refine o_val rfl rfl rfl rfl (v_add rfl rfl (r := ((t + q % 2 : Nat) : Int)) ((wrap_u64 (by omega) (by omega)).trans (by omega))) ?_
            refine o_val rfl rfl rfl rfl (v_assign rfl) ?_
            refine o_end ?_
            refine r_seq ?_
            refine r_region rfl ?_
            refine o_val rfl rfl rfl rfl (v_move rfl) ?_
            refine o_val rfl rfl rfl rfl (v_add rfl rfl (r := ((i + 1 : Nat) : Int)) ((wrap_i64 (by omega) (by omega)).trans (by omega))) ?_
            refine o_val rfl rfl rfl rfl (v_conv rfl rfl rfl (wrap_u64 (by omega) (by omega))) ?_
            refine o_val rfl rfl rfl rfl (v_move rfl) ?_
            refine o_val rfl rfl rfl rfl (v_move rfl) ?_
            refine o_val rfl rfl rfl rfl (v_move rfl) ?_
            refine o_val rfl rfl rfl rfl (v_index1 rfl rfl rfl rfl hip) ?_
            refine o_val rfl rfl rfl rfl (v_load rfl rfl (hcp.mono (Fz.le_refl _) (by simp))) ?_
            refine o_val rfl rfl rfl rfl (v_build rfl rfl) ?_
            refine o_act rfl rfl rfl rfl (a_alloc rfl) ?_
            rintro v' H' ⟨x, rfl, rfl⟩
            refine o_act0 rfl rfl rfl (a_store (sz := 4) 0 rfl rfl rfl rfl rfl rfl (Nat.le_of_ble_eq_true rfl)) ?_
            refine j_heap (H' := .mem x e.cells 4 :: tpH d ⟨i, F4, t, l, rl, W, bl, be, bd, j0, ops⟩) (by rw [he]; rfl) ?_
            obtain ⟨DK, hDK⟩ : ∃ DK : Ent, DK = DkE d bd (catR rl) (endAt rl j0) ops := ⟨_, rfl⟩
            refine j_heap (H' := .mem x e.cells 4 :: DK :: (bd.ents 1 (bytesV (catR rl)) ++ (bl.ents 4 (enV l) ++ (be.ents 1 (endsV rl) ++ [])))) (by rw [hDK]) ?_
            refine o_end ?_
            refine r_seq ?_
            refine r_region rfl ?_
            refine o_val rfl rfl rfl rfl (v_move rfl) ?_
            refine o_val rfl rfl rfl rfl (v_loadAgg (sz := 4) (cs := e.cells) rfl rfl rfl rfl (cells_ofp (j := 0) _ _ rfl rfl)) ?_
            refine o_act rfl rfl rfl rfl (a_buildS (sz := 4) (cs := e.cells) [.tmp 69] rfl rfl rfl rfl rfl rfl rfl rfl rfl rfl) ?_
            rintro v' H' ⟨y1, rfl, rfl⟩
            refine o_act rfl rfl rfl rfl (a_appendP (bf := bl) (n := l.length) (m := 1) (ys := enV [e]) (sz := 4) (bytes := 48) (.mem y1 e.cells 4 :: .mem x e.cells 4 :: DK :: bd.ents 1 (bytesV (catR rl))) ⟨⟨_, _, _, rfl, rfl, rfl, rfl, rfl, rfl⟩, by decide⟩ rfl okl (en_len l) (H1 := be.ents 1 (endsV rl) ++ []) (by simp only [List.cons_append, List.append_assoc]) rfl (sl_lit (e := e) (List.mem_cons_self ..)) (by simpa [enV] using heo1) (by unfold maxLen; omega) (by omega)) ?_
            rintro v' H' ⟨bl2, rfl, okl2, rfl⟩
            rw [← show enV (l ++ [e]) = enV l ++ enV [e] from List.flatMap_append]
            refine o_val rfl rfl rfl rfl (v_assign rfl) ?_
            refine o_end ?_
            refine r_seq ?_
            refine r_region rfl ?_
            refine o_val rfl rfl rfl rfl (v_move rfl) ?_
            refine o_val rfl rfl rfl rfl (v_loadAgg (sz := 4) (cs := e.cells) rfl rfl rfl rfl (cells_ofp (j := 1) _ _ rfl rfl)) ?_
            refine o_act rfl rfl rfl rfl (a_buildS (sz := 4) (cs := e.cells) [.tmp 73] rfl rfl rfl rfl rfl rfl rfl rfl rfl rfl) ?_
            rintro v' H' ⟨y2, rfl, rfl⟩
            rw [hDK]
            refine j_sel (H' := (Bf.at y2 1).ents 4 (enV [e]) ++ (DkE d bd (catR rl) (endAt rl j0) ops :: (bd.ents 1 (bytesV (catR rl)) ++ (bl2.ents 4 (enV (l ++ [e])) ++ (be.ents 1 (endsV rl) ++ []))))) [[Ent.mem y2 e.cells 4], [Ent.mem y1 e.cells 4], [Ent.mem x e.cells 4], [DkE d bd (catR rl) (endAt rl j0) ops], bd.ents 1 (bytesV (catR rl)), bl2.ents 4 (enV (l ++ [e])), be.ents 1 (endsV rl), []] [0, 3, 4, 5, 6, 7] (by simp [cat]) rfl rfl ?_
            refine j_freezeBf (n := 1) (Nat.le_refl 1) rfl fun F5 hF5 hs5 => ?_
            have hkp2 : Kept (l ++ [e]) (rl ++ [recE e]) (W ++ [imK (l ++ [e]) (l.length + 1)]) := by
              have h1 := heo.ix
              have h2 := heo.tm
              have h3 := heo.kd
              refine hkp.more ?_ h1 h2 h3 ?_
              · rw [he, hl]
              · rw [he]; exact hpb
            have hsb : catR rl ++ saveB false 0 0 ([e].map En.pure) = catR (rl ++ [recE e]) := by
              rw [catR_append]
              simp [saveB, hdrB, catR, PE.bs, En.pure, entsB]
            have hnl : (catR (rl ++ [recE e])).length ≤ (i + 1) * 230 := by
              rw [catR_append, List.length_append]
              have : (catR [recE e]).length = pb.length + 30 := by simp [catR, he]; omega
              omega
            refine o_val rfl rfl rfl rfl (v_build rfl rfl) ?_
            refine o_call rfl rfl rfl rfl (c_call callable6 rfl) (wal_Keep _ _ d bd (catR rl) (endAt rl j0) ops false 0 0 _ [e] _ okd (by omega) (by omega) hs5 (by intro e' he'; rw [List.mem_singleton] at he'; rw [he']; exact heo.frz hF5) (by simp) (by decide) (by decide)) ?_
            rintro v' F5 H' ⟨rfl, rfl, bd2, okd2, rfl⟩ _
            rw [hsb] at okd2 ⊢
            refine o_end ?_
            refine r_seq ?_
            refine r_region rfl ?_
            refine o_val rfl rfl rfl rfl (v_move rfl) ?_
            refine o_val rfl rfl rfl rfl (v_move rfl) ?_
            refine o_call rfl rfl rfl rfl (c_call callable7 rfl) (dk_Len _ _ d bd2 (catR (rl ++ [recE e])) (endAt rl j0) (ops + 1) _) ?_
            rintro v' F5 H' ⟨rfl, rfl, rfl⟩ _
            refine o_act rfl rfl rfl rfl (a_buildS (sz := 1) (cs := [.int .i64 (catR (rl ++ [recE e])).length]) [.tmp 79] rfl rfl rfl rfl rfl rfl rfl rfl rfl rfl) ?_
            rintro v' H' ⟨y3, rfl, rfl⟩
            obtain ⟨DK2, hDK2⟩ : ∃ DK2 : Ent, DK2 = DkE d bd2 (catR (rl ++ [recE e])) (endAt rl j0) (ops + 1) := ⟨_, rfl⟩
            rw [← hDK2]
            refine j_heap (H' := .mem y3 [.int .i64 (catR (rl ++ [recE e])).length] 1 :: DK2 :: (bd2.ents 1 (bytesV (catR (rl ++ [recE e]))) ++ (bl2.ents 4 (enV (l ++ [e])) ++ (be.ents 1 (endsV rl) ++ [])))) rfl ?_
            refine o_act rfl rfl rfl rfl (a_appendP (bf := be) (n := rl.length) (xs := endsV rl) (m := 1) (ys := [.int .i64 (catR (rl ++ [recE e])).length]) (sz := 1) (bytes := 8) (.mem y3 [.int .i64 (catR (rl ++ [recE e])).length] 1 :: DK2 :: (bd2.ents 1 (bytesV (catR (rl ++ [recE e]))) ++ bl2.ents 4 (enV (l ++ [e])))) ⟨⟨_, _, _, rfl, rfl, rfl, rfl, rfl, rfl⟩, by decide⟩ rfl oke (by simp) (H1 := []) (by simp only [List.cons_append, List.append_assoc]) rfl ⟨_, 1, rfl, rfl, by simp, by simp, fun j c hj => ⟨y3, 0, rfl, cell_at (j := 0) rfl (by simpa using hj)⟩⟩ rfl (by unfold maxLen; omega) (by omega)) ?_
            rintro v' H' ⟨be2, rfl, oke2, rfl⟩
            rw [← endsV_app]
            have hrl1 : (rl ++ [recE e]).length = rl.length + 1 := by simp
            have hl1 : (l ++ [e]).length = l.length + 1 := by simp
            refine j_sel (H' := DK2 :: (bd2.ents 1 (bytesV (catR (rl ++ [recE e]))) ++ (bl2.ents 4 (enV (l ++ [e])) ++ (be2.ents 1 (endsV (rl ++ [recE e])) ++ [])))) [[Ent.mem y3 [.int .i64 (catR (rl ++ [recE e])).length] 1], [DK2], bd2.ents 1 (bytesV (catR (rl ++ [recE e]))), bl2.ents 4 (enV (l ++ [e])), be2.ents 1 (endsV (rl ++ [recE e])), []] [1, 2, 3, 4, 5] (by simp [cat]) rfl rfl ?_
            have hea : endAt (rl ++ [recE e]) j0 = endAt rl j0 := endAt_app (by omega)
            have hF15 := Fz.le_trans hF4 hF5
            have hnext : ∀ j2 o2, j2 ≤ i + 1 → o2 ≤ 2 * (i + 1) → TpI F1 ts.length ⟨i + 1, F5, t + q % 2, l ++ [e], rl ++ [recE e], W ++ [imK (l ++ [e]) (l.length + 1)], bl2, be2, bd2, j2, o2⟩ := fun j2 o2 h1 h2 => ⟨hF15, hit, by dsimp only; omega, by dsimp only; omega, fun e' he' => by
              rcases List.mem_append.1 he' with h | h
              · exact (hok e' h).frz hF5
              · rw [List.mem_singleton] at h; rw [h]; exact heo.frz hF5, hkp2, hnl, by dsimp only; rw [hl1]; exact okl2, by dsimp only; rw [hrl1]; exact oke2, okd2, h1, h2⟩
            refine o_val rfl rfl rfl rfl (v_assign rfl) ?_
            refine o_end ?_
            refine r_seq ?_
            refine r_region rfl ?_
            refine o_val rfl rfl rfl rfl (v_move rfl) ?_
            refine o_val rfl rfl rfl rfl (v_move rfl) ?_
            refine o_val rfl rfl rfl rfl (v_len rfl rfl) ?_
            refine o_val rfl rfl rfl rfl (v_lss rfl rfl) ?_
            refine o_val rfl rfl rfl rfl (v_move rfl) ?_
            refine j_prop 86 rfl (fun h4 => ?_) (fun h4 => ?_)
            · have hib : i < bs.length := by omega
              obtain ⟨b2, off2, c2, hab, _, hc2⟩ := Sl.view (hsv.frz (H := []) hF15) (by omega)
              simp only [Value.slice.injEq] at hab
              obtain ⟨rfl, _, rfl⟩ := hab
              have hcs : Cell F5 [] b2 (off2 + i) (.bool bs[i]) := hc2 i (.bool bs[i]) (by rw [List.getElem?_map, List.getElem?_eq_getElem hib]; rfl)
              generalize bs[i] = sy at hcs
              refine o_val rfl rfl rfl rfl (v_move rfl) ?_
              refine o_val rfl rfl rfl rfl (v_move rfl) ?_
              refine o_val rfl rfl rfl rfl (v_index1 rfl rfl rfl rfl hib) ?_
              refine o_val rfl rfl rfl rfl (v_load rfl rfl (hcs.mono (Fz.le_refl _) (by simp))) ?_
              refine o_val rfl rfl rfl rfl (v_pick1 rfl rfl) ?_
              refine o_end ?_
              cases sy with
              | true =>
                refine r_true rfl ?_
                rw [hDK2]
                refine r_seq ?_
                refine r_region rfl ?_
                refine o_val rfl rfl rfl rfl (v_move rfl) ?_
                refine o_call rfl rfl rfl rfl (c_call callable8 rfl) (dk_Sync _ _ d bd2 (catR (rl ++ [recE e])) (endAt rl j0) (ops + 1) _ (by omega)) ?_
                rintro v' F5 H' ⟨rfl, rfl, rfl⟩ _
                have heb : endAt (rl ++ [recE e]) (i + 1) = (catR (rl ++ [recE e])).length := by
                  have := endAt_len (rl ++ [recE e])
                  rwa [hrl1, hrl, hl] at this
                refine j_heap (H' := tpH d ⟨i + 1, F5, t + q % 2, l ++ [e], rl ++ [recE e], W ++ [imK (l ++ [e]) (l.length + 1)], bl2, be2, bd2, i + 1, ops + 1 + 1⟩) (by unfold tpH; dsimp only; rw [heb]) ?_
                have hj2 : i + 1 ≤ i + 1 := Nat.le_refl _
                have ho2 : ops + 1 + 1 ≤ 2 * (i + 1) := by omega
                refine o_end ?_
                refine r_region rfl ?_
                refine o_val rfl rfl rfl rfl (v_move rfl) ?_
                refine o_val rfl rfl rfl rfl (v_add rfl rfl (wrap_i64 (by omega) (by omega))) ?_
                refine o_val rfl rfl rfl rfl (v_assign rfl) ?_
                refine o_end ?_
                refine r_inBlock ?_
                refine r_region rfl ?_
                refine o_val rfl rfl rfl rfl (v_move rfl) ?_
                refine o_val rfl rfl rfl rfl (v_add rfl rfl (wrap_i64 (by omega) (by omega))) ?_
                refine o_val rfl rfl rfl rfl (v_assign rfl) ?_
                refine o_end ?_
                refine j_keep ?_ (IH _ (hnext _ _ hj2 ho2) (by dsimp only; omega))
                exact ⟨rfl, rfl, rfl, rfl, rfl, by dsimp only; rw [hl1]; rfl, by dsimp only; rw [hrl1]; rfl, rfl, rfl, rfl, trivial⟩
              | false =>
                refine r_false rfl ?_
                rw [hDK2]
                refine j_heap (H' := tpH d ⟨i + 1, F5, t + q % 2, l ++ [e], rl ++ [recE e], W ++ [imK (l ++ [e]) (l.length + 1)], bl2, be2, bd2, j0, ops + 1⟩) (by unfold tpH; dsimp only; rw [hea]) ?_
                have hj2 : j0 ≤ i + 1 := by omega
                have ho2 : ops + 1 ≤ 2 * (i + 1) := by omega
                refine r_skip ?_
                refine r_inBlock ?_
                refine r_region rfl ?_
                refine o_val rfl rfl rfl rfl (v_move rfl) ?_
                refine o_val rfl rfl rfl rfl (v_add rfl rfl (wrap_i64 (by omega) (by omega))) ?_
                refine o_val rfl rfl rfl rfl (v_assign rfl) ?_
                refine o_end ?_
                refine j_keep ?_ (IH _ (hnext _ _ hj2 ho2) (by dsimp only; omega))
                exact ⟨rfl, rfl, rfl, rfl, rfl, by dsimp only; rw [hl1]; rfl, by dsimp only; rw [hrl1]; rfl, rfl, rfl, rfl, trivial⟩
            · refine o_skip rfl rfl rfl rfl ?_
              refine o_skip rfl rfl rfl rfl ?_
              refine o_skip rfl rfl rfl rfl ?_
              refine o_skip rfl rfl rfl rfl ?_
              refine o_val rfl rfl rfl rfl (v_pick0 rfl rfl) ?_
              refine o_end ?_
              refine r_false rfl ?_
              rw [hDK2]
              refine j_heap (H' := tpH d ⟨i + 1, F5, t + q % 2, l ++ [e], rl ++ [recE e], W ++ [imK (l ++ [e]) (l.length + 1)], bl2, be2, bd2, j0, ops + 1⟩) (by unfold tpH; dsimp only; rw [hea]) ?_
              have hj2 : j0 ≤ i + 1 := by omega
              have ho2 : ops + 1 ≤ 2 * (i + 1) := by omega
              refine r_skip ?_
              refine r_inBlock ?_
              refine r_region rfl ?_
              refine o_val rfl rfl rfl rfl (v_move rfl) ?_
              refine o_val rfl rfl rfl rfl (v_add rfl rfl (wrap_i64 (by omega) (by omega))) ?_
              refine o_val rfl rfl rfl rfl (v_assign rfl) ?_
              refine o_end ?_
              refine j_keep ?_ (IH _ (hnext _ _ hj2 ho2) (by dsimp only; omega))
              exact ⟨rfl, rfl, rfl, rfl, rfl, by dsimp only; rw [hl1]; rfl, by dsimp only; rw [hrl1]; rfl, rfl, rfl, rfl, trivial⟩
        · refine r_exit rfl ?_
          refine r_seq ?_
          refine r_region rfl ?_
          refine o_val rfl rfl rfl rfl (v_move rfl) ?_
          refine o_val rfl rfl rfl rfl (v_move rfl) ?_
          clear IH
          have hcutl : ∀ j c, j ≤ rl.length → endAt rl j ≤ c → (j < rl.length → c < endAt rl (j + 1)) → scanP nilI ((catR rl).take c) = (imK l j, endAt rl j) := fun j c h1 h2 h3 => by
            have := scan_cut hkp.tr (tail := []) (.inl rfl) h1 h2 h3
            rwa [List.append_nil, hkp.st j (by omega)] at this
          have hsl : endAt rl j0 ≤ (catR rl).length := by
            have := endAt_mono (rl := rl) (show j0 ≤ rl.length by omega) (Nat.le_refl rl.length)
            rwa [endAt_len] at this
          have hmono2 : ∀ j, j < j0 → endAt rl (j + 1) ≤ endAt rl j0 := fun j h1 => endAt_mono h1 (by omega)
          generalize hall : catR rl = all at *
          have hal6 : all.length ≤ 9200 := by omega
          generalize hsr : endAt rl j0 = sure at *
          refine j_sel (H' := be.ents 1 (endsV rl) ++ (bl.ents 4 (enV l) ++ (DkE d bd all sure ops :: (bd.ents 1 (bytesV all) ++ [])))) [[DkE d bd all sure ops], bd.ents 1 (bytesV all), bl.ents 4 (enV l), be.ents 1 (endsV rl), []] [3, 2, 0, 1, 4] (by simp [tpH, cat, hall, hsr]) rfl rfl ?_
          refine j_freezeBf (n := rl.length) oke (by simp) fun F5 hF5 hs5 => ?_
          refine j_freezeBf (n := l.length) okl (en_len l) fun F6 hF6 hs6 => ?_
          have hE : Sl F6 [] 1 (be.val rl.length) rl.length (endsV rl) := Sl.frz (H := []) hs5 hF6
          have hF46 := Fz.le_trans hF5 hF6
          refine o_val rfl rfl rfl rfl (v_conv rfl rfl rfl (wrap_i64 (by omega) (by omega))) ?_
          refine o_val rfl rfl rfl rfl (v_rem rfl rfl (by decide) (r := ((keep % 700 : Nat) : Int)) rfl) ?_
          refine o_call rfl rfl rfl rfl (c_call callable9 rfl) (dk_Crash _ _ d bd all sure ops ((keep % 700 : Nat) : Int) _ okd (by omega) hsl (by omega) (by omega)) ?_
          rintro v' F6 H' ⟨rfl, rfl, rfl⟩ _
          obtain ⟨K, hK⟩ : ∃ K, K = sure + min ((keep % 700 : Nat) : Int).toNat (all.length - sure) := ⟨_, rfl⟩
          rw [← hK]
          have hK1 : sure ≤ K := by omega
          have hK2 : K ≤ all.length := by omega
          clear hK
          have htl : (all.take K).length = K := by simp; omega
          have okd2 : bd.ok (all.take K).length := Bf.ok_le okd (by rw [htl]; exact hK2)
          refine o_end ?_
          refine r_seq ?_
          refine r_region rfl ?_
          refine o_val rfl rfl rfl rfl (v_assign rfl) ?_
          refine o_end ?_
          refine r_seq ?_
          refine r_block ?_
          have he0 : endAt rl 0 = 0 := by simp [endAt]
          refine r_loop (fun j : Nat => j ≤ rl.length ∧ endAt rl j ≤ K) (fun j => [(9, ptrV d), (10, bl.val l.length), (11, be.val rl.length), (12, .int .i64 j0), (16, .int .i64 j)]) (fun _ => F6) (fun j => DkE d bd (all.take K) K ops :: (bd.ents 1 (bytesV (all.take K)) ++ [])) (fun j => rl.length - j) 0 ⟨Nat.zero_le _, by rw [he0]; exact Nat.zero_le _⟩ ⟨rfl, rfl, rfl, rfl, rfl, trivial⟩ rfl rfl ?_
          intro j ⟨hj1, hj2⟩ IH
          refine r_seq ?_
          refine r_seq ?_
          refine d_region 1000000 rfl ([]) ?_
          refine d_take (i := 0) rfl rfl rfl (by decide +kernel) (by decide +kernel) (by decide +kernel) (Fz.le_refl _) (by simp) rfl (v_move rfl) ?_
          refine d_take (i := 1) rfl rfl rfl (by decide +kernel) (by decide +kernel) (by decide +kernel) (Fz.le_refl _) (by simp) rfl (v_move rfl) ?_
          refine d_take (i := 2) rfl rfl rfl (by decide +kernel) (by decide +kernel) (by decide +kernel) (Fz.le_refl _) (by simp) rfl (v_len rfl rfl) ?_
          refine d_take (i := 3) rfl rfl rfl (by decide +kernel) (by decide +kernel) (by decide +kernel) (Fz.le_refl _) (by simp) rfl (v_lss rfl rfl) ?_
          refine d_take (i := 4) rfl rfl rfl (by decide +kernel) (by decide +kernel) (by decide +kernel) (Fz.le_refl _) (by simp) rfl (v_move rfl) ?_
          refine j_prop 105 rfl (fun h2 => ?_) (fun h2 => ?_)
          · have hjl : j < rl.length := by omega
            cases be with
            | nil =>
              have : rl.length = 0 := oke
              omega
            | «at» eb ec =>
              obtain ⟨b1, o1, c1, hab, _, hcE⟩ := Sl.view hE (by omega)
              change Value.slice (some ⟨eb, 0, none⟩) _ ec = _ at hab
              cases hab
              have hce := hcE j _ (endsV_get hjl)
              refine d_take (i := 5) rfl rfl rfl (by decide +kernel) (by decide +kernel) (by decide +kernel) (Fz.le_refl _) (by simp) rfl (v_move rfl) ?_
              refine d_take (i := 6) rfl rfl rfl (by decide +kernel) (by decide +kernel) (by decide +kernel) (Fz.le_refl _) (by simp) rfl (v_move rfl) ?_
              refine d_take (i := 7) rfl rfl rfl (by decide +kernel) (by decide +kernel) (by decide +kernel) (Fz.le_refl _) (by simp) rfl (v_index1 rfl rfl rfl rfl hjl) ?_
              refine d_take (i := 8) rfl rfl rfl (by decide +kernel) (by decide +kernel) (by decide +kernel) (Fz.le_refl _) (by simp) rfl (v_load (v := .int .i64 (endAt rl (j + 1) : Nat)) rfl rfl (hce.mono (Fz.le_refl _) (by simp))) ?_
              refine d_take (i := 9) rfl rfl rfl (by decide +kernel) (by decide +kernel) (by decide +kernel) (Fz.le_refl _) (by simp) rfl (v_move rfl) ?_
              refine d_one (i := 10) (by decide +kernel) ?_
              refine d1_call rfl rfl rfl rfl (c_call callable7 rfl) (dk_Len _ _ d bd (all.take K) K ops _) ?_
              rintro v' F6 H' ⟨rfl, rfl, rfl⟩ _
              refine ⟨fun w hw => held_of hw (by first | exact Fz.le_refl _ | assumption) (by simp), ?_⟩
              refine d_take (i := 11) rfl rfl rfl (by decide +kernel) (by decide +kernel) (by decide +kernel) (Fz.le_refl _) (by simp) rfl (v_leq rfl rfl) ?_
              refine d_take (i := 12) rfl rfl rfl (by decide +kernel) (by decide +kernel) (by decide +kernel) (Fz.le_refl _) (by simp) rfl (v_pick1 rfl rfl) ?_
              refine d_end (by decide +kernel) ?_
              refine r_if rfl (fun h3 => ?_) (fun h3 => ?_)
              · refine r_skip ?_
                refine r_block ?_
                refine r_region rfl ?_
                refine o_val rfl rfl rfl rfl (v_move rfl) ?_
                refine o_val rfl rfl rfl rfl (v_add rfl rfl (wrap_i64 (by omega) (by omega))) ?_
                refine o_val rfl rfl rfl rfl (v_assign rfl) ?_
                refine o_end ?_
                refine r_inBlock ?_
                refine j_keep ?_ (IH (j + 1) ⟨hjl, by omega⟩ (by omega))
                exact ⟨rfl, rfl, rfl, rfl, rfl, trivial⟩
              · have hnx : j < rl.length → K < endAt rl (j + 1) := fun _ => by omega
                refine r_exit rfl ?_
                refine r_seq ?_
                refine r_region rfl ?_
                refine o_val rfl rfl rfl rfl (v_move rfl) ?_
                clear IH
                have hct := hcutl j K hj1 hj2 hnx
                have hjj : j0 ≤ j := by
                  rcases Nat.lt_or_ge j j0 with hlt | hge
                  · have h1 := hmono2 j hlt
                    have h2 := hnx (by omega)
                    omega
                  · exact hge
                refine o_call rfl rfl rfl rfl (c_call callable10 rfl) (wal_Open _ _ d bd (all.take K) K ops _ okd2 (by rw [htl]; omega) (by omega)) ?_
                rintro v' F7 H' ⟨hF7, p, bf2, sure2, ops2, hp, hpl, hpp, rfl, okf2, hsu, rfl⟩ _
                have hpo := hp.one
                rw [hct] at hpp
                have hppl : p.l.map En.pure = (l.take j).map En.pure := congrArg PI.l hpp
                obtain ⟨DK, hDK⟩ : ∃ DK : Ent, DK = DkE d bf2 ((all.take K).take (scanP nilI (all.take K)).2) sure2 ops2 := ⟨_, rfl⟩
                rw [← hDK]
                obtain ⟨aL, cL, hblv, hcL⟩ := Sl.shape hs6
                rw [hblv]
                refine o_val rfl rfl rfl rfl (v_move rfl) ?_
                refine o_val rfl rfl rfl rfl (v_extract rfl rfl) ?_
                refine o_val rfl rfl rfl rfl (v_extract rfl rfl) ?_
                refine o_act rfl rfl rfl rfl (a_alloc rfl) ?_
                rintro v' H' ⟨z, rfl, rfl⟩
                refine o_act0 rfl rfl rfl (a_store (sz := 7) 0 rfl rfl rfl (by simpa [Value.cells] using hpo) rfl rfl (Nat.le_of_ble_eq_true rfl)) ?_
                refine j_sel (H' := [.mem z p.cells 7]) [[Ent.mem z p.cells 7], [DK], bf2.ents 1 (bytesV ((all.take K).take (scanP nilI (all.take K)).2)), []] [0] rfl rfl rfl ?_
                refine o_val rfl rfl rfl rfl (v_assign rfl) ?_
                refine o_end ?_
                refine r_seq ?_
                refine d_region 1000000 rfl ([.mem z p.cells 7]) ?_
                refine d_take (i := 0) rfl rfl rfl (by decide +kernel) (by decide +kernel) (by decide +kernel) (Fz.le_refl _) (by simp) rfl (v_move rfl) ?_
                refine d_take (i := 1) rfl rfl rfl (by decide +kernel) (by decide +kernel) (by decide +kernel) (Fz.le_refl _) (by simp) rfl (v_eql rfl rfl) ?_
                refine d_take (i := 2) rfl rfl rfl (by decide +kernel) (by decide +kernel) (by decide +kernel) (Fz.le_refl _) (by simp) rfl (v_move rfl) ?_
                refine d_take (i := 3) rfl rfl rfl (by decide +kernel) (by decide +kernel) (by decide +kernel) (Fz.le_refl _) (by simp) rfl (v_move rfl) ?_
                refine d_take (i := 4) rfl rfl rfl (by decide +kernel) (by decide +kernel) (by decide +kernel) (Fz.le_refl _) (by simp) rfl (v_move rfl) ?_
                refine d_take (i := 5) rfl rfl rfl (by decide +kernel) (by decide +kernel) (by decide +kernel) (Fz.le_refl _) (by simp) rfl (v_geq rfl rfl) ?_
                refine j_slot 126 rfl (v' := .bool true) (by rw [decide_eq_true (by omega)]) ?_
                have hsl2 : Sl F7 [] 4 (Go.sliced aL 0 j cL 4) j (enV (l.take j)) := by
                  have h0 : Sl F6 [] 4 (.slice aL l.length cL) l.length (enV l) := by rw [← hblv]; exact hs6
                  have h1 := Sl.sliced h0 (Nat.zero_le j) (show j ≤ l.length by omega)
                  rw [Nat.zero_mul, List.drop_zero, Nat.sub_zero, enV_tk l j (by omega)] at h1
                  exact h1.frz hF7
                have hlj : (l.take j).length = j := by simp; omega
                refine d_take (i := 6) rfl rfl rfl (by decide +kernel) (by decide +kernel) (by decide +kernel) (Fz.le_refl _) (by simp) rfl (v_pick1 rfl rfl) ?_
                refine d_take (i := 7) rfl rfl rfl (by decide +kernel) (by decide +kernel) (by decide +kernel) (Fz.le_refl _) (by simp) rfl (v_move rfl) ?_
                refine d_take (i := 8) rfl rfl rfl (by decide +kernel) (by decide +kernel) (by decide +kernel) (Fz.le_refl _) (by simp) rfl (v_field (k := 6) rfl rfl rfl) ?_
                refine d_take (i := 9) rfl rfl rfl (by decide +kernel) (by decide +kernel) (by decide +kernel) (Fz.le_refl _) (by simp) rfl (v_load rfl rfl (cell_at (j := 0) rfl rfl)) ?_
                refine d_take (i := 10) rfl rfl rfl (by decide +kernel) (by decide +kernel) (by decide +kernel) (Fz.le_refl _) (by simp) rfl (v_move rfl) ?_
                refine d_take (i := 11) rfl rfl rfl (by decide +kernel) (by decide +kernel) (by decide +kernel) (Fz.le_refl _) (by simp) rfl (v_move rfl) ?_
                refine d_take (i := 12) rfl rfl rfl (by decide +kernel) (by decide +kernel) (by decide +kernel) (Fz.le_refl _) (by simp) rfl (v_sliceH (sz := 4) rfl rfl rfl rfl rfl (by omega)) ?_
                refine d_one (i := 13) (by decide +kernel) ?_
                refine d1_call rfl rfl rfl rfl (c_call callable11 rfl) (ref_SameE _ _ _ _ p.l (l.take j) _ (hp.lv.frz (Fz.le_refl _)) (by rw [hlj]; exact hsl2.mono (Fz.le_refl _) (by simp)) hp.l (fun e he => (hok e (List.mem_of_mem_take he)).frz (Fz.le_trans hF46 hF7)) hppl (by have := congrArg List.length hppl; simp at this; omega)) ?_
                rintro v' F7 H' ⟨rfl, rfl, rfl⟩ _
                refine ⟨fun w hw => held_of hw (by first | exact Fz.le_refl _ | assumption) (by simp), ?_⟩
                refine d_take (i := 14) rfl rfl rfl (by decide +kernel) (by decide +kernel) (by decide +kernel) (Fz.le_refl _) (by simp) rfl (v_pick1 rfl rfl) ?_
                refine d_take (i := 15) rfl rfl rfl (by decide +kernel) (by decide +kernel) (by decide +kernel) (Fz.le_refl _) (by simp) rfl (v_assign rfl) ?_
                refine d_end (by decide +kernel) ?_
                exact r_ret1 Tryz.func3 rfl rfl ⟨rfl, Fz.le_trans hF4 (Fz.le_trans hF46 hF7)⟩
          · have hnx : j < rl.length → K < endAt rl (j + 1) := fun h => by omega
            refine d_skip (i := 5) rfl rfl rfl (by decide +kernel) (by decide +kernel) (by decide +kernel) (Fz.le_refl _) (by simp) rfl ?_
            refine d_skip (i := 6) rfl rfl rfl (by decide +kernel) (by decide +kernel) (by decide +kernel) (Fz.le_refl _) (by simp) rfl ?_
            refine d_skip (i := 7) rfl rfl rfl (by decide +kernel) (by decide +kernel) (by decide +kernel) (Fz.le_refl _) (by simp) rfl ?_
            refine d_skip (i := 8) rfl rfl rfl (by decide +kernel) (by decide +kernel) (by decide +kernel) (Fz.le_refl _) (by simp) rfl ?_
            refine d_skip (i := 9) rfl rfl rfl (by decide +kernel) (by decide +kernel) (by decide +kernel) (Fz.le_refl _) (by simp) rfl ?_
            refine d_skip (i := 10) rfl rfl rfl (by decide +kernel) (by decide +kernel) (by decide +kernel) (Fz.le_refl _) (by simp) rfl ?_
            refine d_skip (i := 11) rfl rfl rfl (by decide +kernel) (by decide +kernel) (by decide +kernel) (Fz.le_refl _) (by simp) rfl ?_
            refine d_take (i := 12) rfl rfl rfl (by decide +kernel) (by decide +kernel) (by decide +kernel) (Fz.le_refl _) (by simp) rfl (v_pick0 rfl rfl) ?_
            refine d_end (by decide +kernel) ?_
            refine r_false rfl ?_
            clear IH
            have hct := hcutl j K hj1 hj2 hnx
            have hjj : j0 ≤ j := by
              rcases Nat.lt_or_ge j j0 with hlt | hge
              · have h1 := hmono2 j hlt
                have h2 := hnx (by omega)
                omega
              · exact hge
            refine r_exit rfl ?_
            refine r_seq ?_
            refine r_region rfl ?_
            refine o_val rfl rfl rfl rfl (v_move rfl) ?_
            refine o_call rfl rfl rfl rfl (c_call callable10 rfl) (wal_Open _ _ d bd (all.take K) K ops _ okd2 (by rw [htl]; omega) (by omega)) ?_
            rintro v' F7 H' ⟨hF7, p, bf2, sure2, ops2, hp, hpl, hpp, rfl, okf2, hsu, rfl⟩ _
            have hpo := hp.one
            rw [hct] at hpp
            have hppl : p.l.map En.pure = (l.take j).map En.pure := congrArg PI.l hpp
            obtain ⟨DK, hDK⟩ : ∃ DK : Ent, DK = DkE d bf2 ((all.take K).take (scanP nilI (all.take K)).2) sure2 ops2 := ⟨_, rfl⟩
            rw [← hDK]
            obtain ⟨aL, cL, hblv, hcL⟩ := Sl.shape hs6
            rw [hblv]
            refine o_val rfl rfl rfl rfl (v_move rfl) ?_
            refine o_val rfl rfl rfl rfl (v_extract rfl rfl) ?_
            refine o_val rfl rfl rfl rfl (v_extract rfl rfl) ?_
            refine o_act rfl rfl rfl rfl (a_alloc rfl) ?_
            rintro v' H' ⟨z, rfl, rfl⟩
            refine o_act0 rfl rfl rfl (a_store (sz := 7) 0 rfl rfl rfl (by simpa [Value.cells] using hpo) rfl rfl (Nat.le_of_ble_eq_true rfl)) ?_
            refine j_sel (H' := [.mem z p.cells 7]) [[Ent.mem z p.cells 7], [DK], bf2.ents 1 (bytesV ((all.take K).take (scanP nilI (all.take K)).2)), []] [0] rfl rfl rfl ?_
            refine o_val rfl rfl rfl rfl (v_assign rfl) ?_
            refine o_end ?_
            refine r_seq ?_
            refine d_region 1000000 rfl ([.mem z p.cells 7]) ?_
            refine d_take (i := 0) rfl rfl rfl (by decide +kernel) (by decide +kernel) (by decide +kernel) (Fz.le_refl _) (by simp) rfl (v_move rfl) ?_
            refine d_take (i := 1) rfl rfl rfl (by decide +kernel) (by decide +kernel) (by decide +kernel) (Fz.le_refl _) (by simp) rfl (v_eql rfl rfl) ?_
            refine d_take (i := 2) rfl rfl rfl (by decide +kernel) (by decide +kernel) (by decide +kernel) (Fz.le_refl _) (by simp) rfl (v_move rfl) ?_
            refine d_take (i := 3) rfl rfl rfl (by decide +kernel) (by decide +kernel) (by decide +kernel) (Fz.le_refl _) (by simp) rfl (v_move rfl) ?_
            refine d_take (i := 4) rfl rfl rfl (by decide +kernel) (by decide +kernel) (by decide +kernel) (Fz.le_refl _) (by simp) rfl (v_move rfl) ?_
            refine d_take (i := 5) rfl rfl rfl (by decide +kernel) (by decide +kernel) (by decide +kernel) (Fz.le_refl _) (by simp) rfl (v_geq rfl rfl) ?_
            refine j_slot 126 rfl (v' := .bool true) (by rw [decide_eq_true (by omega)]) ?_
            have hsl2 : Sl F7 [] 4 (Go.sliced aL 0 j cL 4) j (enV (l.take j)) := by
              have h0 : Sl F6 [] 4 (.slice aL l.length cL) l.length (enV l) := by rw [← hblv]; exact hs6
              have h1 := Sl.sliced h0 (Nat.zero_le j) (show j ≤ l.length by omega)
              rw [Nat.zero_mul, List.drop_zero, Nat.sub_zero, enV_tk l j (by omega)] at h1
              exact h1.frz hF7
            have hlj : (l.take j).length = j := by simp; omega
            refine d_take (i := 6) rfl rfl rfl (by decide +kernel) (by decide +kernel) (by decide +kernel) (Fz.le_refl _) (by simp) rfl (v_pick1 rfl rfl) ?_
            refine d_take (i := 7) rfl rfl rfl (by decide +kernel) (by decide +kernel) (by decide +kernel) (Fz.le_refl _) (by simp) rfl (v_move rfl) ?_
            refine d_take (i := 8) rfl rfl rfl (by decide +kernel) (by decide +kernel) (by decide +kernel) (Fz.le_refl _) (by simp) rfl (v_field (k := 6) rfl rfl rfl) ?_
            refine d_take (i := 9) rfl rfl rfl (by decide +kernel) (by decide +kernel) (by decide +kernel) (Fz.le_refl _) (by simp) rfl (v_load rfl rfl (cell_at (j := 0) rfl rfl)) ?_
            refine d_take (i := 10) rfl rfl rfl (by decide +kernel) (by decide +kernel) (by decide +kernel) (Fz.le_refl _) (by simp) rfl (v_move rfl) ?_
            refine d_take (i := 11) rfl rfl rfl (by decide +kernel) (by decide +kernel) (by decide +kernel) (Fz.le_refl _) (by simp) rfl (v_move rfl) ?_
            refine d_take (i := 12) rfl rfl rfl (by decide +kernel) (by decide +kernel) (by decide +kernel) (Fz.le_refl _) (by simp) rfl (v_sliceH (sz := 4) rfl rfl rfl rfl rfl (by omega)) ?_
            refine d_one (i := 13) (by decide +kernel) ?_
            refine d1_call rfl rfl rfl rfl (c_call callable11 rfl) (ref_SameE _ _ _ _ p.l (l.take j) _ (hp.lv.frz (Fz.le_refl _)) (by rw [hlj]; exact hsl2.mono (Fz.le_refl _) (by simp)) hp.l (fun e he => (hok e (List.mem_of_mem_take he)).frz (Fz.le_trans hF46 hF7)) hppl (by have := congrArg List.length hppl; simp at this; omega)) ?_
            rintro v' F7 H' ⟨rfl, rfl, rfl⟩ _
            refine ⟨fun w hw => held_of hw (by first | exact Fz.le_refl _ | assumption) (by simp), ?_⟩
            refine d_take (i := 14) rfl rfl rfl (by decide +kernel) (by decide +kernel) (by decide +kernel) (Fz.le_refl _) (by simp) rfl (v_pick1 rfl rfl) ?_
            refine d_take (i := 15) rfl rfl rfl (by decide +kernel) (by decide +kernel) (by decide +kernel) (Fz.le_refl _) (by simp) rfl (v_assign rfl) ?_
            refine d_end (by decide +kernel) ?_
            exact r_ret1 Tryz.func3 rfl rfl ⟨rfl, Fz.le_trans hF4 (Fz.le_trans hF46 hF7)⟩
      · refine o_skip rfl rfl rfl rfl ?_
        refine o_skip rfl rfl rfl rfl ?_
        refine o_skip rfl rfl rfl rfl ?_
        refine o_skip rfl rfl rfl rfl ?_
        refine o_val rfl rfl rfl rfl (v_pick0 rfl rfl) ?_
        refine o_end ?_
        refine r_false rfl ?_
        clear IH
        have hcutl : ∀ j c, j ≤ rl.length → endAt rl j ≤ c → (j < rl.length → c < endAt rl (j + 1)) → scanP nilI ((catR rl).take c) = (imK l j, endAt rl j) := fun j c h1 h2 h3 => by
          have := scan_cut hkp.tr (tail := []) (.inl rfl) h1 h2 h3
          rwa [List.append_nil, hkp.st j (by omega)] at this
        have hsl : endAt rl j0 ≤ (catR rl).length := by
          have := endAt_mono (rl := rl) (show j0 ≤ rl.length by omega) (Nat.le_refl rl.length)
          rwa [endAt_len] at this
        have hmono2 : ∀ j, j < j0 → endAt rl (j + 1) ≤ endAt rl j0 := fun j h1 => endAt_mono h1 (by omega)
        generalize hall : catR rl = all at *
        have hal6 : all.length ≤ 9200 := by omega
        generalize hsr : endAt rl j0 = sure at *
        refine j_sel (H' := be.ents 1 (endsV rl) ++ (bl.ents 4 (enV l) ++ (DkE d bd all sure ops :: (bd.ents 1 (bytesV all) ++ [])))) [[DkE d bd all sure ops], bd.ents 1 (bytesV all), bl.ents 4 (enV l), be.ents 1 (endsV rl), []] [3, 2, 0, 1, 4] (by simp [tpH, cat, hall, hsr]) rfl rfl ?_
        refine j_freezeBf (n := rl.length) oke (by simp) fun F5 hF5 hs5 => ?_
        refine j_freezeBf (n := l.length) okl (en_len l) fun F6 hF6 hs6 => ?_
        have hE : Sl F6 [] 1 (be.val rl.length) rl.length (endsV rl) := Sl.frz (H := []) hs5 hF6
        have hF46 := Fz.le_trans hF5 hF6
        refine r_exit rfl ?_
        refine r_seq ?_
        refine r_region rfl ?_
        refine o_val rfl rfl rfl rfl (v_move rfl) ?_
        refine o_val rfl rfl rfl rfl (v_move rfl) ?_
        refine o_val rfl rfl rfl rfl (v_conv rfl rfl rfl (wrap_i64 (by omega) (by omega))) ?_
        refine o_val rfl rfl rfl rfl (v_rem rfl rfl (by decide) (r := ((keep % 700 : Nat) : Int)) rfl) ?_
        refine o_call rfl rfl rfl rfl (c_call callable9 rfl) (dk_Crash _ _ d bd all sure ops ((keep % 700 : Nat) : Int) _ okd (by omega) hsl (by omega) (by omega)) ?_
        rintro v' F6 H' ⟨rfl, rfl, rfl⟩ _
        obtain ⟨K, hK⟩ : ∃ K, K = sure + min ((keep % 700 : Nat) : Int).toNat (all.length - sure) := ⟨_, rfl⟩
        rw [← hK]
        have hK1 : sure ≤ K := by omega
        have hK2 : K ≤ all.length := by omega
        clear hK
        have htl : (all.take K).length = K := by simp; omega
        have okd2 : bd.ok (all.take K).length := Bf.ok_le okd (by rw [htl]; exact hK2)
        refine o_end ?_
        refine r_seq ?_
        refine r_region rfl ?_
        refine o_val rfl rfl rfl rfl (v_assign rfl) ?_
        refine o_end ?_
        refine r_seq ?_
        refine r_block ?_
        have he0 : endAt rl 0 = 0 := by simp [endAt]
        refine r_loop (fun j : Nat => j ≤ rl.length ∧ endAt rl j ≤ K) (fun j => [(9, ptrV d), (10, bl.val l.length), (11, be.val rl.length), (12, .int .i64 j0), (16, .int .i64 j)]) (fun _ => F6) (fun j => DkE d bd (all.take K) K ops :: (bd.ents 1 (bytesV (all.take K)) ++ [])) (fun j => rl.length - j) 0 ⟨Nat.zero_le _, by rw [he0]; exact Nat.zero_le _⟩ ⟨rfl, rfl, rfl, rfl, rfl, trivial⟩ rfl rfl ?_
        intro j ⟨hj1, hj2⟩ IH
        refine r_seq ?_
        refine r_seq ?_
        refine d_region 1000000 rfl ([]) ?_
        refine d_take (i := 0) rfl rfl rfl (by decide +kernel) (by decide +kernel) (by decide +kernel) (Fz.le_refl _) (by simp) rfl (v_move rfl) ?_
        refine d_take (i := 1) rfl rfl rfl (by decide +kernel) (by decide +kernel) (by decide +kernel) (Fz.le_refl _) (by simp) rfl (v_move rfl) ?_
        refine d_take (i := 2) rfl rfl rfl (by decide +kernel) (by decide +kernel) (by decide +kernel) (Fz.le_refl _) (by simp) rfl (v_len rfl rfl) ?_
        refine d_take (i := 3) rfl rfl rfl (by decide +kernel) (by decide +kernel) (by decide +kernel) (Fz.le_refl _) (by simp) rfl (v_lss rfl rfl) ?_
        refine d_take (i := 4) rfl rfl rfl (by decide +kernel) (by decide +kernel) (by decide +kernel) (Fz.le_refl _) (by simp) rfl (v_move rfl) ?_
        refine j_prop 105 rfl (fun h2 => ?_) (fun h2 => ?_)
        · have hjl : j < rl.length := by omega
          cases be with
          | nil =>
            have : rl.length = 0 := oke
            omega
          | «at» eb ec =>
            obtain ⟨b1, o1, c1, hab, _, hcE⟩ := Sl.view hE (by omega)
            change Value.slice (some ⟨eb, 0, none⟩) _ ec = _ at hab
            cases hab
            have hce := hcE j _ (endsV_get hjl)
            refine d_take (i := 5) rfl rfl rfl (by decide +kernel) (by decide +kernel) (by decide +kernel) (Fz.le_refl _) (by simp) rfl (v_move rfl) ?_
            refine d_take (i := 6) rfl rfl rfl (by decide +kernel) (by decide +kernel) (by decide +kernel) (Fz.le_refl _) (by simp) rfl (v_move rfl) ?_
            refine d_take (i := 7) rfl rfl rfl (by decide +kernel) (by decide +kernel) (by decide +kernel) (Fz.le_refl _) (by simp) rfl (v_index1 rfl rfl rfl rfl hjl) ?_
            refine d_take (i := 8) rfl rfl rfl (by decide +kernel) (by decide +kernel) (by decide +kernel) (Fz.le_refl _) (by simp) rfl (v_load (v := .int .i64 (endAt rl (j + 1) : Nat)) rfl rfl (hce.mono (Fz.le_refl _) (by simp))) ?_
            refine d_take (i := 9) rfl rfl rfl (by decide +kernel) (by decide +kernel) (by decide +kernel) (Fz.le_refl _) (by simp) rfl (v_move rfl) ?_
            refine d_one (i := 10) (by decide +kernel) ?_
            refine d1_call rfl rfl rfl rfl (c_call callable7 rfl) (dk_Len _ _ d bd (all.take K) K ops _) ?_
            rintro v' F6 H' ⟨rfl, rfl, rfl⟩ _
            refine ⟨fun w hw => held_of hw (by first | exact Fz.le_refl _ | assumption) (by simp), ?_⟩
            refine d_take (i := 11) rfl rfl rfl (by decide +kernel) (by decide +kernel) (by decide +kernel) (Fz.le_refl _) (by simp) rfl (v_leq rfl rfl) ?_
            refine d_take (i := 12) rfl rfl rfl (by decide +kernel) (by decide +kernel) (by decide +kernel) (Fz.le_refl _) (by simp) rfl (v_pick1 rfl rfl) ?_
            refine d_end (by decide +kernel) ?_
            refine r_if rfl (fun h3 => ?_) (fun h3 => ?_)
            · refine r_skip ?_
              refine r_block ?_
              refine r_region rfl ?_
              refine o_val rfl rfl rfl rfl (v_move rfl) ?_
              refine o_val rfl rfl rfl rfl (v_add rfl rfl (wrap_i64 (by omega) (by omega))) ?_
              refine o_val rfl rfl rfl rfl (v_assign rfl) ?_
              refine o_end ?_
              refine r_inBlock ?_
              refine j_keep ?_ (IH (j + 1) ⟨hjl, by omega⟩ (by omega))
              exact ⟨rfl, rfl, rfl, rfl, rfl, trivial⟩
            · have hnx : j < rl.length → K < endAt rl (j + 1) := fun _ => by omega
              refine r_exit rfl ?_
              refine r_seq ?_
              refine r_region rfl ?_
              refine o_val rfl rfl rfl rfl (v_move rfl) ?_
              clear IH
              have hct := hcutl j K hj1 hj2 hnx
              have hjj : j0 ≤ j := by
                rcases Nat.lt_or_ge j j0 with hlt | hge
                · have h1 := hmono2 j hlt
                  have h2 := hnx (by omega)
                  omega
                · exact hge
              refine o_call rfl rfl rfl rfl (c_call callable10 rfl) (wal_Open _ _ d bd (all.take K) K ops _ okd2 (by rw [htl]; omega) (by omega)) ?_
              rintro v' F7 H' ⟨hF7, p, bf2, sure2, ops2, hp, hpl, hpp, rfl, okf2, hsu, rfl⟩ _
              have hpo := hp.one
              rw [hct] at hpp
              have hppl : p.l.map En.pure = (l.take j).map En.pure := congrArg PI.l hpp
              obtain ⟨DK, hDK⟩ : ∃ DK : Ent, DK = DkE d bf2 ((all.take K).take (scanP nilI (all.take K)).2) sure2 ops2 := ⟨_, rfl⟩
              rw [← hDK]
              obtain ⟨aL, cL, hblv, hcL⟩ := Sl.shape hs6
              rw [hblv]
              refine o_val rfl rfl rfl rfl (v_move rfl) ?_
              refine o_val rfl rfl rfl rfl (v_extract rfl rfl) ?_
              refine o_val rfl rfl rfl rfl (v_extract rfl rfl) ?_
              refine o_act rfl rfl rfl rfl (a_alloc rfl) ?_
              rintro v' H' ⟨z, rfl, rfl⟩
              refine o_act0 rfl rfl rfl (a_store (sz := 7) 0 rfl rfl rfl (by simpa [Value.cells] using hpo) rfl rfl (Nat.le_of_ble_eq_true rfl)) ?_
              refine j_sel (H' := [.mem z p.cells 7]) [[Ent.mem z p.cells 7], [DK], bf2.ents 1 (bytesV ((all.take K).take (scanP nilI (all.take K)).2)), []] [0] rfl rfl rfl ?_
              refine o_val rfl rfl rfl rfl (v_assign rfl) ?_
              refine o_end ?_
              refine r_seq ?_
              refine d_region 1000000 rfl ([.mem z p.cells 7]) ?_
              refine d_take (i := 0) rfl rfl rfl (by decide +kernel) (by decide +kernel) (by decide +kernel) (Fz.le_refl _) (by simp) rfl (v_move rfl) ?_
              refine d_take (i := 1) rfl rfl rfl (by decide +kernel) (by decide +kernel) (by decide +kernel) (Fz.le_refl _) (by simp) rfl (v_eql rfl rfl) ?_
              refine d_take (i := 2) rfl rfl rfl (by decide +kernel) (by decide +kernel) (by decide +kernel) (Fz.le_refl _) (by simp) rfl (v_move rfl) ?_
              refine d_take (i := 3) rfl rfl rfl (by decide +kernel) (by decide +kernel) (by decide +kernel) (Fz.le_refl _) (by simp) rfl (v_move rfl) ?_
              refine d_take (i := 4) rfl rfl rfl (by decide +kernel) (by decide +kernel) (by decide +kernel) (Fz.le_refl _) (by simp) rfl (v_move rfl) ?_
              refine d_take (i := 5) rfl rfl rfl (by decide +kernel) (by decide +kernel) (by decide +kernel) (Fz.le_refl _) (by simp) rfl (v_geq rfl rfl) ?_
              refine j_slot 126 rfl (v' := .bool true) (by rw [decide_eq_true (by omega)]) ?_
              have hsl2 : Sl F7 [] 4 (Go.sliced aL 0 j cL 4) j (enV (l.take j)) := by
                have h0 : Sl F6 [] 4 (.slice aL l.length cL) l.length (enV l) := by rw [← hblv]; exact hs6
                have h1 := Sl.sliced h0 (Nat.zero_le j) (show j ≤ l.length by omega)
                rw [Nat.zero_mul, List.drop_zero, Nat.sub_zero, enV_tk l j (by omega)] at h1
                exact h1.frz hF7
              have hlj : (l.take j).length = j := by simp; omega
              refine d_take (i := 6) rfl rfl rfl (by decide +kernel) (by decide +kernel) (by decide +kernel) (Fz.le_refl _) (by simp) rfl (v_pick1 rfl rfl) ?_
              refine d_take (i := 7) rfl rfl rfl (by decide +kernel) (by decide +kernel) (by decide +kernel) (Fz.le_refl _) (by simp) rfl (v_move rfl) ?_
              refine d_take (i := 8) rfl rfl rfl (by decide +kernel) (by decide +kernel) (by decide +kernel) (Fz.le_refl _) (by simp) rfl (v_field (k := 6) rfl rfl rfl) ?_
              refine d_take (i := 9) rfl rfl rfl (by decide +kernel) (by decide +kernel) (by decide +kernel) (Fz.le_refl _) (by simp) rfl (v_load rfl rfl (cell_at (j := 0) rfl rfl)) ?_
              refine d_take (i := 10) rfl rfl rfl (by decide +kernel) (by decide +kernel) (by decide +kernel) (Fz.le_refl _) (by simp) rfl (v_move rfl) ?_
              refine d_take (i := 11) rfl rfl rfl (by decide +kernel) (by decide +kernel) (by decide +kernel) (Fz.le_refl _) (by simp) rfl (v_move rfl) ?_
              refine d_take (i := 12) rfl rfl rfl (by decide +kernel) (by decide +kernel) (by decide +kernel) (Fz.le_refl _) (by simp) rfl (v_sliceH (sz := 4) rfl rfl rfl rfl rfl (by omega)) ?_
              refine d_one (i := 13) (by decide +kernel) ?_
              refine d1_call rfl rfl rfl rfl (c_call callable11 rfl) (ref_SameE _ _ _ _ p.l (l.take j) _ (hp.lv.frz (Fz.le_refl _)) (by rw [hlj]; exact hsl2.mono (Fz.le_refl _) (by simp)) hp.l (fun e he => (hok e (List.mem_of_mem_take he)).frz (Fz.le_trans hF46 hF7)) hppl (by have := congrArg List.length hppl; simp at this; omega)) ?_
              rintro v' F7 H' ⟨rfl, rfl, rfl⟩ _
              refine ⟨fun w hw => held_of hw (by first | exact Fz.le_refl _ | assumption) (by simp), ?_⟩
              refine d_take (i := 14) rfl rfl rfl (by decide +kernel) (by decide +kernel) (by decide +kernel) (Fz.le_refl _) (by simp) rfl (v_pick1 rfl rfl) ?_
              refine d_take (i := 15) rfl rfl rfl (by decide +kernel) (by decide +kernel) (by decide +kernel) (Fz.le_refl _) (by simp) rfl (v_assign rfl) ?_
              refine d_end (by decide +kernel) ?_
              exact r_ret1 Tryz.func3 rfl rfl ⟨rfl, Fz.le_trans hF4 (Fz.le_trans hF46 hF7)⟩
        · have hnx : j < rl.length → K < endAt rl (j + 1) := fun h => by omega
          refine d_skip (i := 5) rfl rfl rfl (by decide +kernel) (by decide +kernel) (by decide +kernel) (Fz.le_refl _) (by simp) rfl ?_
          refine d_skip (i := 6) rfl rfl rfl (by decide +kernel) (by decide +kernel) (by decide +kernel) (Fz.le_refl _) (by simp) rfl ?_
          refine d_skip (i := 7) rfl rfl rfl (by decide +kernel) (by decide +kernel) (by decide +kernel) (Fz.le_refl _) (by simp) rfl ?_
          refine d_skip (i := 8) rfl rfl rfl (by decide +kernel) (by decide +kernel) (by decide +kernel) (Fz.le_refl _) (by simp) rfl ?_
          refine d_skip (i := 9) rfl rfl rfl (by decide +kernel) (by decide +kernel) (by decide +kernel) (Fz.le_refl _) (by simp) rfl ?_
          refine d_skip (i := 10) rfl rfl rfl (by decide +kernel) (by decide +kernel) (by decide +kernel) (Fz.le_refl _) (by simp) rfl ?_
          refine d_skip (i := 11) rfl rfl rfl (by decide +kernel) (by decide +kernel) (by decide +kernel) (Fz.le_refl _) (by simp) rfl ?_
          refine d_take (i := 12) rfl rfl rfl (by decide +kernel) (by decide +kernel) (by decide +kernel) (Fz.le_refl _) (by simp) rfl (v_pick0 rfl rfl) ?_
          refine d_end (by decide +kernel) ?_
          refine r_false rfl ?_
          clear IH
          have hct := hcutl j K hj1 hj2 hnx
          have hjj : j0 ≤ j := by
            rcases Nat.lt_or_ge j j0 with hlt | hge
            · have h1 := hmono2 j hlt
              have h2 := hnx (by omega)
              omega
            · exact hge
          refine r_exit rfl ?_
          refine r_seq ?_
          refine r_region rfl ?_
          refine o_val rfl rfl rfl rfl (v_move rfl) ?_
          refine o_call rfl rfl rfl rfl (c_call callable10 rfl) (wal_Open _ _ d bd (all.take K) K ops _ okd2 (by rw [htl]; omega) (by omega)) ?_
          rintro v' F7 H' ⟨hF7, p, bf2, sure2, ops2, hp, hpl, hpp, rfl, okf2, hsu, rfl⟩ _
          have hpo := hp.one
          rw [hct] at hpp
          have hppl : p.l.map En.pure = (l.take j).map En.pure := congrArg PI.l hpp
          obtain ⟨DK, hDK⟩ : ∃ DK : Ent, DK = DkE d bf2 ((all.take K).take (scanP nilI (all.take K)).2) sure2 ops2 := ⟨_, rfl⟩
          rw [← hDK]
          obtain ⟨aL, cL, hblv, hcL⟩ := Sl.shape hs6
          rw [hblv]
          refine o_val rfl rfl rfl rfl (v_move rfl) ?_
          refine o_val rfl rfl rfl rfl (v_extract rfl rfl) ?_
          refine o_val rfl rfl rfl rfl (v_extract rfl rfl) ?_
          refine o_act rfl rfl rfl rfl (a_alloc rfl) ?_
          rintro v' H' ⟨z, rfl, rfl⟩
          refine o_act0 rfl rfl rfl (a_store (sz := 7) 0 rfl rfl rfl (by simpa [Value.cells] using hpo) rfl rfl (Nat.le_of_ble_eq_true rfl)) ?_
          refine j_sel (H' := [.mem z p.cells 7]) [[Ent.mem z p.cells 7], [DK], bf2.ents 1 (bytesV ((all.take K).take (scanP nilI (all.take K)).2)), []] [0] rfl rfl rfl ?_
          refine o_val rfl rfl rfl rfl (v_assign rfl) ?_
          refine o_end ?_
          refine r_seq ?_
          refine d_region 1000000 rfl ([.mem z p.cells 7]) ?_
          refine d_take (i := 0) rfl rfl rfl (by decide +kernel) (by decide +kernel) (by decide +kernel) (Fz.le_refl _) (by simp) rfl (v_move rfl) ?_
          refine d_take (i := 1) rfl rfl rfl (by decide +kernel) (by decide +kernel) (by decide +kernel) (Fz.le_refl _) (by simp) rfl (v_eql rfl rfl) ?_
          refine d_take (i := 2) rfl rfl rfl (by decide +kernel) (by decide +kernel) (by decide +kernel) (Fz.le_refl _) (by simp) rfl (v_move rfl) ?_
          refine d_take (i := 3) rfl rfl rfl (by decide +kernel) (by decide +kernel) (by decide +kernel) (Fz.le_refl _) (by simp) rfl (v_move rfl) ?_
          refine d_take (i := 4) rfl rfl rfl (by decide +kernel) (by decide +kernel) (by decide +kernel) (Fz.le_refl _) (by simp) rfl (v_move rfl) ?_
          refine d_take (i := 5) rfl rfl rfl (by decide +kernel) (by decide +kernel) (by decide +kernel) (Fz.le_refl _) (by simp) rfl (v_geq rfl rfl) ?_
          refine j_slot 126 rfl (v' := .bool true) (by rw [decide_eq_true (by omega)]) ?_
          have hsl2 : Sl F7 [] 4 (Go.sliced aL 0 j cL 4) j (enV (l.take j)) := by
            have h0 : Sl F6 [] 4 (.slice aL l.length cL) l.length (enV l) := by rw [← hblv]; exact hs6
            have h1 := Sl.sliced h0 (Nat.zero_le j) (show j ≤ l.length by omega)
            rw [Nat.zero_mul, List.drop_zero, Nat.sub_zero, enV_tk l j (by omega)] at h1
            exact h1.frz hF7
          have hlj : (l.take j).length = j := by simp; omega
          refine d_take (i := 6) rfl rfl rfl (by decide +kernel) (by decide +kernel) (by decide +kernel) (Fz.le_refl _) (by simp) rfl (v_pick1 rfl rfl) ?_
          refine d_take (i := 7) rfl rfl rfl (by decide +kernel) (by decide +kernel) (by decide +kernel) (Fz.le_refl _) (by simp) rfl (v_move rfl) ?_
          refine d_take (i := 8) rfl rfl rfl (by decide +kernel) (by decide +kernel) (by decide +kernel) (Fz.le_refl _) (by simp) rfl (v_field (k := 6) rfl rfl rfl) ?_
          refine d_take (i := 9) rfl rfl rfl (by decide +kernel) (by decide +kernel) (by decide +kernel) (Fz.le_refl _) (by simp) rfl (v_load rfl rfl (cell_at (j := 0) rfl rfl)) ?_
          refine d_take (i := 10) rfl rfl rfl (by decide +kernel) (by decide +kernel) (by decide +kernel) (Fz.le_refl _) (by simp) rfl (v_move rfl) ?_
          refine d_take (i := 11) rfl rfl rfl (by decide +kernel) (by decide +kernel) (by decide +kernel) (Fz.le_refl _) (by simp) rfl (v_move rfl) ?_
          refine d_take (i := 12) rfl rfl rfl (by decide +kernel) (by decide +kernel) (by decide +kernel) (Fz.le_refl _) (by simp) rfl (v_sliceH (sz := 4) rfl rfl rfl rfl rfl (by omega)) ?_
          refine d_one (i := 13) (by decide +kernel) ?_
          refine d1_call rfl rfl rfl rfl (c_call callable11 rfl) (ref_SameE _ _ _ _ p.l (l.take j) _ (hp.lv.frz (Fz.le_refl _)) (by rw [hlj]; exact hsl2.mono (Fz.le_refl _) (by simp)) hp.l (fun e he => (hok e (List.mem_of_mem_take he)).frz (Fz.le_trans hF46 hF7)) hppl (by have := congrArg List.length hppl; simp at this; omega)) ?_
          rintro v' F7 H' ⟨rfl, rfl, rfl⟩ _
          refine ⟨fun w hw => held_of hw (by first | exact Fz.le_refl _ | assumption) (by simp), ?_⟩
          refine d_take (i := 14) rfl rfl rfl (by decide +kernel) (by decide +kernel) (by decide +kernel) (Fz.le_refl _) (by simp) rfl (v_pick1 rfl rfl) ?_
          refine d_take (i := 15) rfl rfl rfl (by decide +kernel) (by decide +kernel) (by decide +kernel) (Fz.le_refl _) (by simp) rfl (v_assign rfl) ?_
          refine d_end (by decide +kernel) ?_
          exact r_ret1 Tryz.func3 rfl rfl ⟨rfl, Fz.le_trans hF4 (Fz.le_trans hF46 hF7)⟩
theorem in_TopRecovers (W : World) (vt : Value) (zs : List Int) (ht : InInts .u8 W vt zs) (hz : zs.length * 1 ≤ 140737488351232) (vp : Value) (rs : List (Value × List UInt8)) (hp : InRows W vp rs) (hpl : rs.length ≤ 9223372036854775807) (vb : Value) (bs : List Bool) (hb : InBools W vb bs) (hbl : bs.length ≤ 9223372036854775807) (c : Int) (hc : (Lit.int .u16 c).wf = true) :
    Calls Tryz.prog 3 #[vt, vp, vb, .int .u16 c] W fun e w' => e = .returned (.bool true) ∧ Go.RowKit.Below W.heap.size W w' := by
  simp [Lit.wf, IntKind.min, IntKind.max, IntKind.signed, IntKind.bits] at hc
  obtain ⟨c, rfl⟩ := Int.eq_ofNat_of_zero_le hc.1
  exact below_of_does (law_TopRecovers _ _ vt _ vp rs vb bs c (by omega) (inBytesE ht) hp.1 hp.2 hb)
end Go.SX
