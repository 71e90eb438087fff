/-
  Contracts of package frame (and of its reference): Split, Dummy.
-/
import Derived.Test.YtdmpnpcpnhcioaaFrame
namespace Go.SX
open Go Go.Proofs
set_option maxRecDepth 4000
set_option linter.unusedSimpArgs false
set_option linter.unusedVariables false

def chunk (n i : Nat) (p : List UInt8) : List UInt8 := (p.drop (i * (n - 19))).take (n - 19)
def splitL (n id : Nat) (p : List UInt8) : List (List UInt8) := (List.range (partsN n p.length)).map fun i => frB n id i (partsN n p.length) (chunk n i p)
def splitE (n : Int) (p : List UInt8) : Nat := if n < 64 ∨ 4096 < n then 1 else if 1048576 < p.length ∨ 65536 ≤ partsN n.toNat p.length then 6 else 0
def splitR (n : Int) (id : Nat) (p : List UInt8) : List (List UInt8) := if splitE n p = 0 then splitL n.toNat id p else []

abbrev Row := Value × List UInt8
/-- Rows that are frozen, in a slice. -/
def RowsAt (F : Fz) (H : List Ent) (v : Value) (rs : List (Value × List UInt8)) : Prop := Sl F H 1 v rs.length (rs.map (·.1)) ∧ ∀ r ∈ rs, SlB F [] r.1 r.2
theorem sl_lit1 {F : Fz} {H : List Ent} {b : Nat} {u : Value} (hm : Ent.mem b [u] 1 ∈ H) : Sl F H 1 (.slice (some ⟨b, 0, none⟩) 1 1) 1 [u] :=
  ⟨_, 1, rfl, by simp, Nat.le_refl _, by simp, fun j c hj => ⟨b, 0, rfl, cell_own (cs := [u]) (n := 1) hm (by simpa using hj)⟩⟩
theorem row_cell {F : Fz} {H : List Ent} {v : Value} {rs : List (Value × List UInt8)} {i : Nat} (hv : Sl F H 1 v rs.length (rs.map (·.1))) (hi : i < rs.length) : ∃ b off cap, v = .slice (some ⟨b, off, none⟩) rs.length cap ∧ Cell F H b (off + i) rs[i].1 := by
  obtain ⟨b0, off0, c0, hab, _, hc0⟩ := Sl.view hv (by omega)
  exact ⟨b0, off0, c0, hab, hc0 i rs[i].1 (by rw [List.getElem?_map, List.getElem?_eq_getElem hi]; rfl)⟩

theorem parts_le {n p i : Nat} (hn : 64 ≤ n) (hi : i < partsN n p) : i * (n - 19) ≤ p := by
  unfold partsN at hi
  rcases Nat.eq_zero_or_pos i with rfl | h0
  · omega
  · have h1 : i + 1 ≤ (p + (n - 19) - 1) / (n - 19) := by omega
    rw [Nat.le_div_iff_mul_le (by omega), Nat.add_mul] at h1
    omega
theorem chunk_sl {F : Fz} {H : List Ent} {a : Option Addr} {cap n i l h : Nat} {p : List UInt8} (hv : SlB F H (.slice a p.length cap) p) (hl : l = i * (n - 19)) (hle : l ≤ p.length) (hh : h = min (l + (n - 19)) p.length) :
    SlB F H (Go.sliced a l h cap 1) (chunk n i p) := by
  have h1 := Sl.sliced (l := l) (h := h) hv (by omega) (by omega)
  rw [Nat.mul_one, Nat.mul_one] at h1
  have h2 : ((bytesV p).drop l).take (h - l) = bytesV (chunk n i p) := by
    unfold chunk bytesV
    rw [← List.map_drop, ← List.map_take, hl]
    congr 1
    rw [List.take_eq_take_iff]
    simp
    omega
  have h3 : h - l = (chunk n i p).length := by unfold chunk; simp; omega
  rw [h2, h3] at h1
  unfold SlB
  have h4 : Go.sliced a l h cap 1 = .slice (if cap = l then a else a.map (·.add (l * 1))) (h - l) (cap - l) := rfl
  rw [h3] at h4
  exact h1
theorem chunk_len (n i : Nat) (p : List UInt8) : (chunk n i p).length ≤ n - 19 := by unfold chunk; simp; omega

structure SG where
  i : Nat
  rs : List (Value × List UInt8)
  bf : Bf
  F : Fz
structure SG.ok (F : Fz) (n id m : Nat) (p : List UInt8) (g : SG) : Prop where
  le : F.le g.F
  i : g.i ≤ m
  bf : g.bf.ok g.rs.length
  rl : g.rs.length = g.i
  rows : g.rs.map (·.2) = (List.range g.i).map fun i => frB n id i m (chunk n i p)
  fz : ∀ r ∈ g.rs, SlB g.F [] r.1 r.2

set_option maxHeartbeats 1000000 in
theorem fr_Split (O : World) (F : Fz) (n : Int) (id : Nat) (v : Value) (p : List UInt8) (Fr : List Ent) (hv : SlB F [] v p) (hp : p.length ≤ 140737488355328) :
    Does Try.prog O 9 #[.int .i64 n, .int .u64 id, v] F Fr
      (fun r F' H' => F.le F' ∧ ∃ (rs : List (Value × List UInt8)) (bf : Bf), bf.ok rs.length ∧ r = .tuple #[bf.val rs.length, .int .i64 (splitE n p)] ∧ rs.map (·.2) = splitR n id p ∧ (∀ r ∈ rs, SlB F' [] r.1 r.2) ∧ H' = bf.ents 1 (rs.map (·.1)) ++ Fr) := by
  obtain ⟨a0, cap, rfl, hcap⟩ := Sl.shape hv
  refine does_of_run (args := [_, _, _]) Try.func9 rfl rfl ?_
  refine r_seq ?_
  refine r_region rfl ?_
  refine o_val rfl rfl rfl rfl (v_assign rfl) ?_
  refine o_val rfl rfl rfl rfl (v_assign rfl) ?_
  refine o_end ?_
  refine r_seq ?_
  refine r_seq ?_
  refine r_join (fun _ : Unit => True) (fun _ => [(0, .int .i64 n), (1, .int .u64 id), (2, .slice a0 p.length cap), (17, .bool (decide (n < 64 ∨ 4096 < n)))]) (fun _ => F) (fun _ => Fr) ?_ ?_
  · intro J
    refine r_region rfl ?_
    refine o_val rfl rfl rfl rfl (v_move rfl) ?_
    refine o_val rfl rfl rfl rfl (v_lss rfl rfl) ?_
    refine j_prop 13 rfl (fun h1 => ?_) (fun h1 => ?_)
    · refine o_val rfl rfl rfl rfl (v_move rfl) ?_
      refine o_skip rfl rfl rfl rfl ?_
      refine o_skip rfl rfl rfl rfl ?_
      refine o_val rfl rfl rfl rfl (v_pick1 rfl rfl) ?_
      refine o_end ?_
      refine j_slot 17 rfl (v' := .bool (decide (n < 64 ∨ 4096 < n))) (by rw [decide_eq_true (p := n < 64 ∨ 4096 < n) (by omega)]) ?_
      refine j_keep ?_ (J () trivial)
      exact ⟨rfl, rfl, rfl, rfl, trivial⟩
    · refine o_val rfl rfl rfl rfl (v_move rfl) ?_
      refine o_val rfl rfl rfl rfl (v_move rfl) ?_
      refine o_val rfl rfl rfl rfl (v_gtr rfl rfl) ?_
      refine o_val rfl rfl rfl rfl (v_pick0 rfl rfl) ?_
      refine o_end ?_
      refine j_slot 17 rfl (v' := .bool (decide (n < 64 ∨ 4096 < n))) (by congr 1; rw [decide_eq_decide]; omega) ?_
      refine j_keep ?_ (J () trivial)
      exact ⟨rfl, rfl, rfl, rfl, trivial⟩
  · rintro _ _
    refine r_if rfl (fun h => ?_) (fun h => ?_)
    · have he : splitE n p = 1 := by unfold splitE; rw [if_pos h]
      have hr : splitR n id p = [] := by unfold splitR; rw [if_neg (by omega)]
      refine r_seq ?_
      refine r_region rfl ?_
      refine o_val rfl rfl rfl rfl (v_assign rfl) ?_
      refine o_val rfl rfl rfl rfl (v_assign rfl) ?_
      refine o_end ?_
      exact r_ret2 Try.func9 rfl rfl rfl ⟨⟨Fz.le_refl _, [], .nil, rfl, by rw [he]; rfl, by rw [hr]; rfl, by simp, rfl⟩, Fz.le_refl _⟩
    · obtain ⟨n, rfl⟩ := Int.eq_ofNat_of_zero_le (show 0 ≤ n by omega)
      have hn1 : 64 ≤ n := by omega
      have hn2 : n ≤ 4096 := by omega
      have hsE : splitE n p = if 1048576 < p.length ∨ 65536 ≤ partsN n p.length then 6 else 0 := by unfold splitE; rw [if_neg h]; rfl
      refine r_skip ?_
      refine r_seq ?_
      refine r_region rfl ?_
      refine o_val rfl rfl rfl rfl (v_move rfl) ?_
      refine o_val rfl rfl rfl rfl (v_move rfl) ?_
      refine o_val rfl rfl rfl rfl (v_len rfl rfl) ?_
      refine o_call rfl rfl rfl rfl (c_call callable13 rfl) (fr_Parts _ _ n p.length _ hn1 hn2 hp) ?_
      rintro v' F Fr ⟨rfl, rfl, rfl⟩ _
      refine o_val rfl rfl rfl rfl (v_assign rfl) ?_
      refine o_end ?_
      refine r_seq ?_
      refine r_seq ?_
      refine r_join (fun _ : Unit => True) (fun _ => [(0, .int .i64 n), (1, .int .u64 id), (2, .slice a0 p.length cap), (8, .int .i64 (partsN n p.length)), (28, .bool (decide (1048576 < p.length ∨ 65536 ≤ partsN n p.length)))]) (fun _ => F) (fun _ => Fr) ?_ ?_
      · intro J
        refine r_region rfl ?_
        refine o_val rfl rfl rfl rfl (v_move rfl) ?_
        refine o_val rfl rfl rfl rfl (v_len rfl rfl) ?_
        refine o_val rfl rfl rfl rfl (v_gtr rfl rfl) ?_
        refine j_prop 24 rfl (fun h1 => ?_) (fun h1 => ?_)
        · refine o_val rfl rfl rfl rfl (v_move rfl) ?_
          refine o_skip rfl rfl rfl rfl ?_
          refine o_skip rfl rfl rfl rfl ?_
          refine o_val rfl rfl rfl rfl (v_pick1 rfl rfl) ?_
          refine o_end ?_
          refine j_slot 28 rfl (v' := .bool (decide (1048576 < p.length ∨ 65536 ≤ partsN n p.length))) (by rw [decide_eq_true (p := 1048576 < p.length ∨ 65536 ≤ partsN n p.length) (by omega)]) ?_
          refine j_keep ?_ (J () trivial)
          exact ⟨rfl, rfl, rfl, rfl, rfl, trivial⟩
        · refine o_val rfl rfl rfl rfl (v_move rfl) ?_
          refine o_val rfl rfl rfl rfl (v_move rfl) ?_
          refine o_val rfl rfl rfl rfl (v_geq rfl rfl) ?_
          refine o_val rfl rfl rfl rfl (v_pick0 rfl rfl) ?_
          refine o_end ?_
          refine j_slot 28 rfl (v' := .bool (decide (1048576 < p.length ∨ 65536 ≤ partsN n p.length))) (by congr 1; rw [decide_eq_decide]; omega) ?_
          refine j_keep ?_ (J () trivial)
          exact ⟨rfl, rfl, rfl, rfl, rfl, trivial⟩
      · rintro _ _
        refine r_if rfl (fun h2 => ?_) (fun h2 => ?_)
        · have he : splitE n p = 6 := by rw [hsE, if_pos h2]
          have hr : splitR n id p = [] := by unfold splitR; rw [if_neg (by omega)]
          refine r_seq ?_
          refine r_region rfl ?_
          refine o_val rfl rfl rfl rfl (v_assign rfl) ?_
          refine o_val rfl rfl rfl rfl (v_assign rfl) ?_
          refine o_end ?_
          exact r_ret2 Try.func9 rfl rfl rfl ⟨⟨Fz.le_refl _, [], .nil, rfl, by rw [he]; rfl, by rw [hr]; rfl, by simp, rfl⟩, Fz.le_refl _⟩
        · have he : splitE n p = 0 := by rw [hsE, if_neg h2]
          have hr : splitR n id p = (List.range (partsN n p.length)).map fun i => frB n id i (partsN n p.length) (chunk n i p) := by unfold splitR; rw [if_pos he]; rfl
          rw [he, hr]
          have hpl : ∀ i, i < partsN n p.length → i * (n - 19) ≤ p.length := fun i hi => parts_le hn1 hi
          have hpp : partsN n p.length < 65536 := by omega
          generalize partsN n p.length = m at *
          refine r_skip ?_
          refine r_seq ?_
          refine r_region rfl ?_
          refine o_val rfl rfl rfl rfl (v_assign rfl) ?_
          refine o_end ?_
          refine r_seq ?_
          refine r_seq ?_
          refine r_region rfl ?_
          refine o_val rfl rfl rfl rfl (v_move rfl) ?_
          refine o_val rfl rfl rfl rfl (v_move rfl) ?_
          refine o_end ?_
          refine r_block ?_
          refine r_loop (SG.ok F n id m p) (fun g => [(0, .int .i64 n), (1, .int .u64 id), (2, .slice a0 p.length cap), (8, .int .i64 m), (9, g.bf.val g.rs.length), (29, .int .i64 m), (30, .int .i64 g.i)]) (fun g => g.F) (fun g => g.bf.ents 1 (g.rs.map (·.1)) ++ Fr) (fun g => m - g.i)
            ⟨0, [], .nil, F⟩ ⟨Fz.le_refl _, Nat.zero_le _, rfl, rfl, rfl, by simp⟩ ⟨rfl, rfl, rfl, rfl, rfl, rfl, rfl, trivial⟩ rfl rfl ?_
          rintro ⟨i, rs, bf, F1⟩ ⟨hF1, hi, hok, hrl, hrows, hfz⟩ IH
          dsimp only at hF1 hi hok hrl hrows hfz ⊢
          refine r_seq ?_
          refine r_region rfl ?_
          refine o_val rfl rfl rfl rfl (v_lss rfl rfl) ?_
          refine o_end ?_
          refine r_seq ?_
          refine r_if rfl (fun h3 => ?_) (fun h3 => ?_)
          · have hil : i < m := by omega
            have hpi := hpl i hil
            have hcl := chunk_len n i p
            refine r_skip ?_
            refine r_seq ?_
            refine r_block ?_
            refine r_seq ?_
            refine r_region rfl ?_
            refine o_val rfl rfl rfl rfl (v_move rfl) ?_
            refine o_val rfl rfl rfl rfl (v_assign rfl) ?_
            refine o_end ?_
            refine r_seq ?_
            refine r_region rfl ?_
            refine o_val rfl rfl rfl rfl (v_move rfl) ?_
            refine o_val rfl rfl rfl rfl (v_move rfl) ?_
            refine o_call rfl rfl rfl rfl (c_call callable14 rfl) (fr_Room _ _ n _ (by omega) hn2) ?_
            rintro v' F1 H' ⟨rfl, rfl, rfl⟩ _
            obtain ⟨l, hl⟩ : ∃ l, l = i * (n - 19) := ⟨_, rfl⟩
            rw [← hl] at hpi
            have hmul : (i : Int) * ((n - 19 : Nat) : Int) = (l : Int) := by rw [← Int.natCast_mul, hl]
            refine o_val rfl rfl rfl rfl (v_mul rfl rfl (r := (l : Int)) (by rw [hmul]; exact wrap_i64 (by omega) (by omega))) ?_
            refine o_val rfl rfl rfl rfl (v_move rfl) ?_
            refine o_val rfl rfl rfl rfl (v_len rfl rfl) ?_
            refine o_val rfl rfl rfl rfl (v_min rfl rfl) ?_
            refine j_slot 39 rfl (v' := .int .i64 (l : Int)) (by congr 1; split <;> omega) ?_
            refine o_val rfl rfl rfl rfl (v_assign rfl) ?_
            refine o_end ?_
            refine r_region rfl ?_
            refine o_val rfl rfl rfl rfl (v_move rfl) ?_
            refine o_val rfl rfl rfl rfl (v_move rfl) ?_
            refine o_val rfl rfl rfl rfl (v_move rfl) ?_
            refine o_val rfl rfl rfl rfl (v_move rfl) ?_
            refine o_val rfl rfl rfl rfl (v_move rfl) ?_
            refine o_val rfl rfl rfl rfl (v_move rfl) ?_
            refine o_val rfl rfl rfl rfl (v_move rfl) ?_
            refine o_val rfl rfl rfl rfl (v_move rfl) ?_
            refine o_val rfl rfl rfl rfl (v_move rfl) ?_
            refine o_call rfl rfl rfl rfl (c_call callable14 rfl) (fr_Room _ _ n _ (by omega) hn2) ?_
            rintro v' F1 H' ⟨rfl, rfl, rfl⟩ _
            refine o_val rfl rfl rfl rfl (v_add rfl rfl (r := ((l + (n - 19) : Nat) : Int)) (wrap_i64 (by omega) (by omega))) ?_
            refine o_val rfl rfl rfl rfl (v_move rfl) ?_
            refine o_val rfl rfl rfl rfl (v_len rfl rfl) ?_
            refine o_val rfl rfl rfl rfl (v_min rfl rfl) ?_
            refine j_slot 53 rfl (v' := .int .i64 ((min (l + (n - 19)) p.length : Nat) : Int)) (by congr 1; split <;> omega) ?_
            refine o_val rfl rfl rfl rfl (v_slice2 (sz := 1) rfl rfl rfl rfl rfl rfl rfl (by omega) (by omega)) ?_
            refine o_call rfl rfl rfl rfl (c_call callable21 rfl) (fr_part _ _ n id i m _ (chunk n i p) _ (chunk_sl (hv.frz hF1) hl hpi rfl) (by omega) hn2 (by omega) (by omega)) ?_
            rintro v' F1 H' ⟨rfl, bp, okp, rfl, rfl⟩ _
            refine j_freezeBf okp (by simp) fun F2 hF2 hs2 => ?_
            refine o_act rfl rfl rfl rfl (a_buildS (sz := 1) (cs := [bp.val (frB n id i m (chunk n i p)).length]) [.tmp 55] rfl rfl rfl rfl rfl rfl rfl rfl rfl rfl) ?_
            rintro v' H' ⟨y, rfl, rfl⟩
            refine o_act rfl rfl rfl rfl (a_appendP (bf := bf) (n := rs.length) (m := 1) (sz := 1) (bytes := 24) [.mem y [bp.val (frB n id i m (chunk n i p)).length] 1] ⟨⟨_, _, _, rfl, rfl, rfl, rfl, rfl, rfl⟩, by decide⟩ rfl hok (by simp) rfl rfl (sl_lit1 (List.mem_cons_self ..)) rfl (by unfold maxLen; omega) (by omega)) ?_
            rintro v' H' ⟨bf2, rfl, hok2, rfl⟩
            refine j_drop (List.sublist_cons_self _ _) ?_
            have hJ := IH ⟨i + 1, rs ++ [(bp.val (frB n id i m (chunk n i p)).length, frB n id i m (chunk n i p))], bf2, F2⟩ ⟨Fz.le_trans hF1 hF2, hil, by simpa using hok2, by simp [hrl], by
              dsimp only
              rw [List.map_append, hrows, List.range_succ, List.map_append]
              rfl, fun r hr => by
              dsimp only at hr ⊢
              rcases List.mem_append.1 hr with hr | hr
              · exact (hfz r hr).frz hF2
              · rw [List.mem_singleton.1 hr]; exact hs2⟩ (by dsimp only; omega)
            dsimp only at hJ
            rw [List.map_append, List.length_append] at hJ
            refine o_val rfl rfl rfl rfl (v_assign rfl) ?_
            refine o_end ?_
            refine r_inBlock ?_
            refine r_region rfl ?_
            refine o_val rfl rfl rfl rfl (v_add rfl rfl (wrap_i64 (by omega) (by omega))) ?_
            refine o_val rfl rfl rfl rfl (v_move rfl) ?_
            refine o_end ?_
            refine j_keep ?_ hJ
            exact ⟨rfl, rfl, rfl, rfl, rfl, rfl, rfl, trivial⟩
          · obtain rfl : i = m := by omega
            refine r_exit rfl ?_
            refine r_seq ?_
            refine r_region rfl ?_
            refine o_val rfl rfl rfl rfl (v_move rfl) ?_
            refine o_val rfl rfl rfl rfl (v_assign rfl) ?_
            refine o_val rfl rfl rfl rfl (v_assign rfl) ?_
            refine o_end ?_
            exact r_ret2 Try.func9 rfl rfl rfl ⟨⟨hF1, rs, bf, hok, rfl, hrows, hfz, rfl⟩, hF1⟩
end Go.SX
