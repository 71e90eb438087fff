/-
  Contracts of package frame's reference: Split; Dummy; rows compared.
-/
import Derived.Test.YtdmpnpcpnhcioaaFrame2
namespace Go.SX
open Go Go.Proofs
set_option maxRecDepth 4000
set_option linter.unusedSimpArgs false
set_option linter.unusedVariables false

set_option maxHeartbeats 1000000 in
theorem ref_Split (O : World) (F : Fz) (n : Int) (id : Nat) (v : Value) (p : List UInt8) (Fr : List Ent) (hv : SlB F [] v p) (hp : p.length ≤ 140737488350000) :
    Does Try.prog O 10 #[.int .i64 n, .int .u64 id, v] F Fr
      (fun r F' H' => F.le F' ∧ ∃ (rs : List (Value × List UInt8)) (bf : Bf), bf.ok rs.length ∧ r = .tuple #[bf.val rs.length, .int .i64 (splitE n p)] ∧ rs.map (·.2) = splitR n id p ∧ (∀ r ∈ rs, SlB F' [] r.1 r.2) ∧ H' = bf.ents 1 (rs.map (·.1)) ++ Fr) := by
  obtain ⟨a0, cap, rfl, hcap⟩ := Sl.shape hv
  refine does_of_run (args := [_, _, _]) Try.func10 rfl rfl ?_
  refine r_seq ?_
  refine r_region rfl ?_
  refine o_val rfl rfl rfl rfl (v_assign rfl) ?_
  refine o_val rfl rfl rfl rfl (v_assign rfl) ?_
  refine o_end ?_
  refine r_seq ?_
  refine r_seq ?_
  refine r_join (fun _ : Unit => True) (fun _ => [(0, .int .i64 n), (1, .int .u64 id), (2, .slice a0 p.length cap), (18, .bool (decide (n < 64 ∨ 4096 < n)))]) (fun _ => F) (fun _ => Fr) ?_ ?_
  · intro J
    refine r_region rfl ?_
    refine o_val rfl rfl rfl rfl (v_move rfl) ?_
    refine o_val rfl rfl rfl rfl (v_lss rfl rfl) ?_
    refine j_prop 14 rfl (fun h1 => ?_) (fun h1 => ?_)
    · refine o_val rfl rfl rfl rfl (v_move rfl) ?_
      refine o_skip rfl rfl rfl rfl ?_
      refine o_skip rfl rfl rfl rfl ?_
      refine o_val rfl rfl rfl rfl (v_pick1 rfl rfl) ?_
      refine o_end ?_
      refine j_slot 18 rfl (v' := .bool (decide (n < 64 ∨ 4096 < n))) (by rw [decide_eq_true (p := n < 64 ∨ 4096 < n) (by omega)]) ?_
      refine j_keep ?_ (J () trivial)
      exact ⟨rfl, rfl, rfl, rfl, trivial⟩
    · refine o_val rfl rfl rfl rfl (v_move rfl) ?_
      refine o_val rfl rfl rfl rfl (v_move rfl) ?_
      refine o_val rfl rfl rfl rfl (v_gtr rfl rfl) ?_
      refine o_val rfl rfl rfl rfl (v_pick0 rfl rfl) ?_
      refine o_end ?_
      refine j_slot 18 rfl (v' := .bool (decide (n < 64 ∨ 4096 < n))) (by congr 1; rw [decide_eq_decide]; omega) ?_
      refine j_keep ?_ (J () trivial)
      exact ⟨rfl, rfl, rfl, rfl, trivial⟩
  · rintro _ _
    refine r_if rfl (fun h => ?_) (fun h => ?_)
    · have he : splitE n p = 1 := by unfold splitE; rw [if_pos h]
      have hr : splitR n id p = [] := by unfold splitR; rw [if_neg (by omega)]
      refine r_seq ?_
      refine r_region rfl ?_
      refine o_val rfl rfl rfl rfl (v_assign rfl) ?_
      refine o_val rfl rfl rfl rfl (v_assign rfl) ?_
      refine o_end ?_
      exact r_ret2 Try.func10 rfl rfl rfl ⟨⟨Fz.le_refl _, [], .nil, rfl, by rw [he]; rfl, by rw [hr]; rfl, by simp, rfl⟩, Fz.le_refl _⟩
    · obtain ⟨n, rfl⟩ := Int.eq_ofNat_of_zero_le (show 0 ≤ n by omega)
      have hn1 : 64 ≤ n := by omega
      have hn2 : n ≤ 4096 := by omega
      have hsE : splitE n p = if 1048576 < p.length ∨ 65536 ≤ partsN n p.length then 6 else 0 := by unfold splitE; rw [if_neg h]; rfl
      have hpm : partsN n p.length = if (p.length + (n - 19) - 1) / (n - 19) = 0 then 1 else (p.length + (n - 19) - 1) / (n - 19) := by unfold partsN; generalize (p.length + (n - 19) - 1) / (n - 19) = q; split <;> omega
      refine r_skip ?_
      refine r_seq ?_
      refine r_region rfl ?_
      refine o_val rfl rfl rfl rfl (v_move rfl) ?_
      refine o_val rfl rfl rfl rfl (v_sub rfl rfl (r := ((n - 19 : Nat) : Int)) ((wrap_i64 (by omega) (by omega)).trans (by omega))) ?_
      refine o_val rfl rfl rfl rfl (v_assign rfl) ?_
      refine o_end ?_
      refine r_seq ?_
      refine r_region rfl ?_
      refine o_val rfl rfl rfl rfl (v_move rfl) ?_
      refine o_val rfl rfl rfl rfl (v_len rfl rfl) ?_
      refine o_val rfl rfl rfl rfl (v_move rfl) ?_
      refine o_val rfl rfl rfl rfl (v_add rfl rfl (r := ((p.length + (n - 19) : Nat) : Int)) (wrap_i64 (by omega) (by omega))) ?_
      refine o_val rfl rfl rfl rfl (v_sub rfl rfl (r := ((p.length + (n - 19) - 1 : Nat) : Int)) ((wrap_i64 (by omega) (by omega)).trans (by omega))) ?_
      refine o_val rfl rfl rfl rfl (v_move rfl) ?_
      refine o_val rfl rfl rfl rfl (v_quo rfl rfl (by omega) (quo_nat (by omega) (by omega))) ?_
      refine o_val rfl rfl rfl rfl (v_assign rfl) ?_
      refine o_end ?_
      refine r_seq ?_
      refine r_join (fun _ : Unit => True) (fun _ => [(0, .int .i64 n), (1, .int .u64 id), (2, .slice a0 p.length cap), (8, .int .i64 (n - 19 : Nat)), (9, .int .i64 (partsN n p.length))]) (fun _ => F) (fun _ => Fr) ?_ ?_
      · intro J
        generalize (p.length + (n - 19) - 1) / (n - 19) = q at hpm ⊢
        refine r_seq ?_
        refine r_region rfl ?_
        refine o_val rfl rfl rfl rfl (v_move rfl) ?_
        refine o_val rfl rfl rfl rfl (v_eql rfl rfl) ?_
        refine o_end ?_
        refine r_if rfl (fun h1 => ?_) (fun h1 => ?_)
        · rw [hpm, if_pos (by omega)] at J
          refine r_region rfl ?_
          refine o_val rfl rfl rfl rfl (v_assign rfl) ?_
          refine o_end ?_
          refine j_keep ?_ (J () trivial)
          exact ⟨rfl, rfl, rfl, rfl, rfl, trivial⟩
        · rw [hpm, if_neg (by omega)] at J
          refine r_skip ?_
          refine j_keep ?_ (J () trivial)
          exact ⟨rfl, rfl, rfl, rfl, rfl, trivial⟩
      rintro _ _
      clear hpm
      refine r_seq ?_
      refine r_seq ?_
      refine r_join (fun _ : Unit => True) (fun _ => [(0, .int .i64 n), (1, .int .u64 id), (2, .slice a0 p.length cap), (8, .int .i64 (n - 19 : Nat)), (9, .int .i64 (partsN n p.length)), (36, .bool (decide (1048576 < p.length ∨ 65536 ≤ partsN n p.length)))]) (fun _ => F) (fun _ => Fr) ?_ ?_
      · intro J
        refine r_region rfl ?_
        refine o_val rfl rfl rfl rfl (v_move rfl) ?_
        refine o_val rfl rfl rfl rfl (v_len rfl rfl) ?_
        refine o_val rfl rfl rfl rfl (v_gtr rfl rfl) ?_
        refine j_prop 32 rfl (fun h1 => ?_) (fun h1 => ?_)
        · refine o_val rfl rfl rfl rfl (v_move rfl) ?_
          refine o_skip rfl rfl rfl rfl ?_
          refine o_skip rfl rfl rfl rfl ?_
          refine o_val rfl rfl rfl rfl (v_pick1 rfl rfl) ?_
          refine o_end ?_
          refine j_slot 36 rfl (v' := .bool (decide (1048576 < p.length ∨ 65536 ≤ partsN n p.length))) (by rw [decide_eq_true (p := 1048576 < p.length ∨ 65536 ≤ partsN n p.length) (by omega)]) ?_
          refine j_keep ?_ (J () trivial)
          exact ⟨rfl, rfl, rfl, rfl, rfl, rfl, trivial⟩
        · refine o_val rfl rfl rfl rfl (v_move rfl) ?_
          refine o_val rfl rfl rfl rfl (v_move rfl) ?_
          refine o_val rfl rfl rfl rfl (v_geq rfl rfl) ?_
          refine o_val rfl rfl rfl rfl (v_pick0 rfl rfl) ?_
          refine o_end ?_
          refine j_slot 36 rfl (v' := .bool (decide (1048576 < p.length ∨ 65536 ≤ partsN n p.length))) (by congr 1; rw [decide_eq_decide]; omega) ?_
          refine j_keep ?_ (J () trivial)
          exact ⟨rfl, rfl, rfl, rfl, rfl, rfl, trivial⟩
      · rintro _ _
        refine r_if rfl (fun h2 => ?_) (fun h2 => ?_)
        · have he : splitE n p = 6 := by rw [hsE, if_pos h2]
          have hr : splitR n id p = [] := by unfold splitR; rw [if_neg (by omega)]
          refine r_seq ?_
          refine r_region rfl ?_
          refine o_val rfl rfl rfl rfl (v_assign rfl) ?_
          refine o_val rfl rfl rfl rfl (v_assign rfl) ?_
          refine o_end ?_
          exact r_ret2 Try.func10 rfl rfl rfl ⟨⟨Fz.le_refl _, [], .nil, rfl, by rw [he]; rfl, by rw [hr]; rfl, by simp, rfl⟩, Fz.le_refl _⟩
        · have he : splitE n p = 0 := by rw [hsE, if_neg h2]
          have hr : splitR n id p = (List.range (partsN n p.length)).map fun i => frB n id i (partsN n p.length) (chunk n i p) := by unfold splitR; rw [if_pos he]; rfl
          rw [he, hr]
          have hpl : ∀ i, i < partsN n p.length → i * (n - 19) ≤ p.length := fun i hi => parts_le hn1 hi
          have hpp : partsN n p.length < 65536 := by omega
          generalize partsN n p.length = m at *
          refine r_skip ?_
          refine r_seq ?_
          refine r_region rfl ?_
          refine o_val rfl rfl rfl rfl (v_assign rfl) ?_
          refine o_end ?_
          refine r_seq ?_
          refine r_seq ?_
          refine r_region rfl ?_
          refine o_val rfl rfl rfl rfl (v_assign rfl) ?_
          refine o_end ?_
          refine r_block ?_
          refine r_loop (SG.ok F n id m p) (fun g => [(0, .int .i64 n), (1, .int .u64 id), (2, .slice a0 p.length cap), (8, .int .i64 (n - 19 : Nat)), (9, .int .i64 m), (10, g.bf.val g.rs.length), (11, .int .i64 g.i)]) (fun g => g.F) (fun g => g.bf.ents 1 (g.rs.map (·.1)) ++ Fr) (fun g => m - g.i)
            ⟨0, [], .nil, F⟩ ⟨Fz.le_refl _, Nat.zero_le _, rfl, rfl, rfl, by simp⟩ ⟨rfl, rfl, rfl, rfl, rfl, rfl, rfl, trivial⟩ rfl rfl ?_
          rintro ⟨i, rs, bf, F1⟩ ⟨hF1, hi, hok, hrl, hrows, hfz⟩ IH
          dsimp only at hF1 hi hok hrl hrows hfz ⊢
          refine r_seq ?_
          refine r_seq ?_
          refine r_region rfl ?_
          refine o_val rfl rfl rfl rfl (v_move rfl) ?_
          refine o_val rfl rfl rfl rfl (v_move rfl) ?_
          refine o_val rfl rfl rfl rfl (v_lss rfl rfl) ?_
          refine o_end ?_
          refine r_if rfl (fun h3 => ?_) (fun h3 => ?_)
          · have hil : i < m := by omega
            have hpi := hpl i hil
            have hcl := chunk_len n i p
            obtain ⟨l, hl⟩ : ∃ l, l = i * (n - 19) := ⟨_, rfl⟩
            rw [← hl] at hpi
            have hmul : (i : Int) * ((n - 19 : Nat) : Int) = (l : Int) := by rw [← Int.natCast_mul, hl]
            refine r_skip ?_
            refine r_seq ?_
            refine r_block ?_
            refine r_seq ?_
            refine r_region rfl ?_
            refine o_val rfl rfl rfl rfl (v_move rfl) ?_
            refine o_val rfl rfl rfl rfl (v_move rfl) ?_
            refine o_val rfl rfl rfl rfl (v_mul rfl rfl (r := (l : Int)) (by rw [hmul]; exact wrap_i64 (by omega) (by omega))) ?_
            refine o_val rfl rfl rfl rfl (v_move rfl) ?_
            refine o_val rfl rfl rfl rfl (v_add rfl rfl (r := ((l + (n - 19) : Nat) : Int)) (wrap_i64 (by omega) (by omega))) ?_
            refine o_val rfl rfl rfl rfl (v_assign rfl) ?_
            refine o_end ?_
            refine r_seq ?_
            refine r_join (fun _ : Unit => True) (fun _ => [(0, .int .i64 n), (1, .int .u64 id), (2, .slice a0 p.length cap), (8, .int .i64 (n - 19 : Nat)), (9, .int .i64 m), (10, bf.val rs.length), (11, .int .i64 i), (12, .int .i64 (min (l + (n - 19)) p.length : Nat))]) (fun _ => F1) (fun _ => bf.ents 1 (rs.map (·.1)) ++ Fr) ?_ ?_
            · intro J
              refine r_seq ?_
              refine r_region rfl ?_
              refine o_val rfl rfl rfl rfl (v_move rfl) ?_
              refine o_val rfl rfl rfl rfl (v_move rfl) ?_
              refine o_val rfl rfl rfl rfl (v_len rfl rfl) ?_
              refine o_val rfl rfl rfl rfl (v_gtr rfl rfl) ?_
              refine o_end ?_
              refine r_if rfl (fun h4 => ?_) (fun h4 => ?_)
              · rw [Nat.min_eq_right (by omega)] at J
                refine r_region rfl ?_
                refine o_val rfl rfl rfl rfl (v_move rfl) ?_
                refine o_val rfl rfl rfl rfl (v_len rfl rfl) ?_
                refine o_val rfl rfl rfl rfl (v_assign rfl) ?_
                refine o_end ?_
                refine j_keep ?_ (J () trivial)
                exact ⟨rfl, rfl, rfl, rfl, rfl, rfl, rfl, rfl, trivial⟩
              · rw [Nat.min_eq_left (by omega)] at J
                refine r_skip ?_
                refine j_keep ?_ (J () trivial)
                exact ⟨rfl, rfl, rfl, rfl, rfl, rfl, rfl, rfl, trivial⟩
            · rintro _ _
              refine r_region rfl ?_
              refine o_val rfl rfl rfl rfl (v_move rfl) ?_
              refine o_val rfl rfl rfl rfl (v_move rfl) ?_
              refine o_val rfl rfl rfl rfl (v_move rfl) ?_
              refine o_val rfl rfl rfl rfl (v_move rfl) ?_
              refine o_val rfl rfl rfl rfl (v_move rfl) ?_
              refine o_val rfl rfl rfl rfl (v_move rfl) ?_
              refine o_val rfl rfl rfl rfl (v_move rfl) ?_
              refine o_val rfl rfl rfl rfl (v_move rfl) ?_
              refine o_val rfl rfl rfl rfl (v_mul rfl rfl (r := (l : Int)) (by rw [hmul]; exact wrap_i64 (by omega) (by omega))) ?_
              refine o_val rfl rfl rfl rfl (v_move rfl) ?_
              refine o_val rfl rfl rfl rfl (v_slice2 (sz := 1) rfl rfl rfl rfl rfl rfl rfl (by omega) (by omega)) ?_
              refine o_call rfl rfl rfl rfl (c_call callable22 rfl) (ref_Frame _ _ n id i m _ (chunk n i p) _ (chunk_sl (hv.frz hF1) hl hpi rfl) (by omega) hn2 (by omega) (by omega)) ?_
              rintro v' F1 H' ⟨rfl, bp, okp, rfl, rfl⟩ _
              refine j_freezeBf okp (by simp) fun F2 hF2 hs2 => ?_
              refine o_act rfl rfl rfl rfl (a_buildS (sz := 1) (cs := [bp.val (frB n id i m (chunk n i p)).length]) [.tmp 64] rfl rfl rfl rfl rfl rfl rfl rfl rfl rfl) ?_
              rintro v' H' ⟨y, rfl, rfl⟩
              refine o_act rfl rfl rfl rfl (a_appendP (bf := bf) (n := rs.length) (m := 1) (sz := 1) (bytes := 24) [.mem y [bp.val (frB n id i m (chunk n i p)).length] 1] ⟨⟨_, _, _, rfl, rfl, rfl, rfl, rfl, rfl⟩, by decide⟩ rfl hok (by simp) rfl rfl (sl_lit1 (List.mem_cons_self ..)) rfl (by unfold maxLen; omega) (by omega)) ?_
              rintro v' H' ⟨bf2, rfl, hok2, rfl⟩
              refine j_drop (List.sublist_cons_self _ _) ?_
              have hJ := IH ⟨i + 1, rs ++ [(bp.val (frB n id i m (chunk n i p)).length, frB n id i m (chunk n i p))], bf2, F2⟩ ⟨Fz.le_trans hF1 hF2, hil, by simpa using hok2, by simp [hrl], by
                dsimp only
                rw [List.map_append, hrows, List.range_succ, List.map_append]
                rfl, fun r hr => by
                dsimp only at hr ⊢
                rcases List.mem_append.1 hr with hr | hr
                · exact (hfz r hr).frz hF2
                · rw [List.mem_singleton.1 hr]; exact hs2⟩ (by dsimp only; omega)
              dsimp only at hJ
              rw [List.map_append, List.length_append] at hJ
              refine o_val rfl rfl rfl rfl (v_assign rfl) ?_
              refine o_end ?_
              refine r_inBlock ?_
              refine r_region rfl ?_
              refine o_val rfl rfl rfl rfl (v_move rfl) ?_
              refine o_val rfl rfl rfl rfl (v_add rfl rfl (wrap_i64 (by omega) (by omega))) ?_
              refine o_val rfl rfl rfl rfl (v_assign rfl) ?_
              refine o_end ?_
              refine j_keep ?_ hJ
              exact ⟨rfl, rfl, rfl, rfl, rfl, rfl, rfl, trivial⟩
          · obtain rfl : i = m := by omega
            refine r_exit rfl ?_
            refine r_seq ?_
            refine r_region rfl ?_
            refine o_val rfl rfl rfl rfl (v_move rfl) ?_
            refine o_val rfl rfl rfl rfl (v_assign rfl) ?_
            refine o_val rfl rfl rfl rfl (v_assign rfl) ?_
            refine o_end ?_
            exact r_ret2 Try.func10 rfl rfl rfl ⟨⟨hF1, rs, bf, hok, rfl, hrows, hfz, rfl⟩, hF1⟩

def dummyB (n : Int) : List UInt8 := if n < 64 ∨ 4096 < n then [] else dumB n.toNat
theorem fr_Dummy (O : World) (F : Fz) (n : Int) (Fr : List Ent) :
    Does Try.prog O 15 #[.int .i64 n] F Fr (fun r F' H' => F' = F ∧ ∃ bf : Bf, bf.ok (dummyB n).length ∧ r = bf.val (dummyB n).length ∧ H' = bf.ents 1 (bytesV (dummyB n)) ++ Fr) := by
  refine does_of_run (args := [_]) Try.func15 rfl rfl ?_
  refine r_seq ?_
  refine r_region rfl ?_
  refine o_val rfl rfl rfl rfl (v_assign rfl) ?_
  refine o_end ?_
  refine r_seq ?_
  refine r_seq ?_
  refine r_join (fun _ : Unit => True) (fun _ => [(0, .int .i64 n), (8, .bool (decide (n < 64 ∨ 4096 < n)))]) (fun _ => F) (fun _ => Fr) ?_ ?_
  · intro J
    refine r_region rfl ?_
    refine o_val rfl rfl rfl rfl (v_move rfl) ?_
    refine o_val rfl rfl rfl rfl (v_lss rfl rfl) ?_
    refine j_prop 4 rfl (fun h1 => ?_) (fun h1 => ?_)
    · refine o_val rfl rfl rfl rfl (v_move rfl) ?_
      refine o_skip rfl rfl rfl rfl ?_
      refine o_skip rfl rfl rfl rfl ?_
      refine o_val rfl rfl rfl rfl (v_pick1 rfl rfl) ?_
      refine o_end ?_
      refine j_slot 8 rfl (v' := .bool (decide (n < 64 ∨ 4096 < n))) (by rw [decide_eq_true (p := n < 64 ∨ 4096 < n) (by omega)]) ?_
      refine j_keep ?_ (J () trivial)
      exact ⟨rfl, rfl, trivial⟩
    · refine o_val rfl rfl rfl rfl (v_move rfl) ?_
      refine o_val rfl rfl rfl rfl (v_move rfl) ?_
      refine o_val rfl rfl rfl rfl (v_gtr rfl rfl) ?_
      refine o_val rfl rfl rfl rfl (v_pick0 rfl rfl) ?_
      refine o_end ?_
      refine j_slot 8 rfl (v' := .bool (decide (n < 64 ∨ 4096 < n))) (by congr 1; rw [decide_eq_decide]; omega) ?_
      refine j_keep ?_ (J () trivial)
      exact ⟨rfl, rfl, trivial⟩
  · rintro _ _
    refine r_if rfl (fun h => ?_) (fun h => ?_)
    · have he : dummyB n = [] := by unfold dummyB; rw [if_pos h]
      rw [he]
      refine r_seq ?_
      refine r_region rfl ?_
      refine o_val rfl rfl rfl rfl (v_assign rfl) ?_
      refine o_end ?_
      exact r_ret1 Try.func15 rfl rfl ⟨⟨rfl, .nil, rfl, rfl, rfl⟩, Fz.le_refl _⟩
    · obtain ⟨n, rfl⟩ := Int.eq_ofNat_of_zero_le (show 0 ≤ n by omega)
      have he : dummyB n = sealB (List.replicate (n - 4) 0) := by unfold dummyB; rw [if_neg h]; rfl
      rw [he]
      refine r_skip ?_
      refine r_seq ?_
      refine r_region rfl ?_
      refine o_val rfl rfl rfl rfl (v_move rfl) ?_
      refine o_val rfl rfl rfl rfl (v_sub rfl rfl (r := ((n - 4 : Nat) : Int)) ((wrap_i64 (by omega) (by omega)).trans (by omega))) ?_
      refine o_act rfl rfl rfl rfl (a_make (zc := [byteV 0]) (bytes := 1) (l := n - 4) (c := n - 4) ⟨⟨_, _, _, rfl, rfl, rfl, rfl, rfl, rfl⟩, by decide⟩ rfl rfl rfl rfl (Nat.le_refl _) (by omega) (by omega)) ?_
      rintro v' H' ⟨b, rfl, rfl⟩
      refine j_heap (H' := (Bf.at b (n - 4)).ents 1 (bytesV (List.replicate (n - 4) 0)) ++ Fr) (by rw [zeros_bytes]; rfl) ?_
      have hrd : SlB F ((Bf.at b (n - 4)).ents 1 (bytesV (List.replicate (n - 4) 0)) ++ Fr) (.slice (some ⟨b, 0, none⟩) (n - 4) (n - 4)) (List.replicate (n - 4) 0) := by
        have := Bf.reads (bf := .at b (n - 4)) (sz := 1) (n := n - 4) (cs := bytesV (List.replicate (n - 4) 0)) (F := F) (H := (Bf.at b (n - 4)).ents 1 (bytesV (List.replicate (n - 4) 0)) ++ Fr) (Nat.le_refl _) (by simp) (by intro q hq; exact List.mem_append_left _ hq)
        unfold SlB
        rw [List.length_replicate]
        exact this
      refine o_call rfl rfl rfl rfl (c_call callable23 rfl) (oct_Seal _ _ _ (List.replicate (n - 4) 0) _ hrd (by simp; omega)) ?_
      rintro v' F H' ⟨rfl, b8, ok8, rfl, rfl⟩ _
      refine j_sel (H' := b8.ents 1 (bytesV (sealB (List.replicate (n - 4) 0))) ++ (Fr)) [b8.ents 1 (bytesV (sealB (List.replicate (n - 4) 0))), (Bf.at b (n - 4)).ents 1 (bytesV (List.replicate (n - 4) 0)), Fr] [0, 2] rfl rfl rfl ?_
      refine o_val rfl rfl rfl rfl (v_assign rfl) ?_
      refine o_end ?_
      exact r_ret1 Try.func15 rfl rfl ⟨⟨rfl, b8, ok8, rfl, rfl⟩, Fz.le_refl _⟩

theorem ref_Dummy (O : World) (F : Fz) (n : Int) (Fr : List Ent) :
    Does Try.prog O 16 #[.int .i64 n] F Fr (fun r F' H' => F' = F ∧ ∃ bf : Bf, bf.ok (dummyB n).length ∧ r = bf.val (dummyB n).length ∧ H' = bf.ents 1 (bytesV (dummyB n)) ++ Fr) := by
  refine does_of_run (args := [_]) Try.func16 rfl rfl ?_
  refine r_seq ?_
  refine r_region rfl ?_
  refine o_val rfl rfl rfl rfl (v_assign rfl) ?_
  refine o_end ?_
  refine r_seq ?_
  refine r_seq ?_
  refine r_join (fun _ : Unit => True) (fun _ => [(0, .int .i64 n), (8, .bool (decide (n < 64 ∨ 4096 < n)))]) (fun _ => F) (fun _ => Fr) ?_ ?_
  · intro J
    refine r_region rfl ?_
    refine o_val rfl rfl rfl rfl (v_move rfl) ?_
    refine o_val rfl rfl rfl rfl (v_lss rfl rfl) ?_
    refine j_prop 4 rfl (fun h1 => ?_) (fun h1 => ?_)
    · refine o_val rfl rfl rfl rfl (v_move rfl) ?_
      refine o_skip rfl rfl rfl rfl ?_
      refine o_skip rfl rfl rfl rfl ?_
      refine o_val rfl rfl rfl rfl (v_pick1 rfl rfl) ?_
      refine o_end ?_
      refine j_slot 8 rfl (v' := .bool (decide (n < 64 ∨ 4096 < n))) (by rw [decide_eq_true (p := n < 64 ∨ 4096 < n) (by omega)]) ?_
      refine j_keep ?_ (J () trivial)
      exact ⟨rfl, rfl, trivial⟩
    · refine o_val rfl rfl rfl rfl (v_move rfl) ?_
      refine o_val rfl rfl rfl rfl (v_move rfl) ?_
      refine o_val rfl rfl rfl rfl (v_gtr rfl rfl) ?_
      refine o_val rfl rfl rfl rfl (v_pick0 rfl rfl) ?_
      refine o_end ?_
      refine j_slot 8 rfl (v' := .bool (decide (n < 64 ∨ 4096 < n))) (by congr 1; rw [decide_eq_decide]; omega) ?_
      refine j_keep ?_ (J () trivial)
      exact ⟨rfl, rfl, trivial⟩
  · rintro _ _
    refine r_if rfl (fun h => ?_) (fun h => ?_)
    · have he : dummyB n = [] := by unfold dummyB; rw [if_pos h]
      rw [he]
      refine r_seq ?_
      refine r_region rfl ?_
      refine o_val rfl rfl rfl rfl (v_assign rfl) ?_
      refine o_end ?_
      exact r_ret1 Try.func16 rfl rfl ⟨⟨rfl, .nil, rfl, rfl, rfl⟩, Fz.le_refl _⟩
    · obtain ⟨n, rfl⟩ := Int.eq_ofNat_of_zero_le (show 0 ≤ n by omega)
      have he : dummyB n = sealB (List.replicate (n - 4) 0) := by unfold dummyB; rw [if_neg h]; rfl
      rw [he]
      refine r_skip ?_
      refine r_seq ?_
      refine r_region rfl ?_
      refine o_val rfl rfl rfl rfl (v_move rfl) ?_
      refine o_val rfl rfl rfl rfl (v_sub rfl rfl (r := ((n - 4 : Nat) : Int)) ((wrap_i64 (by omega) (by omega)).trans (by omega))) ?_
      refine o_act rfl rfl rfl rfl (a_make (zc := [byteV 0]) (bytes := 1) (l := n - 4) (c := n - 4) ⟨⟨_, _, _, rfl, rfl, rfl, rfl, rfl, rfl⟩, by decide⟩ rfl rfl rfl rfl (Nat.le_refl _) (by omega) (by omega)) ?_
      rintro v' H' ⟨b, rfl, rfl⟩
      refine j_heap (H' := (Bf.at b (n - 4)).ents 1 (bytesV (List.replicate (n - 4) 0)) ++ Fr) (by rw [zeros_bytes]; rfl) ?_
      have hrd : SlB F ((Bf.at b (n - 4)).ents 1 (bytesV (List.replicate (n - 4) 0)) ++ Fr) (.slice (some ⟨b, 0, none⟩) (n - 4) (n - 4)) (List.replicate (n - 4) 0) := by
        have := Bf.reads (bf := .at b (n - 4)) (sz := 1) (n := n - 4) (cs := bytesV (List.replicate (n - 4) 0)) (F := F) (H := (Bf.at b (n - 4)).ents 1 (bytesV (List.replicate (n - 4) 0)) ++ Fr) (Nat.le_refl _) (by simp) (by intro q hq; exact List.mem_append_left _ hq)
        unfold SlB
        rw [List.length_replicate]
        exact this
      refine o_call rfl rfl rfl rfl (c_call callable24 rfl) (ref_Seal _ _ _ (List.replicate (n - 4) 0) _ hrd (by simp; omega)) ?_
      rintro v' F H' ⟨rfl, b8, ok8, rfl, rfl⟩ _
      refine j_sel (H' := b8.ents 1 (bytesV (sealB (List.replicate (n - 4) 0))) ++ (Fr)) [b8.ents 1 (bytesV (sealB (List.replicate (n - 4) 0))), (Bf.at b (n - 4)).ents 1 (bytesV (List.replicate (n - 4) 0)), Fr] [0, 2] rfl rfl rfl ?_
      refine o_val rfl rfl rfl rfl (v_assign rfl) ?_
      refine o_end ?_
      exact r_ret1 Try.func16 rfl rfl ⟨⟨rfl, b8, ok8, rfl, rfl⟩, Fz.le_refl _⟩

end Go.SX
