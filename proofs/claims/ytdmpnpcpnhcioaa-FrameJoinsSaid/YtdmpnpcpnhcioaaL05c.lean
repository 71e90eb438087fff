/-
  Chapter 05: the laws FrameNil, FrameBack.
-/
import Derived.Test.YtdmpnpcpnhcioaaJoin2
import Derived.Test.YtdmpnpcpnhcioaaL05b
namespace Go.SX
open Go Go.Proofs
set_option maxRecDepth 4000
set_option linter.unusedSimpArgs false
set_option linter.unusedVariables false

/-- Some of a message's parts. -/
def rowsB (n m : Nat) (p : List UInt8) (S : Nat → Bool) : List (Option (List UInt8)) := (List.range m).map fun j => if S j = true then some (chunk n j p) else none
theorem rowsB_get (n m : Nat) (p : List UInt8) (S : Nat → Bool) (j : Nat) (hj : j < m) : (rowsB n m p S)[j]? = some (if S j = true then some (chunk n j p) else none) := by
  unfold rowsB
  rw [List.getElem?_map, List.getElem?_range hj]
  rfl
theorem rowsB_len (n m : Nat) (p : List UInt8) (S : Nat → Bool) : (rowsB n m p S).length = m := by simp [rowsB]
theorem rowsB_put (n m : Nat) (p : List UInt8) (S S' : Nat → Bool) (k : Nat) (hk : k < m) (hS : S k = false) (hS' : ∀ j, j < m → S' j = (S j || decide (j = k))) : putO (rowsB n m p S) k (chunk n k p) = rowsB n m p S' := by
  unfold putO
  have hh : isHole (rowsB n m p S) k = true := by rw [isHole_get, rowsB_get _ _ _ _ _ hk, hS]; rfl
  rw [if_pos hh]
  apply List.ext_getElem?
  intro j
  rw [List.getElem?_set, rowsB_len]
  rcases Nat.lt_or_ge j m with hj | hj
  · rw [rowsB_get _ _ _ _ _ hj, rowsB_get _ _ _ _ _ hj, hS' j hj]
    by_cases e : k = j
    · subst e
      rw [if_pos rfl, if_pos hk]
      simp
    · rw [if_neg e]
      have : decide (j = k) = false := by simp; omega
      rw [this, Bool.or_false]
  · rw [if_neg (by omega), List.getElem?_eq_none (by rw [rowsB_len]; exact hj), List.getElem?_eq_none (by rw [rowsB_len]; exact hj)]
theorem rowsB_none (n m : Nat) (p : List UInt8) (S : Nat → Bool) : (rowsB n m p S).any Option.isNone = true ↔ ∃ j, j < m ∧ S j = false := by
  rw [List.any_eq_true]
  constructor
  · rintro ⟨x, hx, hn⟩
    obtain ⟨j, hj, rfl⟩ := List.mem_map.1 hx
    refine ⟨j, List.mem_range.1 hj, ?_⟩
    cases h : S j with
    | false => rfl
    | true => rw [h] at hn; simp at hn
  · rintro ⟨j, hj, hS⟩
    exact ⟨none, List.mem_map.2 ⟨j, List.mem_range.2 hj, by rw [hS]; rfl⟩, rfl⟩
theorem chunks_all (n : Nat) (p : List UInt8) : ∀ k, (List.range k).flatMap (fun j => chunk n j p) = p.take (k * (n - 19))
  | 0 => by simp
  | k + 1 => by
    rw [List.range_succ, List.flatMap_append, chunks_all n p k]
    simp only [List.flatMap_cons, List.flatMap_nil, List.append_nil]
    unfold chunk
    rw [Nat.add_mul, Nat.one_mul, List.take_add]
theorem parts_ge {n p : Nat} (hn : 64 ≤ n) : p ≤ partsN n p * (n - 19) := by
  unfold partsN
  have h1 : (p + (n - 19) - 1) / (n - 19) ≤ max 1 ((p + (n - 19) - 1) / (n - 19)) := Nat.le_max_right ..
  have h2 := Nat.div_add_mod (p + (n - 19) - 1) (n - 19)
  have h3 := Nat.mod_lt (p + (n - 19) - 1) (show 0 < n - 19 by omega)
  have h4 := Nat.mul_le_mul_right (n - 19) h1
  rw [Nat.mul_comm (n - 19)] at h2
  omega
theorem rowsB_whole {n : Nat} {p : List UInt8} (hn : 64 ≤ n) (S : Nat → Bool) (hS : ∀ j, j < partsN n p.length → S j = true) : ((rowsB n (partsN n p.length) p S).flatMap fun r => r.getD []) = p := by
  have h1 : rowsB n (partsN n p.length) p S = (List.range (partsN n p.length)).map fun j => some (chunk n j p) := by
    unfold rowsB
    apply List.map_congr_left
    intro j hj
    rw [if_pos (hS j (List.mem_range.1 hj))]
  rw [h1, List.flatMap_map]
  show (List.range (partsN n p.length)).flatMap (fun j => chunk n j p) = p
  rw [chunks_all, List.take_of_length_le (parts_ge hn)]
theorem chunk_full {n p j : Nat} {l : List UInt8} (hl : l.length = p) (hn : 64 ≤ n) (hj : j < partsN n p) : (chunk n j l).length = n - 19 ∨ j + 1 = partsN n p := by
  by_cases h : j + 1 = partsN n p
  · exact .inr h
  · left
    have := parts_le hn (show j + 1 < partsN n p by omega)
    rw [Nat.add_mul, Nat.one_mul] at this
    unfold chunk
    simp
    omega
theorem readB_split {n id j : Nat} {p : List UInt8} (h1 : 64 ≤ n) (h2 : n ≤ 4096) (hid : id < 18446744073709551616) (hm : partsN n p.length < 65536) (hj : j < partsN n p.length) :
    readB (frB n id j (partsN n p.length) (chunk n j p)) = (0, id, j, partsN n p.length, chunk n j p) :=
  readB_frame (by have := chunk_len n j p; omega) h1 h2 hid hj hm (chunk_full rfl h1 hj)

/-- Behind so many frames of a message. -/
def backS (m : Nat) (turned : Bool) (i : Nat) : Nat → Bool := fun j => if turned = true then decide (m - i ≤ j) else decide (j < i)
def backL (n id : Nat) (p : List UInt8) (turned : Bool) (i : Nat) : List HP := if i = 0 ∨ i = partsN n p.length then [] else [⟨id, partsN n p.length, rowsB n (partsN n p.length) p (backS (partsN n p.length) turned i)⟩]
theorem back_step {n id : Nat} {p : List UInt8} (turned : Bool) (h1 : 64 ≤ n) (h2 : n ≤ 4096) (hid : id < 18446744073709551616) (hm : partsN n p.length < 65536) (i k : Nat) (hi : i < partsN n p.length) (hk : k = if turned = true then partsN n p.length - 1 - i else i) :
    joinT (backL n id p turned i) (frB n id k (partsN n p.length) (chunk n k p)) = (backL n id p turned (i + 1), if i + 1 = partsN n p.length then some p else none) := by
  have hkm : k < partsN n p.length := by rw [hk]; split <;> omega
  have hr := readB_split (p := p) h1 h2 hid hm hkm
  have hwh := fun S hS => rowsB_whole (n := n) (p := p) h1 S hS
  unfold joinT
  rw [hr]
  dsimp only
  rw [if_neg (by simp)]
  unfold backL
  generalize partsN n p.length = m at *
  have hput : putO (rowsB n m p (backS m turned i)) k (chunk n k p) = rowsB n m p (backS m turned (i + 1)) := by
    apply rowsB_put _ _ _ _ _ _ hkm
    · unfold backS
      cases turned with
      | true => simp at hk ⊢; omega
      | false => simp at hk ⊢; omega
    · intro j hj
      unfold backS
      cases turned with
      | true =>
        simp only [if_true] at hk ⊢
        rw [Bool.eq_iff_iff]
        simp only [Bool.or_eq_true, decide_eq_true_eq]
        omega
      | false =>
        simp only [Bool.false_eq_true, if_false] at hk ⊢
        rw [Bool.eq_iff_iff]
        simp only [Bool.or_eq_true, decide_eq_true_eq]
        omega
  have hone : joinAt [⟨id, m, rowsB n m p (backS m turned i)⟩] 0 k (chunk n k p) = (if i + 1 = 0 ∨ i + 1 = m then [] else [⟨id, m, rowsB n m p (backS m turned (i + 1))⟩], if i + 1 = m then some p else none) := by
    unfold joinAt
    simp only [List.getElem?_cons_zero]
    rw [hput]
    by_cases hl : i + 1 = m
    · have hno : (rowsB n m p (backS m turned (i + 1))).any Option.isNone = false := by
        cases hq : (rowsB n m p (backS m turned (i + 1))).any Option.isNone with
        | false => rfl
        | true =>
          obtain ⟨j, hj, hS⟩ := (rowsB_none _ _ _ _).1 hq
          unfold backS at hS
          cases turned with
          | true => simp at hS; omega
          | false => simp at hS; omega
      rw [if_neg (by rw [hno]; simp), if_pos (.inr hl), if_pos hl]
      rw [hwh (backS m turned (i + 1)) (fun j hj => by
        unfold backS
        cases turned with
        | true => simp; omega
        | false => simp; omega)]
      rfl
    · have hyes : (rowsB n m p (backS m turned (i + 1))).any Option.isNone = true := by
        refine (rowsB_none _ _ _ _).2 ?_
        cases turned with
        | true => exact ⟨0, by omega, by unfold backS; simp; omega⟩
        | false => exact ⟨m - 1, by omega, by unfold backS; simp; omega⟩
      rw [if_pos hyes, if_neg (by omega), if_neg hl]
      rfl
  by_cases h0 : i = 0
  · subst h0
    have e0 : (if 0 = 0 ∨ 0 = m then ([] : List HP) else [⟨id, m, rowsB n m p (backS m turned 0)⟩]) = [] := if_pos (.inl rfl)
    rw [e0, if_neg (by simp), if_neg (by simp)]
    show joinAt [⟨id, m, List.replicate m none⟩] 0 k (chunk n k p) = _
    have hrep : (List.replicate m none : List (Option (List UInt8))) = rowsB n m p (backS m turned 0) := by
      apply List.ext_getElem?
      intro j
      rcases Nat.lt_or_ge j m with hj | hj
      · rw [rowsB_get _ _ _ _ _ hj, List.getElem?_replicate, if_pos hj]
        have : backS m turned 0 j = false := by
          unfold backS
          cases turned with
          | true => simp; omega
          | false => simp
        rw [this]
        rfl
      · rw [List.getElem?_eq_none (by simpa using hj), List.getElem?_eq_none (by rw [rowsB_len]; exact hj)]
    rw [hrep]
    exact hone
  · have e0 : (if i = 0 ∨ i = m then ([] : List HP) else [⟨id, m, rowsB n m p (backS m turned i)⟩]) = [⟨id, m, rowsB n m p (backS m turned i)⟩] := if_neg (by omega)
    rw [e0]
    have hfi : ([⟨id, m, rowsB n m p (backS m turned i)⟩] : List HP).findIdx (fun h => h.is id m) = 0 := by
      simp [List.findIdx_cons, HP.is]
    rw [hfi, if_pos (by simp)]
    exact hone

theorem law_FrameNil (O : World) (F : Fz) (v : Value) (p : List UInt8) (hv : SlB F [] v p) : Does Try.prog O 7 #[v] F [] (fun r _ _ => r = .bool true) := by
  obtain ⟨a0, cap, rfl, hcap⟩ := Sl.shape hv
  refine does_of_run (args := [_]) Try.func7 rfl rfl ?_
  refine r_seq ?_
  refine r_region rfl ?_
  refine o_val rfl rfl rfl rfl (v_assign rfl) ?_
  refine o_end ?_
  refine r_seq ?_
  refine r_seq ?_
  refine r_region rfl ?_
  refine o_call rfl rfl rfl rfl (c_call callable8 rfl) (law5_awake _ _ _) ?_
  rintro v' F1 H' ⟨rfl, rfl⟩ hF1
  refine o_val rfl rfl rfl rfl (v_not rfl) ?_
  refine o_val rfl rfl rfl rfl (v_move rfl) ?_
  refine o_val rfl rfl rfl rfl (v_move rfl) ?_
  refine o_val rfl rfl rfl rfl (v_len rfl rfl) ?_
  refine o_val rfl rfl rfl rfl (v_gtr rfl rfl) ?_
  refine o_val rfl rfl rfl rfl (v_pick0 rfl rfl) ?_
  refine o_end ?_
  refine r_if rfl (fun h => ?_) (fun h => ?_)
  · refine r_seq ?_
    refine r_region rfl ?_
    refine o_call rfl rfl rfl rfl (c_call callable8 rfl) (law5_awake _ _ _) ?_
    rintro v' F2 H' ⟨rfl, rfl⟩ hF2
    refine o_val rfl rfl rfl rfl (v_assign rfl) ?_
    refine o_end ?_
    exact r_ret1 Try.func7 rfl rfl ⟨rfl, Fz.le_trans hF1 hF2⟩
  · refine r_skip ?_
    refine r_seq ?_
    refine r_region rfl ?_
    refine o_val rfl rfl rfl rfl (v_assign rfl) ?_
    refine o_end ?_
    refine r_seq ?_
    refine r_region rfl ?_
    refine o_val rfl rfl rfl rfl (v_move rfl) ?_
    refine o_val rfl rfl rfl rfl (v_move rfl) ?_
    refine o_call rfl rfl rfl rfl (c_call callable18 rfl) (j_Take0 _ _ _ p _ (hv.frz hF1) (by omega)) ?_
    rintro v' F2 H' ⟨rfl, hF2, rfl⟩ _
    refine o_val rfl rfl rfl rfl (v_move rfl) ?_
    refine o_val rfl rfl rfl rfl (v_extract rfl rfl) ?_
    refine o_val rfl rfl rfl rfl (v_extract rfl rfl) ?_
    refine o_val rfl rfl rfl rfl (v_assign rfl) ?_
    refine o_val rfl rfl rfl rfl (v_assign rfl) ?_
    refine o_end ?_
    refine r_seq ?_
    refine r_region rfl ?_
    refine o_val rfl rfl rfl rfl (v_move rfl) ?_
    refine o_val rfl rfl rfl rfl (v_not rfl) ?_
    refine o_val rfl rfl rfl rfl (v_move rfl) ?_
    refine o_val rfl rfl rfl rfl (v_move rfl) ?_
    refine o_val rfl rfl rfl rfl (v_len rfl rfl) ?_
    refine o_val rfl rfl rfl rfl (v_eql rfl rfl) ?_
    refine o_val rfl rfl rfl rfl (v_pick1 rfl rfl) ?_
    refine o_val rfl rfl rfl rfl (v_move rfl) ?_
    refine o_val rfl rfl rfl rfl (v_move rfl) ?_
    refine o_call rfl rfl rfl rfl (c_call callable20 rfl) (j_Len0 _ _ _) ?_
    rintro v' F2 H' ⟨rfl, rfl, rfl⟩ _
    refine o_val rfl rfl rfl rfl (v_eql rfl rfl) ?_
    refine o_val rfl rfl rfl rfl (v_pick1 rfl rfl) ?_
    refine o_val rfl rfl rfl rfl (v_assign rfl) ?_
    refine o_end ?_
    exact r_ret1 Try.func7 rfl rfl ⟨rfl, Fz.le_trans hF1 hF2⟩
theorem in_FrameNil (W : World) (v : Value) (z0 : List Int) (h0 : InInts .u8 W v z0) (y0 : z0.length * 1 ≤ 140737488351232) :
    Calls Try.prog 7 #[v] W fun e w' => e = .returned (.bool true) ∧ Go.RowKit.Below W.heap.size W w' := by
  obtain ⟨l0, hl0, hv⟩ := inBytes h0
  exact below_of_does (law_FrameNil _ _ _ l0 hv)
structure BG where
  i : Nat
  bf : Bf
  hs : List Hf
  F : Fz
set_option maxRecDepth 4000 in
set_option maxHeartbeats 2000000 in
theorem law_FrameBack (O : World) (F : Fz) (v : Value) (p : List UInt8) (id small : Nat) (turned : Bool) (hv : SlB F [] v p) (hid : id < 18446744073709551616) (hs : small < 65536) :
    Does Try.prog O 6 #[v, .int .u64 id, .int .u16 small, .bool turned] F [] (fun r _ _ => r = .bool true) := by
  obtain ⟨a0, cap, rfl, hcap⟩ := Sl.shape hv
  refine does_of_run (args := [_, _, _, _]) Try.func6 rfl rfl ?_
  refine r_seq ?_
  refine r_region rfl ?_
  refine o_val rfl rfl rfl rfl (v_assign rfl) ?_
  refine o_end ?_
  refine r_seq ?_
  refine r_seq ?_
  refine r_region rfl ?_
  refine o_call rfl rfl rfl rfl (c_call callable8 rfl) (law5_awake _ _ _) ?_
  rintro v' F1 H' ⟨rfl, rfl⟩ hF1
  refine o_val rfl rfl rfl rfl (v_not rfl) ?_
  refine o_val rfl rfl rfl rfl (v_move rfl) ?_
  refine o_val rfl rfl rfl rfl (v_move rfl) ?_
  refine o_val rfl rfl rfl rfl (v_len rfl rfl) ?_
  refine o_val rfl rfl rfl rfl (v_gtr rfl rfl) ?_
  refine o_val rfl rfl rfl rfl (v_pick0 rfl rfl) ?_
  refine o_end ?_
  refine r_if rfl (fun h => ?_) (fun h => ?_)
  · refine r_seq ?_
    refine r_region rfl ?_
    refine o_call rfl rfl rfl rfl (c_call callable8 rfl) (law5_awake _ _ _) ?_
    rintro v' F2 H' ⟨rfl, rfl⟩ hF2
    refine o_val rfl rfl rfl rfl (v_assign rfl) ?_
    refine o_end ?_
    exact r_ret1 Try.func6 rfl rfl ⟨rfl, Fz.le_trans hF1 hF2⟩
  · refine r_skip ?_
    refine r_seq ?_
    refine r_region rfl ?_
    refine o_val rfl rfl rfl rfl (v_move rfl) ?_
    refine o_call rfl rfl rfl rfl (c_call callable12 rfl) (law5_size _ _ small _ hs) ?_
    rintro v' F1 H' ⟨rfl, rfl, rfl⟩ _
    obtain ⟨n, hn⟩ : ∃ n, n = 64 + small % 300 := ⟨_, rfl⟩
    rw [← hn]
    have hn1 : 64 ≤ n := by omega
    have hn2 : n ≤ 4096 := by omega
    have hpm : partsN n p.length < 65536 := by
      have h1 : (p.length + (n - 19) - 1) / (n - 19) ≤ p.length + (n - 19) - 1 := Nat.div_le_self _ _
      unfold partsN
      generalize (p.length + (n - 19) - 1) / (n - 19) = q at *
      omega
    have he : splitE n p = 0 := by
      unfold splitE
      rw [if_neg (by omega), if_neg (by rw [Int.toNat_natCast]; omega)]
    have hpos : 1 ≤ partsN n p.length := Nat.le_max_left ..
    refine o_val rfl rfl rfl rfl (v_move rfl) ?_
    refine o_val rfl rfl rfl rfl (v_move rfl) ?_
    refine o_call rfl rfl rfl rfl (c_call callable9 rfl) (fr_Split _ _ n id _ p _ (hv.frz hF1) (by omega)) ?_
    rintro v' F2 H' ⟨hF2, rs, bs, hok, rfl, hrows, hfz, rfl⟩ _
    rw [he]
    refine j_freezeBf hok (by simp) fun F3 hF3 hs3 => ?_
    have hrl : rs.length = partsN n p.length := by
      have := congrArg List.length hrows
      unfold splitR splitL at this
      rw [if_pos he] at this
      simpa using this
    have hrg : ∀ (k : Nat) (hk : k < rs.length), rs[k].2 = frB n id k (partsN n p.length) (chunk n k p) := fun k hk => by
      have h1 : (rs.map (·.2))[k]? = (splitR n id p)[k]? := by rw [hrows]
      unfold splitR splitL at h1
      rw [if_pos he, List.getElem?_map, List.getElem?_eq_getElem hk, List.getElem?_map, List.getElem?_range (by rw [Int.toNat_natCast]; omega)] at h1
      simpa using h1
    have hst := fun i k hi hk => back_step (n := n) (id := id) (p := p) turned hn1 hn2 hid hpm i k hi hk
    generalize hm : partsN n p.length = m at *
    refine o_val rfl rfl rfl rfl (v_move rfl) ?_
    refine o_val rfl rfl rfl rfl (v_extract rfl rfl) ?_
    refine o_val rfl rfl rfl rfl (v_extract rfl rfl) ?_
    refine o_val rfl rfl rfl rfl (v_assign rfl) ?_
    refine o_val rfl rfl rfl rfl (v_assign rfl) ?_
    refine o_end ?_
    refine r_seq ?_
    refine r_seq ?_
    refine r_region rfl ?_
    refine o_val rfl rfl rfl rfl (v_move rfl) ?_
    refine o_val rfl rfl rfl rfl (v_neq rfl rfl) ?_
    refine o_end ?_
    refine r_false rfl ?_
    refine r_skip ?_
    refine r_seq ?_
    refine r_region rfl ?_
    refine o_val rfl rfl rfl rfl (v_build rfl rfl) ?_
    refine o_act rfl rfl rfl rfl (a_box rfl) ?_
    rintro v' H' ⟨j, rfl, rfl⟩
    refine o_val rfl rfl rfl rfl (v_assign rfl) ?_
    refine o_end ?_
    refine r_seq ?_
    refine r_seq ?_
    refine r_region rfl ?_
    refine o_val rfl rfl rfl rfl (v_assign rfl) ?_
    refine o_end ?_
    refine r_block ?_
    refine r_loop (fun g : BG => F3.le g.F ∧ g.i ≤ m ∧ g.hs.map Hf.abs = backL n id p turned g.i ∧ (∀ h ∈ g.hs, h.ok g.F) ∧ g.bf.ok g.hs.length) (fun g => [(0, .slice a0 p.length cap), (3, .bool turned), (9, bs.val rs.length), (11, ptrV j), (12, .int .i64 g.i)]) (fun g => g.F) (fun g => JH j g.bf g.hs []) (fun g => m - g.i)
      ⟨0, .nil, [], F3⟩ ⟨Fz.le_refl _, Nat.zero_le _, by unfold backL; rw [if_pos (.inl rfl)]; rfl, by simp, rfl⟩ ⟨rfl, rfl, rfl, rfl, rfl, trivial⟩ rfl rfl ?_
    rintro ⟨i, bf, hs, F4⟩ ⟨hF4, hi, habs, hhs, hbf⟩ IH
    dsimp only at hF4 hi habs hhs hbf ⊢
    refine r_seq ?_
    refine r_seq ?_
    refine r_region rfl ?_
    refine o_val rfl rfl rfl rfl (v_move rfl) ?_
    refine o_val rfl rfl rfl rfl (v_move rfl) ?_
    refine o_val rfl rfl rfl rfl (v_len rfl rfl) ?_
    refine o_val rfl rfl rfl rfl (v_lss rfl rfl) ?_
    refine o_end ?_
    refine r_if rfl (fun h1 => ?_) (fun h1 => ?_)
    · have hil : i < m := by omega
      refine r_skip ?_
      refine r_seq ?_
      refine r_block ?_
      refine r_seq ?_
      refine r_region rfl ?_
      refine o_val rfl rfl rfl rfl (v_move rfl) ?_
      refine o_val rfl rfl rfl rfl (v_assign rfl) ?_
      refine o_end ?_
      refine r_seq ?_
      refine r_join (fun k : Nat => k = if turned = true then m - 1 - i else i) (fun k => [(0, .slice a0 p.length cap), (3, .bool turned), (9, bs.val rs.length), (11, ptrV j), (12, .int .i64 i), (13, .int .i64 k)]) (fun _ => F4) (fun _ => JH j bf hs []) ?_ ?_
      · intro J
        cases turned with
        | true =>
          refine r_seq ?_
          refine r_region rfl ?_
          refine o_val rfl rfl rfl rfl (v_move rfl) ?_
          refine o_end ?_
          refine r_true rfl ?_
          refine r_region rfl ?_
          refine o_val rfl rfl rfl rfl (v_move rfl) ?_
          refine o_val rfl rfl rfl rfl (v_len rfl rfl) ?_
          refine o_val rfl rfl rfl rfl (v_sub rfl rfl (r := ((m - 1 : Nat) : Int)) ((wrap_i64 (by omega) (by omega)).trans (by omega))) ?_
          refine o_val rfl rfl rfl rfl (v_move rfl) ?_
          refine o_val rfl rfl rfl rfl (v_sub rfl rfl (r := ((m - 1 - i : Nat) : Int)) ((wrap_i64 (by omega) (by omega)).trans (by omega))) ?_
          refine o_val rfl rfl rfl rfl (v_assign rfl) ?_
          refine o_end ?_
          refine j_keep ?_ (J (m - 1 - i) rfl)
          exact ⟨rfl, rfl, rfl, rfl, rfl, rfl, trivial⟩
        | false =>
          refine r_seq ?_
          refine r_region rfl ?_
          refine o_val rfl rfl rfl rfl (v_move rfl) ?_
          refine o_end ?_
          refine r_false rfl ?_
          refine r_skip ?_
          refine j_keep ?_ (J i rfl)
          exact ⟨rfl, rfl, rfl, rfl, rfl, rfl, trivial⟩
      · rintro k hk
        have hkl : k < rs.length := by rw [hk]; split <;> omega
        obtain ⟨b3, off3, c3, hab3, hc3⟩ := row_cell (hs3.frz (F' := F4) (H := []) hF4) hkl
        have hrk := (hfz rs[k] (List.getElem_mem _)).frz (F' := F4) (H := []) (Fz.le_trans hF3 hF4)
        have hrg' := hrg k hkl
        generalize rs[k] = y at *
        obtain ⟨ay, cy, hy, _⟩ := Sl.shape hrk
        rw [hy] at hc3 hrk
        have hs1 := hst i k hil hk
        rw [← hrg'] at hs1
        have hfl : y.2.length = n := by
          rw [hrg']
          have := chunk_len n k p
          exact frB_length (by omega)
        have hrdk : readB y.2 = (0, id, k, m, chunk n k p) := by
          rw [hrg', ← hm]
          exact readB_split hn1 hn2 hid (by omega) (by omega)
        have hcl := chunk_len n k p
        have hbl : hs.length ≤ 1 := by
          have := congrArg List.length habs
          rw [List.length_map] at this
          rw [this]
          unfold backL
          split <;> simp
        rw [hab3] at IH ⊢
        refine r_seq ?_
        refine r_region rfl ?_
        refine o_val rfl rfl rfl rfl (v_move rfl) ?_
        refine o_val rfl rfl rfl rfl (v_move rfl) ?_
        refine o_val rfl rfl rfl rfl (v_move rfl) ?_
        refine o_val rfl rfl rfl rfl (v_index1 rfl rfl rfl rfl hkl) ?_
        refine o_val rfl rfl rfl rfl (v_load rfl rfl (hc3.mono (Fz.le_refl _) (by simp))) ?_
        refine o_call rfl rfl rfl rfl (c_call callable18 rfl) (j_Take _ _ j bf hs _ y.2 [] hbf hhs (by omega) hrk (by omega) (by rw [hrdk]; dsimp only; omega)) ?_
        rintro v' F5 H' ⟨hF5, hs', bf', rv, rfl, hrv, habs', hhs', hbf', hl', rfl⟩ _
        rw [habs, hs1] at habs' hrv ⊢
        dsimp only at habs' hrv ⊢
        obtain ⟨arv, crv, rfl, _⟩ := Sl.shape hrv
        refine o_val rfl rfl rfl rfl (v_move rfl) ?_
        refine o_val rfl rfl rfl rfl (v_extract rfl rfl) ?_
        refine o_val rfl rfl rfl rfl (v_extract rfl rfl) ?_
        refine o_val rfl rfl rfl rfl (v_assign rfl) ?_
        refine o_val rfl rfl rfl rfl (v_assign rfl) ?_
        refine o_end ?_
        refine r_seq ?_
        refine r_region rfl ?_
        refine o_val rfl rfl rfl rfl (v_move rfl) ?_
        refine o_val rfl rfl rfl rfl (v_move rfl) ?_
        refine o_val rfl rfl rfl rfl (v_move rfl) ?_
        refine o_val rfl rfl rfl rfl (v_len rfl rfl) ?_
        refine o_val rfl rfl rfl rfl (v_sub rfl rfl (r := ((m - 1 : Nat) : Int)) ((wrap_i64 (by omega) (by omega)).trans (by omega))) ?_
        refine o_val rfl rfl rfl rfl (v_eql rfl rfl) ?_
        refine o_val rfl rfl rfl rfl (v_bneq rfl rfl rfl) ?_
        refine o_val rfl rfl rfl rfl (v_move rfl) ?_
        have hFn : Fz.le F F5 := Fz.le_trans hF1 (Fz.le_trans hF2 (Fz.le_trans hF3 (Fz.le_trans hF4 hF5)))
        have hnext := IH ⟨i + 1, bf', hs', F5⟩ ⟨Fz.le_trans hF4 hF5, hil, habs', hhs', hbf'⟩ (by dsimp only; omega)
        by_cases hlast : i + 1 = m
        · rw [if_pos hlast] at hrv ⊢
          refine j_slot 65 rfl (v' := .bool false) (by
            have e : decide ((i : Int) = ((m - 1 : Nat) : Int)) = true := by rw [decide_eq_true_eq]; omega
            rw [e]; rfl) ?_
          refine o_val rfl rfl rfl rfl (v_move rfl) ?_
          refine o_val rfl rfl rfl rfl (v_move rfl) ?_
          refine o_val rfl rfl rfl rfl (v_move rfl) ?_
          refine o_val rfl rfl rfl rfl (v_bytesString rfl rfl rfl rfl (l := p) (hrv.frz (Fz.le_refl _))) ?_
          refine o_val rfl rfl rfl rfl (v_move rfl) ?_
          refine o_val rfl rfl rfl rfl (v_bytesString rfl rfl rfl rfl (l := p) (hv.frz hFn)) ?_
          refine o_val rfl rfl rfl rfl (v_sneq rfl rfl) ?_
          refine j_slot 72 rfl (v' := .bool false) (by simp) ?_
          refine o_val rfl rfl rfl rfl (v_pick1 rfl rfl) ?_
          refine o_val rfl rfl rfl rfl (v_pick0 rfl rfl) ?_
          refine o_end ?_
          refine r_false rfl ?_
          refine r_skip ?_
          refine r_inBlock ?_
          refine r_region rfl ?_
          refine o_val rfl rfl rfl rfl (v_move rfl) ?_
          refine o_val rfl rfl rfl rfl (v_add rfl rfl (wrap_i64 (by omega) (by omega))) ?_
          refine o_val rfl rfl rfl rfl (v_assign rfl) ?_
          refine o_end ?_
          refine j_keep ?_ hnext
          exact ⟨rfl, rfl, rfl, rfl, rfl, trivial⟩
        · rw [if_neg hlast] at hrv ⊢
          refine j_slot 65 rfl (v' := .bool false) (by
            have e : decide ((i : Int) = ((m - 1 : Nat) : Int)) = false := by rw [decide_eq_false_iff_not]; omega
            rw [e]; rfl) ?_
          refine o_val rfl rfl rfl rfl (v_move rfl) ?_
          refine o_val rfl rfl rfl rfl (v_move rfl) ?_
          refine o_skip rfl rfl rfl rfl ?_
          refine o_skip rfl rfl rfl rfl ?_
          refine o_skip rfl rfl rfl rfl ?_
          refine o_skip rfl rfl rfl rfl ?_
          refine o_skip rfl rfl rfl rfl ?_
          refine o_val rfl rfl rfl rfl (v_pick0 rfl rfl) ?_
          refine o_val rfl rfl rfl rfl (v_pick0 rfl rfl) ?_
          refine o_end ?_
          refine r_false rfl ?_
          refine r_skip ?_
          refine r_inBlock ?_
          refine r_region rfl ?_
          refine o_val rfl rfl rfl rfl (v_move rfl) ?_
          refine o_val rfl rfl rfl rfl (v_add rfl rfl (wrap_i64 (by omega) (by omega))) ?_
          refine o_val rfl rfl rfl rfl (v_assign rfl) ?_
          refine o_end ?_
          refine j_keep ?_ hnext
          exact ⟨rfl, rfl, rfl, rfl, rfl, trivial⟩
    · obtain rfl : i = m := by omega
      have h0 : hs.length = 0 := by
        have := congrArg List.length habs
        rw [List.length_map] at this
        rw [this]
        unfold backL
        rw [if_pos (.inr hm.symm)]
        rfl
      clear IH
      refine r_exit rfl ?_
      refine r_seq ?_
      refine r_region rfl ?_
      refine o_val rfl rfl rfl rfl (v_move rfl) ?_
      refine o_call rfl rfl rfl rfl (c_call callable20 rfl) (j_Len _ _ j bf _ _) ?_
      rintro v' F4 H' ⟨rfl, rfl, rfl⟩ _
      rw [h0]
      refine o_val rfl rfl rfl rfl (v_eql rfl rfl) ?_
      refine o_val rfl rfl rfl rfl (v_assign rfl) ?_
      refine o_end ?_
      exact r_ret1 Try.func6 rfl rfl ⟨rfl, Fz.le_trans hF1 (Fz.le_trans hF2 (Fz.le_trans hF3 hF4))⟩
theorem in_FrameBack (W : World) (v : Value) (z0 : List Int) (h0 : InInts .u8 W v z0) (y0 : z0.length * 1 ≤ 140737488351232) (i : Int) (hi : (Lit.int .u64 i).wf = true) (s : Int) (hs : (Lit.int .u16 s).wf = true) (b : Bool) :
    Calls Try.prog 6 #[v, .int .u64 i, .int .u16 s, .bool b] W fun e w' => e = .returned (.bool true) ∧ Go.RowKit.Below W.heap.size W w' := by
  obtain ⟨l0, hl0, hv⟩ := inBytes h0
  simp [Lit.wf, IntKind.min, IntKind.max, IntKind.signed, IntKind.bits] at hi hs
  obtain ⟨i, rfl⟩ := Int.eq_ofNat_of_zero_le hi.1
  obtain ⟨s, rfl⟩ := Int.eq_ofNat_of_zero_le hs.1
  exact below_of_does (law_FrameBack _ _ _ l0 i s b hv (by omega) (by omega))
end Go.SX
