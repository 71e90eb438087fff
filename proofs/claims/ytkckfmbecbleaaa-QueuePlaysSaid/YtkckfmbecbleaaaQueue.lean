/-
  Contracts of package queue.
-/
import Derived.Test.YtkckfmbecbleaaaDelQ
namespace Go.SX
open Go Go.Proofs
set_option linter.unusedSimpArgs false
set_option linter.unusedVariables false

abbrev Row := Value × List UInt8
abbrev QE (q size depth next : Nat) (bf : Bf) (n : Nat) : Ent := .mem q [.int .i64 size, .int .i64 depth, .int .u64 next, bf.val n] 4
abbrev QH (q size depth next : Nat) (bf : Bf) (rs : List Row) (Fr : List Ent) : List Ent := QE q size depth next bf rs.length :: (bf.ents 1 (rs.map (·.1)) ++ Fr)
def qBad (size depth : Int) : Prop := size < 64 ∨ 4096 < size ∨ depth < 1 ∨ 65536 < depth
instance (size depth : Int) : Decidable (qBad size depth) := by unfold qBad; infer_instance

theorem q_New (O : World) (F : Fz) (size depth : Int) (next : Nat) (Fr : List Ent) :
    Does Try.prog O 8 #[.int .i64 size, .int .i64 depth, .int .u64 next] F Fr
      (fun r F' H' => F' = F ∧ ((qBad size depth ∧ r = .tuple #[nilP, .int .i64 1] ∧ H' = Fr) ∨ (¬ qBad size depth ∧ ∃ q, r = .tuple #[ptrV q, .int .i64 0] ∧ H' = QH q size.toNat depth.toNat next .nil [] Fr))) := by
  refine does_of_run (args := [_, _, _]) Try.func8 rfl rfl ?_
  refine r_seq ?_
  refine r_region rfl ?_
  refine o_val rfl rfl rfl rfl (v_assign rfl) ?_
  refine o_val rfl rfl rfl rfl (v_assign rfl) ?_
  refine o_end ?_
  refine r_seq ?_
  refine r_seq ?_
  refine r_join (fun _ : Unit => True) (fun _ => [(0, .int .i64 size), (1, .int .i64 depth), (2, .int .u64 next), (21, .bool (decide (qBad size depth)))]) (fun _ => F) (fun _ => Fr) ?_ ?_
  · intro J
    refine r_region rfl ?_
    refine o_val rfl rfl rfl rfl (v_move rfl) ?_
    refine o_val rfl rfl rfl rfl (v_lss rfl rfl) ?_
    refine j_prop 9 rfl (fun h1 => ?_) (fun h1 => ?_)
    · refine o_val rfl rfl rfl rfl (v_move rfl) ?_
      refine o_skip rfl rfl rfl rfl ?_
      refine o_skip rfl rfl rfl rfl ?_
      refine o_val rfl rfl rfl rfl (v_pick1 rfl rfl) ?_
      refine o_val rfl rfl rfl rfl (v_move rfl) ?_
      refine o_skip rfl rfl rfl rfl ?_
      refine o_skip rfl rfl rfl rfl ?_
      refine o_val rfl rfl rfl rfl (v_pick1 rfl rfl) ?_
      refine o_val rfl rfl rfl rfl (v_move rfl) ?_
      refine o_skip rfl rfl rfl rfl ?_
      refine o_skip rfl rfl rfl rfl ?_
      refine o_val rfl rfl rfl rfl (v_pick1 rfl rfl) ?_
      refine o_end ?_
      refine j_slot 21 rfl (v' := .bool (decide (qBad size depth))) (by rw [decide_eq_true (p := qBad size depth) (by unfold qBad; omega)]) ?_
      refine j_keep ?_ (J () trivial)
      exact ⟨rfl, rfl, rfl, rfl, trivial⟩
    · refine o_val rfl rfl rfl rfl (v_move rfl) ?_
      refine o_val rfl rfl rfl rfl (v_move rfl) ?_
      refine o_val rfl rfl rfl rfl (v_gtr rfl rfl) ?_
      refine o_val rfl rfl rfl rfl (v_pick0 rfl rfl) ?_
      refine j_prop 13 rfl (fun h2 => ?_) (fun h2 => ?_)
      · refine o_val rfl rfl rfl rfl (v_move rfl) ?_
        refine o_skip rfl rfl rfl rfl ?_
        refine o_skip rfl rfl rfl rfl ?_
        refine o_val rfl rfl rfl rfl (v_pick1 rfl rfl) ?_
        refine o_val rfl rfl rfl rfl (v_move rfl) ?_
        refine o_skip rfl rfl rfl rfl ?_
        refine o_skip rfl rfl rfl rfl ?_
        refine o_val rfl rfl rfl rfl (v_pick1 rfl rfl) ?_
        refine o_end ?_
        refine j_slot 21 rfl (v' := .bool (decide (qBad size depth))) (by rw [decide_eq_true (p := qBad size depth) (by unfold qBad; omega)]) ?_
        refine j_keep ?_ (J () trivial)
        exact ⟨rfl, rfl, rfl, rfl, trivial⟩
      · refine o_val rfl rfl rfl rfl (v_move rfl) ?_
        refine o_val rfl rfl rfl rfl (v_move rfl) ?_
        refine o_val rfl rfl rfl rfl (v_lss rfl rfl) ?_
        refine o_val rfl rfl rfl rfl (v_pick0 rfl rfl) ?_
        refine j_prop 17 rfl (fun h3 => ?_) (fun h3 => ?_)
        · refine o_val rfl rfl rfl rfl (v_move rfl) ?_
          refine o_skip rfl rfl rfl rfl ?_
          refine o_skip rfl rfl rfl rfl ?_
          refine o_val rfl rfl rfl rfl (v_pick1 rfl rfl) ?_
          refine o_end ?_
          refine j_slot 21 rfl (v' := .bool (decide (qBad size depth))) (by rw [decide_eq_true (p := qBad size depth) (by unfold qBad; omega)]) ?_
          refine j_keep ?_ (J () trivial)
          exact ⟨rfl, rfl, rfl, rfl, trivial⟩
        · refine o_val rfl rfl rfl rfl (v_move rfl) ?_
          refine o_val rfl rfl rfl rfl (v_move rfl) ?_
          refine o_val rfl rfl rfl rfl (v_gtr rfl rfl) ?_
          refine o_val rfl rfl rfl rfl (v_pick0 rfl rfl) ?_
          refine o_end ?_
          have e6 : 65536 < depth ↔ qBad size depth := by unfold qBad; omega
          refine j_slot 21 rfl (v' := .bool (decide (qBad size depth))) (by congr 1; exact decide_eq_decide.2 e6) ?_
          refine j_keep ?_ (J () trivial)
          exact ⟨rfl, rfl, rfl, rfl, trivial⟩
  · rintro _ _
    refine r_if rfl (fun h => ?_) (fun h => ?_)
    · refine r_seq ?_
      refine r_region rfl ?_
      refine o_val rfl rfl rfl rfl (v_assign rfl) ?_
      refine o_val rfl rfl rfl rfl (v_assign rfl) ?_
      refine o_end ?_
      exact r_ret2 Try.func8 rfl rfl rfl ⟨⟨rfl, .inl ⟨h, rfl, rfl⟩⟩, Fz.le_refl _⟩
    · have hb : ¬ (size < 64 ∨ 4096 < size ∨ depth < 1 ∨ 65536 < depth) := h
      obtain ⟨size, rfl⟩ := Int.eq_ofNat_of_zero_le (show 0 ≤ size by omega)
      obtain ⟨depth, rfl⟩ := Int.eq_ofNat_of_zero_le (show 0 ≤ depth by omega)
      refine r_skip ?_
      refine r_seq ?_
      refine r_region rfl ?_
      refine o_val rfl rfl rfl rfl (v_move rfl) ?_
      refine o_val rfl rfl rfl rfl (v_move rfl) ?_
      refine o_val rfl rfl rfl rfl (v_move rfl) ?_
      refine o_val rfl rfl rfl rfl (v_build rfl rfl) ?_
      refine o_act rfl rfl rfl rfl (a_box rfl) ?_
      rintro v' H' ⟨q, rfl, rfl⟩
      refine o_val rfl rfl rfl rfl (v_assign rfl) ?_
      refine o_val rfl rfl rfl rfl (v_assign rfl) ?_
      refine o_end ?_
      exact r_ret2 Try.func8 rfl rfl rfl ⟨⟨rfl, .inr ⟨h, q, rfl, rfl⟩⟩, Fz.le_refl _⟩

theorem q_Put0 (O : World) (F : Fz) (v : Value) (Fr : List Ent) : Does Try.prog O 9 #[nilP, v] F Fr (fun r F' H' => r = .int .i64 2 ∧ F' = F ∧ H' = Fr) := by
  refine does_of_run (args := [_, _]) Try.func9 rfl rfl ?_
  refine r_seq ?_
  refine r_region rfl ?_
  refine o_val rfl rfl rfl rfl (v_assign rfl) ?_
  refine o_end ?_
  refine r_seq ?_
  refine r_seq ?_
  refine r_region rfl ?_
  refine o_val rfl rfl rfl rfl (v_move rfl) ?_
  refine o_val rfl rfl rfl rfl (v_peqnil rfl rfl rfl) ?_
  refine o_end ?_
  refine r_true rfl ?_
  refine r_seq ?_
  refine r_region rfl ?_
  refine o_val rfl rfl rfl rfl (v_assign rfl) ?_
  refine o_end ?_
  exact r_ret1 Try.func9 rfl rfl ⟨⟨rfl, rfl, rfl⟩, Fz.le_refl _⟩
theorem q_Slot0 (O : World) (F : Fz) (Fr : List Ent) : Does Try.prog O 10 #[nilP] F Fr (fun r F' H' => r = .slice none 0 0 ∧ F' = F ∧ H' = Fr) := by
  refine does_of_run (args := [_]) Try.func10 rfl rfl ?_
  refine r_seq ?_
  refine r_region rfl ?_
  refine o_val rfl rfl rfl rfl (v_assign rfl) ?_
  refine o_end ?_
  refine r_seq ?_
  refine r_seq ?_
  refine r_region rfl ?_
  refine o_val rfl rfl rfl rfl (v_move rfl) ?_
  refine o_val rfl rfl rfl rfl (v_peqnil rfl rfl rfl) ?_
  refine o_end ?_
  refine r_true rfl ?_
  refine r_seq ?_
  refine r_region rfl ?_
  refine o_val rfl rfl rfl rfl (v_assign rfl) ?_
  refine o_end ?_
  exact r_ret1 Try.func10 rfl rfl ⟨⟨rfl, rfl, rfl⟩, Fz.le_refl _⟩
theorem q_Len0 (O : World) (F : Fz) (Fr : List Ent) : Does Try.prog O 11 #[nilP] F Fr (fun r F' H' => r = .int .i64 0 ∧ F' = F ∧ H' = Fr) := by
  refine does_of_run (args := [_]) Try.func11 rfl rfl ?_
  refine r_seq ?_
  refine r_region rfl ?_
  refine o_val rfl rfl rfl rfl (v_assign rfl) ?_
  refine o_end ?_
  refine r_seq ?_
  refine r_seq ?_
  refine r_region rfl ?_
  refine o_val rfl rfl rfl rfl (v_move rfl) ?_
  refine o_val rfl rfl rfl rfl (v_peqnil rfl rfl rfl) ?_
  refine o_end ?_
  refine r_true rfl ?_
  refine r_seq ?_
  refine r_region rfl ?_
  refine o_val rfl rfl rfl rfl (v_assign rfl) ?_
  refine o_end ?_
  exact r_ret1 Try.func11 rfl rfl ⟨⟨rfl, rfl, rfl⟩, Fz.le_refl _⟩
theorem q_Clear0 (O : World) (F : Fz) (Fr : List Ent) : Does Try.prog O 14 #[nilP] F Fr (fun r F' H' => r = noneV ∧ F' = F ∧ H' = Fr) := by
  refine does_of_run (args := [_]) Try.func14 rfl rfl ?_
  refine r_seq ?_
  refine r_region rfl ?_
  refine o_val rfl rfl rfl rfl (v_move rfl) ?_
  refine o_val rfl rfl rfl rfl (v_pneqnil rfl rfl rfl) ?_
  refine o_end ?_
  refine r_false rfl ?_
  refine r_skip ?_
  exact r_fall0 Try.func14 rfl ⟨⟨rfl, rfl, rfl⟩, Fz.le_refl _⟩
theorem q_Len (O : World) (F : Fz) (q size depth next : Nat) (bf : Bf) (n : Nat) (Fr : List Ent) : Does Try.prog O 11 #[ptrV q] F (QE q size depth next bf n :: Fr) (fun r F' H' => r = .int .i64 n ∧ F' = F ∧ H' = QE q size depth next bf n :: Fr) := by
  refine does_of_run (args := [_]) Try.func11 rfl rfl ?_
  refine r_seq ?_
  refine r_region rfl ?_
  refine o_val rfl rfl rfl rfl (v_assign rfl) ?_
  refine o_end ?_
  refine r_seq ?_
  refine r_seq ?_
  refine r_region rfl ?_
  refine o_val rfl rfl rfl rfl (v_move rfl) ?_
  refine o_val rfl rfl rfl rfl (v_peqnil rfl rfl rfl) ?_
  refine o_end ?_
  refine r_false rfl ?_
  refine r_skip ?_
  refine r_seq ?_
  refine r_region rfl ?_
  refine o_val rfl rfl rfl rfl (v_move rfl) ?_
  refine o_val rfl rfl rfl rfl (v_nilCheck rfl) ?_
  refine o_val rfl rfl rfl rfl (v_field (k := 3) rfl rfl rfl) ?_
  refine o_val rfl rfl rfl rfl (v_load rfl rfl (cell_at (j := 0) rfl rfl)) ?_
  refine o_val rfl rfl rfl rfl (v_len rfl rfl) ?_
  refine o_val rfl rfl rfl rfl (v_assign rfl) ?_
  refine o_end ?_
  exact r_ret1 Try.func11 rfl rfl ⟨⟨rfl, rfl, rfl⟩, Fz.le_refl _⟩
theorem q_Clear (O : World) (F : Fz) (q size depth next : Nat) (bf : Bf) (rs : List Row) (Fr : List Ent) : Does Try.prog O 14 #[ptrV q] F (QH q size depth next bf rs Fr) (fun r F' H' => r = noneV ∧ F' = F ∧ H' = QH q size depth next .nil [] Fr) := by
  refine does_of_run (args := [_]) Try.func14 rfl rfl ?_
  refine r_seq ?_
  refine r_region rfl ?_
  refine o_val rfl rfl rfl rfl (v_move rfl) ?_
  refine o_val rfl rfl rfl rfl (v_pneqnil rfl rfl rfl) ?_
  refine o_end ?_
  refine r_true rfl ?_
  refine r_region rfl ?_
  refine o_val rfl rfl rfl rfl (v_move rfl) ?_
  refine o_val rfl rfl rfl rfl (v_nilCheck rfl) ?_
  refine o_val rfl rfl rfl rfl (v_field (k := 3) rfl rfl rfl) ?_
  refine o_act0 rfl rfl rfl (a_store1 0 rfl rfl rfl rfl rfl (Nat.le_of_ble_eq_true rfl)) ?_
  refine j_heap (H' := QE q size depth next .nil 0 :: (bf.ents 1 (rs.map (·.1)) ++ Fr)) rfl ?_
  refine j_sel (H' := QE q size depth next .nil 0 :: (Fr)) [[QE q size depth next .nil 0], bf.ents 1 (rs.map (·.1)), Fr] [0, 2] rfl rfl rfl ?_
  refine o_end ?_
  exact r_fall0 Try.func14 rfl ⟨⟨rfl, rfl, rfl⟩, Fz.le_refl _⟩

theorem row_one {F : Fz} {rs : List Row} (h : ∀ r ∈ rs, SlB F [] r.1 r.2) : (rs.map (·.1)).all oneCellB = true := by
  rw [List.all_eq_true]
  intro c hc
  obtain ⟨r, hr, rfl⟩ := List.mem_map.1 hc
  obtain ⟨a, c, hx, _⟩ := Sl.shape (h r hr)
  rw [hx]; rfl

/-- What a message comes to: an error's number. -/
def putE (size depth next n : Nat) (p : List UInt8) : Nat := if splitE size p ≠ 0 then splitE size p else if depth < n + (splitR size next p).length then 3 else 0
theorem q_Put (O : World) (F : Fz) (q size depth next : Nat) (bf : Bf) (rs : List Row) (v : Value) (p : List UInt8) (Fr : List Ent) (hok : bf.ok rs.length) (hv : SlB F [] v p) (hp : p.length ≤ 140737488350000) (hd : depth ≤ 65536) (hn : rs.length ≤ depth) (hs : size ≤ 4096) (hnx : next < 18446744073709551616) (hrs : ∀ r ∈ rs, SlB F [] r.1 r.2) :
    Does Try.prog O 9 #[ptrV q, v] F (QH q size depth next bf rs Fr)
      (fun r F' H' => F.le F' ∧ r = .int .i64 (putE size depth next rs.length p) ∧ ((putE size depth next rs.length p ≠ 0 ∧ H' = QH q size depth next bf rs Fr) ∨
        (putE size depth next rs.length p = 0 ∧ ∃ (ns : List Row) (bf' : Bf), ns.map (·.2) = splitR size next p ∧ (∀ r ∈ ns, SlB F' [] r.1 r.2) ∧ bf'.ok (rs ++ ns).length ∧ (rs ++ ns).length ≤ depth ∧ H' = QH q size depth ((next + 1) % 18446744073709551616) bf' (rs ++ ns) Fr))) := by
  obtain ⟨a0, cap, rfl, hcap⟩ := Sl.shape hv
  refine does_of_run (args := [_, _]) Try.func9 rfl rfl ?_
  refine r_seq ?_
  refine r_region rfl ?_
  refine o_val rfl rfl rfl rfl (v_assign rfl) ?_
  refine o_end ?_
  refine r_seq ?_
  refine r_seq ?_
  refine r_region rfl ?_
  refine o_val rfl rfl rfl rfl (v_move rfl) ?_
  refine o_val rfl rfl rfl rfl (v_peqnil rfl rfl rfl) ?_
  refine o_end ?_
  refine r_false rfl ?_
  refine r_skip ?_
  refine r_seq ?_
  refine d_region 1000000 rfl ([QE q size depth next bf rs.length]) ?_
  refine d_take (i := 0) rfl rfl rfl (by decide +kernel) (by decide +kernel) (by decide +kernel) (Fz.le_refl _) (by simp) rfl (v_move rfl) ?_
  refine d_take (i := 1) rfl rfl rfl (by decide +kernel) (by decide +kernel) (by decide +kernel) (Fz.le_refl _) (by simp) rfl (v_nilCheck rfl) ?_
  refine d_take (i := 2) rfl rfl rfl (by decide +kernel) (by decide +kernel) (by decide +kernel) (Fz.le_refl _) (by simp) rfl (v_field (k := 0) rfl rfl rfl) ?_
  refine d_take (i := 3) rfl rfl rfl (by decide +kernel) (by decide +kernel) (by decide +kernel) (Fz.le_refl _) (by simp) rfl (v_load rfl rfl (cell_at (j := 0) rfl rfl)) ?_
  refine d_take (i := 4) rfl rfl rfl (by decide +kernel) (by decide +kernel) (by decide +kernel) (Fz.le_refl _) (by simp) rfl (v_move rfl) ?_
  refine d_take (i := 5) rfl rfl rfl (by decide +kernel) (by decide +kernel) (by decide +kernel) (Fz.le_refl _) (by simp) rfl (v_nilCheck rfl) ?_
  refine d_take (i := 6) rfl rfl rfl (by decide +kernel) (by decide +kernel) (by decide +kernel) (Fz.le_refl _) (by simp) rfl (v_field (k := 2) rfl rfl rfl) ?_
  refine d_take (i := 7) rfl rfl rfl (by decide +kernel) (by decide +kernel) (by decide +kernel) (Fz.le_refl _) (by simp) rfl (v_load rfl rfl (cell_at (j := 0) rfl rfl)) ?_
  refine d_take (i := 8) rfl rfl rfl (by decide +kernel) (by decide +kernel) (by decide +kernel) (Fz.le_refl _) (by simp) rfl (v_move rfl) ?_
  refine d_one (i := 9) (by decide +kernel) ?_
  refine d1_call rfl rfl rfl rfl (c_call callable16 rfl) (fr_Split _ _ size next _ p _ hv (by omega)) ?_
  rintro v' F2 H' ⟨hF2, ns, bs, hoks, rfl, hrows, hfz, rfl⟩ _
  refine ⟨fun w hw => held_of hw hF2 (by simp), ?_⟩
  have hnl : ns.length = (splitR size next p).length := by rw [← hrows]; simp
  have hnb : splitE size p = 0 → ns.length < 65536 := fun he => by
    rw [hnl]
    unfold splitR splitL
    rw [if_pos he]
    unfold splitE at he
    simp only [Int.toNat_natCast] at he
    split at he
    · cases he
    · split at he
      · cases he
      · simp; omega
  refine d_take (i := 10) rfl rfl rfl (by decide +kernel) (by decide +kernel) (by decide +kernel) hF2 (by simp) rfl (v_move rfl) ?_
  refine d_take (i := 11) rfl rfl rfl (by decide +kernel) (by decide +kernel) (by decide +kernel) hF2 (by simp) rfl (v_extract rfl rfl) ?_
  refine d_take (i := 12) rfl rfl rfl (by decide +kernel) (by decide +kernel) (by decide +kernel) hF2 (by simp) rfl (v_extract rfl rfl) ?_
  refine d_take (i := 13) rfl rfl rfl (by decide +kernel) (by decide +kernel) (by decide +kernel) hF2 (by simp) rfl (v_assign rfl) ?_
  refine d_take (i := 14) rfl rfl rfl (by decide +kernel) (by decide +kernel) (by decide +kernel) hF2 (by simp) rfl (v_assign rfl) ?_
  refine d_end (by decide +kernel) ?_
  refine r_seq ?_
  refine r_seq ?_
  refine r_region rfl ?_
  refine o_val rfl rfl rfl rfl (v_move rfl) ?_
  refine o_val rfl rfl rfl rfl (v_neq rfl rfl) ?_
  refine o_end ?_
  refine r_if rfl (fun h => ?_) (fun h => ?_)
  · have he : putE size depth next rs.length p = splitE size p := by unfold putE; rw [if_pos (by omega)]
    refine j_drop (List.sublist_append_right _ _) ?_
    refine r_seq ?_
    refine r_region rfl ?_
    refine o_val rfl rfl rfl rfl (v_move rfl) ?_
    refine o_val rfl rfl rfl rfl (v_assign rfl) ?_
    refine o_end ?_
    exact r_ret1 Try.func9 rfl rfl ⟨⟨hF2, by rw [he]; rfl, .inl ⟨by omega, rfl⟩⟩, hF2⟩
  · have he0 : splitE size p = 0 := by omega
    have he : putE size depth next rs.length p = if depth < rs.length + ns.length then 3 else 0 := by unfold putE; rw [if_neg (by omega), hnl]
    have hnb := hnb he0
    refine j_sel (H' := QE q size depth next bf rs.length :: (bf.ents 1 (rs.map (·.1)) ++ (bs.ents 1 (ns.map (·.1)) ++ (Fr)))) [bs.ents 1 (ns.map (·.1)), [QE q size depth next bf rs.length], bf.ents 1 (rs.map (·.1)), Fr] [1, 2, 0, 3] rfl rfl rfl ?_
    refine r_skip ?_
    refine r_seq ?_
    refine r_seq ?_
    refine d_region 1000000 rfl ([QE q size depth next bf rs.length]) ?_
    refine d_take (i := 0) rfl rfl rfl (by decide +kernel) (by decide +kernel) (by decide +kernel) (Fz.le_refl _) (by simp) rfl (v_move rfl) ?_
    refine d_take (i := 1) rfl rfl rfl (by decide +kernel) (by decide +kernel) (by decide +kernel) (Fz.le_refl _) (by simp) rfl (v_len rfl rfl) ?_
    refine d_take (i := 2) rfl rfl rfl (by decide +kernel) (by decide +kernel) (by decide +kernel) (Fz.le_refl _) (by simp) rfl (v_move rfl) ?_
    refine d_take (i := 3) rfl rfl rfl (by decide +kernel) (by decide +kernel) (by decide +kernel) (Fz.le_refl _) (by simp) rfl (v_nilCheck rfl) ?_
    refine d_take (i := 4) rfl rfl rfl (by decide +kernel) (by decide +kernel) (by decide +kernel) (Fz.le_refl _) (by simp) rfl (v_field (k := 1) rfl rfl rfl) ?_
    refine d_take (i := 5) rfl rfl rfl (by decide +kernel) (by decide +kernel) (by decide +kernel) (Fz.le_refl _) (by simp) rfl (v_load rfl rfl (cell_at (j := 0) rfl rfl)) ?_
    refine d_take (i := 6) rfl rfl rfl (by decide +kernel) (by decide +kernel) (by decide +kernel) (Fz.le_refl _) (by simp) rfl (v_move rfl) ?_
    refine d_take (i := 7) rfl rfl rfl (by decide +kernel) (by decide +kernel) (by decide +kernel) (Fz.le_refl _) (by simp) rfl (v_nilCheck rfl) ?_
    refine d_take (i := 8) rfl rfl rfl (by decide +kernel) (by decide +kernel) (by decide +kernel) (Fz.le_refl _) (by simp) rfl (v_field (k := 3) rfl rfl rfl) ?_
    refine d_take (i := 9) rfl rfl rfl (by decide +kernel) (by decide +kernel) (by decide +kernel) (Fz.le_refl _) (by simp) rfl (v_load rfl rfl (cell_at (j := 0) rfl rfl)) ?_
    refine d_take (i := 10) rfl rfl rfl (by decide +kernel) (by decide +kernel) (by decide +kernel) (Fz.le_refl _) (by simp) rfl (v_len rfl rfl) ?_
    refine d_take (i := 11) rfl rfl rfl (by decide +kernel) (by decide +kernel) (by decide +kernel) (Fz.le_refl _) (by simp) rfl (v_sub rfl rfl (r := ((depth - rs.length : Nat) : Int)) ((wrap_i64 (by omega) (by omega)).trans (by omega))) ?_
    refine d_take (i := 12) rfl rfl rfl (by decide +kernel) (by decide +kernel) (by decide +kernel) (Fz.le_refl _) (by simp) rfl (v_gtr rfl rfl) ?_
    refine d_end (by decide +kernel) ?_
    refine r_if rfl (fun h2 => ?_) (fun h2 => ?_)
    · rw [if_pos (by omega)] at he
      refine j_sel (H' := QE q size depth next bf rs.length :: (bf.ents 1 (rs.map (·.1)) ++ (Fr))) [[QE q size depth next bf rs.length], bf.ents 1 (rs.map (·.1)), bs.ents 1 (ns.map (·.1)), Fr] [0, 1, 3] rfl rfl rfl ?_
      refine r_seq ?_
      refine r_region rfl ?_
      refine o_val rfl rfl rfl rfl (v_assign rfl) ?_
      refine o_end ?_
      exact r_ret1 Try.func9 rfl rfl ⟨⟨hF2, by rw [he]; rfl, .inl ⟨by omega, rfl⟩⟩, hF2⟩
    · rw [if_neg (by omega)] at he
      refine r_skip ?_
      refine r_seq ?_
      refine r_region rfl ?_
      refine o_val rfl rfl rfl rfl (v_move rfl) ?_
      refine o_val rfl rfl rfl rfl (v_nilCheck rfl) ?_
      refine o_val rfl rfl rfl rfl (v_field (k := 2) rfl rfl rfl) ?_
      refine o_val rfl rfl rfl rfl (v_load rfl rfl (cell_at (j := 0) rfl rfl)) ?_
      refine o_val rfl rfl rfl rfl (v_add rfl rfl (r := (((next + 1) % 18446744073709551616 : Nat) : Int)) (by rw [wrap_u64']; omega)) ?_
      refine o_val rfl rfl rfl rfl (v_nilCheck rfl) ?_
      refine o_val rfl rfl rfl rfl (v_field (k := 2) rfl rfl rfl) ?_
      refine o_act0 rfl rfl rfl (a_store1 0 rfl rfl rfl rfl rfl (Nat.le_of_ble_eq_true rfl)) ?_
      generalize (next + 1) % 18446744073709551616 = nx
      refine j_heap (H' := QE q size depth nx bf rs.length :: (bf.ents 1 (rs.map (·.1)) ++ (bs.ents 1 (ns.map (·.1)) ++ Fr))) rfl ?_
      refine o_end ?_
      refine r_seq ?_
      refine r_region rfl ?_
      refine o_val rfl rfl rfl rfl (v_move rfl) ?_
      refine o_val rfl rfl rfl rfl (v_move rfl) ?_
      refine o_val rfl rfl rfl rfl (v_nilCheck rfl) ?_
      refine o_val rfl rfl rfl rfl (v_field (k := 3) rfl rfl rfl) ?_
      refine o_val rfl rfl rfl rfl (v_load rfl rfl (cell_at (j := 0) rfl rfl)) ?_
      refine o_val rfl rfl rfl rfl (v_move rfl) ?_
      refine o_act rfl rfl rfl rfl (a_appendP (bf := bf) (n := rs.length) (m := ns.length) (sz := 1) (bytes := 24) [QE q size depth nx bf rs.length] ⟨⟨_, _, _, rfl, rfl, rfl, rfl, rfl, rfl⟩, by decide⟩ rfl hok (by simp) rfl rfl (Bf.reads (bf := bs) (sz := 1) hoks (by simp) (by intro q hq; simp [hq])) (row_one hfz) (by unfold maxLen; omega) (by omega)) ?_
      rintro v' H' ⟨bf2, rfl, hok2, rfl⟩
      rw [← List.map_append]
      refine j_sel (H' := QE q size depth nx bf rs.length :: (bf2.ents 1 ((rs ++ ns).map (·.1)) ++ (Fr))) [[QE q size depth nx bf rs.length], bf2.ents 1 ((rs ++ ns).map (·.1)), bs.ents 1 (ns.map (·.1)), Fr] [0, 1, 3] rfl rfl rfl ?_
      refine o_val rfl rfl rfl rfl (v_nilCheck rfl) ?_
      refine o_val rfl rfl rfl rfl (v_field (k := 3) rfl rfl rfl) ?_
      refine o_act0 rfl rfl rfl (a_store1 0 rfl rfl rfl rfl rfl (Nat.le_of_ble_eq_true rfl)) ?_
      have hlen : rs.length + ns.length = (rs ++ ns).length := by simp
      rw [hlen] at hok2 ⊢
      refine j_heap (H' := QH q size depth nx bf2 (rs ++ ns) Fr) rfl ?_
      refine o_end ?_
      refine r_seq ?_
      refine r_region rfl ?_
      refine o_val rfl rfl rfl rfl (v_assign rfl) ?_
      refine o_end ?_
      exact r_ret1 Try.func9 rfl rfl ⟨⟨hF2, by rw [he]; rfl, .inr ⟨he, ns, bf2, hrows, hfz, hok2, by rw [← hlen]; omega, rfl⟩⟩, hF2⟩

/-- The frame that goes now. -/
def slotB (size : Nat) (rs : List Row) : List UInt8 := match rs with
  | [] => dummyB size
  | r :: _ => r.2
theorem q_Slot (O : World) (F : Fz) (q size depth next : Nat) (bf : Bf) (rs : List Row) (Fr : List Ent) (hok : bf.ok rs.length) (hn : rs.length ≤ 1000000) (hrs : ∀ r ∈ rs, SlB F [] r.1 r.2) :
    Does Try.prog O 10 #[ptrV q] F (QH q size depth next bf rs Fr)
      (fun r F' H' => F.le F' ∧ SlB F' [] r (slotB size rs) ∧ ∃ bf' : Bf, bf'.ok rs.tail.length ∧ H' = QH q size depth next bf' rs.tail Fr) := by
  refine does_of_run (args := [_]) Try.func10 rfl rfl ?_
  refine r_seq ?_
  refine r_region rfl ?_
  refine o_val rfl rfl rfl rfl (v_assign rfl) ?_
  refine o_end ?_
  refine r_seq ?_
  refine r_seq ?_
  refine r_region rfl ?_
  refine o_val rfl rfl rfl rfl (v_move rfl) ?_
  refine o_val rfl rfl rfl rfl (v_peqnil rfl rfl rfl) ?_
  refine o_end ?_
  refine r_false rfl ?_
  refine r_skip ?_
  refine r_seq ?_
  refine r_seq ?_
  refine r_region rfl ?_
  refine o_val rfl rfl rfl rfl (v_move rfl) ?_
  refine o_val rfl rfl rfl rfl (v_nilCheck rfl) ?_
  refine o_val rfl rfl rfl rfl (v_field (k := 3) rfl rfl rfl) ?_
  refine o_val rfl rfl rfl rfl (v_load rfl rfl (cell_at (j := 0) rfl rfl)) ?_
  refine o_val rfl rfl rfl rfl (v_len rfl rfl) ?_
  refine o_val rfl rfl rfl rfl (v_eql rfl rfl) ?_
  refine o_end ?_
  refine r_if rfl (fun h => ?_) (fun h => ?_)
  · obtain rfl : rs = [] := List.eq_nil_of_length_eq_zero (by omega)
    refine r_seq ?_
    refine r_region rfl ?_
    refine o_val rfl rfl rfl rfl (v_move rfl) ?_
    refine o_val rfl rfl rfl rfl (v_nilCheck rfl) ?_
    refine o_val rfl rfl rfl rfl (v_field (k := 0) rfl rfl rfl) ?_
    refine o_val rfl rfl rfl rfl (v_load rfl rfl (cell_at (j := 0) rfl rfl)) ?_
    refine o_call rfl rfl rfl rfl (c_call callable17 rfl) (fr_Dummy _ _ size _) ?_
    rintro v' F H' ⟨rfl, bd, hod, rfl, rfl⟩ _
    refine j_freezeBf hod (by simp) fun F2 hF2 hs2 => ?_
    refine o_val rfl rfl rfl rfl (v_assign rfl) ?_
    refine o_end ?_
    exact r_ret1 Try.func10 rfl rfl ⟨⟨hF2, hs2, bf, hok, rfl⟩, hF2⟩
  · match rs, h, hok, hn, hrs with
    | x :: rest, h, hok, hn, hrs =>
      cases bf with
      | nil =>
        have : (x :: rest).length = 0 := hok
        simp at this
      | «at» b c =>
        have hx := hrs x List.mem_cons_self
        obtain ⟨ax, cx, hxe, _⟩ := Sl.shape hx
        have hok' : (x :: rest).length ≤ c := hok
        refine j_heap (H' := QE q size depth next (.at b c) (x :: rest).length :: .mem b (x.1 :: rest.map (·.1)) (c * 1) :: Fr) rfl ?_
        rw [hxe]
        refine r_skip ?_
        refine r_seq ?_
        refine r_region rfl ?_
        refine o_val rfl rfl rfl rfl (v_move rfl) ?_
        refine o_val rfl rfl rfl rfl (v_nilCheck rfl) ?_
        refine o_val rfl rfl rfl rfl (v_field (k := 3) rfl rfl rfl) ?_
        refine o_val rfl rfl rfl rfl (v_load rfl rfl (cell_at (j := 0) rfl rfl)) ?_
        refine o_val rfl rfl rfl rfl (v_index1 (i := 0) rfl rfl rfl rfl (by simp)) ?_
        refine o_val rfl rfl rfl rfl (v_load rfl rfl (cell_at (j := 1) rfl rfl)) ?_
        refine o_val rfl rfl rfl rfl (v_assign rfl) ?_
        refine o_end ?_
        refine r_seq ?_
        refine r_region rfl ?_
        refine o_val rfl rfl rfl rfl (v_move rfl) ?_
        refine o_val rfl rfl rfl rfl (v_move rfl) ?_
        refine o_val rfl rfl rfl rfl (v_nilCheck rfl) ?_
        refine o_val rfl rfl rfl rfl (v_field (k := 3) rfl rfl rfl) ?_
        refine o_val rfl rfl rfl rfl (v_load rfl rfl (cell_at (j := 0) rfl rfl)) ?_
        refine j_perm (.swap _ _ _) ?_
        have hone : (Value.slice ax x.2.length cx :: rest.map (·.1)).all oneCellB = true := by
          have := row_one hrs
          rw [List.map_cons, hxe] at this
          exact this
        refine o_call rfl rfl rfl rfl (c_call callable18 rfl) (sl_DeleteQ _ _ b (x :: rest).length c 0 1 _ _ (by simp) hok' (by omega) (by simp) hn hone) ?_
        rintro v' F H' ⟨rfl, rfl, rfl⟩ _
        have hlen : 0 + ((x :: rest).length - 1) = rest.length := by simp
        rw [hlen]
        refine j_heap (H' := .mem b (rest.map (·.1)) (c * 1) :: QE q size depth next (.at b c) (x :: rest).length :: Fr) rfl ?_
        refine j_perm (.swap _ _ _) ?_
        refine o_val rfl rfl rfl rfl (v_nilCheck rfl) ?_
        refine o_val rfl rfl rfl rfl (v_field (k := 3) rfl rfl rfl) ?_
        refine o_act0 rfl rfl rfl (a_store1 0 rfl rfl rfl rfl rfl (Nat.le_of_ble_eq_true rfl)) ?_
        refine j_heap (H' := QH q size depth next (.at b c) rest Fr) rfl ?_
        refine o_end ?_
        refine r_seq ?_
        refine r_region rfl ?_
        refine o_val rfl rfl rfl rfl (v_move rfl) ?_
        refine o_val rfl rfl rfl rfl (v_assign rfl) ?_
        refine o_end ?_
        refine r_ret1 Try.func10 rfl rfl ⟨⟨Fz.le_refl _, ?_, .at b c, ?_, rfl⟩, Fz.le_refl _⟩
        · show SlB F [] _ x.2
          rw [← hxe]
          exact hx
        · show rest.length ≤ c
          simp at hok'
          omega
end Go.SX
