/- Contracts and plain laws, laid together. -/
import Derived.Calls
import Derived.Orders
import Derived.OrdersHeld
import Derived.Tactics
import Derived.OwnWalk
import Derived.Laws.Small
import Derived.Laws.Strings
import Derived.Laws.Pointers
import Derived.Laws.CopyRow
import Derived.Laws.Append
import Derived.Laws.AppendOwn
import Derived.Laws.BytesArg
import Derived.Laws.Slices
import Derived.Laws.MakeOwn
import Derived.Laws.Tables
import Derived.Great.BuildSlice
import Derived.Laws.Cover3
import Derived.Laws.Concat
import Derived.Test.YtbciniijhlaomaaGreatProg
import Derived.Below
import Derived.SizedLaws
import Derived.ChangeSlices
import Derived.ChangeOld
import Derived.Laws.StructEq
import Derived.Deep.Matrix
import Derived.Deep.SlicePairs
import Derived.Deep.Grids
import Derived.MapKept
import Derived.Carry
import Derived.WideLaws
import Derived.Laws.Externs
import Derived.Laws.FloatArith
import Derived.Test.YtbciniijhlaomaaGreatMe3
namespace Go.SX
open Go Go.Proofs
set_option maxRecDepth 4000
theorem mg_in (a : Nat) (r : Rf) (x : Nat) (cs : List Value) (n : Nat) (Fr : List Ent) : Ent.mem x cs n ∈ RfH a r (Ent.mem x cs n :: Fr) := by simp [RfH_eq]
theorem rf_sub2 (a : Nat) (r : Rf) (X : Ent) (Fr : List Ent) : [RfE a r, X] ⊆ RfH a r (X :: Fr) := by
  intro q hq
  simp only [List.mem_cons, List.not_mem_nil, or_false] at hq
  rcases hq with rfl | rfl
  · exact List.mem_cons_self ..
  · simp [RfH_eq]
theorem box_in (a : Nat) (r : Rf) (X : Ent) (Fr : List Ent) : (X :: RfH a r Fr).Perm (RfH a r (X :: Fr)) := by
  rw [RfH_eq, RfH_eq]
  exact List.perm_middle.symm
theorem box_out (a : Nat) (r : Rf) (X : Ent) (Fr : List Ent) : (RfH a r Fr).Sublist (RfH a r (X :: Fr)) := by
  rw [RfH_eq, RfH_eq]
  exact (List.Sublist.refl _).append (List.sublist_cons_self _ _)
def PR.late (p : PR) (m : PM) : PR := if m.kd = 5 ∨ m.kd = 7 then p.send { PM.z with kd := 6, to := m.fr } else if m.kd = 3 then p.send { PM.z with kd := 4, to := m.fr } else p
theorem zM_B (m : PM) (hm : m.B) (k : Nat) (hk : k < 256) (t i : Nat) (ht : t ≤ 300000) (hi : i ≤ 300000) (ok : Bool) : ({ PM.z with kd := k, to := m.fr, tm := t, ix := i, ok := ok } : PM).B :=
  ⟨hk, by simp, hm.fr, ht, hi, by simp, by simp, by simp, by simp, by simp, by simp, by simp, by simp⟩
theorem zMg_ok {F : Fz} (m : PM) (hm : m.B) (k : Nat) (hk : k < 256) (t i : Nat) (ht : t ≤ 300000) (hi : i ≤ 300000) (ok : Bool) : (⟨{ PM.z with kd := k, to := m.fr, tm := t, ix := i, ok := ok }, .slice none 0 0, [], .slice none 0 0⟩ : Mg).ok F :=
  ⟨zM_B m hm k hk t i ht hi ok, rfl, Sl.nil _ _ _, by simp, Sl.nil _ _ _⟩
theorem r_late (O : World) (F : Fz) (a : Nat) (r : Rf) (m : Mg) (Fr : List Ent) (hr : r.ok F) (hm : m.ok F) (ho : r.p.out.length < 300000) :
    Does Tryz.prog O 85 #[ptrV a, .agg m.cells.toArray] F (RfH a r Fr) (fun v F' H' => v = noneV ∧ F' = F ∧ ∃ r' : Rf, r'.ok F ∧ r'.p = r.p.late m.p ∧ H' = RfH a r' Fr) := by
  refine does_of_run (args := [_, _]) Tryz.func85 rfl rfl ?_
  refine r_seq (r_region rfl (o_act rfl rfl rfl rfl (a_box rfl) ?_))
  rintro v' H' ⟨x, rfl, rfl⟩
  refine j_heap (H' := .mem x m.cells 13 :: RfH a r Fr) rfl ?_
  refine j_perm (box_in a r _ Fr) ?_
  refine o_end (r_seq (r_region rfl (o_vl rfl rfl (v_field (k := 0) rfl rfl rfl) (o_vl rfl rfl (v_load rfl rfl (mgc (m := m) 0 (by first | exact mg_in _ _ _ _ _ _ | simp) rfl)) (o_end (r_block (r_seq ?_)))))))
  refine r_join (fun _ : Unit => True) (fun _ => [(0, ptrV a), (3, ptrV x), (5, .int .u8 m.p.kd), (6, .bool (decide (m.p.kd = 5 ∨ m.p.kd = 7)))]) (fun _ => F) (fun _ => RfH a r (.mem x m.cells 13 :: Fr)) ?_ ?_
  · intro J
    refine r_seq (r_region rfl (o_vl rfl rfl (v_eql rfl rfl) (o_vl rfl rfl (v_assign rfl) (o_end (r_if rfl (fun h => ?_) (fun h => ?_))))))
    · refine j_slot 6 rfl (v' := .bool (decide (m.p.kd = 5 ∨ m.p.kd = 7))) (by congr 1; exact decide_eq_decide.2 (by omega)) ?_
      refine r_skip ?_
      refine j_keep ?_ (J () trivial)
      exact ⟨rfl, rfl, rfl, rfl, trivial⟩
    · refine r_region rfl (o_vl rfl rfl (v_eql rfl rfl) (o_vl rfl rfl (v_assign rfl) (o_end ?_)))
      refine j_slot 6 rfl (v' := .bool (decide (m.p.kd = 5 ∨ m.p.kd = 7))) (by congr 1; exact decide_eq_decide.2 (by omega)) ?_
      refine j_keep ?_ (J () trivial)
      exact ⟨rfl, rfl, rfl, rfl, trivial⟩
  · rintro ⟨⟩ -
    unfold PR.late
    refine r_if rfl (fun h => ?_) (fun h => ?_)
    · rw [if_pos h]
      refine r_region rfl (o_vl rfl rfl (v_move rfl) (o_vl rfl rfl (v_field (k := 1) rfl rfl rfl) (o_vl rfl rfl (v_load rfl rfl (mgc (m := m) 1 (by first | exact mg_in _ _ _ _ _ _ | simp) rfl)) (o_vl rfl rfl (v_build rfl rfl) (o_call rfl rfl rfl rfl (c_call callable79 rfl) (r_send _ _ a r ⟨{ PM.z with kd := 6, to := m.p.fr, tm := 0, ix := 0, ok := false }, .slice none 0 0, [], .slice none 0 0⟩ _ hr (zMg_ok m.p hm.B 6 (by decide) 0 0 (by decide) (by decide) false) ho) ?_)))))
      rintro v' F H' ⟨rfl, rfl, q, hq, hqp, rfl⟩ _
      refine j_drop (box_out a q _ Fr) ?_
      refine o_end (r_inBlock ?_)
      exact r_fall0 Tryz.func85 rfl ⟨⟨rfl, rfl, q, hq, hqp, rfl⟩, Fz.le_refl _⟩
    · rw [if_neg h]
      refine r_seq (r_region rfl (o_vl rfl rfl (v_eql rfl rfl) (o_vl rfl rfl (v_assign rfl) (o_end (r_if rfl (fun h2 => ?_) (fun h2 => ?_))))))
      · rw [if_pos (by omega)]
        refine r_region rfl (o_vl rfl rfl (v_move rfl) (o_vl rfl rfl (v_field (k := 1) rfl rfl rfl) (o_vl rfl rfl (v_load rfl rfl (mgc (m := m) 1 (by first | exact mg_in _ _ _ _ _ _ | simp) rfl)) (o_vl rfl rfl (v_build rfl rfl) (o_call rfl rfl rfl rfl (c_call callable79 rfl) (r_send _ _ a r ⟨{ PM.z with kd := 4, to := m.p.fr, tm := 0, ix := 0, ok := false }, .slice none 0 0, [], .slice none 0 0⟩ _ hr (zMg_ok m.p hm.B 4 (by decide) 0 0 (by decide) (by decide) false) ho) ?_)))))
        rintro v' F H' ⟨rfl, rfl, q, hq, hqp, rfl⟩ _
        refine j_drop (box_out a q _ Fr) ?_
        refine o_end (r_inBlock ?_)
        exact r_fall0 Tryz.func85 rfl ⟨⟨rfl, rfl, q, hq, hqp, rfl⟩, Fz.le_refl _⟩
      · rw [if_neg (by omega)]
        refine j_drop (box_out a r _ Fr) ?_
        refine r_skip (r_inBlock ?_)
        exact r_fall0 Tryz.func85 rfl ⟨⟨rfl, rfl, r, hr, rfl, rfl⟩, Fz.le_refl _⟩
def PR.quiet (p : PR) : Bool := decide (p.role ≠ 3) && (decide (p.lead < 0) || decide (4 ≤ p.ticks))
def PR.pre (p : PR) (m : PM) : PR :=
  if (decide (p.term < m.tm) && p.quiet && p.newer m.ix m.lt) = true then p.send { PM.z with kd := 2, to := m.fr, tm := m.tm, ok := true }
  else p.send { PM.z with kd := 2, to := m.fr }
theorem r_pre (O : World) (F : Fz) (a : Nat) (r : Rf) (m : Mg) (Fr : List Ent) (hr : r.ok F) (hm : m.ok F) (ho : r.p.out.length < 300000) :
    Does Tryz.prog O 83 #[ptrV a, .agg m.cells.toArray] F (RfH a r Fr) (fun v F' H' => v = noneV ∧ F' = F ∧ ∃ r' : Rf, r'.ok F ∧ r'.p = r.p.pre m.p ∧ H' = RfH a r' Fr) := by
  refine does_of_run (args := [_, _]) Tryz.func83 rfl rfl ?_
  have hmt := hm.B.tm
  refine r_seq (r_region rfl (o_act rfl rfl rfl rfl (a_box rfl) ?_))
  rintro v' H' ⟨x, rfl, rfl⟩
  refine j_heap (H' := .mem x m.cells 13 :: RfH a r Fr) rfl ?_
  refine j_perm (box_in a r _ Fr) ?_
  refine o_end (r_seq ?_)
  refine r_join (fun _ : Unit => True) (fun _ => [(0, ptrV a), (3, ptrV x), (4, .bool r.p.quiet)]) (fun _ => F) (fun _ => RfH a r (.mem x m.cells 13 :: Fr)) ?_ ?_
  · intro J
    have hqd : r.p.quiet = (decide (r.p.role ≠ 3) && (decide (r.p.lead < 0) || decide (4 ≤ r.p.ticks))) := rfl
    refine d_region 1000000 rfl ([RfE a r]) ?_
    refine d_tk (i := 0) rfl rfl (by simp [RfH]) (v_move rfl) (d_tk (i := 1) rfl rfl (by simp [RfH]) (v_nilCheck rfl) (d_tk (i := 2) rfl rfl (by simp [RfH]) (v_field (k := 6) rfl rfl rfl) (d_tk (i := 3) rfl rfl (by simp [RfH]) (v_load rfl rfl (rfc (r := r) 6 (by first | exact List.mem_cons_self .. | simp [RfH]) rfl)) (d_tk (i := 4) rfl rfl (by simp [RfH]) (v_neq rfl rfl) ?_))))
    refine j_prop 9 rfl (fun h => ?_) (fun h => ?_)
    · rw [decide_eq_true (p := r.p.role ≠ 3) (by omega), Bool.true_and] at hqd
      refine d_tk (i := 5) rfl rfl (by simp [RfH]) (v_move rfl) (d_tk (i := 6) rfl rfl (by simp [RfH]) (v_move rfl) (d_tk (i := 7) rfl rfl (by simp [RfH]) (v_nilCheck rfl) (d_tk (i := 8) rfl rfl (by simp [RfH]) (v_field (k := 7) rfl rfl rfl) (d_tk (i := 9) rfl rfl (by simp [RfH]) (v_load rfl rfl (rfc (r := r) 7 (by first | exact List.mem_cons_self .. | simp [RfH]) rfl)) (d_tk (i := 10) rfl rfl (by simp [RfH]) (v_lss rfl rfl) ?_)))))
      refine j_prop 15 rfl (fun h2 => ?_) (fun h2 => ?_)
      · rw [decide_eq_true h2, Bool.true_or] at hqd
        rw [hqd] at J
        refine d_tk (i := 11) rfl rfl (by simp [RfH]) (v_move rfl) (d_sk (i := 12) rfl rfl (by simp [RfH]) (d_sk (i := 13) rfl rfl (by simp [RfH]) (d_sk (i := 14) rfl rfl (by simp [RfH]) (d_sk (i := 15) rfl rfl (by simp [RfH]) (d_sk (i := 16) rfl rfl (by simp [RfH]) (d_sk (i := 17) rfl rfl (by simp [RfH]) (d_sk (i := 18) rfl rfl (by simp [RfH]) (d_sk (i := 19) rfl rfl (by simp [RfH]) (d_sk (i := 20) rfl rfl (by simp [RfH]) (d_tk (i := 21) rfl rfl (by simp [RfH]) (v_pick1 rfl rfl) (d_tk (i := 22) rfl rfl (by simp [RfH]) (v_pick1 rfl rfl) (d_tk (i := 23) rfl rfl (by simp [RfH]) (v_assign rfl) (d_end (by decide +kernel) ?_)))))))))))))
        refine j_keep ?_ (J () trivial)
        exact ⟨rfl, rfl, rfl, trivial⟩
      · skip
        rw [decide_eq_false h2, Bool.false_or] at hqd
        have e : decide ((4 : Int) ≤ (r.p.ticks : Int)) = r.p.quiet := by rw [hqd]; exact decide_eq_decide.2 (by omega)
        rw [← e] at J
        refine d_tk (i := 11) rfl rfl (by simp [RfH]) (v_move rfl) (d_tk (i := 12) rfl rfl (by simp [RfH]) (v_move rfl) (d_tk (i := 13) rfl rfl (by simp [RfH]) (v_nilCheck rfl) (d_tk (i := 14) rfl rfl (by simp [RfH]) (v_field (k := 11) rfl rfl rfl) (d_tk (i := 15) rfl rfl (by simp [RfH]) (v_load rfl rfl (rfc (r := r) 11 (by first | exact List.mem_cons_self .. | simp [RfH]) rfl)) (d_tk (i := 16) rfl rfl (by simp [RfH]) (v_move rfl) (d_tk (i := 17) rfl rfl (by simp [RfH]) (v_nilCheck rfl) (d_tk (i := 18) rfl rfl (by simp [RfH]) (v_field (k := 2) rfl rfl rfl) (d_tk (i := 19) rfl rfl (by simp [RfH]) (v_load rfl rfl (rfc (r := r) 2 (by first | exact List.mem_cons_self .. | simp [RfH]) rfl)) (d_tk (i := 20) rfl rfl (by simp [RfH]) (v_geq rfl rfl) (d_tk (i := 21) rfl rfl (by simp [RfH]) (v_pick0 rfl rfl) (d_tk (i := 22) rfl rfl (by simp [RfH]) (v_pick1 rfl rfl) (d_tk (i := 23) rfl rfl (by simp [RfH]) (v_assign rfl) (d_end (by decide +kernel) ?_)))))))))))))
        refine j_keep ?_ (J () trivial)
        exact ⟨rfl, rfl, rfl, trivial⟩
    · skip
      rw [decide_eq_false (p := r.p.role ≠ 3) (by omega), Bool.false_and] at hqd
      rw [hqd] at J
      refine d_tk (i := 5) rfl rfl (by simp [RfH]) (v_move rfl) (d_sk (i := 6) rfl rfl (by simp [RfH]) (d_sk (i := 7) rfl rfl (by simp [RfH]) (d_sk (i := 8) rfl rfl (by simp [RfH]) (d_sk (i := 9) rfl rfl (by simp [RfH]) (d_sk (i := 10) rfl rfl (by simp [RfH]) (d_sk (i := 11) rfl rfl (by simp [RfH]) (d_sk (i := 12) rfl rfl (by simp [RfH]) (d_sk (i := 13) rfl rfl (by simp [RfH]) (d_sk (i := 14) rfl rfl (by simp [RfH]) (d_sk (i := 15) rfl rfl (by simp [RfH]) (d_sk (i := 16) rfl rfl (by simp [RfH]) (d_sk (i := 17) rfl rfl (by simp [RfH]) (d_sk (i := 18) rfl rfl (by simp [RfH]) ?_)))))))))))))
      refine d_sk (i := 19) rfl rfl (by simp [RfH]) (d_sk (i := 20) rfl rfl (by simp [RfH]) (d_sk (i := 21) rfl rfl (by simp [RfH]) (d_tk (i := 22) rfl rfl (by simp [RfH]) (v_pick0 rfl rfl) (d_tk (i := 23) rfl rfl (by simp [RfH]) (v_assign rfl) (d_end (by decide +kernel) ?_)))))
      refine j_keep ?_ (J () trivial)
      exact ⟨rfl, rfl, rfl, trivial⟩
  · rintro ⟨⟩ -
    obtain ⟨res, hres⟩ : ∃ res, res = r.p.pre m.p := ⟨_, rfl⟩
    rw [← hres]
    have hyes : (decide (r.p.term < m.p.tm) && r.p.quiet && r.p.newer m.p.ix m.p.lt) = true → res = r.p.send { PM.z with kd := 2, to := m.p.fr, tm := m.p.tm, ok := true } := fun h => by
      rw [hres]
      unfold PR.pre
      rw [h, if_pos rfl]
    have hnot : (decide (r.p.term < m.p.tm) && r.p.quiet && r.p.newer m.p.ix m.p.lt) = false → res = r.p.send { PM.z with kd := 2, to := m.p.fr } := fun h => by
      rw [hres]
      unfold PR.pre
      rw [h, if_neg (by simp)]
    clear hres
    refine r_seq ?_
    refine r_join (fun _ : Unit => (decide (r.p.term < m.p.tm) && r.p.quiet && r.p.newer m.p.ix m.p.lt) = false) (fun _ => [(0, ptrV a), (3, ptrV x)]) (fun _ => F) (fun _ => RfH a r (.mem x m.cells 13 :: Fr)) ?_ ?_
    · intro J
      refine r_seq (d_region 1000000 rfl ([RfE a r, .mem x m.cells 13]) ?_)
      refine d_tk (i := 0) rfl rfl (rf_sub2 a r _ Fr) (v_field (k := 3) rfl rfl rfl) (d_tk (i := 1) rfl rfl (rf_sub2 a r _ Fr) (v_load rfl rfl (mgc (m := m) 3 (by first | exact mg_in _ _ _ _ _ _ | simp) rfl)) (d_tk (i := 2) rfl rfl (rf_sub2 a r _ Fr) (v_move rfl) (d_tk (i := 3) rfl rfl (rf_sub2 a r _ Fr) (v_nilCheck rfl) (d_tk (i := 4) rfl rfl (rf_sub2 a r _ Fr) (v_field (k := 4) rfl rfl rfl) (d_tk (i := 5) rfl rfl (rf_sub2 a r _ Fr) (v_field (k := 0) rfl rfl rfl) (d_tk (i := 6) rfl rfl (rf_sub2 a r _ Fr) (v_load rfl rfl (rfc (r := r) 4 (by first | exact List.mem_cons_self .. | simp [RfH]) rfl)) (d_tk (i := 7) rfl rfl (rf_sub2 a r _ Fr) (v_gtr rfl rfl) ?_)))))))
      refine j_prop 35 rfl (fun h => ?_) (fun h => ?_)
      · have hd : decide (r.p.term < m.p.tm) = true := decide_eq_true (by omega)
        rw [hd, Bool.true_and] at J hyes
        cases hq : r.p.quiet with
        | true =>
          rw [hq, Bool.true_and] at J hyes
          refine d_tk (i := 8) rfl rfl (rf_sub2 a r _ Fr) (v_move rfl) (d_tk (i := 9) rfl rfl (rf_sub2 a r _ Fr) (v_move rfl) (d_tk (i := 10) rfl rfl (rf_sub2 a r _ Fr) (v_pick1 rfl rfl) (d_tk (i := 11) rfl rfl (rf_sub2 a r _ Fr) (v_move rfl) (d_tk (i := 12) rfl rfl (rf_sub2 a r _ Fr) (v_move rfl) (d_tk (i := 13) rfl rfl (rf_sub2 a r _ Fr) (v_nilCheck rfl) (d_tk (i := 14) rfl rfl (rf_sub2 a r _ Fr) (v_field (k := 8) rfl rfl rfl) (d_tk (i := 15) rfl rfl (rf_sub2 a r _ Fr) (v_load rfl rfl (rfc (r := r) 8 (by first | exact List.mem_cons_self .. | simp [RfH]) rfl)) (d_tk (i := 16) rfl rfl (rf_sub2 a r _ Fr) (v_field (k := 4) rfl rfl rfl) (d_tk (i := 17) rfl rfl (rf_sub2 a r _ Fr) (v_load rfl rfl (mgc (m := m) 4 (by first | exact mg_in _ _ _ _ _ _ | simp) rfl)) (d_tk (i := 18) rfl rfl (rf_sub2 a r _ Fr) (v_field (k := 5) rfl rfl rfl) (d_tk (i := 19) rfl rfl (rf_sub2 a r _ Fr) (v_load rfl rfl (mgc (m := m) 5 (by first | exact mg_in _ _ _ _ _ _ | simp) rfl)) (d_one (i := 20) (by decide +kernel) (d1_call rfl rfl rfl rfl (c_call callable105 rfl) (rl_Newer _ _ a r m.p.ix m.p.lt _ hr) ?_)))))))))))))
          rintro v' F H' ⟨rfl, rfl, rfl⟩ _
          refine ⟨fun w hw => held_of hw (by first | exact Fz.le_refl _ | assumption) (rf_sub2 a r _ Fr), ?_⟩
          cases hn : r.p.newer m.p.ix m.p.lt with
          | true =>
            have hfin := hyes hn
            refine d_tk (i := 21) rfl rfl (rf_sub2 a r _ Fr) (v_pick1 rfl rfl) (d_end (by decide +kernel) (r_true rfl (r_seq (r_region rfl (o_vl rfl rfl (v_move rfl) (o_vl rfl rfl (v_field (k := 1) rfl rfl rfl) (o_vl rfl rfl (v_load rfl rfl (mgc (m := m) 1 (by first | exact mg_in _ _ _ _ _ _ | simp) rfl)) (o_vl rfl rfl (v_field (k := 3) rfl rfl rfl) (o_vl rfl rfl (v_load rfl rfl (mgc (m := m) 3 (by first | exact mg_in _ _ _ _ _ _ | simp) rfl)) (o_vl rfl rfl (v_build rfl rfl) (o_call rfl rfl rfl rfl (c_call callable79 rfl) (r_send _ _ a r ⟨{ PM.z with kd := 2, to := m.p.fr, tm := m.p.tm, ix := 0, ok := true }, .slice none 0 0, [], .slice none 0 0⟩ _ hr (zMg_ok m.p hm.B 2 (by decide) m.p.tm 0 hmt (by decide) true) ho) ?_)))))))))))
            rintro v' F H' ⟨rfl, rfl, q, hq, hqp, rfl⟩ _
            refine j_drop (box_out a q _ Fr) ?_
            refine o_end ?_
            exact r_ret0 Tryz.func83 rfl ⟨⟨rfl, rfl, q, hq, by rw [hqp, hfin], rfl⟩, Fz.le_refl _⟩
          | false =>
            refine d_tk (i := 21) rfl rfl (rf_sub2 a r _ Fr) (v_pick1 rfl rfl) (d_end (by decide +kernel) (r_false rfl (r_skip ?_)))
            refine j_keep ?_ (J () hn)
            exact ⟨rfl, rfl, trivial⟩
        | false =>
          rw [hq, Bool.false_and] at J
          refine d_tk (i := 8) rfl rfl (rf_sub2 a r _ Fr) (v_move rfl) (d_tk (i := 9) rfl rfl (rf_sub2 a r _ Fr) (v_move rfl) (d_tk (i := 10) rfl rfl (rf_sub2 a r _ Fr) (v_pick1 rfl rfl) (d_tk (i := 11) rfl rfl (rf_sub2 a r _ Fr) (v_move rfl) (d_sk (i := 12) rfl rfl (rf_sub2 a r _ Fr) (d_sk (i := 13) rfl rfl (rf_sub2 a r _ Fr) (d_sk (i := 14) rfl rfl (rf_sub2 a r _ Fr) (d_sk (i := 15) rfl rfl (rf_sub2 a r _ Fr) (d_sk (i := 16) rfl rfl (rf_sub2 a r _ Fr) (d_sk (i := 17) rfl rfl (rf_sub2 a r _ Fr) (d_sk (i := 18) rfl rfl (rf_sub2 a r _ Fr) (d_sk (i := 19) rfl rfl (rf_sub2 a r _ Fr) (d_sk (i := 20) rfl rfl (rf_sub2 a r _ Fr) (d_tk (i := 21) rfl rfl (rf_sub2 a r _ Fr) (v_pick0 rfl rfl) ?_)))))))))))))
          refine d_end (by decide +kernel) (r_false rfl (r_skip ?_))
          refine j_keep ?_ (J () rfl)
          exact ⟨rfl, rfl, trivial⟩
      · skip
        have hd : decide (r.p.term < m.p.tm) = false := decide_eq_false (by omega)
        rw [hd, Bool.false_and, Bool.false_and] at J
        refine d_tk (i := 8) rfl rfl (rf_sub2 a r _ Fr) (v_move rfl) (d_sk (i := 9) rfl rfl (rf_sub2 a r _ Fr) (d_tk (i := 10) rfl rfl (rf_sub2 a r _ Fr) (v_pick0 rfl rfl) (d_tk (i := 11) rfl rfl (rf_sub2 a r _ Fr) (v_move rfl) (d_sk (i := 12) rfl rfl (rf_sub2 a r _ Fr) (d_sk (i := 13) rfl rfl (rf_sub2 a r _ Fr) (d_sk (i := 14) rfl rfl (rf_sub2 a r _ Fr) (d_sk (i := 15) rfl rfl (rf_sub2 a r _ Fr) (d_sk (i := 16) rfl rfl (rf_sub2 a r _ Fr) (d_sk (i := 17) rfl rfl (rf_sub2 a r _ Fr) (d_sk (i := 18) rfl rfl (rf_sub2 a r _ Fr) (d_sk (i := 19) rfl rfl (rf_sub2 a r _ Fr) (d_sk (i := 20) rfl rfl (rf_sub2 a r _ Fr) (d_tk (i := 21) rfl rfl (rf_sub2 a r _ Fr) (v_pick0 rfl rfl) ?_)))))))))))))
        refine d_end (by decide +kernel) (r_false rfl (r_skip ?_))
        refine j_keep ?_ (J () rfl)
        exact ⟨rfl, rfl, trivial⟩
    · rintro ⟨⟩ hno
      have hfin := hnot hno
      refine r_region rfl (o_vl rfl rfl (v_move rfl) (o_vl rfl rfl (v_field (k := 1) rfl rfl rfl) (o_vl rfl rfl (v_load rfl rfl (mgc (m := m) 1 (by first | exact mg_in _ _ _ _ _ _ | simp) rfl)) (o_vl rfl rfl (v_build rfl rfl) (o_call rfl rfl rfl rfl (c_call callable79 rfl) (r_send _ _ a r ⟨{ PM.z with kd := 2, to := m.p.fr, tm := 0, ix := 0, ok := false }, .slice none 0 0, [], .slice none 0 0⟩ _ hr (zMg_ok m.p hm.B 2 (by decide) 0 0 (by decide) (by decide) false) ho) ?_)))))
      rintro v' F H' ⟨rfl, rfl, q, hq, hqp, rfl⟩ _
      refine j_drop (box_out a q _ Fr) ?_
      refine o_end ?_
      exact r_fall0 Tryz.func83 rfl ⟨⟨rfl, rfl, q, hq, by rw [hqp, hfin], rfl⟩, Fz.le_refl _⟩
def PR.askOk (p : PR) (m : PM) : Bool := (decide (p.vote < 0) || decide (p.vote = m.fr)) && decide (p.role = 0) && p.newer m.ix m.lt
def PR.voted (p : PR) (m : PM) : PR := if p.askOk m = true then (if p.vote < 0 then { p with vote := m.fr, chg := true } else p) else p
def PR.asked (p : PR) (m : PM) : PR := (if p.askOk m = true then (p.voted m).rest else p).send { PM.z with kd := 4, to := m.fr, ok := p.askOk m }
theorem r_asked (O : World) (F : Fz) (a : Nat) (r : Rf) (m : Mg) (Fr : List Ent) (hr : r.ok F) (hm : m.ok F) (ho : r.p.out.length < 300000) :
    Does Tryz.prog O 86 #[ptrV a, .agg m.cells.toArray] F (RfH a r Fr) (fun v F' H' => v = noneV ∧ F' = F ∧ ∃ r' : Rf, r'.ok F ∧ r'.p = r.p.asked m.p ∧ H' = RfH a r' Fr) := by
  refine does_of_run (args := [_, _]) Tryz.func86 rfl rfl ?_
  have hfr := hm.B.fr
  refine r_seq (r_region rfl (o_act rfl rfl rfl rfl (a_box rfl) ?_))
  rintro v' H' ⟨x, rfl, rfl⟩
  refine j_heap (H' := .mem x m.cells 13 :: RfH a r Fr) rfl ?_
  refine j_perm (box_in a r _ Fr) ?_
  refine o_end (r_seq ?_)
  refine r_join (fun _ : Unit => True) (fun _ => [(0, ptrV a), (3, ptrV x), (4, .bool (r.p.askOk m.p))]) (fun _ => F) (fun _ => RfH a r (.mem x m.cells 13 :: Fr)) ?_ ?_
  · intro J
    have hqd : r.p.askOk m.p = ((decide (r.p.vote < 0) || decide (r.p.vote = m.p.fr)) && decide (r.p.role = 0) && r.p.newer m.p.ix m.p.lt) := rfl
    generalize r.p.askOk m.p = ok at *
    refine d_region 1000000 rfl ([RfE a r, .mem x m.cells 13]) ?_
    refine d_tk (i := 0) rfl rfl (rf_sub2 a r _ Fr) (v_move rfl) (d_tk (i := 1) rfl rfl (rf_sub2 a r _ Fr) (v_nilCheck rfl) (d_tk (i := 2) rfl rfl (rf_sub2 a r _ Fr) (v_field (k := 4) rfl rfl rfl) (d_tk (i := 3) rfl rfl (rf_sub2 a r _ Fr) (v_field (k := 1) rfl rfl rfl) (d_tk (i := 4) rfl rfl (rf_sub2 a r _ Fr) (v_load rfl rfl (rfc (r := r) 5 (by first | exact List.mem_cons_self .. | simp [RfH]) rfl)) (d_tk (i := 5) rfl rfl (rf_sub2 a r _ Fr) (v_lss rfl rfl) ?_)))))
    refine j_prop 10 rfl (fun h => ?_) (fun h => ?_)
    · rw [decide_eq_true h, Bool.true_or, Bool.true_and] at hqd
      refine d_tk (i := 6) rfl rfl (rf_sub2 a r _ Fr) (v_move rfl) (d_sk (i := 7) rfl rfl (rf_sub2 a r _ Fr) (d_sk (i := 8) rfl rfl (rf_sub2 a r _ Fr) (d_sk (i := 9) rfl rfl (rf_sub2 a r _ Fr) (d_sk (i := 10) rfl rfl (rf_sub2 a r _ Fr) (d_sk (i := 11) rfl rfl (rf_sub2 a r _ Fr) (d_sk (i := 12) rfl rfl (rf_sub2 a r _ Fr) (d_sk (i := 13) rfl rfl (rf_sub2 a r _ Fr) (d_sk (i := 14) rfl rfl (rf_sub2 a r _ Fr) (d_tk (i := 15) rfl rfl (rf_sub2 a r _ Fr) (v_pick1 rfl rfl) (d_tk (i := 16) rfl rfl (rf_sub2 a r _ Fr) (v_move rfl) (d_tk (i := 17) rfl rfl (rf_sub2 a r _ Fr) (v_move rfl) (d_tk (i := 18) rfl rfl (rf_sub2 a r _ Fr) (v_nilCheck rfl) (d_tk (i := 19) rfl rfl (rf_sub2 a r _ Fr) (v_field (k := 6) rfl rfl rfl) ?_)))))))))))))
      refine d_tk (i := 20) rfl rfl (rf_sub2 a r _ Fr) (v_load rfl rfl (rfc (r := r) 6 (by first | exact List.mem_cons_self .. | simp [RfH]) rfl)) (d_tk (i := 21) rfl rfl (rf_sub2 a r _ Fr) (v_eql rfl rfl) ?_)
      refine j_prop 26 rfl (fun h3 => ?_) (fun h3 => ?_)
      · rw [decide_eq_true (p := r.p.role = 0) (by omega), Bool.true_and] at hqd
        refine d_tk (i := 22) rfl rfl (rf_sub2 a r _ Fr) (v_pick1 rfl rfl) (d_tk (i := 23) rfl rfl (rf_sub2 a r _ Fr) (v_move rfl) (d_tk (i := 24) rfl rfl (rf_sub2 a r _ Fr) (v_move rfl) (d_tk (i := 25) rfl rfl (rf_sub2 a r _ Fr) (v_nilCheck rfl) (d_tk (i := 26) rfl rfl (rf_sub2 a r _ Fr) (v_field (k := 8) rfl rfl rfl) (d_tk (i := 27) rfl rfl (rf_sub2 a r _ Fr) (v_load rfl rfl (rfc (r := r) 8 (by first | exact List.mem_cons_self .. | simp [RfH]) rfl)) (d_tk (i := 28) rfl rfl (rf_sub2 a r _ Fr) (v_field (k := 4) rfl rfl rfl) (d_tk (i := 29) rfl rfl (rf_sub2 a r _ Fr) (v_load rfl rfl (mgc (m := m) 4 (by first | exact mg_in _ _ _ _ _ _ | simp) rfl)) (d_tk (i := 30) rfl rfl (rf_sub2 a r _ Fr) (v_field (k := 5) rfl rfl rfl) (d_tk (i := 31) rfl rfl (rf_sub2 a r _ Fr) (v_load rfl rfl (mgc (m := m) 5 (by first | exact mg_in _ _ _ _ _ _ | simp) rfl)) (d_one (i := 32) (by decide +kernel) (d1_call rfl rfl rfl rfl (c_call callable105 rfl) (rl_Newer _ _ a r m.p.ix m.p.lt _ hr) ?_)))))))))))
        rintro v' F H' ⟨rfl, rfl, rfl⟩ _
        refine ⟨fun w hw => held_of hw (by first | exact Fz.le_refl _ | assumption) (rf_sub2 a r _ Fr), ?_⟩
        rw [← hqd]
        refine d_tk (i := 33) rfl rfl (rf_sub2 a r _ Fr) (v_pick1 rfl rfl) (d_tk (i := 34) rfl rfl (rf_sub2 a r _ Fr) (v_assign rfl) (d_end (by decide +kernel) ?_))
        refine j_keep ?_ (J () trivial)
        exact ⟨rfl, rfl, rfl, trivial⟩
      · rw [decide_eq_false (p := r.p.role = 0) (by omega), Bool.false_and] at hqd
        rw [hqd] at J
        refine d_tk (i := 22) rfl rfl (rf_sub2 a r _ Fr) (v_pick1 rfl rfl) (d_tk (i := 23) rfl rfl (rf_sub2 a r _ Fr) (v_move rfl) (d_sk (i := 24) rfl rfl (rf_sub2 a r _ Fr) (d_sk (i := 25) rfl rfl (rf_sub2 a r _ Fr) (d_sk (i := 26) rfl rfl (rf_sub2 a r _ Fr) (d_sk (i := 27) rfl rfl (rf_sub2 a r _ Fr) (d_sk (i := 28) rfl rfl (rf_sub2 a r _ Fr) (d_sk (i := 29) rfl rfl (rf_sub2 a r _ Fr) (d_sk (i := 30) rfl rfl (rf_sub2 a r _ Fr) (d_sk (i := 31) rfl rfl (rf_sub2 a r _ Fr) (d_sk (i := 32) rfl rfl (rf_sub2 a r _ Fr) (d_tk (i := 33) rfl rfl (rf_sub2 a r _ Fr) (v_pick0 rfl rfl) (d_tk (i := 34) rfl rfl (rf_sub2 a r _ Fr) (v_assign rfl) (d_end (by decide +kernel) ?_)))))))))))))
        refine j_keep ?_ (J () trivial)
        exact ⟨rfl, rfl, rfl, trivial⟩
    · skip
      rw [decide_eq_false h, Bool.false_or] at hqd
      refine d_tk (i := 6) rfl rfl (rf_sub2 a r _ Fr) (v_move rfl) (d_tk (i := 7) rfl rfl (rf_sub2 a r _ Fr) (v_move rfl) (d_tk (i := 8) rfl rfl (rf_sub2 a r _ Fr) (v_nilCheck rfl) (d_tk (i := 9) rfl rfl (rf_sub2 a r _ Fr) (v_field (k := 4) rfl rfl rfl) (d_tk (i := 10) rfl rfl (rf_sub2 a r _ Fr) (v_field (k := 1) rfl rfl rfl) (d_tk (i := 11) rfl rfl (rf_sub2 a r _ Fr) (v_load rfl rfl (rfc (r := r) 5 (by first | exact List.mem_cons_self .. | simp [RfH]) rfl)) (d_tk (i := 12) rfl rfl (rf_sub2 a r _ Fr) (v_field (k := 1) rfl rfl rfl) (d_tk (i := 13) rfl rfl (rf_sub2 a r _ Fr) (v_load rfl rfl (mgc (m := m) 1 (by first | exact mg_in _ _ _ _ _ _ | simp) rfl)) (d_tk (i := 14) rfl rfl (rf_sub2 a r _ Fr) (v_eql rfl rfl) ?_))))))))
      refine j_prop 19 rfl (fun h2 => ?_) (fun h2 => ?_)
      · rw [decide_eq_true h2, Bool.true_and] at hqd
        refine d_tk (i := 15) rfl rfl (rf_sub2 a r _ Fr) (v_pick0 rfl rfl) (d_tk (i := 16) rfl rfl (rf_sub2 a r _ Fr) (v_move rfl) (d_tk (i := 17) rfl rfl (rf_sub2 a r _ Fr) (v_move rfl) (d_tk (i := 18) rfl rfl (rf_sub2 a r _ Fr) (v_nilCheck rfl) (d_tk (i := 19) rfl rfl (rf_sub2 a r _ Fr) (v_field (k := 6) rfl rfl rfl) (d_tk (i := 20) rfl rfl (rf_sub2 a r _ Fr) (v_load rfl rfl (rfc (r := r) 6 (by first | exact List.mem_cons_self .. | simp [RfH]) rfl)) (d_tk (i := 21) rfl rfl (rf_sub2 a r _ Fr) (v_eql rfl rfl) ?_))))))
        refine j_prop 26 rfl (fun h3 => ?_) (fun h3 => ?_)
        · rw [decide_eq_true (p := r.p.role = 0) (by omega), Bool.true_and] at hqd
          refine d_tk (i := 22) rfl rfl (rf_sub2 a r _ Fr) (v_pick1 rfl rfl) (d_tk (i := 23) rfl rfl (rf_sub2 a r _ Fr) (v_move rfl) (d_tk (i := 24) rfl rfl (rf_sub2 a r _ Fr) (v_move rfl) (d_tk (i := 25) rfl rfl (rf_sub2 a r _ Fr) (v_nilCheck rfl) (d_tk (i := 26) rfl rfl (rf_sub2 a r _ Fr) (v_field (k := 8) rfl rfl rfl) (d_tk (i := 27) rfl rfl (rf_sub2 a r _ Fr) (v_load rfl rfl (rfc (r := r) 8 (by first | exact List.mem_cons_self .. | simp [RfH]) rfl)) (d_tk (i := 28) rfl rfl (rf_sub2 a r _ Fr) (v_field (k := 4) rfl rfl rfl) (d_tk (i := 29) rfl rfl (rf_sub2 a r _ Fr) (v_load rfl rfl (mgc (m := m) 4 (by first | exact mg_in _ _ _ _ _ _ | simp) rfl)) (d_tk (i := 30) rfl rfl (rf_sub2 a r _ Fr) (v_field (k := 5) rfl rfl rfl) (d_tk (i := 31) rfl rfl (rf_sub2 a r _ Fr) (v_load rfl rfl (mgc (m := m) 5 (by first | exact mg_in _ _ _ _ _ _ | simp) rfl)) (d_one (i := 32) (by decide +kernel) (d1_call rfl rfl rfl rfl (c_call callable105 rfl) (rl_Newer _ _ a r m.p.ix m.p.lt _ hr) ?_)))))))))))
          rintro v' F H' ⟨rfl, rfl, rfl⟩ _
          refine ⟨fun w hw => held_of hw (by first | exact Fz.le_refl _ | assumption) (rf_sub2 a r _ Fr), ?_⟩
          rw [← hqd]
          refine d_tk (i := 33) rfl rfl (rf_sub2 a r _ Fr) (v_pick1 rfl rfl) (d_tk (i := 34) rfl rfl (rf_sub2 a r _ Fr) (v_assign rfl) (d_end (by decide +kernel) ?_))
          refine j_keep ?_ (J () trivial)
          exact ⟨rfl, rfl, rfl, trivial⟩
        · rw [decide_eq_false (p := r.p.role = 0) (by omega), Bool.false_and] at hqd
          rw [hqd] at J
          refine d_tk (i := 22) rfl rfl (rf_sub2 a r _ Fr) (v_pick1 rfl rfl) (d_tk (i := 23) rfl rfl (rf_sub2 a r _ Fr) (v_move rfl) (d_sk (i := 24) rfl rfl (rf_sub2 a r _ Fr) (d_sk (i := 25) rfl rfl (rf_sub2 a r _ Fr) (d_sk (i := 26) rfl rfl (rf_sub2 a r _ Fr) (d_sk (i := 27) rfl rfl (rf_sub2 a r _ Fr) (d_sk (i := 28) rfl rfl (rf_sub2 a r _ Fr) (d_sk (i := 29) rfl rfl (rf_sub2 a r _ Fr) (d_sk (i := 30) rfl rfl (rf_sub2 a r _ Fr) (d_sk (i := 31) rfl rfl (rf_sub2 a r _ Fr) (d_sk (i := 32) rfl rfl (rf_sub2 a r _ Fr) (d_tk (i := 33) rfl rfl (rf_sub2 a r _ Fr) (v_pick0 rfl rfl) (d_tk (i := 34) rfl rfl (rf_sub2 a r _ Fr) (v_assign rfl) (d_end (by decide +kernel) ?_)))))))))))))
          refine j_keep ?_ (J () trivial)
          exact ⟨rfl, rfl, rfl, trivial⟩
      · skip
        rw [decide_eq_false h2, Bool.false_and, Bool.false_and] at hqd
        rw [hqd] at J
        refine d_tk (i := 15) rfl rfl (rf_sub2 a r _ Fr) (v_pick0 rfl rfl) (d_tk (i := 16) rfl rfl (rf_sub2 a r _ Fr) (v_move rfl) (d_sk (i := 17) rfl rfl (rf_sub2 a r _ Fr) (d_sk (i := 18) rfl rfl (rf_sub2 a r _ Fr) (d_sk (i := 19) rfl rfl (rf_sub2 a r _ Fr) (d_sk (i := 20) rfl rfl (rf_sub2 a r _ Fr) (d_sk (i := 21) rfl rfl (rf_sub2 a r _ Fr) (d_tk (i := 22) rfl rfl (rf_sub2 a r _ Fr) (v_pick0 rfl rfl) (d_tk (i := 23) rfl rfl (rf_sub2 a r _ Fr) (v_move rfl) (d_sk (i := 24) rfl rfl (rf_sub2 a r _ Fr) (d_sk (i := 25) rfl rfl (rf_sub2 a r _ Fr) (d_sk (i := 26) rfl rfl (rf_sub2 a r _ Fr) (d_sk (i := 27) rfl rfl (rf_sub2 a r _ Fr) (d_sk (i := 28) rfl rfl (rf_sub2 a r _ Fr) ?_)))))))))))))
        refine d_sk (i := 29) rfl rfl (rf_sub2 a r _ Fr) (d_sk (i := 30) rfl rfl (rf_sub2 a r _ Fr) (d_sk (i := 31) rfl rfl (rf_sub2 a r _ Fr) (d_sk (i := 32) rfl rfl (rf_sub2 a r _ Fr) (d_tk (i := 33) rfl rfl (rf_sub2 a r _ Fr) (v_pick0 rfl rfl) (d_tk (i := 34) rfl rfl (rf_sub2 a r _ Fr) (v_assign rfl) (d_end (by decide +kernel) ?_))))))
        refine j_keep ?_ (J () trivial)
        exact ⟨rfl, rfl, rfl, trivial⟩
  · rintro ⟨⟩ -
    obtain ⟨r1, hr1⟩ : ∃ r1 : Rf, r1 = { r with p := r.p.voted m.p } := ⟨_, rfl⟩
    have hr1ok : r1.ok F := by
      rw [hr1]
      unfold PR.voted
      split
      · split
        · exact hr.set _ { hr.B with v1 := by dsimp only; omega, v2 := by dsimp only; omega } rfl rfl rfl rfl
        · exact hr
      · exact hr
    have hfin : r.p.asked m.p = (if r.p.askOk m.p = true then r1.p.rest else r1.p).send { PM.z with kd := 4, to := m.p.fr, ok := r.p.askOk m.p } := by
      unfold PR.asked
      rw [hr1]
      cases hk : r.p.askOk m.p with
      | true => rfl
      | false =>
        unfold PR.voted
        rw [hk]
        rfl
    have hv1 : r.p.voted m.p = if r.p.askOk m.p = true then (if r.p.vote < 0 then { r.p with vote := m.p.fr, chg := true } else r.p) else r.p := rfl
    rw [hv1] at hr1
    generalize r.p.askOk m.p = ok at *
    refine r_seq ?_
    refine r_join (fun _ : Unit => True) (fun _ => [(0, ptrV a), (3, ptrV x), (4, .bool ok)]) (fun _ => F) (fun _ => RfH a r1 (.mem x m.cells 13 :: Fr)) ?_ ?_
    · intro J
      cases ok with
      | true =>
        rw [if_pos rfl] at hr1
        refine r_seq (r_region rfl (o_vl rfl rfl (v_move rfl) (o_vl rfl rfl (v_move rfl) (o_vl rfl rfl (v_move rfl) (o_vl rfl rfl (v_nilCheck rfl) (o_vl rfl rfl (v_field (k := 4) rfl rfl rfl) (o_vl rfl rfl (v_field (k := 1) rfl rfl rfl) (o_vl rfl rfl (v_load rfl rfl (rfc (r := r) 5 (by first | exact List.mem_cons_self .. | simp [RfH]) rfl)) (o_vl rfl rfl (v_lss rfl rfl) (o_vl rfl rfl (v_pick1 rfl rfl) (o_end (r_if rfl (fun h => ?_) (fun h => ?_)))))))))))))
        · rw [if_pos h] at hr1
          refine r_region rfl (o_vl rfl rfl (v_move rfl) (o_vl rfl rfl (v_move rfl) (o_vl rfl rfl (v_field (k := 1) rfl rfl rfl) (o_vl rfl rfl (v_load rfl rfl (mgc (m := m) 1 (by first | exact mg_in _ _ _ _ _ _ | simp) rfl)) (o_vl rfl rfl (v_nilCheck rfl) (o_vl rfl rfl (v_field (k := 4) rfl rfl rfl) (o_vl rfl rfl (v_field (k := 1) rfl rfl rfl) ?_)))))))
          refine j_heap (H' := RfE a r :: RfT r (.mem x m.cells 13 :: Fr)) rfl ?_
          refine o_act0 rfl rfl rfl (a_rf { r with p := { r.p with vote := m.p.fr } } rfl rfl rfl rfl (Nat.le_of_ble_eq_true rfl) rfl) ?_
          refine o_vl rfl rfl (v_nilCheck rfl) (o_vl rfl rfl (v_field (k := 29) rfl rfl rfl) (o_act0 rfl rfl rfl (a_rf r1 rfl rfl rfl rfl (Nat.le_of_ble_eq_true rfl) (by rw [hr1]; rfl)) ?_))
          refine j_heap (H' := RfH a r1 (.mem x m.cells 13 :: Fr)) (by rw [hr1]; rfl) ?_
          refine o_end ?_
          refine j_keep ?_ (J () trivial)
          exact ⟨rfl, rfl, rfl, trivial⟩
        · rw [if_neg h] at hr1
          have e : r1 = r := hr1
          rw [e] at J
          refine r_skip ?_
          refine j_keep ?_ (J () trivial)
          exact ⟨rfl, rfl, rfl, trivial⟩
      | false =>
        rw [if_neg (by simp)] at hr1
        have e : r1 = r := hr1
        rw [e] at J
        refine r_seq (r_region rfl (o_vl rfl rfl (v_move rfl) (o_vl rfl rfl (v_move rfl) (o_sk rfl rfl (o_sk rfl rfl (o_sk rfl rfl (o_sk rfl rfl (o_sk rfl rfl (o_sk rfl rfl (o_vl rfl rfl (v_pick0 rfl rfl) (o_end (r_false rfl (r_skip ?_)))))))))))))
        refine j_keep ?_ (J () trivial)
        exact ⟨rfl, rfl, rfl, trivial⟩
    · rintro ⟨⟩ -
      have h1o : r1.p.out = r.p.out := by
        rw [hr1]
        split
        · split <;> rfl
        · rfl
      refine r_seq ?_
      refine r_join (fun q : Rf => q.ok F ∧ q.p = if ok = true then r1.p.rest else r1.p) (fun _ => [(0, ptrV a), (3, ptrV x), (4, .bool ok)]) (fun _ => F) (fun q => RfH a q (.mem x m.cells 13 :: Fr)) ?_ ?_
      · intro J
        cases ok with
        | true =>
          refine r_seq (r_region rfl (o_vl rfl rfl (v_move rfl) (o_end (r_true rfl (r_region rfl (o_vl rfl rfl (v_move rfl) ?_))))))
          refine j_heap (H' := RfE a r1 :: RfT r1 (.mem x m.cells 13 :: Fr)) rfl ?_
          refine o_call rfl rfl rfl rfl (c_call callable51 rfl) (r_rest _ _ a r1 _ hr1ok.B.me hr1ok.dr) ?_
          rintro v' F H' ⟨rfl, rfl, rfl⟩ _
          refine j_heap (H' := RfH a { r1 with p := r1.p.rest, fb := ownB r1.p.me } (.mem x m.cells 13 :: Fr)) rfl ?_
          refine o_end ?_
          refine j_keep ?_ (J _ ⟨rest_ok hr1ok, rfl⟩)
          exact ⟨rfl, rfl, rfl, trivial⟩
        | false =>
          refine r_seq (r_region rfl (o_vl rfl rfl (v_move rfl) (o_end (r_false rfl (r_skip ?_)))))
          refine j_keep ?_ (J r1 ⟨hr1ok, rfl⟩)
          exact ⟨rfl, rfl, rfl, trivial⟩
      · rintro q ⟨hq, hqp⟩
        have hqo : q.p.out = r.p.out := by
          rw [hqp, ← h1o]
          split <;> rfl
        refine r_region rfl (o_vl rfl rfl (v_move rfl) (o_vl rfl rfl (v_field (k := 1) rfl rfl rfl) (o_vl rfl rfl (v_load rfl rfl (mgc (m := m) 1 (by first | exact mg_in _ _ _ _ _ _ | simp) rfl)) (o_vl rfl rfl (v_move rfl) (o_vl rfl rfl (v_build rfl rfl) (o_call rfl rfl rfl rfl (c_call callable79 rfl) (r_send _ _ a q ⟨{ PM.z with kd := 4, to := m.p.fr, tm := 0, ix := 0, ok := ok }, .slice none 0 0, [], .slice none 0 0⟩ _ hq (zMg_ok m.p hm.B 4 (by decide) 0 0 (by decide) (by decide) ok) (by rw [hqo]; exact ho)) ?_))))))
        rintro v' F H' ⟨rfl, rfl, q2, hq2, hqp2, rfl⟩ _
        refine j_drop (box_out a q2 _ Fr) ?_
        refine o_end ?_
        exact r_fall0 Tryz.func86 rfl ⟨⟨rfl, rfl, q2, hq2, by rw [hqp2, hqp, hfin], rfl⟩, Fz.le_refl _⟩
end Go.SX
namespace Go.SX
open Go Go.Proofs
set_option maxRecDepth 4000
def PR.mg (p : PR) : List PE → Nat × List PE
  | [] => (0, p.l)
  | x :: r => if x.ix ≤ p.lix then p.mg r else if p.termAt x.ix = (x.tm, true) then p.mg r else if p.lix + p.l.length + 1 < x.ix then (0, p.l) else (x.ix, p.l.take (x.ix - p.lix - 1) ++ (x :: r))
theorem mg_pure (F : Fz) (r : Rf) (hr : r.ok F) : ∀ es : List En, (mg r.p.lix r.p.ltm r.l es).1 = (r.p.mg (es.map En.pure)).1 ∧ (mg r.p.lix r.p.ltm r.l es).2.map En.pure = (r.p.mg (es.map En.pure)).2 ∧ ∀ e ∈ (mg r.p.lix r.p.ltm r.l es).2, e ∈ r.l ∨ e ∈ es
  | [] => ⟨rfl, hr.l, fun e he => .inl he⟩
  | x :: es => by
    obtain ⟨h1, h2, h3⟩ := mg_pure F r hr es
    have ht := lgTerm_pure r.p.lix r.p.ltm r.l r.p hr.l rfl rfl x.ix
    simp only [mg, List.map_cons, PR.mg, ht, hr.len]
    have e1 : (En.pure x).ix = x.ix := rfl
    have e2 : (En.pure x).tm = x.tm := rfl
    rw [e1, e2]
    split
    · exact ⟨h1, h2, fun e he => (h3 e he).imp id (List.mem_cons_of_mem _)⟩
    · split
      · exact ⟨h1, h2, fun e he => (h3 e he).imp id (List.mem_cons_of_mem _)⟩
      · split
        · exact ⟨rfl, hr.l, fun e he => .inl he⟩
        · refine ⟨rfl, ?_, fun e he => ?_⟩
          · rw [List.map_append, List.map_take, hr.l]
            rfl
          · rcases List.mem_append.1 he with h | h
            · exact .inl (List.mem_of_mem_take h)
            · exact .inr h
theorem mg_bnd (p : PR) (N : Nat) (hl : p.lix + p.l.length ≤ N) : ∀ es : List PE, (∀ e ∈ es, e.ix + es.length ≤ N) → p.lix + (p.mg es).2.length ≤ N ∧ (p.mg es).1 ≤ N ∧ (∀ e ∈ (p.mg es).2, e ∈ p.l ∨ e ∈ es)
  | [], _ => ⟨hl, Nat.zero_le _, fun e he => .inl he⟩
  | x :: es, h => by
    have ih := mg_bnd p N hl es (fun e he => by
      have := h e (List.mem_cons_of_mem _ he)
      simp only [List.length_cons] at this
      omega)
    have hx := h x (List.mem_cons_self ..)
    simp only [List.length_cons] at hx
    have ih2 : ∀ e ∈ (p.mg es).2, e ∈ p.l ∨ e ∈ x :: es := fun e he => (ih.2.2 e he).imp id (List.mem_cons_of_mem _)
    simp only [PR.mg]
    split
    · exact ⟨ih.1, ih.2.1, ih2⟩
    · split
      · exact ⟨ih.1, ih.2.1, ih2⟩
      · split
        · exact ⟨hl, Nat.zero_le _, fun e he => .inl he⟩
        · refine ⟨?_, by dsimp only; omega, fun e he => ?_⟩
          · dsimp only
            rw [List.length_append, List.length_take, List.length_cons]
            omega
          · rcases List.mem_append.1 he with h | h
            · exact .inl (List.mem_of_mem_take h)
            · exact .inr h
theorem rl_Merge (O : World) (F : Fz) (a : Nat) (r : Rf) (es : List En) (v : Value) (Fr : List Ent) (hr : r.ok F) (hes : ∀ e ∈ es, e.ok F) (hel : es.length ≤ 16) (hv : Sl F [] 4 v es.length (enV es)) (hB : ∀ e ∈ es.map En.pure, e.B) (hix : ∀ e ∈ es.map En.pure, e.ix + 16 ≤ 300000) :
    Does Tryz.prog O 107 #[ptrV r.lg, v] F (RfH a r Fr) (fun v F' H' => v = .int .u64 (r.p.mg (es.map En.pure)).1 ∧ F' = F ∧ ∃ r' : Rf, r'.ok F ∧ r'.p = { r.p with l := (r.p.mg (es.map En.pure)).2 } ∧ H' = RfH a r' Fr) := by
  have hb := hr.bnd
  obtain ⟨h1, h2, h3⟩ := mg_pure F r hr es
  obtain ⟨h4, h5, h6⟩ := mg_bnd r.p 300000 hr.B.last (es.map En.pure) (fun e he => by
    have := hix e he
    rw [List.length_map]
    omega)
  refine does_permB (perm_in (RfE a r) (LgE r.lg r.p.lix r.p.ltm r.p.lvt r.lbf r.l.length) (r.lbf.ents 4 (enV r.l)) (r.obf.ents 13 (mgV r.out) ++ Fr)) (lg_Merge O F r.lg r.p.lix r.p.ltm r.p.lvt r.lbf r.l es v _ (by omega) hr.lbf hr.lok hes (by omega) (by omega) hv) ?_
  rintro v F' H' _ ⟨rfl, rfl, bf', hbf', rfl⟩
  refine ⟨RfH a { r with l := (mg r.p.lix r.p.ltm r.l es).2, lbf := bf', p := { r.p with l := (r.p.mg (es.map En.pure)).2 } } Fr, (perm_in (RfE a r) (LgE r.lg r.p.lix r.p.ltm r.p.lvt bf' (mg r.p.lix r.p.ltm r.l es).2.length) (bf'.ents 4 (enV (mg r.p.lix r.p.ltm r.l es).2)) (r.obf.ents 13 (mgV r.out) ++ Fr)).symm, by rw [h1], rfl, { r with l := (mg r.p.lix r.p.ltm r.l es).2, lbf := bf', p := { r.p with l := (r.p.mg (es.map En.pure)).2 } }, ⟨{ hr.B with last := h4, l := fun e he => ?_ }, h2, fun e he => ?_, hbf', hr.out, hr.outok, hr.obf, hr.sd, hr.dr⟩, rfl, rfl⟩
  · rcases h6 e he with h | h
    · exact hr.B.l e h
    · exact hB e h
  · rcases h3 e he with h | h
    · exact hr.lok e h
    · exact hes e h
def PR.take1 (p : PR) (m : PM) : PR :=
  let q : PR := { p with l := (p.mg m.es).2 }
  let q2 := if 0 < (p.mg m.es).1 then q.mark (p.mg m.es).1 else q
  { q2 with cm := max q2.cm (min m.cm (m.ix + m.es.length)) }
def PR.take (p : PR) (m : PM) : PR :=
  if m.ix < p.lix then p.send { PM.z with kd := 6, to := m.fr, ok := true, ix := p.lix }
  else if p.fit m.ix m.lt = false then p.send { PM.z with kd := 6, to := m.fr, ix := if m.ix = 0 then p.last else min p.last (m.ix - 1) }
  else (p.take1 m).send { PM.z with kd := 6, to := m.fr, ok := true, ix := m.ix + m.es.length }
set_option maxHeartbeats 1000000 in
theorem r_take (O : World) (F : Fz) (a : Nat) (r : Rf) (m : Mg) (Fr : List Ent) (hr : r.ok F) (hm : m.ok F) (ho : r.p.out.length < 300000) (hix : ∀ e ∈ m.p.es, e.ix + 16 ≤ 300000) (hmi : m.p.ix + 16 ≤ 300000) :
    Does Tryz.prog O 88 #[ptrV a, .agg m.cells.toArray] F (RfH a r Fr) (fun v F' H' => v = noneV ∧ F' = F ∧ ∃ r' : Rf, r'.ok F ∧ r'.p = r.p.take m.p ∧ H' = RfH a r' Fr) := by
  refine does_of_run (args := [_, _]) Tryz.func88 rfl rfl ?_
  have hel := hm.B.el
  have hesl : m.es.length = m.p.es.length := by rw [← hm.es, List.length_map]
  have hcb := hr.B.cm
  have hmc := hm.B.cm
  obtain ⟨ae, ce, hev, _⟩ := Sl.shape hm.ev
  obtain ⟨res, hres⟩ : ∃ res, res = r.p.take m.p := ⟨_, rfl⟩
  rw [← hres]
  unfold PR.take at hres
  refine r_seq (r_region rfl (o_act rfl rfl rfl rfl (a_box rfl) ?_))
  rintro v' H' ⟨x, rfl, rfl⟩
  refine j_heap (H' := .mem x m.cells 13 :: RfH a r Fr) rfl ?_
  refine j_perm (box_in a r _ Fr) ?_
  refine o_end (r_seq (r_seq (d_region 1000000 rfl ([RfE a r, .mem x m.cells 13]) ?_)))
  refine d_tk (i := 0) rfl rfl (rf_sub2 a r _ Fr) (v_field (k := 4) rfl rfl rfl) (d_tk (i := 1) rfl rfl (rf_sub2 a r _ Fr) (v_load rfl rfl (mgc (m := m) 4 (by first | exact mg_in _ _ _ _ _ _ | simp) rfl)) (d_tk (i := 2) rfl rfl (rf_sub2 a r _ Fr) (v_move rfl) (d_tk (i := 3) rfl rfl (rf_sub2 a r _ Fr) (v_nilCheck rfl) (d_tk (i := 4) rfl rfl (rf_sub2 a r _ Fr) (v_field (k := 8) rfl rfl rfl) (d_tk (i := 5) rfl rfl (rf_sub2 a r _ Fr) (v_load rfl rfl (rfc (r := r) 8 (by first | exact List.mem_cons_self .. | simp [RfH]) rfl)) (d_one (i := 6) (by decide +kernel) (d1_call rfl rfl rfl rfl (c_call callable44 rfl) (rl_Base _ _ a r _) ?_)))))))
  rintro v' F H' ⟨rfl, rfl, rfl⟩ _
  refine ⟨fun w hw => held_of hw (by first | exact Fz.le_refl _ | assumption) (rf_sub2 a r _ Fr), ?_⟩
  refine d_tk (i := 7) rfl rfl (rf_sub2 a r _ Fr) (v_lss rfl rfl) (d_end (by decide +kernel) (r_if rfl (fun h => ?_) (fun h => ?_)))
  · rw [if_pos (by omega)] at hres
    refine r_seq (d_region 9 rfl ([RfE a r, .mem x m.cells 13]) ?_)
    refine d_tk (i := 0) rfl rfl (rf_sub2 a r _ Fr) (v_move rfl) (d_tk (i := 1) rfl rfl (rf_sub2 a r _ Fr) (v_field (k := 1) rfl rfl rfl) (d_tk (i := 2) rfl rfl (rf_sub2 a r _ Fr) (v_load rfl rfl (mgc (m := m) 1 (by first | exact mg_in _ _ _ _ _ _ | simp) rfl)) (d_tk (i := 3) rfl rfl (rf_sub2 a r _ Fr) (v_move rfl) (d_tk (i := 4) rfl rfl (rf_sub2 a r _ Fr) (v_nilCheck rfl) (d_tk (i := 5) rfl rfl (rf_sub2 a r _ Fr) (v_field (k := 8) rfl rfl rfl) (d_tk (i := 6) rfl rfl (rf_sub2 a r _ Fr) (v_load rfl rfl (rfc (r := r) 8 (by first | exact List.mem_cons_self .. | simp [RfH]) rfl)) (d_one (i := 7) (by decide +kernel) (d1_call rfl rfl rfl rfl (c_call callable44 rfl) (rl_Base _ _ a r _) ?_))))))))
    rintro v' F H' ⟨rfl, rfl, rfl⟩ _
    refine ⟨fun w hw => held_of hw (by first | exact Fz.le_refl _ | assumption) (rf_sub2 a r _ Fr), ?_⟩
    refine d_tk (i := 8) rfl rfl (rf_sub2 a r _ Fr) (v_build rfl rfl) (d_one (i := 9) (by decide +kernel) (d1_lastCall 1000000 rfl rfl rfl rfl (c_call callable79 rfl) (r_send _ _ a r ⟨{ PM.z with kd := 6, to := m.p.fr, tm := 0, ix := r.p.lix, ok := true }, .slice none 0 0, [], .slice none 0 0⟩ _ hr (zMg_ok m.p hm.B 6 (by decide) 0 _ (by decide) (by have := hr.B.last; omega) true) ho) ?_))
    rintro v' F H' ⟨rfl, rfl, q, hq, hqp, rfl⟩ _
    refine ⟨[], ?_⟩
    refine j_drop (box_out a q _ Fr) ?_
    refine d_end (by decide +kernel) ?_
    exact r_ret0 Tryz.func88 rfl ⟨⟨rfl, rfl, q, hq, by rw [hqp, hres], rfl⟩, Fz.le_refl _⟩
  · rw [if_neg (by omega)] at hres
    refine r_skip (r_seq (r_seq (d_region 1000000 rfl ([RfE a r, .mem x m.cells 13]) ?_)))
    refine d_tk (i := 0) rfl rfl (rf_sub2 a r _ Fr) (v_move rfl) (d_tk (i := 1) rfl rfl (rf_sub2 a r _ Fr) (v_nilCheck rfl) (d_tk (i := 2) rfl rfl (rf_sub2 a r _ Fr) (v_field (k := 8) rfl rfl rfl) (d_tk (i := 3) rfl rfl (rf_sub2 a r _ Fr) (v_load rfl rfl (rfc (r := r) 8 (by first | exact List.mem_cons_self .. | simp [RfH]) rfl)) (d_tk (i := 4) rfl rfl (rf_sub2 a r _ Fr) (v_field (k := 4) rfl rfl rfl) (d_tk (i := 5) rfl rfl (rf_sub2 a r _ Fr) (v_load rfl rfl (mgc (m := m) 4 (by first | exact mg_in _ _ _ _ _ _ | simp) rfl)) (d_tk (i := 6) rfl rfl (rf_sub2 a r _ Fr) (v_field (k := 5) rfl rfl rfl) (d_tk (i := 7) rfl rfl (rf_sub2 a r _ Fr) (v_load rfl rfl (mgc (m := m) 5 (by first | exact mg_in _ _ _ _ _ _ | simp) rfl)) (d_one (i := 8) (by decide +kernel) (d1_call rfl rfl rfl rfl (c_call callable106 rfl) (rl_Fit _ _ a r m.p.ix m.p.lt _ hr (by omega)) ?_)))))))))
    rintro v' F H' ⟨rfl, rfl, rfl⟩ _
    refine ⟨fun w hw => held_of hw (by first | exact Fz.le_refl _ | assumption) (rf_sub2 a r _ Fr), ?_⟩
    cases hf : r.p.fit m.p.ix m.p.lt with
    | false =>
      rw [hf, if_pos rfl] at hres
      refine d_tk (i := 9) rfl rfl (rf_sub2 a r _ Fr) (v_not rfl) (d_end (by decide +kernel) (r_true rfl ?_))
      have hla : r.p.last ≤ 300000 := hr.B.last
      have hmin : min r.p.last (if m.p.ix = 0 then 18446744073709551615 else m.p.ix - 1) = if m.p.ix = 0 then r.p.last else min r.p.last (m.p.ix - 1) := by
        split <;> omega
      have hsub : IntKind.u64.wrap ((m.p.ix : Int) - 1) = ((if m.p.ix = 0 then 18446744073709551615 else m.p.ix - 1 : Nat) : Int) := by
        split
        · rename_i h0
          rw [h0]
          decide
        · exact (wrap_u64 (by omega) (by omega)).trans (by omega)
      refine r_seq (d_region 13 rfl ([RfE a r, .mem x m.cells 13]) ?_)
      refine d_tk (i := 0) rfl rfl (rf_sub2 a r _ Fr) (v_move rfl) (d_tk (i := 1) rfl rfl (rf_sub2 a r _ Fr) (v_field (k := 1) rfl rfl rfl) (d_tk (i := 2) rfl rfl (rf_sub2 a r _ Fr) (v_load rfl rfl (mgc (m := m) 1 (by first | exact mg_in _ _ _ _ _ _ | simp) rfl)) (d_tk (i := 3) rfl rfl (rf_sub2 a r _ Fr) (v_move rfl) (d_tk (i := 4) rfl rfl (rf_sub2 a r _ Fr) (v_nilCheck rfl) (d_tk (i := 5) rfl rfl (rf_sub2 a r _ Fr) (v_field (k := 8) rfl rfl rfl) (d_tk (i := 6) rfl rfl (rf_sub2 a r _ Fr) (v_load rfl rfl (rfc (r := r) 8 (by first | exact List.mem_cons_self .. | simp [RfH]) rfl)) (d_tk (i := 8) rfl rfl (rf_sub2 a r _ Fr) (v_field (k := 4) rfl rfl rfl) (d_tk (i := 9) rfl rfl (rf_sub2 a r _ Fr) (v_load rfl rfl (mgc (m := m) 4 (by first | exact mg_in _ _ _ _ _ _ | simp) rfl)) (d_tk (i := 10) rfl rfl (rf_sub2 a r _ Fr) (v_sub rfl rfl hsub) (d_one (i := 7) (by decide +kernel) (d1_call rfl rfl rfl rfl (c_call callable45 rfl) (rl_Last _ _ a r _ hr) ?_)))))))))))
      rintro v' F H' ⟨rfl, rfl, rfl⟩ _
      refine ⟨fun w hw => held_of hw (by first | exact Fz.le_refl _ | assumption) (rf_sub2 a r _ Fr), ?_⟩
      refine d_tk (i := 11) rfl rfl (rf_sub2 a r _ Fr) (v_minN rfl rfl hmin) (d_tk (i := 12) rfl rfl (rf_sub2 a r _ Fr) (v_build rfl rfl) (d_one (i := 13) (by decide +kernel) (d1_lastCall 1000000 rfl rfl rfl rfl (c_call callable79 rfl) (r_send _ _ a r ⟨{ PM.z with kd := 6, to := m.p.fr, tm := 0, ix := if m.p.ix = 0 then r.p.last else min r.p.last (m.p.ix - 1), ok := false }, .slice none 0 0, [], .slice none 0 0⟩ _ hr (zMg_ok m.p hm.B 6 (by decide) 0 _ (by decide) (by split <;> omega) false) ho) ?_)))
      rintro v' F H' ⟨rfl, rfl, q, hq, hqp, rfl⟩ _
      refine ⟨[], ?_⟩
      refine j_drop (box_out a q _ Fr) ?_
      refine d_end (by decide +kernel) ?_
      exact r_ret0 Tryz.func88 rfl ⟨⟨rfl, rfl, q, hq, by rw [hqp, hres], rfl⟩, Fz.le_refl _⟩
    | true =>
      rw [hf, if_neg (by simp)] at hres
      obtain ⟨g1, g2, g3⟩ := mg_bnd r.p 300000 hr.B.last m.p.es (fun e he => by have := hix e he; omega)
      refine d_tk (i := 9) rfl rfl (rf_sub2 a r _ Fr) (v_not rfl) (d_end (by decide +kernel) (r_false rfl (r_skip (r_seq ?_))))
      refine r_join (fun q : Rf => q.ok F ∧ q.p = if 0 < (r.p.mg m.p.es).1 then ({ r.p with l := (r.p.mg m.p.es).2 } : PR).mark (r.p.mg m.p.es).1 else { r.p with l := (r.p.mg m.p.es).2 }) (fun _ => [(0, ptrV a), (3, ptrV x)]) (fun _ => F) (fun q => RfH a q (.mem x m.cells 13 :: Fr)) ?_ ?_
      · intro J
        refine r_seq (d_region 6 rfl ([RfE a r, .mem x m.cells 13]) ?_)
        refine d_tk (i := 0) rfl rfl (rf_sub2 a r _ Fr) (v_move rfl) (d_tk (i := 1) rfl rfl (rf_sub2 a r _ Fr) (v_nilCheck rfl) (d_tk (i := 2) rfl rfl (rf_sub2 a r _ Fr) (v_field (k := 8) rfl rfl rfl) (d_tk (i := 3) rfl rfl (rf_sub2 a r _ Fr) (v_load rfl rfl (rfc (r := r) 8 (by first | exact List.mem_cons_self .. | simp [RfH]) rfl)) (d_tk (i := 4) rfl rfl (rf_sub2 a r _ Fr) (v_field (k := 8) rfl rfl rfl) (d_tk (i := 5) rfl rfl (rf_sub2 a r _ Fr) (v_load rfl rfl (mgc (m := m) 8 (by first | exact mg_in _ _ _ _ _ _ | simp) rfl)) (d_one (i := 6) (by decide +kernel) (d1_lastCall 1000000 rfl rfl rfl rfl (c_call callable107 rfl) (rl_Merge _ _ a r m.es m.ev _ hr hm.eok (by omega) hm.ev (by rw [hm.es]; exact hm.B.es) (by rw [hm.es]; exact hix)) ?_)))))))
        rintro v' F H' ⟨rfl, rfl, q, hq, hqp, rfl⟩ _
        refine ⟨[], ?_⟩
        rw [hm.es] at hqp ⊢
        refine d_tk (i := 7) rfl rfl (by simp) (v_assign rfl) (d_end (by decide +kernel) (r_seq (r_region rfl (o_vl rfl rfl (v_move rfl) (o_vl rfl rfl (v_gtr rfl rfl) (o_end (r_if rfl (fun h5 => ?_) (fun h5 => ?_))))))))
        · have hp1 : 0 < (r.p.mg m.p.es).1 := by omega
          rw [if_pos hp1] at J
          refine r_region rfl (o_vl rfl rfl (v_move rfl) (o_vl rfl rfl (v_move rfl) ?_))
          refine j_heap (H' := RfE a q :: RfT q (.mem x m.cells 13 :: Fr)) rfl ?_
          refine o_call rfl rfl rfl rfl (c_call callable57 rfl) (r_mark _ _ a q (r.p.mg m.p.es).1 _ hp1 (by omega)) ?_
          rintro v' F H' ⟨rfl, rfl, rfl⟩ _
          refine j_heap (H' := RfH a { q with p := q.p.mark (r.p.mg m.p.es).1 } (.mem x m.cells 13 :: Fr)) rfl ?_
          refine o_end ?_
          refine j_keep ?_ (J _ ⟨hq.set _ (mark_B hq.B hp1 g2) rfl rfl rfl rfl, by dsimp only; rw [hqp]⟩)
          exact ⟨rfl, rfl, trivial⟩
        · have hp1 : ¬ 0 < (r.p.mg m.p.es).1 := by omega
          rw [if_neg hp1] at J
          refine r_skip ?_
          refine j_keep ?_ (J q ⟨hq, hqp⟩)
          exact ⟨rfl, rfl, trivial⟩
      · rintro q ⟨hq, hqp⟩
        have hqc := hq.B.cm
        obtain ⟨q2, hq2⟩ : ∃ q2 : Rf, q2 = { q with p := { q.p with cm := max q.p.cm (min m.p.cm (m.p.ix + m.p.es.length)) } } := ⟨_, rfl⟩
        have hq2ok : q2.ok F := by rw [hq2]; exact hq.set _ { hq.B with cm := by dsimp only; omega } rfl rfl rfl rfl
        have hq2p : q2.p = r.p.take1 m.p := by
          rw [hq2]
          unfold PR.take1
          dsimp only
          rw [hqp]
        have hqo : q2.p.out = r.p.out := by
          rw [hq2]
          show q.p.out = _
          rw [hqp]
          split <;> rfl
        refine r_seq (r_region rfl (o_vl rfl rfl (v_field (k := 4) rfl rfl rfl) (o_vl rfl rfl (v_load rfl rfl (mgc (m := m) 4 (by first | exact mg_in _ _ _ _ _ _ | simp) rfl)) (o_vl rfl rfl (v_field (k := 8) rfl rfl rfl) (o_vl rfl rfl (v_load (v := .slice ae m.es.length ce) rfl rfl (by rw [← hev]; exact mgc (m := m) 8 (mg_in _ _ _ _ _ _) rfl)) (o_vl rfl rfl (v_len rfl rfl) (o_vl rfl rfl (v_conv (r := (m.p.es.length : Int)) rfl rfl rfl ((wrap_u64 (by omega) (by omega)).trans (by omega))) (o_vl rfl rfl (v_add rfl rfl (r := ((m.p.ix + m.p.es.length : Nat) : Int)) ((wrap_u64 (by omega) (by omega)).trans (by omega))) (o_vl rfl rfl (v_assign rfl) (o_end (r_seq (d_region 12 rfl ([RfE a q, .mem x m.cells 13]) ?_))))))))))))
        refine d_tk (i := 0) rfl rfl (rf_sub2 a q _ Fr) (v_move rfl) (d_tk (i := 1) rfl rfl (rf_sub2 a q _ Fr) (v_move rfl) (d_tk (i := 2) rfl rfl (rf_sub2 a q _ Fr) (v_nilCheck rfl) (d_tk (i := 3) rfl rfl (rf_sub2 a q _ Fr) (v_field (k := 9) rfl rfl rfl) (d_tk (i := 4) rfl rfl (rf_sub2 a q _ Fr) (v_load rfl rfl (rfc (r := q) 9 (by first | exact List.mem_cons_self .. | simp [RfH]) rfl)) (d_tk (i := 5) rfl rfl (rf_sub2 a q _ Fr) (v_field (k := 6) rfl rfl rfl) (d_tk (i := 6) rfl rfl (rf_sub2 a q _ Fr) (v_load rfl rfl (mgc (m := m) 6 (by first | exact mg_in _ _ _ _ _ _ | simp) rfl)) (d_tk (i := 7) rfl rfl (rf_sub2 a q _ Fr) (v_move rfl) (d_tk (i := 8) rfl rfl (rf_sub2 a q _ Fr) (v_minN rfl rfl rfl) (d_tk (i := 9) rfl rfl (rf_sub2 a q _ Fr) (v_maxN rfl rfl rfl) (d_tk (i := 10) rfl rfl (rf_sub2 a q _ Fr) (v_nilCheck rfl) (d_tk (i := 11) rfl rfl (rf_sub2 a q _ Fr) (v_field (k := 9) rfl rfl rfl) ?_)))))))))))
        refine j_heap (H' := RfE a q :: RfT q (.mem x m.cells 13 :: Fr)) rfl ?_
        refine d_one (i := 12) (by decide +kernel) ?_
        refine d1_last 1000000 ([]) rfl rfl rfl (a_rf q2 rfl rfl rfl rfl (Nat.le_of_ble_eq_true rfl) (by rw [hq2]; rfl)) ?_
        refine j_heap (H' := RfH a q2 (.mem x m.cells 13 :: Fr)) (by rw [hq2]; rfl) ?_
        refine d_end (by decide +kernel) (r_region rfl (o_vl rfl rfl (v_move rfl) (o_vl rfl rfl (v_field (k := 1) rfl rfl rfl) (o_vl rfl rfl (v_load rfl rfl (mgc (m := m) 1 (by first | exact mg_in _ _ _ _ _ _ | simp) rfl)) (o_vl rfl rfl (v_move rfl) (o_vl rfl rfl (v_build rfl rfl) (o_call rfl rfl rfl rfl (c_call callable79 rfl) (r_send _ _ a q2 ⟨{ PM.z with kd := 6, to := m.p.fr, tm := 0, ix := m.p.ix + m.p.es.length, ok := true }, .slice none 0 0, [], .slice none 0 0⟩ _ hq2ok (zMg_ok m.p hm.B 6 (by decide) 0 _ (by decide) (by omega) true) (by rw [hqo]; exact ho)) ?_)))))))
        rintro v' F H' ⟨rfl, rfl, q3, hq3, hqp3, rfl⟩ _
        refine j_drop (box_out a q3 _ Fr) ?_
        refine o_end ?_
        exact r_fall0 Tryz.func88 rfl ⟨⟨rfl, rfl, q3, hq3, by rw [hqp3, hq2p, hres], rfl⟩, Fz.le_refl _⟩
theorem rl_Reset (O : World) (F : Fz) (a : Nat) (r : Rf) (ix tm vt : Nat) (dv : Value) (Fr : List Ent) :
    Does Tryz.prog O 108 #[ptrV r.lg, .agg #[.int .u64 ix, .int .u64 tm, .int .u64 vt, dv]] F (RfH a r Fr) (fun v F' H' => F' = F ∧ H' = RfH a { r with l := [], lbf := .nil, p := { r.p with lix := ix, ltm := tm, lvt := vt, l := [] } } Fr) := by
  refine does_permB (perm_in (RfE a r) (LgE r.lg r.p.lix r.p.ltm r.p.lvt r.lbf r.l.length) (r.lbf.ents 4 (enV r.l)) (r.obf.ents 13 (mgV r.out) ++ Fr)) (lg_Reset O F r.lg r.p.lix r.p.ltm r.p.lvt r.lbf r.l _ ix tm vt dv) ?_
  rintro v F' H' _ ⟨rfl, rfl⟩
  exact ⟨RfH a { r with l := [], lbf := .nil, p := { r.p with lix := ix, ltm := tm, lvt := vt, l := [] } } Fr, (perm_in (RfE a r) (LgE r.lg ix tm vt .nil 0) [] (r.obf.ents 13 (mgV r.out) ++ Fr)).symm, rfl, rfl⟩
def PR.install1 (p : PR) (m : PM) : PR :=
  if p.cm < m.six then
    (if (p.termAt m.six).2 = true ∧ (p.termAt m.six).1 = m.stm then { p with cm := m.six }
     else { p with lix := m.six, ltm := m.stm, lvt := m.svt, l := [], cm := m.six, st := m.six, fresh := 0, six := m.six, stm := m.stm, svt := m.svt, sd := m.sd, rs := true })
  else p
def PR.install (p : PR) (m : PM) : PR := (p.install1 m).send { PM.z with kd := 6, to := m.fr, ok := true, ix := (p.install1 m).cm }
theorem msnap_cell {x : Nat} {m : Mg} {F : Fz} {H : List Ent} (hm : Ent.mem x m.cells 13 ∈ H) (k : Nat) (c : Value) (hc : [Value.int .u64 m.p.six, .int .u64 m.p.stm, .int .u64 m.p.svt, m.sdv][k]? = some c) : Cell F H x (0 + 9 + k) c := by
  have hk : k < 4 := by
    rcases Nat.lt_or_ge k 4 with h | h
    · exact h
    · rw [List.getElem?_eq_none (by simpa using h)] at hc; cases hc
  rw [Nat.zero_add]
  refine cell_own (cs := m.cells) (n := 13) hm ?_
  rw [← hc]
  have : k = 0 ∨ k = 1 ∨ k = 2 ∨ k = 3 := by omega
  rcases this with rfl | rfl | rfl | rfl <;> rfl
section
variable {C : Cx} {τ : Env} {F : Fz} {H : List Ent} {ty t : TypeId} {pos : String} {aft : Array Edge} {g : Option (Nat × Bool)} {x y : Operand}
theorem a_rf4 {a : Nat} {r : Rf} (r' : Rf) {off : Nat} {v1 v2 v3 v4 : Value} (hs : (C.P.info? t).map (·.size) = some 4) (h1 : [v1, v2, v3, v4].all oneCellB = true) (hx : ev τ x = some (.pointer (some ⟨a, off, none⟩))) (hy : ev τ y = some (.agg #[v1, v2, v3, v4])) (hfit : off + 4 ≤ 36) (hc : r'.cells = putAt r.cells off [v1, v2, v3, v4]) :
    Act0 C ⟨none, .store t x y, ty, pos, aft, g⟩ τ F (RfE a r :: H) (RfE a r' :: H) := by
  have := a_store (C := C) (F := F) (H := RfE a r :: H) (ty := ty) (pos := pos) (aft := aft) (g := g) (sz := 4) (v := .agg #[v1, v2, v3, v4]) 0 (b := a) (n := 36) (cs := r.cells) rfl hs rfl h1 hx hy hfit
  unfold RfE
  rw [hc]
  exact this
end
set_option maxHeartbeats 1000000 in
theorem r_install (O : World) (F : Fz) (a : Nat) (r : Rf) (m : Mg) (Fr : List Ent) (hr : r.ok F) (hm : m.ok F) (ho : r.p.out.length < 300000) :
    Does Tryz.prog O 89 #[ptrV a, .agg m.cells.toArray] F (RfH a r Fr) (fun v F' H' => v = noneV ∧ F' = F ∧ ∃ r' : Rf, r'.ok F ∧ r'.p = r.p.install m.p ∧ H' = RfH a r' Fr) := by
  refine does_of_run (args := [_, _]) Tryz.func89 rfl rfl ?_
  have hsx := hm.B.six
  have hsd1 : oneCellB m.sdv = true := by
    obtain ⟨a2, c2, h2, _⟩ := Sl.shape hm.sd
    rw [h2]
    rfl
  refine r_seq (r_region rfl (o_act rfl rfl rfl rfl (a_box rfl) ?_))
  rintro v' H' ⟨x, rfl, rfl⟩
  refine j_heap (H' := .mem x m.cells 13 :: RfH a r Fr) rfl ?_
  refine j_perm (box_in a r _ Fr) ?_
  refine o_end (r_seq ?_)
  refine r_join (fun q : Rf => q.ok F ∧ q.p = r.p.install1 m.p) (fun _ => [(0, ptrV a), (3, ptrV x)]) (fun _ => F) (fun q => RfH a q (.mem x m.cells 13 :: Fr)) ?_ ?_
  · intro J
    obtain ⟨res, hres⟩ : ∃ res, res = r.p.install1 m.p := ⟨_, rfl⟩
    rw [← hres] at J
    unfold PR.install1 at hres
    refine r_seq (d_region 1000000 rfl ([RfE a r, .mem x m.cells 13]) ?_)
    refine d_tk (i := 0) rfl rfl (rf_sub2 a r _ Fr) (v_field (k := 9) rfl rfl rfl) (d_tk (i := 1) rfl rfl (rf_sub2 a r _ Fr) (v_field (k := 0) rfl rfl rfl) (d_tk (i := 2) rfl rfl (rf_sub2 a r _ Fr) (v_load rfl rfl (mgc (m := m) 9 (by first | exact mg_in _ _ _ _ _ _ | simp) rfl)) (d_tk (i := 3) rfl rfl (rf_sub2 a r _ Fr) (v_move rfl) (d_tk (i := 4) rfl rfl (rf_sub2 a r _ Fr) (v_nilCheck rfl) (d_tk (i := 5) rfl rfl (rf_sub2 a r _ Fr) (v_field (k := 9) rfl rfl rfl) (d_tk (i := 6) rfl rfl (rf_sub2 a r _ Fr) (v_load rfl rfl (rfc (r := r) 9 (by first | exact List.mem_cons_self .. | simp [RfH]) rfl)) (d_tk (i := 7) rfl rfl (rf_sub2 a r _ Fr) (v_gtr rfl rfl) (d_end (by decide +kernel) (r_if rfl (fun h => ?_) (fun h => ?_))))))))))
    · rw [if_pos (by omega)] at hres
      refine r_seq (d_region 1000000 rfl ([RfE a r, .mem x m.cells 13]) ?_)
      refine d_tk (i := 0) rfl rfl (rf_sub2 a r _ Fr) (v_move rfl) (d_tk (i := 1) rfl rfl (rf_sub2 a r _ Fr) (v_nilCheck rfl) (d_tk (i := 2) rfl rfl (rf_sub2 a r _ Fr) (v_field (k := 8) rfl rfl rfl) (d_tk (i := 3) rfl rfl (rf_sub2 a r _ Fr) (v_load rfl rfl (rfc (r := r) 8 (by first | exact List.mem_cons_self .. | simp [RfH]) rfl)) (d_tk (i := 4) rfl rfl (rf_sub2 a r _ Fr) (v_field (k := 9) rfl rfl rfl) (d_tk (i := 5) rfl rfl (rf_sub2 a r _ Fr) (v_field (k := 0) rfl rfl rfl) (d_tk (i := 6) rfl rfl (rf_sub2 a r _ Fr) (v_load rfl rfl (mgc (m := m) 9 (by first | exact mg_in _ _ _ _ _ _ | simp) rfl)) (d_one (i := 7) (by decide +kernel) (d1_call rfl rfl rfl rfl (c_call callable31 rfl) (rl_Term _ _ a r m.p.six _ hr (by omega)) ?_))))))))
      rintro v' F H' ⟨rfl, rfl, rfl⟩ _
      refine ⟨fun w hw => held_of hw (by first | exact Fz.le_refl _ | assumption) (rf_sub2 a r _ Fr), ?_⟩
      have hR0 : ∀ r0 : Rf, r0 = { r with l := [], lbf := .nil, p := { r.p with lix := m.p.six, ltm := m.p.stm, lvt := m.p.svt, l := [], cm := m.p.six, st := m.p.six, fresh := 0, six := m.p.six, stm := m.p.stm, svt := m.p.svt, sd := m.p.sd, rs := true }, sdv := m.sdv } → r0.ok F := fun r0 h0 => by
        have hstm := hm.B.stm
        rw [h0]
        exact ⟨{ hr.B with last := hsx, ltm := hm.B.stm, lvt := hm.B.svt, l := by simp, cm := hsx, st := hsx, fresh := by simp, six := hsx, stm := hm.B.stm, svt := hm.B.svt, sd := hm.B.sd }, rfl, by simp, rfl, hr.out, hr.outok, hr.obf, hm.sd, hr.dr⟩
      obtain ⟨r1, hr1⟩ : ∃ r1 : Rf, r1 = { r with l := [], lbf := .nil, p := { r.p with lix := m.p.six, ltm := m.p.stm, lvt := m.p.svt, l := [] } } := ⟨_, rfl⟩
      obtain ⟨r6, hr6⟩ : ∃ r6 : Rf, r6 = { r with l := [], lbf := .nil, p := { r.p with lix := m.p.six, ltm := m.p.stm, lvt := m.p.svt, l := [], cm := m.p.six, st := m.p.six, fresh := 0, six := m.p.six, stm := m.p.stm, svt := m.p.svt, sd := m.p.sd, rs := true }, sdv := m.sdv } := ⟨_, rfl⟩
      cases hb : (r.p.termAt m.p.six).2 with
      | true =>
        rw [hb] at hres
        refine d_tk (i := 8) rfl rfl (rf_sub2 a r _ Fr) (v_move rfl) (d_tk (i := 9) rfl rfl (rf_sub2 a r _ Fr) (v_extract rfl rfl) (d_tk (i := 10) rfl rfl (rf_sub2 a r _ Fr) (v_extract rfl rfl) (d_tk (i := 11) rfl rfl (rf_sub2 a r _ Fr) (v_assign rfl) (d_tk (i := 12) rfl rfl (rf_sub2 a r _ Fr) (v_assign rfl) (d_end (by decide +kernel) (r_seq (r_region rfl (o_vl rfl rfl (v_move rfl) (o_vl rfl rfl (v_move rfl) (o_vl rfl rfl (v_move rfl) (o_vl rfl rfl (v_field (k := 9) rfl rfl rfl) (o_vl rfl rfl (v_field (k := 1) rfl rfl rfl) (o_vl rfl rfl (v_load rfl rfl (mgc (m := m) 10 (by first | exact mg_in _ _ _ _ _ _ | simp) rfl)) ?_)))))))))))))
        refine o_vl rfl rfl (v_eql rfl rfl) (o_vl rfl rfl (v_pick1 rfl rfl) (o_end (r_if rfl (fun h2 => ?_) (fun h2 => ?_))))
        · rw [if_pos ⟨rfl, by omega⟩] at hres
          obtain ⟨rc, hrc⟩ : ∃ rc : Rf, rc = { r with p := { r.p with cm := m.p.six } } := ⟨_, rfl⟩
          refine r_region rfl (o_vl rfl rfl (v_move rfl) (o_vl rfl rfl (v_field (k := 9) rfl rfl rfl) (o_vl rfl rfl (v_field (k := 0) rfl rfl rfl) (o_vl rfl rfl (v_load rfl rfl (mgc (m := m) 9 (by first | exact mg_in _ _ _ _ _ _ | simp) rfl)) (o_vl rfl rfl (v_nilCheck rfl) (o_vl rfl rfl (v_field (k := 9) rfl rfl rfl) ?_))))))
          refine j_heap (H' := RfE a r :: RfT r (.mem x m.cells 13 :: Fr)) rfl ?_
          refine o_act0 rfl rfl rfl (a_rf rc rfl rfl rfl rfl (Nat.le_of_ble_eq_true rfl) (by rw [hrc]; rfl)) ?_
          refine j_heap (H' := RfH a rc (.mem x m.cells 13 :: Fr)) (by rw [hrc]; rfl) ?_
          refine o_end ?_
          refine j_keep ?_ (J rc ⟨by rw [hrc]; exact hr.set _ { hr.B with cm := hsx } rfl rfl rfl rfl, by rw [hres, hrc]⟩)
          exact ⟨rfl, rfl, trivial⟩
        · rw [if_neg (fun hc => h2 (by have := hc.2; omega))] at hres
          refine r_seq (d_region 6 rfl ([RfE a r, .mem x m.cells 13]) ?_)
          refine d_tk (i := 0) rfl rfl (rf_sub2 a r _ Fr) (v_move rfl) (d_tk (i := 1) rfl rfl (rf_sub2 a r _ Fr) (v_nilCheck rfl) (d_tk (i := 2) rfl rfl (rf_sub2 a r _ Fr) (v_field (k := 8) rfl rfl rfl) (d_tk (i := 3) rfl rfl (rf_sub2 a r _ Fr) (v_load rfl rfl (rfc (r := r) 8 (by first | exact List.mem_cons_self .. | simp [RfH]) rfl)) (d_tk (i := 4) rfl rfl (rf_sub2 a r _ Fr) (v_field (k := 9) rfl rfl rfl) (d_tk (i := 5) rfl rfl (rf_sub2 a r _ Fr) (v_loadAgg (sz := 4) (cs := [.int .u64 m.p.six, .int .u64 m.p.stm, .int .u64 m.p.svt, m.sdv]) rfl rfl rfl rfl (msnap_cell (by simp))) (d_one (i := 6) (by decide +kernel) (d1_lastCall 1000000 rfl rfl rfl rfl (c_call callable108 rfl) (rl_Reset _ _ a r m.p.six m.p.stm m.p.svt m.sdv _) ?_)))))))
          rintro v' F H' ⟨rfl, rfl⟩ _
          refine ⟨[], ?_⟩
          rw [← hr1]
          refine j_heap (H' := RfE a r1 :: RfT r1 (.mem x m.cells 13 :: Fr)) rfl ?_
          refine d_end (by decide +kernel) (r_seq (d_region 1000000 rfl ([.mem x m.cells 13]) ?_))
          refine d_tk (i := 0) rfl rfl (by intro z hz; rw [List.mem_singleton.1 hz]; exact mg_in a _ x m.cells 13 Fr) (v_move rfl) (d_tk (i := 1) rfl rfl (by intro z hz; rw [List.mem_singleton.1 hz]; exact mg_in a _ x m.cells 13 Fr) (v_move rfl) (d_tk (i := 2) rfl rfl (by intro z hz; rw [List.mem_singleton.1 hz]; exact mg_in a _ x m.cells 13 Fr) (v_move rfl) (d_tk (i := 3) rfl rfl (by intro z hz; rw [List.mem_singleton.1 hz]; exact mg_in a _ x m.cells 13 Fr) (v_field (k := 9) rfl rfl rfl) (d_tk (i := 4) rfl rfl (by intro z hz; rw [List.mem_singleton.1 hz]; exact mg_in a _ x m.cells 13 Fr) (v_field (k := 0) rfl rfl rfl) (d_tk (i := 5) rfl rfl (by intro z hz; rw [List.mem_singleton.1 hz]; exact mg_in a _ x m.cells 13 Fr) (v_load rfl rfl (mgc (m := m) 9 (by first | exact mg_in _ _ _ _ _ _ | simp) rfl)) (d_tk (i := 6) rfl rfl (by intro z hz; rw [List.mem_singleton.1 hz]; exact mg_in a _ x m.cells 13 Fr) (v_field (k := 9) rfl rfl rfl) (d_tk (i := 7) rfl rfl (by intro z hz; rw [List.mem_singleton.1 hz]; exact mg_in a _ x m.cells 13 Fr) (v_field (k := 0) rfl rfl rfl) (d_tk (i := 8) rfl rfl (by intro z hz; rw [List.mem_singleton.1 hz]; exact mg_in a _ x m.cells 13 Fr) (v_load rfl rfl (mgc (m := m) 9 (by first | exact mg_in _ _ _ _ _ _ | simp) rfl)) (d_tk (i := 9) rfl rfl (by intro z hz; rw [List.mem_singleton.1 hz]; exact mg_in a _ x m.cells 13 Fr) (v_nilCheck rfl) (d_tk (i := 10) rfl rfl (by intro z hz; rw [List.mem_singleton.1 hz]; exact mg_in a _ x m.cells 13 Fr) (v_field (k := 9) rfl rfl rfl) (d_one (i := 11) (by decide +kernel) ?_)))))))))))
          refine d1_act0 rfl rfl rfl (a_rf { r1 with p := { r1.p with cm := m.p.six } } rfl rfl rfl rfl (Nat.le_of_ble_eq_true rfl) rfl) (fun w hw => held_of hw (Fz.le_refl _) (by intro z hz; rw [List.mem_singleton.1 hz]; exact mg_in a _ x m.cells 13 Fr)) ?_
          refine j_heap (H' := RfH a { r1 with p := { r1.p with cm := m.p.six } } (.mem x m.cells 13 :: Fr)) rfl ?_
          refine d_tk (i := 12) rfl rfl (by intro z hz; rw [List.mem_singleton.1 hz]; exact mg_in a _ x m.cells 13 Fr) (v_nilCheck rfl) (d_tk (i := 13) rfl rfl (by intro z hz; rw [List.mem_singleton.1 hz]; exact mg_in a _ x m.cells 13 Fr) (v_field (k := 10) rfl rfl rfl) ?_)
          refine j_heap (H' := RfE a { r1 with p := { r1.p with cm := m.p.six } } :: RfT { r1 with p := { r1.p with cm := m.p.six } } (.mem x m.cells 13 :: Fr)) rfl ?_
          refine d_one (i := 14) (by decide +kernel) ?_
          refine d1_act0 rfl rfl rfl (a_rf { r1 with p := { r1.p with cm := m.p.six, st := m.p.six } } rfl rfl rfl rfl (Nat.le_of_ble_eq_true rfl) rfl) (fun w hw => held_of hw (Fz.le_refl _) (by intro z hz; rw [List.mem_singleton.1 hz]; exact mg_in a _ x m.cells 13 Fr)) ?_
          refine j_heap (H' := RfH a { r1 with p := { r1.p with cm := m.p.six, st := m.p.six } } (.mem x m.cells 13 :: Fr)) rfl ?_
          refine d_tk (i := 15) rfl rfl (by intro z hz; rw [List.mem_singleton.1 hz]; exact mg_in a _ x m.cells 13 Fr) (v_nilCheck rfl) (d_tk (i := 16) rfl rfl (by intro z hz; rw [List.mem_singleton.1 hz]; exact mg_in a _ x m.cells 13 Fr) (v_field (k := 30) rfl rfl rfl) ?_)
          refine j_heap (H' := RfE a { r1 with p := { r1.p with cm := m.p.six, st := m.p.six } } :: RfT { r1 with p := { r1.p with cm := m.p.six, st := m.p.six } } (.mem x m.cells 13 :: Fr)) rfl ?_
          refine d_one (i := 17) (by decide +kernel) ?_
          refine d1_act0 rfl rfl rfl (a_rf { r1 with p := { r1.p with cm := m.p.six, st := m.p.six, fresh := 0 } } rfl rfl rfl rfl (Nat.le_of_ble_eq_true rfl) rfl) (fun w hw => held_of hw (Fz.le_refl _) (by intro z hz; rw [List.mem_singleton.1 hz]; exact mg_in a _ x m.cells 13 Fr)) ?_
          refine j_heap (H' := RfH a { r1 with p := { r1.p with cm := m.p.six, st := m.p.six, fresh := 0 } } (.mem x m.cells 13 :: Fr)) rfl ?_
          refine d_end (by decide +kernel) (r_region rfl (o_vl rfl rfl (v_move rfl) (o_vl rfl rfl (v_move rfl) (o_vl rfl rfl (v_field (k := 9) rfl rfl rfl) (o_vl rfl rfl (v_loadAgg (sz := 4) (cs := [.int .u64 m.p.six, .int .u64 m.p.stm, .int .u64 m.p.svt, m.sdv]) rfl rfl rfl rfl (msnap_cell (mg_in _ _ _ _ _ _))) (o_vl rfl rfl (v_nilCheck rfl) (o_vl rfl rfl (v_field (k := 31) rfl rfl rfl) ?_)))))))
          refine j_heap (H' := RfE a { r1 with p := { r1.p with cm := m.p.six, st := m.p.six, fresh := 0 } } :: RfT { r1 with p := { r1.p with cm := m.p.six, st := m.p.six, fresh := 0 } } (.mem x m.cells 13 :: Fr)) rfl ?_
          refine o_act0 rfl rfl rfl (a_rf4 { r1 with p := { r1.p with cm := m.p.six, st := m.p.six, fresh := 0, six := m.p.six, stm := m.p.stm, svt := m.p.svt, sd := m.p.sd }, sdv := m.sdv } rfl (by simp only [List.all_cons, List.all_nil, hsd1, Bool.and_true]; rfl) rfl rfl (Nat.le_of_ble_eq_true rfl) rfl) ?_
          refine o_vl rfl rfl (v_nilCheck rfl) (o_vl rfl rfl (v_field (k := 35) rfl rfl rfl) (o_act0 rfl rfl rfl (a_rf r6 rfl rfl rfl rfl (Nat.le_of_ble_eq_true rfl) (by rw [hr6, hr1]; rfl)) ?_))
          refine j_heap (H' := RfH a r6 (.mem x m.cells 13 :: Fr)) (by rw [hr6, hr1]; rfl) ?_
          refine o_end ?_
          refine j_keep ?_ (J r6 ⟨hR0 r6 hr6, by rw [hres, hr6]⟩)
          exact ⟨rfl, rfl, trivial⟩
      | false =>
        rw [hb, if_neg (fun hc => by cases hc.1)] at hres
        refine d_tk (i := 8) rfl rfl (rf_sub2 a r _ Fr) (v_move rfl) (d_tk (i := 9) rfl rfl (rf_sub2 a r _ Fr) (v_extract rfl rfl) (d_tk (i := 10) rfl rfl (rf_sub2 a r _ Fr) (v_extract rfl rfl) (d_tk (i := 11) rfl rfl (rf_sub2 a r _ Fr) (v_assign rfl) (d_tk (i := 12) rfl rfl (rf_sub2 a r _ Fr) (v_assign rfl) (d_end (by decide +kernel) (r_seq (r_region rfl (o_vl rfl rfl (v_move rfl) (o_vl rfl rfl (v_move rfl) (o_sk rfl rfl (o_sk rfl rfl (o_sk rfl rfl (o_sk rfl rfl ?_)))))))))))))
        refine o_sk rfl rfl (o_vl rfl rfl (v_pick0 rfl rfl) (o_end (r_false rfl (r_seq (d_region 6 rfl ([RfE a r, .mem x m.cells 13]) ?_)))))
        refine d_tk (i := 0) rfl rfl (rf_sub2 a r _ Fr) (v_move rfl) (d_tk (i := 1) rfl rfl (rf_sub2 a r _ Fr) (v_nilCheck rfl) (d_tk (i := 2) rfl rfl (rf_sub2 a r _ Fr) (v_field (k := 8) rfl rfl rfl) (d_tk (i := 3) rfl rfl (rf_sub2 a r _ Fr) (v_load rfl rfl (rfc (r := r) 8 (by first | exact List.mem_cons_self .. | simp [RfH]) rfl)) (d_tk (i := 4) rfl rfl (rf_sub2 a r _ Fr) (v_field (k := 9) rfl rfl rfl) (d_tk (i := 5) rfl rfl (rf_sub2 a r _ Fr) (v_loadAgg (sz := 4) (cs := [.int .u64 m.p.six, .int .u64 m.p.stm, .int .u64 m.p.svt, m.sdv]) rfl rfl rfl rfl (msnap_cell (by simp))) (d_one (i := 6) (by decide +kernel) (d1_lastCall 1000000 rfl rfl rfl rfl (c_call callable108 rfl) (rl_Reset _ _ a r m.p.six m.p.stm m.p.svt m.sdv _) ?_)))))))
        rintro v' F H' ⟨rfl, rfl⟩ _
        refine ⟨[], ?_⟩
        rw [← hr1]
        refine j_heap (H' := RfE a r1 :: RfT r1 (.mem x m.cells 13 :: Fr)) rfl ?_
        refine d_end (by decide +kernel) (r_seq (d_region 1000000 rfl ([.mem x m.cells 13]) ?_))
        refine d_tk (i := 0) rfl rfl (by intro z hz; rw [List.mem_singleton.1 hz]; exact mg_in a _ x m.cells 13 Fr) (v_move rfl) (d_tk (i := 1) rfl rfl (by intro z hz; rw [List.mem_singleton.1 hz]; exact mg_in a _ x m.cells 13 Fr) (v_move rfl) (d_tk (i := 2) rfl rfl (by intro z hz; rw [List.mem_singleton.1 hz]; exact mg_in a _ x m.cells 13 Fr) (v_move rfl) (d_tk (i := 3) rfl rfl (by intro z hz; rw [List.mem_singleton.1 hz]; exact mg_in a _ x m.cells 13 Fr) (v_field (k := 9) rfl rfl rfl) (d_tk (i := 4) rfl rfl (by intro z hz; rw [List.mem_singleton.1 hz]; exact mg_in a _ x m.cells 13 Fr) (v_field (k := 0) rfl rfl rfl) (d_tk (i := 5) rfl rfl (by intro z hz; rw [List.mem_singleton.1 hz]; exact mg_in a _ x m.cells 13 Fr) (v_load rfl rfl (mgc (m := m) 9 (by first | exact mg_in _ _ _ _ _ _ | simp) rfl)) (d_tk (i := 6) rfl rfl (by intro z hz; rw [List.mem_singleton.1 hz]; exact mg_in a _ x m.cells 13 Fr) (v_field (k := 9) rfl rfl rfl) (d_tk (i := 7) rfl rfl (by intro z hz; rw [List.mem_singleton.1 hz]; exact mg_in a _ x m.cells 13 Fr) (v_field (k := 0) rfl rfl rfl) (d_tk (i := 8) rfl rfl (by intro z hz; rw [List.mem_singleton.1 hz]; exact mg_in a _ x m.cells 13 Fr) (v_load rfl rfl (mgc (m := m) 9 (by first | exact mg_in _ _ _ _ _ _ | simp) rfl)) (d_tk (i := 9) rfl rfl (by intro z hz; rw [List.mem_singleton.1 hz]; exact mg_in a _ x m.cells 13 Fr) (v_nilCheck rfl) (d_tk (i := 10) rfl rfl (by intro z hz; rw [List.mem_singleton.1 hz]; exact mg_in a _ x m.cells 13 Fr) (v_field (k := 9) rfl rfl rfl) (d_one (i := 11) (by decide +kernel) ?_)))))))))))
        refine d1_act0 rfl rfl rfl (a_rf { r1 with p := { r1.p with cm := m.p.six } } rfl rfl rfl rfl (Nat.le_of_ble_eq_true rfl) rfl) (fun w hw => held_of hw (Fz.le_refl _) (by intro z hz; rw [List.mem_singleton.1 hz]; exact mg_in a _ x m.cells 13 Fr)) ?_
        refine j_heap (H' := RfH a { r1 with p := { r1.p with cm := m.p.six } } (.mem x m.cells 13 :: Fr)) rfl ?_
        refine d_tk (i := 12) rfl rfl (by intro z hz; rw [List.mem_singleton.1 hz]; exact mg_in a _ x m.cells 13 Fr) (v_nilCheck rfl) (d_tk (i := 13) rfl rfl (by intro z hz; rw [List.mem_singleton.1 hz]; exact mg_in a _ x m.cells 13 Fr) (v_field (k := 10) rfl rfl rfl) ?_)
        refine j_heap (H' := RfE a { r1 with p := { r1.p with cm := m.p.six } } :: RfT { r1 with p := { r1.p with cm := m.p.six } } (.mem x m.cells 13 :: Fr)) rfl ?_
        refine d_one (i := 14) (by decide +kernel) ?_
        refine d1_act0 rfl rfl rfl (a_rf { r1 with p := { r1.p with cm := m.p.six, st := m.p.six } } rfl rfl rfl rfl (Nat.le_of_ble_eq_true rfl) rfl) (fun w hw => held_of hw (Fz.le_refl _) (by intro z hz; rw [List.mem_singleton.1 hz]; exact mg_in a _ x m.cells 13 Fr)) ?_
        refine j_heap (H' := RfH a { r1 with p := { r1.p with cm := m.p.six, st := m.p.six } } (.mem x m.cells 13 :: Fr)) rfl ?_
        refine d_tk (i := 15) rfl rfl (by intro z hz; rw [List.mem_singleton.1 hz]; exact mg_in a _ x m.cells 13 Fr) (v_nilCheck rfl) (d_tk (i := 16) rfl rfl (by intro z hz; rw [List.mem_singleton.1 hz]; exact mg_in a _ x m.cells 13 Fr) (v_field (k := 30) rfl rfl rfl) ?_)
        refine j_heap (H' := RfE a { r1 with p := { r1.p with cm := m.p.six, st := m.p.six } } :: RfT { r1 with p := { r1.p with cm := m.p.six, st := m.p.six } } (.mem x m.cells 13 :: Fr)) rfl ?_
        refine d_one (i := 17) (by decide +kernel) ?_
        refine d1_act0 rfl rfl rfl (a_rf { r1 with p := { r1.p with cm := m.p.six, st := m.p.six, fresh := 0 } } rfl rfl rfl rfl (Nat.le_of_ble_eq_true rfl) rfl) (fun w hw => held_of hw (Fz.le_refl _) (by intro z hz; rw [List.mem_singleton.1 hz]; exact mg_in a _ x m.cells 13 Fr)) ?_
        refine j_heap (H' := RfH a { r1 with p := { r1.p with cm := m.p.six, st := m.p.six, fresh := 0 } } (.mem x m.cells 13 :: Fr)) rfl ?_
        refine d_end (by decide +kernel) (r_region rfl (o_vl rfl rfl (v_move rfl) (o_vl rfl rfl (v_move rfl) (o_vl rfl rfl (v_field (k := 9) rfl rfl rfl) (o_vl rfl rfl (v_loadAgg (sz := 4) (cs := [.int .u64 m.p.six, .int .u64 m.p.stm, .int .u64 m.p.svt, m.sdv]) rfl rfl rfl rfl (msnap_cell (mg_in _ _ _ _ _ _))) (o_vl rfl rfl (v_nilCheck rfl) (o_vl rfl rfl (v_field (k := 31) rfl rfl rfl) ?_)))))))
        refine j_heap (H' := RfE a { r1 with p := { r1.p with cm := m.p.six, st := m.p.six, fresh := 0 } } :: RfT { r1 with p := { r1.p with cm := m.p.six, st := m.p.six, fresh := 0 } } (.mem x m.cells 13 :: Fr)) rfl ?_
        refine o_act0 rfl rfl rfl (a_rf4 { r1 with p := { r1.p with cm := m.p.six, st := m.p.six, fresh := 0, six := m.p.six, stm := m.p.stm, svt := m.p.svt, sd := m.p.sd }, sdv := m.sdv } rfl (by simp only [List.all_cons, List.all_nil, hsd1, Bool.and_true]; rfl) rfl rfl (Nat.le_of_ble_eq_true rfl) rfl) ?_
        refine o_vl rfl rfl (v_nilCheck rfl) (o_vl rfl rfl (v_field (k := 35) rfl rfl rfl) (o_act0 rfl rfl rfl (a_rf r6 rfl rfl rfl rfl (Nat.le_of_ble_eq_true rfl) (by rw [hr6, hr1]; rfl)) ?_))
        refine j_heap (H' := RfH a r6 (.mem x m.cells 13 :: Fr)) (by rw [hr6, hr1]; rfl) ?_
        refine o_end ?_
        refine j_keep ?_ (J r6 ⟨hR0 r6 hr6, by rw [hres, hr6]⟩)
        exact ⟨rfl, rfl, trivial⟩
    · rw [if_neg (by omega)] at hres
      refine r_skip ?_
      refine j_keep ?_ (J r ⟨hr, hres.symm⟩)
      exact ⟨rfl, rfl, trivial⟩
  · rintro q ⟨hq, hqp⟩
    have hqo : q.p.out = r.p.out := by
      rw [hqp]
      unfold PR.install1
      split
      · split <;> rfl
      · rfl
    refine d_region 8 rfl ([RfE a q, .mem x m.cells 13]) ?_
    refine d_tk (i := 0) rfl rfl (rf_sub2 a q _ Fr) (v_move rfl) (d_tk (i := 1) rfl rfl (rf_sub2 a q _ Fr) (v_field (k := 1) rfl rfl rfl) (d_tk (i := 2) rfl rfl (rf_sub2 a q _ Fr) (v_load rfl rfl (mgc (m := m) 1 (by first | exact mg_in _ _ _ _ _ _ | simp) rfl)) (d_tk (i := 3) rfl rfl (rf_sub2 a q _ Fr) (v_move rfl) (d_tk (i := 4) rfl rfl (rf_sub2 a q _ Fr) (v_nilCheck rfl) (d_tk (i := 5) rfl rfl (rf_sub2 a q _ Fr) (v_field (k := 9) rfl rfl rfl) (d_tk (i := 6) rfl rfl (rf_sub2 a q _ Fr) (v_load rfl rfl (rfc (r := q) 9 (by first | exact List.mem_cons_self .. | simp [RfH]) rfl)) (d_tk (i := 7) rfl rfl (rf_sub2 a q _ Fr) (v_build rfl rfl) (d_one (i := 8) (by decide +kernel) (d1_lastCall 1000000 rfl rfl rfl rfl (c_call callable79 rfl) (r_send _ _ a q ⟨{ PM.z with kd := 6, to := m.p.fr, tm := 0, ix := q.p.cm, ok := true }, .slice none 0 0, [], .slice none 0 0⟩ _ hq (zMg_ok m.p hm.B 6 (by decide) 0 _ (by decide) hq.B.cm true) (by rw [hqo]; exact ho)) ?_)))))))))
    rintro v' F H' ⟨rfl, rfl, q2, hq2, hqp2, rfl⟩ _
    refine ⟨[], ?_⟩
    refine j_drop (box_out a q2 _ Fr) ?_
    refine d_end (by decide +kernel) ?_
    exact r_fall0 Tryz.func89 rfl ⟨⟨rfl, rfl, q2, hq2, by rw [hqp2, hqp]; rfl, rfl⟩, Fz.le_refl _⟩
end Go.SX
namespace Go.SX
open Go Go.Proofs
set_option maxRecDepth 4000
def PR.ackN (p : PR) (m : PM) : Nat := max (p.mt.getD m.fr 0 + 1) (min (m.ix + 1) (p.nx.getD m.fr 0 - 1))
def PR.ack1 (p : PR) (m : PM) : PR := ({ p with mt := p.mt.set m.fr (max (p.mt.getD m.fr 0) m.ix), nx := p.nx.set m.fr (max (p.nx.getD m.fr 0) (max (p.mt.getD m.fr 0) m.ix + 1)) } : PR).advance
def PR.acked (p : PR) (m : PM) : PR :=
  if p.role ≠ 3 then p
  else if m.ok = false then (if p.ackN m < p.nx.getD m.fr 0 then ({ p with nx := p.nx.set m.fr (p.ackN m) } : PR).feed m.fr else p)
  else if p.last < m.ix then p
  else if (decide (p.nx.getD m.fr 0 < max (p.mt.getD m.fr 0) m.ix + 1) && decide ((p.ack1 m).nx.getD m.fr 0 ≤ (p.ack1 m).last)) = true then (p.ack1 m).feed m.fr else p.ack1 m
theorem commitAt_nx (p : PR) (n : Nat) : (p.commitAt n).nx = p.nx ∧ (p.commitAt n).out = p.out := by
  unfold PR.commitAt
  split
  · exact ⟨rfl, rfl⟩
  · split <;> exact ⟨rfl, rfl⟩
theorem adv_nx (p : PR) : ∀ n, (p.adv n).nx = p.nx ∧ (p.adv n).out = p.out
  | 0 => ⟨rfl, rfl⟩
  | n + 1 => by
    unfold PR.adv
    split
    · exact ⟨rfl, rfl⟩
    · split
      · exact ⟨rfl, rfl⟩
      · split
        · exact commitAt_nx p _
        · exact adv_nx p n
set_option maxHeartbeats 1000000 in
theorem r_acked (O : World) (F : Fz) (a : Nat) (r : Rf) (m : Mg) (Fr : List Ent) (hr : r.ok F) (hm : m.ok F) (ho : r.p.out.length < 300000) (hn : r.p.role = 3 → ∀ i < 7, 1 ≤ r.p.nx.getD i 0) :
    Does Tryz.prog O 90 #[ptrV a, .agg m.cells.toArray] F (RfH a r Fr) (fun v F' H' => v = noneV ∧ ∃ r' : Rf, r'.ok F' ∧ r'.p = r.p.acked m.p ∧ H' = RfH a r' Fr) := by
  refine does_of_run (args := [_, _]) Tryz.func90 rfl rfl ?_
  have hfr := hm.B.fr
  have hmi := hm.B.ix
  have hnb := hr.B.nxb m.p.fr
  have hmb := hr.B.mtb m.p.fr
  have hnl := hr.B.nx
  have hml := hr.B.mt
  obtain ⟨res, hres⟩ : ∃ res, res = r.p.acked m.p := ⟨_, rfl⟩
  rw [← hres]
  unfold PR.acked at hres
  refine r_seq (r_region rfl (o_act rfl rfl rfl rfl (a_box rfl) ?_))
  rintro v' H' ⟨x, rfl, rfl⟩
  refine j_heap (H' := .mem x m.cells 13 :: RfH a r Fr) rfl ?_
  refine j_perm (box_in a r _ Fr) ?_
  refine o_end (r_seq (r_seq (r_region rfl (o_vl rfl rfl (v_move rfl) (o_vl rfl rfl (v_nilCheck rfl) (o_vl rfl rfl (v_field (k := 6) rfl rfl rfl) (o_vl rfl rfl (v_load rfl rfl (rfc (r := r) 6 (by first | exact List.mem_cons_self .. | simp [RfH]) rfl)) (o_vl rfl rfl (v_neq rfl rfl) (o_end (r_if rfl (fun h => ?_) (fun h => ?_)))))))))))
  · rw [if_pos (by omega)] at hres
    refine j_drop (box_out a r _ Fr) ?_
    exact r_ret0 Tryz.func90 rfl ⟨⟨rfl, r, hr, hres.symm, rfl⟩, Fz.le_refl _⟩
  · have hrole : r.p.role = 3 := by omega
    rw [if_neg (by omega)] at hres
    have hn1 := hn hrole m.p.fr hfr
    cases hok : m.p.ok with
    | false =>
      rw [hok, if_pos rfl] at hres
      have hb : (.bool m.p.ok : Value) = .bool false := by rw [hok]
      refine r_skip (r_seq (r_region rfl (o_vl rfl rfl (v_field (k := 1) rfl rfl rfl) (o_vl rfl rfl (v_load rfl rfl (mgc (m := m) 1 (by first | exact mg_in _ _ _ _ _ _ | simp) rfl)) (o_vl rfl rfl (v_assign rfl) (o_end (r_seq (r_seq (r_region rfl (o_vl rfl rfl (v_field (k := 7) rfl rfl rfl) (o_vl rfl rfl (v_load (v := .bool false) rfl rfl (by rw [← hb]; exact mgc (m := m) 7 (mg_in _ _ _ _ _ _) rfl)) (o_vl rfl rfl (v_not rfl) (o_end ?_)))))))))))))
      refine r_true rfl (r_seq (r_seq (d_region 1000000 rfl ([RfE a r, .mem x m.cells 13]) ?_)))
      refine d_tk (i := 0) rfl rfl (rf_sub2 a r _ Fr) (v_move rfl) (d_tk (i := 1) rfl rfl (rf_sub2 a r _ Fr) (v_move rfl) (d_tk (i := 2) rfl rfl (rf_sub2 a r _ Fr) (v_nilCheck rfl) (d_tk (i := 3) rfl rfl (rf_sub2 a r _ Fr) (v_field (k := 21) rfl rfl rfl) (d_tk (i := 4) rfl rfl (rf_sub2 a r _ Fr) (v_indexArr (n := 7) (sz := 1) (r := 21 + m.p.fr) rfl rfl rfl rfl (by omega) (by omega) (by omega)) (d_tk (i := 5) rfl rfl (rf_sub2 a r _ Fr) (v_load (v := .int .u64 (r.p.mt.getD m.p.fr 0)) rfl rfl (cell_own (cs := r.cells) (n := 36) (List.mem_cons_self ..) (mt_cell r hfr))) (d_tk (i := 6) rfl rfl (rf_sub2 a r _ Fr) (v_add rfl rfl (r := ((r.p.mt.getD m.p.fr 0 + 1 : Nat) : Int)) (wrap_u64 (by omega) (by omega))) (d_tk (i := 7) rfl rfl (rf_sub2 a r _ Fr) (v_field (k := 4) rfl rfl rfl) (d_tk (i := 8) rfl rfl (rf_sub2 a r _ Fr) (v_load rfl rfl (mgc (m := m) 4 (by first | exact mg_in _ _ _ _ _ _ | simp) rfl)) (d_tk (i := 9) rfl rfl (rf_sub2 a r _ Fr) (v_add rfl rfl (r := ((m.p.ix + 1 : Nat) : Int)) (wrap_u64 (by omega) (by omega))) (d_tk (i := 10) rfl rfl (rf_sub2 a r _ Fr) (v_move rfl) (d_tk (i := 11) rfl rfl (rf_sub2 a r _ Fr) (v_move rfl) (d_tk (i := 12) rfl rfl (rf_sub2 a r _ Fr) (v_nilCheck rfl) (d_tk (i := 13) rfl rfl (rf_sub2 a r _ Fr) (v_field (k := 14) rfl rfl rfl) ?_)))))))))))))
      refine d_tk (i := 14) rfl rfl (rf_sub2 a r _ Fr) (v_indexArr (n := 7) (sz := 1) (r := 14 + m.p.fr) rfl rfl rfl rfl (by omega) (by omega) (by omega)) (d_tk (i := 15) rfl rfl (rf_sub2 a r _ Fr) (v_load (v := .int .u64 (r.p.nx.getD m.p.fr 0)) rfl rfl (cell_own (cs := r.cells) (n := 36) (List.mem_cons_self ..) (nx_cell r hfr))) (d_tk (i := 16) rfl rfl (rf_sub2 a r _ Fr) (v_sub rfl rfl (r := ((r.p.nx.getD m.p.fr 0 - 1 : Nat) : Int)) ((wrap_u64 (by omega) (by omega)).trans (by omega))) (d_tk (i := 17) rfl rfl (rf_sub2 a r _ Fr) (v_minN rfl rfl rfl) (d_tk (i := 18) rfl rfl (rf_sub2 a r _ Fr) (v_maxN (r := r.p.ackN m.p) rfl rfl rfl) (d_tk (i := 19) rfl rfl (rf_sub2 a r _ Fr) (v_assign rfl) (d_end (by decide +kernel) (r_seq (r_region rfl (o_vl rfl rfl (v_move rfl) (o_vl rfl rfl (v_move rfl) (o_vl rfl rfl (v_move rfl) (o_vl rfl rfl (v_nilCheck rfl) (o_vl rfl rfl (v_field (k := 14) rfl rfl rfl) ?_)))))))))))))
      refine o_vl rfl rfl (v_indexArr (n := 7) (sz := 1) (r := 14 + m.p.fr) rfl rfl rfl rfl (by omega) (by omega) (by omega)) (o_vl rfl rfl (v_load (v := .int .u64 (r.p.nx.getD m.p.fr 0)) rfl rfl (cell_own (cs := r.cells) (n := 36) (List.mem_cons_self ..) (nx_cell r hfr))) (o_vl rfl rfl (v_lss rfl rfl) (o_end ?_)))
      have hNb : r.p.ackN m.p ≤ 300001 := by unfold PR.ackN; omega
      have hN1 : 1 ≤ r.p.ackN m.p := by unfold PR.ackN; omega
      refine r_if rfl (fun h2 => ?_) (fun h2 => ?_)
      · rw [if_pos (by omega)] at hres
        obtain ⟨r1, hr1⟩ : ∃ r1 : Rf, r1 = { r with p := { r.p with nx := r.p.nx.set m.p.fr (r.p.ackN m.p) } } := ⟨_, rfl⟩
        have c1 : r1.cells = r.cells.set (14 + m.p.fr) (.int .u64 (r.p.ackN m.p)) := by rw [hr1]; exact nx_set r hnl hfr _
        have hr1ok : r1.ok F := by
          rw [hr1]
          refine hr.set _ { hr.B with nx := by simpa using hnl, nxb := fun j => ?_ } rfl rfl rfl rfl
          dsimp only
          rw [getD_set _ _ _ _ (by rw [hnl]; exact hfr)]
          split
          · exact hNb
          · exact hr.B.nxb j
        refine r_seq (r_region rfl (o_vl rfl rfl (v_move rfl) (o_vl rfl rfl (v_move rfl) (o_vl rfl rfl (v_move rfl) (o_vl rfl rfl (v_nilCheck rfl) (o_vl rfl rfl (v_field (k := 14) rfl rfl rfl) (o_vl rfl rfl (v_indexArr (n := 7) (sz := 1) (r := 14 + m.p.fr) rfl rfl rfl rfl (by omega) (by omega) (by omega)) ?_)))))))
        refine j_heap (H' := RfE a r :: RfT r (.mem x m.cells 13 :: Fr)) rfl ?_
        refine o_act0 rfl rfl rfl (a_rf r1 rfl rfl rfl rfl (by omega) c1) ?_
        refine j_heap (H' := RfH a r1 (.mem x m.cells 13 :: Fr)) (by rw [hr1]; rfl) ?_
        refine o_end (r_region rfl (o_vl rfl rfl (v_move rfl) (o_vl rfl rfl (v_move rfl) (o_call rfl rfl rfl rfl (c_call callable59 rfl) (r_feed _ _ a r1 m.p.fr _ hr1ok hfr (by rw [hr1]; dsimp only; rw [getD_set _ _ _ _ (by rw [hnl]; exact hfr), if_pos rfl]; exact hN1) (by rw [hr1]; exact ho)) ?_))))
        rintro v' F2 H' ⟨rfl, q, hq, hqp, rfl⟩ hF2
        refine j_drop (box_out a q _ Fr) ?_
        refine o_end ?_
        exact r_ret0 Tryz.func90 rfl ⟨⟨rfl, q, hq, by rw [hqp, hres, hr1], rfl⟩, hF2⟩
      · rw [if_neg (by omega)] at hres
        refine j_drop (box_out a r _ Fr) ?_
        refine r_skip ?_
        exact r_ret0 Tryz.func90 rfl ⟨⟨rfl, r, hr, hres.symm, rfl⟩, Fz.le_refl _⟩
    | true =>
      rw [hok, if_neg (by simp)] at hres
      have hb : (.bool m.p.ok : Value) = .bool true := by rw [hok]
      have hla : r.p.last ≤ 300000 := hr.B.last
      refine r_skip (r_seq (r_region rfl (o_vl rfl rfl (v_field (k := 1) rfl rfl rfl) (o_vl rfl rfl (v_load rfl rfl (mgc (m := m) 1 (by first | exact mg_in _ _ _ _ _ _ | simp) rfl)) (o_vl rfl rfl (v_assign rfl) (o_end (r_seq (r_seq (r_region rfl (o_vl rfl rfl (v_field (k := 7) rfl rfl rfl) (o_vl rfl rfl (v_load (v := .bool true) rfl rfl (by rw [← hb]; exact mgc (m := m) 7 (mg_in _ _ _ _ _ _) rfl)) (o_vl rfl rfl (v_not rfl) (o_end ?_)))))))))))))
      refine r_false rfl (r_skip (r_seq (r_seq (d_region 1000000 rfl ([RfE a r, .mem x m.cells 13]) ?_))))
      refine d_tk (i := 0) rfl rfl (rf_sub2 a r _ Fr) (v_field (k := 4) rfl rfl rfl) (d_tk (i := 1) rfl rfl (rf_sub2 a r _ Fr) (v_load rfl rfl (mgc (m := m) 4 (by first | exact mg_in _ _ _ _ _ _ | simp) rfl)) (d_tk (i := 2) rfl rfl (rf_sub2 a r _ Fr) (v_move rfl) (d_tk (i := 3) rfl rfl (rf_sub2 a r _ Fr) (v_nilCheck rfl) (d_tk (i := 4) rfl rfl (rf_sub2 a r _ Fr) (v_field (k := 8) rfl rfl rfl) (d_tk (i := 5) rfl rfl (rf_sub2 a r _ Fr) (v_load rfl rfl (rfc (r := r) 8 (by first | exact List.mem_cons_self .. | simp [RfH]) rfl)) (d_one (i := 6) (by decide +kernel) (d1_call rfl rfl rfl rfl (c_call callable45 rfl) (rl_Last _ _ a r _ hr) ?_)))))))
      rintro v' F H' ⟨rfl, rfl, rfl⟩ _
      refine ⟨fun w hw => held_of hw (by first | exact Fz.le_refl _ | assumption) (rf_sub2 a r _ Fr), ?_⟩
      refine d_tk (i := 7) rfl rfl (rf_sub2 a r _ Fr) (v_gtr rfl rfl) (d_end (by decide +kernel) (r_if rfl (fun h2 => ?_) (fun h2 => ?_)))
      · rw [if_pos (by omega)] at hres
        refine j_drop (box_out a r _ Fr) ?_
        exact r_ret0 Tryz.func90 rfl ⟨⟨rfl, r, hr, hres.symm, rfl⟩, Fz.le_refl _⟩
      · rw [if_neg (by omega)] at hres
        obtain ⟨M1, hM1⟩ : ∃ M1, M1 = max (r.p.mt.getD m.p.fr 0) m.p.ix := ⟨_, rfl⟩
        obtain ⟨N1, hN1⟩ : ∃ N1, N1 = max (r.p.nx.getD m.p.fr 0) (M1 + 1) := ⟨_, rfl⟩
        obtain ⟨r1, hr1⟩ : ∃ r1 : Rf, r1 = { r with p := { r.p with mt := r.p.mt.set m.p.fr M1 } } := ⟨_, rfl⟩
        obtain ⟨r2, hr2⟩ : ∃ r2 : Rf, r2 = { r with p := { r.p with mt := r.p.mt.set m.p.fr M1, nx := r.p.nx.set m.p.fr N1 } } := ⟨_, rfl⟩
        have c1 : r1.cells = r.cells.set (21 + m.p.fr) (.int .u64 M1) := by rw [hr1]; exact mt_set r hml hfr _
        have c2 : r2.cells = r1.cells.set (14 + m.p.fr) (.int .u64 N1) := by
          have := nx_set r1 (by rw [hr1]; exact hnl) hfr N1
          rw [← this, hr2, hr1]
        have g1 : r1.p.mt.getD m.p.fr 0 = M1 := by rw [hr1]; dsimp only; rw [getD_set _ _ _ _ (by rw [hml]; exact hfr), if_pos rfl]
        have g2 : r1.p.nx.getD m.p.fr 0 = r.p.nx.getD m.p.fr 0 := by rw [hr1]
        have hr2ok : r2.ok F := by
          rw [hr2]
          refine hr.set _ { hr.B with nx := by simpa using hnl, mt := by simpa using hml, nxb := fun j => ?_, mtb := fun j => ?_ } rfl rfl rfl rfl
          · dsimp only
            rw [getD_set _ _ _ _ (by rw [hnl]; exact hfr)]
            split
            · omega
            · exact hr.B.nxb j
          · dsimp only
            rw [getD_set _ _ _ _ (by rw [hml]; exact hfr)]
            split
            · omega
            · exact hr.B.mtb j
        have hp2 : r.p.ack1 m.p = r2.p.advance := by
          unfold PR.ack1
          rw [hr2, hN1, hM1]
        refine r_skip (r_seq (d_region 14 rfl ([RfE a r, .mem x m.cells 13]) ?_))
        refine d_tk (i := 0) rfl rfl (rf_sub2 a r _ Fr) (v_move rfl) (d_tk (i := 1) rfl rfl (rf_sub2 a r _ Fr) (v_move rfl) (d_tk (i := 2) rfl rfl (rf_sub2 a r _ Fr) (v_move rfl) (d_tk (i := 3) rfl rfl (rf_sub2 a r _ Fr) (v_move rfl) (d_tk (i := 4) rfl rfl (rf_sub2 a r _ Fr) (v_nilCheck rfl) (d_tk (i := 5) rfl rfl (rf_sub2 a r _ Fr) (v_field (k := 21) rfl rfl rfl) (d_tk (i := 6) rfl rfl (rf_sub2 a r _ Fr) (v_indexArr (n := 7) (sz := 1) (r := 21 + m.p.fr) rfl rfl rfl rfl (by omega) (by omega) (by omega)) (d_tk (i := 7) rfl rfl (rf_sub2 a r _ Fr) (v_load (v := .int .u64 (r.p.mt.getD m.p.fr 0)) rfl rfl (cell_own (cs := r.cells) (n := 36) (List.mem_cons_self ..) (mt_cell r hfr))) (d_tk (i := 8) rfl rfl (rf_sub2 a r _ Fr) (v_field (k := 4) rfl rfl rfl) (d_tk (i := 9) rfl rfl (rf_sub2 a r _ Fr) (v_load rfl rfl (mgc (m := m) 4 (by first | exact mg_in _ _ _ _ _ _ | simp) rfl)) (d_tk (i := 10) rfl rfl (rf_sub2 a r _ Fr) (v_maxN rfl rfl hM1.symm) (d_tk (i := 11) rfl rfl (rf_sub2 a r _ Fr) (v_nilCheck rfl) (d_tk (i := 12) rfl rfl (rf_sub2 a r _ Fr) (v_field (k := 21) rfl rfl rfl) (d_tk (i := 13) rfl rfl (rf_sub2 a r _ Fr) (v_indexArr (n := 7) (sz := 1) (r := 21 + m.p.fr) rfl rfl rfl rfl (by omega) (by omega) (by omega)) ?_)))))))))))))
        refine j_heap (H' := RfE a r :: RfT r (.mem x m.cells 13 :: Fr)) rfl ?_
        refine d_one (i := 14) (by decide +kernel) ?_
        refine d1_last 1000000 ([]) rfl rfl rfl (a_rf r1 rfl rfl rfl rfl (by omega) c1) ?_
        refine j_heap (H' := RfH a r1 (.mem x m.cells 13 :: Fr)) (by rw [hr1]; rfl) ?_
        refine d_end (by decide +kernel) (r_seq (d_region 1000000 rfl ([RfE a r1]) ?_))
        refine d_tk (i := 0) rfl rfl (by simp [RfH]) (v_move rfl) (d_tk (i := 1) rfl rfl (by simp [RfH]) (v_move rfl) (d_tk (i := 2) rfl rfl (by simp [RfH]) (v_nilCheck rfl) (d_tk (i := 3) rfl rfl (by simp [RfH]) (v_field (k := 21) rfl rfl rfl) (d_tk (i := 4) rfl rfl (by simp [RfH]) (v_indexArr (n := 7) (sz := 1) (r := 21 + m.p.fr) rfl rfl rfl rfl (by omega) (by omega) (by omega)) (d_tk (i := 5) rfl rfl (by simp [RfH]) (v_load (v := .int .u64 M1) rfl rfl (by rw [← g1]; exact cell_own (cs := r1.cells) (n := 36) (List.mem_cons_self ..) (mt_cell r1 hfr))) (d_tk (i := 6) rfl rfl (by simp [RfH]) (v_add rfl rfl (r := ((M1 + 1 : Nat) : Int)) (wrap_u64 (by omega) (by omega))) (d_tk (i := 7) rfl rfl (by simp [RfH]) (v_move rfl) (d_tk (i := 8) rfl rfl (by simp [RfH]) (v_move rfl) (d_tk (i := 9) rfl rfl (by simp [RfH]) (v_nilCheck rfl) (d_tk (i := 10) rfl rfl (by simp [RfH]) (v_field (k := 14) rfl rfl rfl) (d_tk (i := 11) rfl rfl (by simp [RfH]) (v_indexArr (n := 7) (sz := 1) (r := 14 + m.p.fr) rfl rfl rfl rfl (by omega) (by omega) (by omega)) (d_tk (i := 12) rfl rfl (by simp [RfH]) (v_load (v := .int .u64 (r.p.nx.getD m.p.fr 0)) rfl rfl (by rw [← g2]; exact cell_own (cs := r1.cells) (n := 36) (List.mem_cons_self ..) (nx_cell r1 hfr))) (d_tk (i := 13) rfl rfl (by simp [RfH]) (v_gtr rfl rfl) ?_)))))))))))))
        refine d_tk (i := 14) rfl rfl (by simp [RfH]) (v_assign rfl) (d_end (by decide +kernel) (r_seq (d_region 19 rfl ([RfE a r1]) ?_)))
        refine d_tk (i := 0) rfl rfl (by simp [RfH]) (v_move rfl) (d_tk (i := 1) rfl rfl (by simp [RfH]) (v_move rfl) (d_tk (i := 2) rfl rfl (by simp [RfH]) (v_move rfl) (d_tk (i := 3) rfl rfl (by simp [RfH]) (v_move rfl) (d_tk (i := 4) rfl rfl (by simp [RfH]) (v_nilCheck rfl) (d_tk (i := 5) rfl rfl (by simp [RfH]) (v_field (k := 14) rfl rfl rfl) (d_tk (i := 6) rfl rfl (by simp [RfH]) (v_indexArr (n := 7) (sz := 1) (r := 14 + m.p.fr) rfl rfl rfl rfl (by omega) (by omega) (by omega)) (d_tk (i := 7) rfl rfl (by simp [RfH]) (v_load (v := .int .u64 (r.p.nx.getD m.p.fr 0)) rfl rfl (by rw [← g2]; exact cell_own (cs := r1.cells) (n := 36) (List.mem_cons_self ..) (nx_cell r1 hfr))) (d_tk (i := 8) rfl rfl (by simp [RfH]) (v_move rfl) (d_tk (i := 9) rfl rfl (by simp [RfH]) (v_move rfl) (d_tk (i := 10) rfl rfl (by simp [RfH]) (v_nilCheck rfl) (d_tk (i := 11) rfl rfl (by simp [RfH]) (v_field (k := 21) rfl rfl rfl) (d_tk (i := 12) rfl rfl (by simp [RfH]) (v_indexArr (n := 7) (sz := 1) (r := 21 + m.p.fr) rfl rfl rfl rfl (by omega) (by omega) (by omega)) (d_tk (i := 13) rfl rfl (by simp [RfH]) (v_load (v := .int .u64 M1) rfl rfl (by rw [← g1]; exact cell_own (cs := r1.cells) (n := 36) (List.mem_cons_self ..) (mt_cell r1 hfr))) ?_)))))))))))))
        refine d_tk (i := 14) rfl rfl (by simp [RfH]) (v_add rfl rfl (r := ((M1 + 1 : Nat) : Int)) (wrap_u64 (by omega) (by omega))) (d_tk (i := 15) rfl rfl (by simp [RfH]) (v_maxN rfl rfl hN1.symm) (d_tk (i := 16) rfl rfl (by simp [RfH]) (v_nilCheck rfl) (d_tk (i := 17) rfl rfl (by simp [RfH]) (v_field (k := 14) rfl rfl rfl) (d_tk (i := 18) rfl rfl (by simp [RfH]) (v_indexArr (n := 7) (sz := 1) (r := 14 + m.p.fr) rfl rfl rfl rfl (by omega) (by omega) (by omega)) ?_))))
        refine j_heap (H' := RfE a r1 :: RfT r1 (.mem x m.cells 13 :: Fr)) rfl ?_
        refine d_one (i := 19) (by decide +kernel) ?_
        refine d1_last 1000000 ([]) rfl rfl rfl (a_rf r2 rfl rfl rfl rfl (by omega) c2) ?_
        refine j_heap (H' := RfH a r2 (.mem x m.cells 13 :: Fr)) (by rw [hr2, hr1]; rfl) ?_
        refine d_end (by decide +kernel) (r_seq (r_region rfl (o_vl rfl rfl (v_move rfl) (o_call rfl rfl rfl rfl (c_call callable69 rfl) (r_advance _ _ a r2 _ hr2ok) ?_))))
        rintro v' F H' ⟨rfl, rfl, q, hq, hqp, rfl⟩ _
        rw [hp2, ← hqp] at hres
        have hqn : q.p.nx.getD m.p.fr 0 = N1 := by
          rw [hqp]
          have h3 := (adv_nx r2.p r2.p.last).1
          unfold PR.advance
          rw [h3, hr2]
          dsimp only
          rw [getD_set _ _ _ _ (by rw [hnl]; exact hfr), if_pos rfl]
        have hqo : q.p.out = r.p.out := by
          rw [hqp]
          have h3 := (adv_nx r2.p r2.p.last).2
          unfold PR.advance
          rw [h3, hr2]
        rw [← hM1, hqn] at hres
        refine o_end (r_seq (d_region 1000000 rfl ([RfE a q]) ?_))
        refine d_tk (i := 0) rfl rfl (by simp [RfH]) (v_move rfl) ?_
        refine j_slot 110 rfl (v' := .bool (decide (r.p.nx.getD m.p.fr 0 < M1 + 1))) (by congr 1; exact decide_eq_decide.2 (by omega)) ?_
        refine j_prop 110 rfl (fun h3 => ?_) (fun h3 => ?_)
        · rw [decide_eq_true h3, Bool.true_and] at hres
          refine d_tk (i := 1) rfl rfl (by simp [RfH]) (v_move rfl) (d_tk (i := 2) rfl rfl (by simp [RfH]) (v_move rfl) (d_tk (i := 3) rfl rfl (by simp [RfH]) (v_move rfl) (d_tk (i := 4) rfl rfl (by simp [RfH]) (v_nilCheck rfl) (d_tk (i := 5) rfl rfl (by simp [RfH]) (v_field (k := 14) rfl rfl rfl) (d_tk (i := 6) rfl rfl (by simp [RfH]) (v_indexArr (n := 7) (sz := 1) (r := 14 + m.p.fr) rfl rfl rfl rfl (by omega) (by omega) (by omega)) (d_tk (i := 7) rfl rfl (by simp [RfH]) (v_load (v := .int .u64 N1) rfl rfl (by rw [← hqn]; exact cell_own (cs := q.cells) (n := 36) (List.mem_cons_self ..) (nx_cell q hfr))) (d_tk (i := 8) rfl rfl (by simp [RfH]) (v_move rfl) (d_tk (i := 9) rfl rfl (by simp [RfH]) (v_nilCheck rfl) (d_tk (i := 10) rfl rfl (by simp [RfH]) (v_field (k := 8) rfl rfl rfl) (d_tk (i := 11) rfl rfl (by simp [RfH]) (v_load rfl rfl (rfc (r := q) 8 (by first | exact List.mem_cons_self .. | simp [RfH]) rfl)) (d_one (i := 12) (by decide +kernel) (d1_call rfl rfl rfl rfl (c_call callable45 rfl) (rl_Last _ _ a q _ hq) ?_))))))))))))
          rintro v' F H' ⟨rfl, rfl, rfl⟩ _
          refine ⟨fun w hw => held_of hw (by first | exact Fz.le_refl _ | assumption) (by simp [RfH]), ?_⟩
          refine d_tk (i := 13) rfl rfl (by simp [RfH]) (v_leq rfl rfl) (d_tk (i := 14) rfl rfl (by simp [RfH]) (v_pick1 rfl rfl) (d_end (by decide +kernel) (r_if rfl (fun h4 => ?_) (fun h4 => ?_))))
          · rw [decide_eq_true (by omega), if_pos rfl] at hres
            refine r_region rfl (o_vl rfl rfl (v_move rfl) (o_vl rfl rfl (v_move rfl) (o_call rfl rfl rfl rfl (c_call callable59 rfl) (r_feed _ _ a q m.p.fr _ hq hfr (by rw [hqn]; omega) (by rw [hqo]; exact ho)) ?_)))
            rintro v' F2 H' ⟨rfl, q2, hq2, hqp2, rfl⟩ hF2
            refine j_drop (box_out a q2 _ Fr) ?_
            refine o_end ?_
            exact r_fall0 Tryz.func90 rfl ⟨⟨rfl, q2, hq2, by rw [hqp2, hres], rfl⟩, hF2⟩
          · rw [decide_eq_false (by omega), if_neg (by simp)] at hres
            refine j_drop (box_out a q _ Fr) ?_
            refine r_skip ?_
            exact r_fall0 Tryz.func90 rfl ⟨⟨rfl, q, hq, hres.symm, rfl⟩, Fz.le_refl _⟩
        · skip
          rw [decide_eq_false h3, Bool.false_and, if_neg (by simp)] at hres
          refine j_drop (box_out a q _ Fr) ?_
          refine d_tk (i := 1) rfl rfl (by simp [RfH]) (v_move rfl) (d_sk (i := 2) rfl rfl (by simp [RfH]) (d_sk (i := 3) rfl rfl (by simp [RfH]) (d_sk (i := 4) rfl rfl (by simp [RfH]) (d_sk (i := 5) rfl rfl (by simp [RfH]) (d_sk (i := 6) rfl rfl (by simp [RfH]) (d_sk (i := 7) rfl rfl (by simp [RfH]) (d_sk (i := 8) rfl rfl (by simp [RfH]) (d_sk (i := 9) rfl rfl (by simp [RfH]) (d_sk (i := 10) rfl rfl (by simp [RfH]) (d_sk (i := 11) rfl rfl (by simp [RfH]) (d_sk (i := 12) rfl rfl (by simp [RfH]) (d_sk (i := 13) rfl rfl (by simp [RfH]) (d_tk (i := 14) rfl rfl (by simp [RfH]) (v_pick0 rfl rfl) ?_)))))))))))))
          refine d_end (by decide +kernel) (r_false rfl (r_skip ?_))
          exact r_fall0 Tryz.func90 rfl ⟨⟨rfl, q, hq, hres.symm, rfl⟩, Fz.le_refl _⟩
end Go.SX
namespace Go.SX
open Go Go.Proofs
set_option maxRecDepth 4000
def PR.addYes (p : PR) (i : Nat) : PR := { p with yes := p.yes ||| 2 ^ i }
def PR.step2 (p : PR) (m : PM) : PR :=
  if m.kd = 3 then p.asked m
  else if m.kd = 4 then (if p.role = 2 ∧ m.ok = true then (if (p.addYes m.fr).most (p.addYes m.fr).yes = true then (p.addYes m.fr).lead_ else p.addYes m.fr) else p)
  else if m.kd = 5 then (p.follow m.tm m.fr).rest.take m
  else if m.kd = 7 then (p.follow m.tm m.fr).rest.install m
  else if m.kd = 6 then p.acked m
  else p
def PR.step1 (p : PR) (m : PM) : PR :=
  if m.kd = 1 then p.pre m
  else if m.kd = 2 ∧ m.ok = true then (if p.role = 1 ∧ m.tm = p.term + 1 then (if (p.addYes m.fr).most (p.addYes m.fr).yes = true then (p.addYes m.fr).campaign else p.addYes m.fr) else p)
  else if p.term < m.tm then (p.follow m.tm (-1)).step2 m
  else if m.tm < p.term then p.late m
  else p.step2 m
def PR.step (p : PR) (m : PM) : PR := if m.to ≠ p.me ∨ m.fr = p.me ∨ m.kd < 1 ∨ 7 < m.kd ∨ m.tm = 0 then p else p.step1 m
theorem addYes_ok {F : Fz} {r : Rf} (hr : r.ok F) {i : Nat} (hi : i < 7) : ({ r with p := r.p.addYes i } : Rf).ok F :=
  hr.set _ { hr.B with yes := Nat.or_lt_two_pow (n := 7) hr.B.yes (two7 hi) } rfl rfl rfl rfl
theorem follow_ok {F : Fz} {r : Rf} (hr : r.ok F) {t : Nat} {ld : Int} (ht : t ≤ 300000) (h1 : -1 ≤ ld) (h2 : ld < 7) : ({ r with p := r.p.follow t ld } : Rf).ok F := by
  refine hr.set _ ?_ ?_ ?_ ?_ ?_
  · unfold PR.follow
    split
    · exact { hr.B with term := ht, v1 := by simp, v2 := by simp, role := by simp, l1 := h1, l2 := h2 }
    · exact { hr.B with role := by simp, l1 := h1, l2 := h2 }
  all_goals
    unfold PR.follow
    split <;> rfl
theorem follow_eq (p : PR) (t : Nat) (ld : Int) : (p.follow t ld).out = p.out ∧ (p.follow t ld).role = 0 := by
  unfold PR.follow
  split <;> exact ⟨rfl, rfl⟩
theorem follow_log (p : PR) (t : Nat) (ld : Int) : (p.follow t ld).lix = p.lix ∧ (p.follow t ld).l = p.l := by
  unfold PR.follow
  split <;> exact ⟨rfl, rfl⟩
theorem RfT_follow (r : Rf) (t : Nat) (ld : Int) (Fr : List Ent) : RfT { r with p := r.p.follow t ld } Fr = RfT r Fr := by
  unfold RfT PR.follow
  split <;> rfl
set_option maxHeartbeats 4000000 in
theorem r_Step (O : World) (F : Fz) (a : Nat) (r : Rf) (m : Mg) (Fr : List Ent) (hr : r.ok F) (hm : m.ok F) (ho : r.p.out.length + 14 ≤ 300000) (ht : r.p.term < 300000) (hl : r.p.lix + r.p.l.length < 300000) (hn : r.p.role = 3 → ∀ i < 7, 1 ≤ r.p.nx.getD i 0)
    (hix : ∀ e ∈ m.p.es, e.ix + 16 ≤ 300000) (hmi : m.p.ix + 16 ≤ 300000) :
    Does Tryz.prog O 54 #[ptrV a, .agg m.cells.toArray] F (RfH a r Fr) (fun v F' H' => (∃ e : Int, v = .int .i64 e) ∧ ∃ r' : Rf, r'.ok F' ∧ r'.p = r.p.step m.p ∧ H' = RfH a r' Fr) := by
  refine does_of_run (args := [_, _]) Tryz.func54 rfl rfl ?_
  have hfr := hm.B.fr
  have hkd := hm.B.kd
  have htm := hm.B.tm
  obtain ⟨res, hres⟩ : ∃ res, res = r.p.step m.p := ⟨_, rfl⟩
  rw [← hres]
  unfold PR.step at hres
  refine r_seq (r_region rfl (o_act rfl rfl rfl rfl (a_box rfl) ?_))
  rintro v' H' ⟨x, rfl, rfl⟩
  refine j_heap (H' := .mem x m.cells 13 :: RfH a r Fr) rfl ?_
  refine j_perm (box_in a r _ Fr) ?_
  refine o_vl rfl rfl (v_assign rfl) (o_end (r_seq (r_seq (d_region 1000000 rfl ([RfE a r, .mem x m.cells 13]) ?_))))
  refine d_tk (i := 0) rfl rfl (rf_sub2 a r _ Fr) (v_move rfl) (d_tk (i := 1) rfl rfl (rf_sub2 a r _ Fr) (v_peqnil rfl rfl rfl) (d_tk (i := 2) rfl rfl (rf_sub2 a r _ Fr) (v_move rfl) (d_tk (i := 3) rfl rfl (rf_sub2 a r _ Fr) (v_field (k := 2) rfl rfl rfl) (d_tk (i := 4) rfl rfl (rf_sub2 a r _ Fr) (v_load rfl rfl (mgc (m := m) 2 (by first | exact mg_in _ _ _ _ _ _ | simp) rfl)) (d_tk (i := 5) rfl rfl (rf_sub2 a r _ Fr) (v_move rfl) (d_tk (i := 6) rfl rfl (rf_sub2 a r _ Fr) (v_nilCheck rfl) (d_tk (i := 7) rfl rfl (rf_sub2 a r _ Fr) (v_field (k := 0) rfl rfl rfl) (d_tk (i := 8) rfl rfl (rf_sub2 a r _ Fr) (v_load rfl rfl (rfc (r := r) 0 (by first | exact List.mem_cons_self .. | simp [RfH]) rfl)) (d_tk (i := 9) rfl rfl (rf_sub2 a r _ Fr) (v_neq rfl rfl) ?_)))))))))
  refine j_prop 14 rfl (fun h1 => ?_) (fun h1 => ?_)
  · rw [if_pos (.inl (by omega))] at hres
    refine d_tk (i := 10) rfl rfl (rf_sub2 a r _ Fr) (v_pick0 rfl rfl) (d_tk (i := 11) rfl rfl (rf_sub2 a r _ Fr) (v_move rfl) (d_sk (i := 12) rfl rfl (rf_sub2 a r _ Fr) (d_sk (i := 13) rfl rfl (rf_sub2 a r _ Fr) (d_sk (i := 14) rfl rfl (rf_sub2 a r _ Fr) (d_sk (i := 15) rfl rfl (rf_sub2 a r _ Fr) (d_sk (i := 16) rfl rfl (rf_sub2 a r _ Fr) (d_sk (i := 17) rfl rfl (rf_sub2 a r _ Fr) (d_sk (i := 18) rfl rfl (rf_sub2 a r _ Fr) (d_tk (i := 19) rfl rfl (rf_sub2 a r _ Fr) (v_pick1 rfl rfl) (d_tk (i := 20) rfl rfl (rf_sub2 a r _ Fr) (v_move rfl) (d_sk (i := 21) rfl rfl (rf_sub2 a r _ Fr) (d_sk (i := 22) rfl rfl (rf_sub2 a r _ Fr) (d_sk (i := 23) rfl rfl (rf_sub2 a r _ Fr) ?_)))))))))))))
    refine d_tk (i := 24) rfl rfl (rf_sub2 a r _ Fr) (v_pick1 rfl rfl) (d_tk (i := 25) rfl rfl (rf_sub2 a r _ Fr) (v_move rfl) (d_sk (i := 26) rfl rfl (rf_sub2 a r _ Fr) (d_sk (i := 27) rfl rfl (rf_sub2 a r _ Fr) (d_sk (i := 28) rfl rfl (rf_sub2 a r _ Fr) (d_tk (i := 29) rfl rfl (rf_sub2 a r _ Fr) (v_pick1 rfl rfl) (d_tk (i := 30) rfl rfl (rf_sub2 a r _ Fr) (v_move rfl) (d_sk (i := 31) rfl rfl (rf_sub2 a r _ Fr) (d_sk (i := 32) rfl rfl (rf_sub2 a r _ Fr) (d_sk (i := 33) rfl rfl (rf_sub2 a r _ Fr) (d_tk (i := 34) rfl rfl (rf_sub2 a r _ Fr) (v_pick1 rfl rfl) (d_tk (i := 35) rfl rfl (rf_sub2 a r _ Fr) (v_move rfl) (d_sk (i := 36) rfl rfl (rf_sub2 a r _ Fr) (d_sk (i := 37) rfl rfl (rf_sub2 a r _ Fr) ?_)))))))))))))
    refine d_sk (i := 38) rfl rfl (rf_sub2 a r _ Fr) (d_tk (i := 39) rfl rfl (rf_sub2 a r _ Fr) (v_pick1 rfl rfl) (d_tk (i := 40) rfl rfl (rf_sub2 a r _ Fr) (v_move rfl) (d_sk (i := 41) rfl rfl (rf_sub2 a r _ Fr) (d_sk (i := 42) rfl rfl (rf_sub2 a r _ Fr) (d_sk (i := 43) rfl rfl (rf_sub2 a r _ Fr) (d_tk (i := 44) rfl rfl (rf_sub2 a r _ Fr) (v_pick1 rfl rfl) (d_end (by decide +kernel) (r_true rfl ?_))))))))
    refine j_drop (box_out a r _ Fr) ?_
    refine r_seq (r_region rfl (o_vl rfl rfl (v_assign rfl) (o_end ?_)))
    exact r_ret1 Tryz.func54 rfl rfl ⟨⟨⟨_, rfl⟩, r, hr, hres.symm, rfl⟩, Fz.le_refl _⟩
  · skip
    refine d_tk (i := 10) rfl rfl (rf_sub2 a r _ Fr) (v_pick0 rfl rfl) (d_tk (i := 11) rfl rfl (rf_sub2 a r _ Fr) (v_move rfl) (d_tk (i := 12) rfl rfl (rf_sub2 a r _ Fr) (v_field (k := 1) rfl rfl rfl) (d_tk (i := 13) rfl rfl (rf_sub2 a r _ Fr) (v_load rfl rfl (mgc (m := m) 1 (by first | exact mg_in _ _ _ _ _ _ | simp) rfl)) (d_tk (i := 14) rfl rfl (rf_sub2 a r _ Fr) (v_move rfl) (d_tk (i := 15) rfl rfl (rf_sub2 a r _ Fr) (v_nilCheck rfl) (d_tk (i := 16) rfl rfl (rf_sub2 a r _ Fr) (v_field (k := 0) rfl rfl rfl) (d_tk (i := 17) rfl rfl (rf_sub2 a r _ Fr) (v_load rfl rfl (rfc (r := r) 0 (by first | exact List.mem_cons_self .. | simp [RfH]) rfl)) (d_tk (i := 18) rfl rfl (rf_sub2 a r _ Fr) (v_eql rfl rfl) ?_))))))))
    refine j_prop 23 rfl (fun h2 => ?_) (fun h2 => ?_)
    · rw [if_pos (.inr (.inl (by omega)))] at hres
      refine d_tk (i := 19) rfl rfl (rf_sub2 a r _ Fr) (v_pick0 rfl rfl) (d_tk (i := 20) rfl rfl (rf_sub2 a r _ Fr) (v_move rfl) (d_sk (i := 21) rfl rfl (rf_sub2 a r _ Fr) (d_sk (i := 22) rfl rfl (rf_sub2 a r _ Fr) (d_sk (i := 23) rfl rfl (rf_sub2 a r _ Fr) (d_tk (i := 24) rfl rfl (rf_sub2 a r _ Fr) (v_pick1 rfl rfl) (d_tk (i := 25) rfl rfl (rf_sub2 a r _ Fr) (v_move rfl) (d_sk (i := 26) rfl rfl (rf_sub2 a r _ Fr) (d_sk (i := 27) rfl rfl (rf_sub2 a r _ Fr) (d_sk (i := 28) rfl rfl (rf_sub2 a r _ Fr) (d_tk (i := 29) rfl rfl (rf_sub2 a r _ Fr) (v_pick1 rfl rfl) (d_tk (i := 30) rfl rfl (rf_sub2 a r _ Fr) (v_move rfl) (d_sk (i := 31) rfl rfl (rf_sub2 a r _ Fr) (d_sk (i := 32) rfl rfl (rf_sub2 a r _ Fr) ?_)))))))))))))
      refine d_sk (i := 33) rfl rfl (rf_sub2 a r _ Fr) (d_tk (i := 34) rfl rfl (rf_sub2 a r _ Fr) (v_pick1 rfl rfl) (d_tk (i := 35) rfl rfl (rf_sub2 a r _ Fr) (v_move rfl) (d_sk (i := 36) rfl rfl (rf_sub2 a r _ Fr) (d_sk (i := 37) rfl rfl (rf_sub2 a r _ Fr) (d_sk (i := 38) rfl rfl (rf_sub2 a r _ Fr) (d_tk (i := 39) rfl rfl (rf_sub2 a r _ Fr) (v_pick1 rfl rfl) (d_tk (i := 40) rfl rfl (rf_sub2 a r _ Fr) (v_move rfl) (d_sk (i := 41) rfl rfl (rf_sub2 a r _ Fr) (d_sk (i := 42) rfl rfl (rf_sub2 a r _ Fr) (d_sk (i := 43) rfl rfl (rf_sub2 a r _ Fr) (d_tk (i := 44) rfl rfl (rf_sub2 a r _ Fr) (v_pick1 rfl rfl) (d_end (by decide +kernel) (r_true rfl ?_)))))))))))))
      refine j_drop (box_out a r _ Fr) ?_
      refine r_seq (r_region rfl (o_vl rfl rfl (v_assign rfl) (o_end ?_)))
      exact r_ret1 Tryz.func54 rfl rfl ⟨⟨⟨_, rfl⟩, r, hr, hres.symm, rfl⟩, Fz.le_refl _⟩
    · skip
      refine d_tk (i := 19) rfl rfl (rf_sub2 a r _ Fr) (v_pick0 rfl rfl) (d_tk (i := 20) rfl rfl (rf_sub2 a r _ Fr) (v_move rfl) (d_tk (i := 21) rfl rfl (rf_sub2 a r _ Fr) (v_field (k := 1) rfl rfl rfl) (d_tk (i := 22) rfl rfl (rf_sub2 a r _ Fr) (v_load rfl rfl (mgc (m := m) 1 (by first | exact mg_in _ _ _ _ _ _ | simp) rfl)) (d_tk (i := 23) rfl rfl (rf_sub2 a r _ Fr) (v_lss rfl rfl) ?_))))
      refine j_slot 28 rfl (v' := .bool false) (by rw [decide_eq_false]; omega) ?_
      refine d_tk (i := 24) rfl rfl (rf_sub2 a r _ Fr) (v_pick0 rfl rfl) (d_tk (i := 25) rfl rfl (rf_sub2 a r _ Fr) (v_move rfl) (d_tk (i := 26) rfl rfl (rf_sub2 a r _ Fr) (v_field (k := 1) rfl rfl rfl) (d_tk (i := 27) rfl rfl (rf_sub2 a r _ Fr) (v_load rfl rfl (mgc (m := m) 1 (by first | exact mg_in _ _ _ _ _ _ | simp) rfl)) (d_tk (i := 28) rfl rfl (rf_sub2 a r _ Fr) (v_geq rfl rfl) ?_))))
      refine j_slot 33 rfl (v' := .bool false) (by rw [decide_eq_false]; omega) ?_
      refine d_tk (i := 29) rfl rfl (rf_sub2 a r _ Fr) (v_pick0 rfl rfl) (d_tk (i := 30) rfl rfl (rf_sub2 a r _ Fr) (v_move rfl) (d_tk (i := 31) rfl rfl (rf_sub2 a r _ Fr) (v_field (k := 0) rfl rfl rfl) (d_tk (i := 32) rfl rfl (rf_sub2 a r _ Fr) (v_load rfl rfl (mgc (m := m) 0 (by first | exact mg_in _ _ _ _ _ _ | simp) rfl)) (d_tk (i := 33) rfl rfl (rf_sub2 a r _ Fr) (v_lss rfl rfl) ?_))))
      refine j_prop 38 rfl (fun h3 => ?_) (fun h3 => ?_)
      · rw [if_pos (.inr (.inr (.inl (by omega))))] at hres
        refine d_tk (i := 34) rfl rfl (rf_sub2 a r _ Fr) (v_pick0 rfl rfl) (d_tk (i := 35) rfl rfl (rf_sub2 a r _ Fr) (v_move rfl) (d_sk (i := 36) rfl rfl (rf_sub2 a r _ Fr) (d_sk (i := 37) rfl rfl (rf_sub2 a r _ Fr) (d_sk (i := 38) rfl rfl (rf_sub2 a r _ Fr) (d_tk (i := 39) rfl rfl (rf_sub2 a r _ Fr) (v_pick1 rfl rfl) (d_tk (i := 40) rfl rfl (rf_sub2 a r _ Fr) (v_move rfl) (d_sk (i := 41) rfl rfl (rf_sub2 a r _ Fr) (d_sk (i := 42) rfl rfl (rf_sub2 a r _ Fr) (d_sk (i := 43) rfl rfl (rf_sub2 a r _ Fr) (d_tk (i := 44) rfl rfl (rf_sub2 a r _ Fr) (v_pick1 rfl rfl) (d_end (by decide +kernel) (r_true rfl ?_))))))))))))
        refine j_drop (box_out a r _ Fr) ?_
        refine r_seq (r_region rfl (o_vl rfl rfl (v_assign rfl) (o_end ?_)))
        exact r_ret1 Tryz.func54 rfl rfl ⟨⟨⟨_, rfl⟩, r, hr, hres.symm, rfl⟩, Fz.le_refl _⟩
      · skip
        refine d_tk (i := 34) rfl rfl (rf_sub2 a r _ Fr) (v_pick0 rfl rfl) (d_tk (i := 35) rfl rfl (rf_sub2 a r _ Fr) (v_move rfl) (d_tk (i := 36) rfl rfl (rf_sub2 a r _ Fr) (v_field (k := 0) rfl rfl rfl) (d_tk (i := 37) rfl rfl (rf_sub2 a r _ Fr) (v_load rfl rfl (mgc (m := m) 0 (by first | exact mg_in _ _ _ _ _ _ | simp) rfl)) (d_tk (i := 38) rfl rfl (rf_sub2 a r _ Fr) (v_gtr rfl rfl) ?_))))
        refine j_prop 43 rfl (fun h4 => ?_) (fun h4 => ?_)
        · rw [if_pos (.inr (.inr (.inr (.inl (by omega)))))] at hres
          refine d_tk (i := 39) rfl rfl (rf_sub2 a r _ Fr) (v_pick0 rfl rfl) (d_tk (i := 40) rfl rfl (rf_sub2 a r _ Fr) (v_move rfl) (d_sk (i := 41) rfl rfl (rf_sub2 a r _ Fr) (d_sk (i := 42) rfl rfl (rf_sub2 a r _ Fr) (d_sk (i := 43) rfl rfl (rf_sub2 a r _ Fr) (d_tk (i := 44) rfl rfl (rf_sub2 a r _ Fr) (v_pick1 rfl rfl) (d_end (by decide +kernel) (r_true rfl ?_)))))))
          refine j_drop (box_out a r _ Fr) ?_
          refine r_seq (r_region rfl (o_vl rfl rfl (v_assign rfl) (o_end ?_)))
          exact r_ret1 Tryz.func54 rfl rfl ⟨⟨⟨_, rfl⟩, r, hr, hres.symm, rfl⟩, Fz.le_refl _⟩
        · skip
          refine d_tk (i := 39) rfl rfl (rf_sub2 a r _ Fr) (v_pick0 rfl rfl) (d_tk (i := 40) rfl rfl (rf_sub2 a r _ Fr) (v_move rfl) (d_tk (i := 41) rfl rfl (rf_sub2 a r _ Fr) (v_field (k := 3) rfl rfl rfl) (d_tk (i := 42) rfl rfl (rf_sub2 a r _ Fr) (v_load rfl rfl (mgc (m := m) 3 (by first | exact mg_in _ _ _ _ _ _ | simp) rfl)) (d_tk (i := 43) rfl rfl (rf_sub2 a r _ Fr) (v_eql rfl rfl) ?_))))
          refine j_prop 48 rfl (fun h5 => ?_) (fun h5 => ?_)
          · rw [if_pos (.inr (.inr (.inr (.inr (by omega)))))] at hres
            refine d_tk (i := 44) rfl rfl (rf_sub2 a r _ Fr) (v_pick0 rfl rfl) (d_end (by decide +kernel) (r_true rfl ?_))
            refine j_drop (box_out a r _ Fr) ?_
            refine r_seq (r_region rfl (o_vl rfl rfl (v_assign rfl) (o_end ?_)))
            exact r_ret1 Tryz.func54 rfl rfl ⟨⟨⟨_, rfl⟩, r, hr, hres.symm, rfl⟩, Fz.le_refl _⟩
          · skip
            refine d_tk (i := 44) rfl rfl (rf_sub2 a r _ Fr) (v_pick0 rfl rfl) (d_end (by decide +kernel) (r_false rfl ?_))
            rw [if_neg (by omega)] at hres
            unfold PR.step1 at hres
            refine r_skip (r_seq ?_)
            refine r_join (fun q : Rf => q.ok F ∧ res = q.p.step2 m.p ∧ q.p.out = r.p.out ∧ q.p.lix = r.p.lix ∧ q.p.l = r.p.l ∧ (q.p.role = 3 → ∀ i < 7, 1 ≤ q.p.nx.getD i 0)) (fun _ => [(0, ptrV a), (3, ptrV x)]) (fun _ => F) (fun q => RfH a q (.mem x m.cells 13 :: Fr)) ?_ ?_
            · intro J
              refine r_block (r_seq (r_region rfl (o_vl rfl rfl (v_field (k := 0) rfl rfl rfl) (o_vl rfl rfl (v_load rfl rfl (mgc (m := m) 0 (by first | exact mg_in _ _ _ _ _ _ | simp) rfl)) (o_vl rfl rfl (v_eql rfl rfl) (o_vl rfl rfl (v_assign rfl) (o_end (r_if rfl (fun h6 => ?_) (fun h6 => ?_)))))))))
              · rw [if_pos (by omega)] at hres
                refine r_seq (r_region rfl (o_vl rfl rfl (v_move rfl) (o_vl rfl rfl (v_loadAgg (sz := 13) (cs := m.cells) rfl rfl rfl rfl (fun k c hk => mgc (m := m) k (mg_in _ _ _ _ _ _) hk)) (o_call rfl rfl rfl rfl (c_call callable83 rfl) (r_pre _ _ a r m _ hr hm (by omega)) ?_))))
                rintro v' F H' ⟨rfl, rfl, q, hq, hqp, rfl⟩ _
                refine j_drop (box_out a q _ Fr) ?_
                refine o_end (r_seq (r_region rfl (o_vl rfl rfl (v_assign rfl) (o_end ?_))))
                exact r_ret1 Tryz.func54 rfl rfl ⟨⟨⟨_, rfl⟩, q, hq, by rw [hqp, hres], rfl⟩, Fz.le_refl _⟩
              · rw [if_neg (by omega)] at hres
                have hokb : ∀ b : Bool, m.p.ok = b → (Value.bool m.p.ok) = .bool b := fun b h => by rw [h]
                refine r_seq (r_region rfl (o_vl rfl rfl (v_field (k := 0) rfl rfl rfl) (o_vl rfl rfl (v_load rfl rfl (mgc (m := m) 0 (by first | exact mg_in _ _ _ _ _ _ | simp) rfl)) (o_vl rfl rfl (v_eql rfl rfl) ?_))))
                refine j_prop 60 rfl (fun h7 => ?_) (fun h7 => ?_)
                · cases hok : m.p.ok with
                  | true =>
                    rw [if_pos ⟨by omega, hok⟩] at hres
                    refine o_vl rfl rfl (v_move rfl) (o_vl rfl rfl (v_field (k := 7) rfl rfl rfl) (o_vl rfl rfl (v_load (v := .bool true) rfl rfl (by rw [← hokb true hok]; exact mgc (m := m) 7 (mg_in _ _ _ _ _ _) rfl)) (o_vl rfl rfl (v_pick1 rfl rfl) (o_vl rfl rfl (v_assign rfl) (o_end (r_true rfl (r_seq (r_seq (d_region 1000000 rfl ([RfE a r, .mem x m.cells 13]) ?_)))))))))
                    refine d_tk (i := 0) rfl rfl (rf_sub2 a r _ Fr) (v_move rfl) (d_tk (i := 1) rfl rfl (rf_sub2 a r _ Fr) (v_nilCheck rfl) (d_tk (i := 2) rfl rfl (rf_sub2 a r _ Fr) (v_field (k := 6) rfl rfl rfl) (d_tk (i := 3) rfl rfl (rf_sub2 a r _ Fr) (v_load rfl rfl (rfc (r := r) 6 (by first | exact List.mem_cons_self .. | simp [RfH]) rfl)) (d_tk (i := 4) rfl rfl (rf_sub2 a r _ Fr) (v_eql rfl rfl) ?_))))
                    refine j_prop 69 rfl (fun h8 => ?_) (fun h8 => ?_)
                    · refine d_tk (i := 5) rfl rfl (rf_sub2 a r _ Fr) (v_move rfl) (d_tk (i := 6) rfl rfl (rf_sub2 a r _ Fr) (v_field (k := 3) rfl rfl rfl) (d_tk (i := 7) rfl rfl (rf_sub2 a r _ Fr) (v_load rfl rfl (mgc (m := m) 3 (by first | exact mg_in _ _ _ _ _ _ | simp) rfl)) (d_tk (i := 8) rfl rfl (rf_sub2 a r _ Fr) (v_move rfl) (d_tk (i := 9) rfl rfl (rf_sub2 a r _ Fr) (v_nilCheck rfl) (d_tk (i := 10) rfl rfl (rf_sub2 a r _ Fr) (v_field (k := 4) rfl rfl rfl) (d_tk (i := 11) rfl rfl (rf_sub2 a r _ Fr) (v_field (k := 0) rfl rfl rfl) (d_tk (i := 12) rfl rfl (rf_sub2 a r _ Fr) (v_load rfl rfl (rfc (r := r) 4 (by first | exact List.mem_cons_self .. | simp [RfH]) rfl)) (d_tk (i := 13) rfl rfl (rf_sub2 a r _ Fr) (v_add rfl rfl (r := ((r.p.term + 1 : Nat) : Int)) (wrap_u64 (by omega) (by omega))) (d_tk (i := 14) rfl rfl (rf_sub2 a r _ Fr) (v_eql rfl rfl) (d_tk (i := 15) rfl rfl (rf_sub2 a r _ Fr) (v_pick1 rfl rfl) (d_end (by decide +kernel) (r_if rfl (fun h9 => ?_) (fun h9 => ?_)))))))))))))
                      · rw [if_pos ⟨by omega, by omega⟩] at hres
                        obtain ⟨r1, hr1⟩ : ∃ r1 : Rf, r1 = { r with p := r.p.addYes m.p.fr } := ⟨_, rfl⟩
                        have hr1ok : r1.ok F := by rw [hr1]; exact addYes_ok hr hfr
                        have hr1p : r1.p = r.p.addYes m.p.fr := by rw [hr1]
                        rw [← hr1p] at hres
                        refine r_seq (d_region 10 rfl ([RfE a r, .mem x m.cells 13]) ?_)
                        refine d_tk (i := 0) rfl rfl (rf_sub2 a r _ Fr) (v_move rfl) (d_tk (i := 1) rfl rfl (rf_sub2 a r _ Fr) (v_nilCheck rfl) (d_tk (i := 2) rfl rfl (rf_sub2 a r _ Fr) (v_field (k := 13) rfl rfl rfl) (d_tk (i := 3) rfl rfl (rf_sub2 a r _ Fr) (v_load rfl rfl (rfc (r := r) 13 (by first | exact List.mem_cons_self .. | simp [RfH]) rfl)) (d_tk (i := 4) rfl rfl (rf_sub2 a r _ Fr) (v_field (k := 1) rfl rfl rfl) (d_tk (i := 5) rfl rfl (rf_sub2 a r _ Fr) (v_load rfl rfl (mgc (m := m) 1 (by first | exact mg_in _ _ _ _ _ _ | simp) rfl)) (d_tk (i := 6) rfl rfl (rf_sub2 a r _ Fr) (v_shl (m := 1) rfl rfl (by omega) (shl1 _ hfr)) (d_tk (i := 7) rfl rfl (rf_sub2 a r _ Fr) (v_or rfl rfl (u64_orN _ _ hr.B.yes (two7 hfr))) (d_tk (i := 8) rfl rfl (rf_sub2 a r _ Fr) (v_nilCheck rfl) (d_tk (i := 9) rfl rfl (rf_sub2 a r _ Fr) (v_field (k := 13) rfl rfl rfl) ?_)))))))))
                        refine j_heap (H' := RfE a r :: RfT r (.mem x m.cells 13 :: Fr)) rfl ?_
                        refine d_one (i := 10) (by decide +kernel) ?_
                        refine d1_last 1000000 ([]) rfl rfl rfl (a_rf r1 rfl rfl rfl rfl (Nat.le_of_ble_eq_true rfl) (by rw [hr1]; rfl)) ?_
                        refine j_heap (H' := RfH a r1 (.mem x m.cells 13 :: Fr)) (by rw [hr1]; rfl) ?_
                        refine d_end (by decide +kernel) (r_seq (r_region rfl (o_vl rfl rfl (v_move rfl) (o_vl rfl rfl (v_move rfl) (o_vl rfl rfl (v_nilCheck rfl) (o_vl rfl rfl (v_field (k := 13) rfl rfl rfl) (o_vl rfl rfl (v_load rfl rfl (rfc (r := r1) 13 (by first | exact List.mem_cons_self .. | simp [RfH]) rfl)) (o_call rfl rfl rfl rfl (c_call callable81 rfl) (r_most _ _ a r1 r1.p.yes _ hr1ok hr1ok.B.yes) ?_))))))))
                        rintro v' F H' ⟨rfl, rfl, rfl⟩ _
                        cases hmm : r1.p.most r1.p.yes with
                        | true =>
                          rw [hmm, if_pos rfl] at hres
                          refine o_end (r_true rfl (r_region rfl (o_vl rfl rfl (v_move rfl) (o_call rfl rfl rfl rfl (c_call callable82 rfl) (r_campaign _ _ a r1 _ hr1ok (by rw [hr1]; exact ht) (by rw [hr1]; exact hl) (by rw [hr1]; exact ho)) ?_))))
                          rintro v' F2 H' ⟨rfl, q, hq, hqp, rfl⟩ hF2
                          refine j_drop (box_out a q _ Fr) ?_
                          refine o_end (r_seq (r_region rfl (o_vl rfl rfl (v_assign rfl) (o_end ?_))))
                          exact r_ret1 Tryz.func54 rfl rfl ⟨⟨⟨_, rfl⟩, q, hq, by rw [hqp, hres], rfl⟩, hF2⟩
                        | false =>
                          rw [hmm, if_neg (by simp)] at hres
                          refine o_end (r_false rfl ?_)
                          refine j_drop (box_out a r1 _ Fr) ?_
                          refine r_skip (r_seq (r_region rfl (o_vl rfl rfl (v_assign rfl) (o_end ?_))))
                          exact r_ret1 Tryz.func54 rfl rfl ⟨⟨⟨_, rfl⟩, r1, hr1ok, hres.symm, rfl⟩, Fz.le_refl _⟩
                      · rw [if_neg (by omega)] at hres
                        refine j_drop (box_out a r _ Fr) ?_
                        refine r_skip (r_seq (r_region rfl (o_vl rfl rfl (v_assign rfl) (o_end ?_))))
                        exact r_ret1 Tryz.func54 rfl rfl ⟨⟨⟨_, rfl⟩, r, hr, hres.symm, rfl⟩, Fz.le_refl _⟩
                    · skip
                      rw [if_neg (by omega)] at hres
                      refine d_tk (i := 5) rfl rfl (rf_sub2 a r _ Fr) (v_move rfl) (d_sk (i := 6) rfl rfl (rf_sub2 a r _ Fr) (d_sk (i := 7) rfl rfl (rf_sub2 a r _ Fr) (d_sk (i := 8) rfl rfl (rf_sub2 a r _ Fr) (d_sk (i := 9) rfl rfl (rf_sub2 a r _ Fr) (d_sk (i := 10) rfl rfl (rf_sub2 a r _ Fr) (d_sk (i := 11) rfl rfl (rf_sub2 a r _ Fr) (d_sk (i := 12) rfl rfl (rf_sub2 a r _ Fr) (d_sk (i := 13) rfl rfl (rf_sub2 a r _ Fr) (d_sk (i := 14) rfl rfl (rf_sub2 a r _ Fr) (d_tk (i := 15) rfl rfl (rf_sub2 a r _ Fr) (v_pick0 rfl rfl) (d_end (by decide +kernel) (r_false rfl ?_))))))))))))
                      refine j_drop (box_out a r _ Fr) ?_
                      refine r_skip (r_seq (r_region rfl (o_vl rfl rfl (v_assign rfl) (o_end ?_))))
                      exact r_ret1 Tryz.func54 rfl rfl ⟨⟨⟨_, rfl⟩, r, hr, hres.symm, rfl⟩, Fz.le_refl _⟩
                  | false =>
                    rw [if_neg (fun hc => by rw [hok] at hc; cases hc.2)] at hres
                    refine o_vl rfl rfl (v_move rfl) (o_vl rfl rfl (v_field (k := 7) rfl rfl rfl) (o_vl rfl rfl (v_load (v := .bool false) rfl rfl (by rw [← hokb false hok]; exact mgc (m := m) 7 (mg_in _ _ _ _ _ _) rfl)) (o_vl rfl rfl (v_pick1 rfl rfl) (o_vl rfl rfl (v_assign rfl) (o_end (r_false rfl (r_seq (d_region 1000000 rfl ([RfE a r, .mem x m.cells 13]) ?_))))))))
                    refine d_tk (i := 0) rfl rfl (rf_sub2 a r _ Fr) (v_field (k := 3) rfl rfl rfl) (d_tk (i := 1) rfl rfl (rf_sub2 a r _ Fr) (v_load rfl rfl (mgc (m := m) 3 (by first | exact mg_in _ _ _ _ _ _ | simp) rfl)) (d_tk (i := 2) rfl rfl (rf_sub2 a r _ Fr) (v_move rfl) (d_tk (i := 3) rfl rfl (rf_sub2 a r _ Fr) (v_nilCheck rfl) (d_tk (i := 4) rfl rfl (rf_sub2 a r _ Fr) (v_field (k := 4) rfl rfl rfl) (d_tk (i := 5) rfl rfl (rf_sub2 a r _ Fr) (v_field (k := 0) rfl rfl rfl) (d_tk (i := 6) rfl rfl (rf_sub2 a r _ Fr) (v_load rfl rfl (rfc (r := r) 4 (by first | exact List.mem_cons_self .. | simp [RfH]) rfl)) (d_tk (i := 7) rfl rfl (rf_sub2 a r _ Fr) (v_gtr rfl rfl) (d_tk (i := 8) rfl rfl (rf_sub2 a r _ Fr) (v_assign rfl) (d_end (by decide +kernel) (r_if rfl (fun h10 => ?_) (fun h10 => ?_)))))))))))
                    · rw [if_pos (by omega)] at hres
                      refine r_region rfl (o_vl rfl rfl (v_move rfl) (o_vl rfl rfl (v_field (k := 3) rfl rfl rfl) (o_vl rfl rfl (v_load rfl rfl (mgc (m := m) 3 (by first | exact mg_in _ _ _ _ _ _ | simp) rfl)) ?_)))
                      refine j_heap (H' := RfE a r :: RfT r (.mem x m.cells 13 :: Fr)) rfl ?_
                      refine o_call rfl rfl rfl rfl (c_call callable84 rfl) (r_follow _ _ a r m.p.tm (-1) _) ?_
                      rintro v' F H' ⟨rfl, rfl, rfl⟩ _
                      refine j_heap (H' := RfH a { r with p := r.p.follow m.p.tm (-1) } (.mem x m.cells 13 :: Fr)) (by unfold RfH; rw [RfT_follow]) ?_
                      refine o_end (r_inBlock ?_)
                      refine j_keep ?_ (J _ ⟨follow_ok hr htm (by decide) (by decide), hres, (follow_eq _ _ _).1, (follow_log _ _ _).1, (follow_log _ _ _).2, fun h => by dsimp only at h; rw [(follow_eq _ _ _).2] at h; cases h⟩)
                      exact ⟨rfl, rfl, trivial⟩
                    · rw [if_neg (by omega)] at hres
                      refine r_seq (d_region 1000000 rfl ([RfE a r, .mem x m.cells 13]) ?_)
                      refine d_tk (i := 0) rfl rfl (rf_sub2 a r _ Fr) (v_field (k := 3) rfl rfl rfl) (d_tk (i := 1) rfl rfl (rf_sub2 a r _ Fr) (v_load rfl rfl (mgc (m := m) 3 (by first | exact mg_in _ _ _ _ _ _ | simp) rfl)) (d_tk (i := 2) rfl rfl (rf_sub2 a r _ Fr) (v_move rfl) (d_tk (i := 3) rfl rfl (rf_sub2 a r _ Fr) (v_nilCheck rfl) (d_tk (i := 4) rfl rfl (rf_sub2 a r _ Fr) (v_field (k := 4) rfl rfl rfl) (d_tk (i := 5) rfl rfl (rf_sub2 a r _ Fr) (v_field (k := 0) rfl rfl rfl) (d_tk (i := 6) rfl rfl (rf_sub2 a r _ Fr) (v_load rfl rfl (rfc (r := r) 4 (by first | exact List.mem_cons_self .. | simp [RfH]) rfl)) (d_tk (i := 7) rfl rfl (rf_sub2 a r _ Fr) (v_lss rfl rfl) (d_tk (i := 8) rfl rfl (rf_sub2 a r _ Fr) (v_assign rfl) (d_end (by decide +kernel) (r_if rfl (fun h11 => ?_) (fun h11 => ?_)))))))))))
                      · rw [if_pos (by omega)] at hres
                        refine r_seq (r_region rfl (o_vl rfl rfl (v_move rfl) (o_vl rfl rfl (v_loadAgg (sz := 13) (cs := m.cells) rfl rfl rfl rfl (fun k c hk => mgc (m := m) k (mg_in _ _ _ _ _ _) hk)) (o_call rfl rfl rfl rfl (c_call callable85 rfl) (r_late _ _ a r m _ hr hm (by omega)) ?_))))
                        rintro v' F H' ⟨rfl, rfl, q, hq, hqp, rfl⟩ _
                        refine j_drop (box_out a q _ Fr) ?_
                        refine o_end (r_seq (r_region rfl (o_vl rfl rfl (v_assign rfl) (o_end ?_))))
                        exact r_ret1 Tryz.func54 rfl rfl ⟨⟨⟨_, rfl⟩, q, hq, by rw [hqp, hres], rfl⟩, Fz.le_refl _⟩
                      · rw [if_neg (by omega)] at hres
                        refine r_skip (r_inBlock ?_)
                        refine j_keep ?_ (J r ⟨hr, hres, rfl, rfl, rfl, hn⟩)
                        exact ⟨rfl, rfl, trivial⟩
                · skip
                  rw [if_neg (by omega)] at hres
                  refine o_vl rfl rfl (v_move rfl) (o_sk rfl rfl (o_sk rfl rfl (o_vl rfl rfl (v_pick0 rfl rfl) (o_vl rfl rfl (v_assign rfl) (o_end (r_false rfl (r_seq (d_region 1000000 rfl ([RfE a r, .mem x m.cells 13]) ?_))))))))
                  refine d_tk (i := 0) rfl rfl (rf_sub2 a r _ Fr) (v_field (k := 3) rfl rfl rfl) (d_tk (i := 1) rfl rfl (rf_sub2 a r _ Fr) (v_load rfl rfl (mgc (m := m) 3 (by first | exact mg_in _ _ _ _ _ _ | simp) rfl)) (d_tk (i := 2) rfl rfl (rf_sub2 a r _ Fr) (v_move rfl) (d_tk (i := 3) rfl rfl (rf_sub2 a r _ Fr) (v_nilCheck rfl) (d_tk (i := 4) rfl rfl (rf_sub2 a r _ Fr) (v_field (k := 4) rfl rfl rfl) (d_tk (i := 5) rfl rfl (rf_sub2 a r _ Fr) (v_field (k := 0) rfl rfl rfl) (d_tk (i := 6) rfl rfl (rf_sub2 a r _ Fr) (v_load rfl rfl (rfc (r := r) 4 (by first | exact List.mem_cons_self .. | simp [RfH]) rfl)) (d_tk (i := 7) rfl rfl (rf_sub2 a r _ Fr) (v_gtr rfl rfl) (d_tk (i := 8) rfl rfl (rf_sub2 a r _ Fr) (v_assign rfl) (d_end (by decide +kernel) (r_if rfl (fun h10 => ?_) (fun h10 => ?_)))))))))))
                  · rw [if_pos (by omega)] at hres
                    refine r_region rfl (o_vl rfl rfl (v_move rfl) (o_vl rfl rfl (v_field (k := 3) rfl rfl rfl) (o_vl rfl rfl (v_load rfl rfl (mgc (m := m) 3 (by first | exact mg_in _ _ _ _ _ _ | simp) rfl)) ?_)))
                    refine j_heap (H' := RfE a r :: RfT r (.mem x m.cells 13 :: Fr)) rfl ?_
                    refine o_call rfl rfl rfl rfl (c_call callable84 rfl) (r_follow _ _ a r m.p.tm (-1) _) ?_
                    rintro v' F H' ⟨rfl, rfl, rfl⟩ _
                    refine j_heap (H' := RfH a { r with p := r.p.follow m.p.tm (-1) } (.mem x m.cells 13 :: Fr)) (by unfold RfH; rw [RfT_follow]) ?_
                    refine o_end (r_inBlock ?_)
                    refine j_keep ?_ (J _ ⟨follow_ok hr htm (by decide) (by decide), hres, (follow_eq _ _ _).1, (follow_log _ _ _).1, (follow_log _ _ _).2, fun h => by dsimp only at h; rw [(follow_eq _ _ _).2] at h; cases h⟩)
                    exact ⟨rfl, rfl, trivial⟩
                  · rw [if_neg (by omega)] at hres
                    refine r_seq (d_region 1000000 rfl ([RfE a r, .mem x m.cells 13]) ?_)
                    refine d_tk (i := 0) rfl rfl (rf_sub2 a r _ Fr) (v_field (k := 3) rfl rfl rfl) (d_tk (i := 1) rfl rfl (rf_sub2 a r _ Fr) (v_load rfl rfl (mgc (m := m) 3 (by first | exact mg_in _ _ _ _ _ _ | simp) rfl)) (d_tk (i := 2) rfl rfl (rf_sub2 a r _ Fr) (v_move rfl) (d_tk (i := 3) rfl rfl (rf_sub2 a r _ Fr) (v_nilCheck rfl) (d_tk (i := 4) rfl rfl (rf_sub2 a r _ Fr) (v_field (k := 4) rfl rfl rfl) (d_tk (i := 5) rfl rfl (rf_sub2 a r _ Fr) (v_field (k := 0) rfl rfl rfl) (d_tk (i := 6) rfl rfl (rf_sub2 a r _ Fr) (v_load rfl rfl (rfc (r := r) 4 (by first | exact List.mem_cons_self .. | simp [RfH]) rfl)) (d_tk (i := 7) rfl rfl (rf_sub2 a r _ Fr) (v_lss rfl rfl) (d_tk (i := 8) rfl rfl (rf_sub2 a r _ Fr) (v_assign rfl) (d_end (by decide +kernel) (r_if rfl (fun h11 => ?_) (fun h11 => ?_)))))))))))
                    · rw [if_pos (by omega)] at hres
                      refine r_seq (r_region rfl (o_vl rfl rfl (v_move rfl) (o_vl rfl rfl (v_loadAgg (sz := 13) (cs := m.cells) rfl rfl rfl rfl (fun k c hk => mgc (m := m) k (mg_in _ _ _ _ _ _) hk)) (o_call rfl rfl rfl rfl (c_call callable85 rfl) (r_late _ _ a r m _ hr hm (by omega)) ?_))))
                      rintro v' F H' ⟨rfl, rfl, q, hq, hqp, rfl⟩ _
                      refine j_drop (box_out a q _ Fr) ?_
                      refine o_end (r_seq (r_region rfl (o_vl rfl rfl (v_assign rfl) (o_end ?_))))
                      exact r_ret1 Tryz.func54 rfl rfl ⟨⟨⟨_, rfl⟩, q, hq, by rw [hqp, hres], rfl⟩, Fz.le_refl _⟩
                    · rw [if_neg (by omega)] at hres
                      refine r_skip (r_inBlock ?_)
                      refine j_keep ?_ (J r ⟨hr, hres, rfl, rfl, rfl, hn⟩)
                      exact ⟨rfl, rfl, trivial⟩
            · rintro q ⟨hq, hqs, hqo, hq1, hq2, hqn⟩
              clear hres
              have hokb : ∀ b : Bool, m.p.ok = b → (Value.bool m.p.ok) = .bool b := fun b h => by rw [h]
              unfold PR.step2 at hqs
              have hol : q.p.out.length = r.p.out.length := by rw [hqo]
              refine r_seq (r_seq (r_region rfl (o_vl rfl rfl (v_field (k := 0) rfl rfl rfl) (o_vl rfl rfl (v_load rfl rfl (mgc (m := m) 0 (by first | exact mg_in _ _ _ _ _ _ | simp) rfl)) (o_end (r_block (r_seq (r_region rfl (o_vl rfl rfl (v_eql rfl rfl) (o_vl rfl rfl (v_assign rfl) (o_end (r_if rfl (fun h12 => ?_) (fun h12 => ?_)))))))))))))
              · rw [if_pos (by omega)] at hqs
                refine r_region rfl (o_vl rfl rfl (v_move rfl) (o_vl rfl rfl (v_loadAgg (sz := 13) (cs := m.cells) rfl rfl rfl rfl (fun k c hk => mgc (m := m) k (mg_in _ _ _ _ _ _) hk)) (o_call rfl rfl rfl rfl (c_call callable86 rfl) (r_asked _ _ a q m _ hq hm (by omega)) ?_)))
                rintro v' F H' ⟨rfl, rfl, q2, hq2', hqp2, rfl⟩ _
                refine j_drop (box_out a q2 _ Fr) ?_
                refine o_end (r_inBlock (r_seq (r_region rfl (o_vl rfl rfl (v_assign rfl) (o_end ?_)))))
                exact r_ret1 Tryz.func54 rfl rfl ⟨⟨⟨_, rfl⟩, q2, hq2', by rw [hqp2, hqs], rfl⟩, Fz.le_refl _⟩
              · rw [if_neg (by omega)] at hqs
                refine r_seq (r_region rfl (o_vl rfl rfl (v_eql rfl rfl) (o_vl rfl rfl (v_assign rfl) (o_end (r_if rfl (fun h13 => ?_) (fun h13 => ?_))))))
                · rw [if_pos (by omega)] at hqs
                  refine r_seq (r_region rfl (o_vl rfl rfl (v_move rfl) (o_vl rfl rfl (v_nilCheck rfl) (o_vl rfl rfl (v_field (k := 6) rfl rfl rfl) (o_vl rfl rfl (v_load rfl rfl (rfc (r := q) 6 (by first | exact List.mem_cons_self .. | simp [RfH]) rfl)) (o_vl rfl rfl (v_eql rfl rfl) ?_))))))
                  refine j_prop 137 rfl (fun h14 => ?_) (fun h14 => ?_)
                  · cases hok : m.p.ok with
                    | true =>
                      rw [if_pos ⟨by omega, hok⟩] at hqs
                      obtain ⟨r1, hr1⟩ : ∃ r1 : Rf, r1 = { q with p := q.p.addYes m.p.fr } := ⟨_, rfl⟩
                      have hr1ok : r1.ok F := by rw [hr1]; exact addYes_ok hq hfr
                      have hr1p : r1.p = q.p.addYes m.p.fr := by rw [hr1]
                      rw [← hr1p] at hqs
                      refine o_vl rfl rfl (v_move rfl) (o_vl rfl rfl (v_field (k := 7) rfl rfl rfl) (o_vl rfl rfl (v_load (v := .bool true) rfl rfl (by rw [← hokb true hok]; exact mgc (m := m) 7 (mg_in _ _ _ _ _ _) rfl)) (o_vl rfl rfl (v_pick1 rfl rfl) (o_end (r_true rfl (r_seq (d_region 10 rfl ([RfE a q, .mem x m.cells 13]) ?_)))))))
                      refine d_tk (i := 0) rfl rfl (rf_sub2 a q _ Fr) (v_move rfl) (d_tk (i := 1) rfl rfl (rf_sub2 a q _ Fr) (v_nilCheck rfl) (d_tk (i := 2) rfl rfl (rf_sub2 a q _ Fr) (v_field (k := 13) rfl rfl rfl) (d_tk (i := 3) rfl rfl (rf_sub2 a q _ Fr) (v_load rfl rfl (rfc (r := q) 13 (by first | exact List.mem_cons_self .. | simp [RfH]) rfl)) (d_tk (i := 4) rfl rfl (rf_sub2 a q _ Fr) (v_field (k := 1) rfl rfl rfl) (d_tk (i := 5) rfl rfl (rf_sub2 a q _ Fr) (v_load rfl rfl (mgc (m := m) 1 (by first | exact mg_in _ _ _ _ _ _ | simp) rfl)) (d_tk (i := 6) rfl rfl (rf_sub2 a q _ Fr) (v_shl (m := 1) rfl rfl (by omega) (shl1 _ hfr)) (d_tk (i := 7) rfl rfl (rf_sub2 a q _ Fr) (v_or rfl rfl (u64_orN _ _ hq.B.yes (two7 hfr))) (d_tk (i := 8) rfl rfl (rf_sub2 a q _ Fr) (v_nilCheck rfl) (d_tk (i := 9) rfl rfl (rf_sub2 a q _ Fr) (v_field (k := 13) rfl rfl rfl) ?_)))))))))
                      refine j_heap (H' := RfE a q :: RfT q (.mem x m.cells 13 :: Fr)) rfl ?_
                      refine d_one (i := 10) (by decide +kernel) ?_
                      refine d1_last 1000000 ([]) rfl rfl rfl (a_rf r1 rfl rfl rfl rfl (Nat.le_of_ble_eq_true rfl) (by rw [hr1]; rfl)) ?_
                      refine j_heap (H' := RfH a r1 (.mem x m.cells 13 :: Fr)) (by rw [hr1]; rfl) ?_
                      refine d_end (by decide +kernel) (r_seq (r_region rfl (o_vl rfl rfl (v_move rfl) (o_vl rfl rfl (v_move rfl) (o_vl rfl rfl (v_nilCheck rfl) (o_vl rfl rfl (v_field (k := 13) rfl rfl rfl) (o_vl rfl rfl (v_load rfl rfl (rfc (r := r1) 13 (by first | exact List.mem_cons_self .. | simp [RfH]) rfl)) (o_call rfl rfl rfl rfl (c_call callable81 rfl) (r_most _ _ a r1 r1.p.yes _ hr1ok hr1ok.B.yes) ?_))))))))
                      rintro v' F H' ⟨rfl, rfl, rfl⟩ _
                      cases hmm : r1.p.most r1.p.yes with
                      | true =>
                        rw [hmm, if_pos rfl] at hqs
                        refine o_end (r_true rfl (r_region rfl (o_vl rfl rfl (v_move rfl) (o_call rfl rfl rfl rfl (c_call callable87 rfl) (r_lead _ _ a r1 _ hr1ok (by rw [hr1]; show q.p.lix + q.p.l.length < _; rw [hq1, hq2]; exact hl) (by rw [hr1]; show q.p.out.length + 7 ≤ _; omega)) ?_))))
                        rintro v' F2 H' ⟨rfl, q2, hq2', hqp2, rfl⟩ hF2
                        refine j_drop (box_out a q2 _ Fr) ?_
                        refine o_end (r_inBlock (r_seq (r_region rfl (o_vl rfl rfl (v_assign rfl) (o_end ?_)))))
                        exact r_ret1 Tryz.func54 rfl rfl ⟨⟨⟨_, rfl⟩, q2, hq2', by rw [hqp2, hqs], rfl⟩, hF2⟩
                      | false =>
                        rw [hmm, if_neg (by simp)] at hqs
                        refine o_end (r_false rfl ?_)
                        refine j_drop (box_out a r1 _ Fr) ?_
                        refine r_skip (r_inBlock (r_seq (r_region rfl (o_vl rfl rfl (v_assign rfl) (o_end ?_)))))
                        exact r_ret1 Tryz.func54 rfl rfl ⟨⟨⟨_, rfl⟩, r1, hr1ok, hqs.symm, rfl⟩, Fz.le_refl _⟩
                    | false =>
                      rw [if_neg (fun hc => by rw [hok] at hc; cases hc.2)] at hqs
                      refine o_vl rfl rfl (v_move rfl) (o_vl rfl rfl (v_field (k := 7) rfl rfl rfl) (o_vl rfl rfl (v_load (v := .bool false) rfl rfl (by rw [← hokb false hok]; exact mgc (m := m) 7 (mg_in _ _ _ _ _ _) rfl)) (o_vl rfl rfl (v_pick1 rfl rfl) (o_end (r_false rfl ?_)))))
                      refine j_drop (box_out a q _ Fr) ?_
                      refine r_skip (r_inBlock (r_seq (r_region rfl (o_vl rfl rfl (v_assign rfl) (o_end ?_)))))
                      exact r_ret1 Tryz.func54 rfl rfl ⟨⟨⟨_, rfl⟩, q, hq, hqs.symm, rfl⟩, Fz.le_refl _⟩
                  · skip
                    rw [if_neg (by omega)] at hqs
                    refine o_vl rfl rfl (v_move rfl) (o_sk rfl rfl (o_sk rfl rfl (o_vl rfl rfl (v_pick0 rfl rfl) (o_end (r_false rfl ?_)))))
                    refine j_drop (box_out a q _ Fr) ?_
                    refine r_skip (r_inBlock (r_seq (r_region rfl (o_vl rfl rfl (v_assign rfl) (o_end ?_)))))
                    exact r_ret1 Tryz.func54 rfl rfl ⟨⟨⟨_, rfl⟩, q, hq, hqs.symm, rfl⟩, Fz.le_refl _⟩
                · rw [if_neg (by omega)] at hqs
                  refine r_seq (r_region rfl (o_vl rfl rfl (v_eql rfl rfl) (o_vl rfl rfl (v_assign rfl) (o_end (r_if rfl (fun h15 => ?_) (fun h15 => ?_))))))
                  · rw [if_pos (by omega)] at hqs
                    refine r_seq (r_region rfl (o_vl rfl rfl (v_move rfl) (o_vl rfl rfl (v_field (k := 3) rfl rfl rfl) (o_vl rfl rfl (v_load rfl rfl (mgc (m := m) 3 (by first | exact mg_in _ _ _ _ _ _ | simp) rfl)) (o_vl rfl rfl (v_field (k := 1) rfl rfl rfl) (o_vl rfl rfl (v_load rfl rfl (mgc (m := m) 1 (by first | exact mg_in _ _ _ _ _ _ | simp) rfl)) ?_))))))
                    obtain ⟨f1, hf1⟩ : ∃ f1 : Rf, f1 = { q with p := q.p.follow m.p.tm m.p.fr } := ⟨_, rfl⟩
                    have hf1ok : f1.ok F := by rw [hf1]; exact follow_ok hq htm (by omega) (by omega)
                    have hf1o : f1.p.out.length = r.p.out.length := by rw [hf1]; dsimp only; rw [(follow_eq _ _ _).1, hqo]
                    refine j_heap (H' := RfE a q :: RfT q (.mem x m.cells 13 :: Fr)) rfl ?_
                    refine o_call rfl rfl rfl rfl (c_call callable84 rfl) (r_follow _ _ a q m.p.tm m.p.fr _) ?_
                    rintro v' F H' ⟨rfl, rfl, rfl⟩ _
                    refine j_heap (H' := RfE a f1 :: RfT f1 (.mem x m.cells 13 :: Fr)) (by rw [hf1, RfT_follow]) ?_
                    refine o_end (r_seq (r_region rfl (o_vl rfl rfl (v_move rfl) (o_call rfl rfl rfl rfl (c_call callable51 rfl) (r_rest _ _ a f1 _ hf1ok.B.me hf1ok.dr) ?_))))
                    rintro v' F H' ⟨rfl, rfl, rfl⟩ _
                    obtain ⟨f2, hf2⟩ : ∃ f2 : Rf, f2 = { f1 with p := f1.p.rest, fb := ownB f1.p.me } := ⟨_, rfl⟩
                    have hf2ok : f2.ok F := by rw [hf2]; exact rest_ok hf1ok
                    have hf2o : f2.p.out.length = r.p.out.length := by rw [hf2]; exact hf1o
                    have hf2p : f2.p = (q.p.follow m.p.tm m.p.fr).rest := by rw [hf2, hf1]
                    rw [← hf2p] at hqs
                    refine j_heap (H' := RfH a f2 (.mem x m.cells 13 :: Fr)) (by rw [hf2]; rfl) ?_
                    refine o_end (r_region rfl (o_vl rfl rfl (v_move rfl) (o_vl rfl rfl (v_loadAgg (sz := 13) (cs := m.cells) rfl rfl rfl rfl (fun k c hk => mgc (m := m) k (mg_in _ _ _ _ _ _) hk)) (o_call rfl rfl rfl rfl (c_call callable88 rfl) (r_take _ _ a f2 m _ hf2ok hm (by omega) hix hmi) ?_))))
                    rintro v' F H' ⟨rfl, rfl, q2, hq2', hqp2, rfl⟩ _
                    refine j_drop (box_out a q2 _ Fr) ?_
                    refine o_end (r_inBlock (r_seq (r_region rfl (o_vl rfl rfl (v_assign rfl) (o_end ?_)))))
                    exact r_ret1 Tryz.func54 rfl rfl ⟨⟨⟨_, rfl⟩, q2, hq2', by rw [hqp2, hqs], rfl⟩, Fz.le_refl _⟩
                  · rw [if_neg (by omega)] at hqs
                    refine r_seq (r_region rfl (o_vl rfl rfl (v_eql rfl rfl) (o_vl rfl rfl (v_assign rfl) (o_end (r_if rfl (fun h16 => ?_) (fun h16 => ?_))))))
                    · rw [if_pos (by omega)] at hqs
                      refine r_seq (r_region rfl (o_vl rfl rfl (v_move rfl) (o_vl rfl rfl (v_field (k := 3) rfl rfl rfl) (o_vl rfl rfl (v_load rfl rfl (mgc (m := m) 3 (by first | exact mg_in _ _ _ _ _ _ | simp) rfl)) (o_vl rfl rfl (v_field (k := 1) rfl rfl rfl) (o_vl rfl rfl (v_load rfl rfl (mgc (m := m) 1 (by first | exact mg_in _ _ _ _ _ _ | simp) rfl)) ?_))))))
                      obtain ⟨f1, hf1⟩ : ∃ f1 : Rf, f1 = { q with p := q.p.follow m.p.tm m.p.fr } := ⟨_, rfl⟩
                      have hf1ok : f1.ok F := by rw [hf1]; exact follow_ok hq htm (by omega) (by omega)
                      have hf1o : f1.p.out.length = r.p.out.length := by rw [hf1]; dsimp only; rw [(follow_eq _ _ _).1, hqo]
                      refine j_heap (H' := RfE a q :: RfT q (.mem x m.cells 13 :: Fr)) rfl ?_
                      refine o_call rfl rfl rfl rfl (c_call callable84 rfl) (r_follow _ _ a q m.p.tm m.p.fr _) ?_
                      rintro v' F H' ⟨rfl, rfl, rfl⟩ _
                      refine j_heap (H' := RfE a f1 :: RfT f1 (.mem x m.cells 13 :: Fr)) (by rw [hf1, RfT_follow]) ?_
                      refine o_end (r_seq (r_region rfl (o_vl rfl rfl (v_move rfl) (o_call rfl rfl rfl rfl (c_call callable51 rfl) (r_rest _ _ a f1 _ hf1ok.B.me hf1ok.dr) ?_))))
                      rintro v' F H' ⟨rfl, rfl, rfl⟩ _
                      obtain ⟨f2, hf2⟩ : ∃ f2 : Rf, f2 = { f1 with p := f1.p.rest, fb := ownB f1.p.me } := ⟨_, rfl⟩
                      have hf2ok : f2.ok F := by rw [hf2]; exact rest_ok hf1ok
                      have hf2o : f2.p.out.length = r.p.out.length := by rw [hf2]; exact hf1o
                      have hf2p : f2.p = (q.p.follow m.p.tm m.p.fr).rest := by rw [hf2, hf1]
                      rw [← hf2p] at hqs
                      refine j_heap (H' := RfH a f2 (.mem x m.cells 13 :: Fr)) (by rw [hf2]; rfl) ?_
                      refine o_end (r_region rfl (o_vl rfl rfl (v_move rfl) (o_vl rfl rfl (v_loadAgg (sz := 13) (cs := m.cells) rfl rfl rfl rfl (fun k c hk => mgc (m := m) k (mg_in _ _ _ _ _ _) hk)) (o_call rfl rfl rfl rfl (c_call callable89 rfl) (r_install _ _ a f2 m _ hf2ok hm (by omega)) ?_))))
                      rintro v' F H' ⟨rfl, rfl, q2, hq2', hqp2, rfl⟩ _
                      refine j_drop (box_out a q2 _ Fr) ?_
                      refine o_end (r_inBlock (r_seq (r_region rfl (o_vl rfl rfl (v_assign rfl) (o_end ?_)))))
                      exact r_ret1 Tryz.func54 rfl rfl ⟨⟨⟨_, rfl⟩, q2, hq2', by rw [hqp2, hqs], rfl⟩, Fz.le_refl _⟩
                    · rw [if_neg (by omega)] at hqs
                      refine r_seq (r_region rfl (o_vl rfl rfl (v_eql rfl rfl) (o_vl rfl rfl (v_assign rfl) (o_end (r_if rfl (fun h17 => ?_) (fun h17 => ?_))))))
                      · rw [if_pos (by omega)] at hqs
                        refine r_region rfl (o_vl rfl rfl (v_move rfl) (o_vl rfl rfl (v_loadAgg (sz := 13) (cs := m.cells) rfl rfl rfl rfl (fun k c hk => mgc (m := m) k (mg_in _ _ _ _ _ _) hk)) (o_call rfl rfl rfl rfl (c_call callable90 rfl) (r_acked _ _ a q m _ hq hm (by omega) hqn) ?_)))
                        rintro v' F2 H' ⟨rfl, q2, hq2', hqp2, rfl⟩ hF2
                        refine j_drop (box_out a q2 _ Fr) ?_
                        refine o_end (r_inBlock (r_seq (r_region rfl (o_vl rfl rfl (v_assign rfl) (o_end ?_)))))
                        exact r_ret1 Tryz.func54 rfl rfl ⟨⟨⟨_, rfl⟩, q2, hq2', by rw [hqp2, hqs], rfl⟩, hF2⟩
                      · rw [if_neg (by omega)] at hqs
                        refine j_drop (box_out a q _ Fr) ?_
                        refine r_skip (r_inBlock (r_seq (r_region rfl (o_vl rfl rfl (v_assign rfl) (o_end ?_)))))
                        exact r_ret1 Tryz.func54 rfl rfl ⟨⟨⟨_, rfl⟩, q, hq, hqs.symm, rfl⟩, Fz.le_refl _⟩
end Go.SX
namespace Go.SX
open Go Go.Proofs
set_option maxRecDepth 4000
theorem hard_cell {a : Nat} {r : Rf} {F : Fz} {H : List Ent} (hm : RfE a r ∈ H) (k : Nat) (c : Value) (hc : [Value.int .u64 r.p.term, .int .i64 r.p.vote][k]? = some c) : Cell F H a (0 + 4 + k) c := by
  have hk : k < 2 := by
    rcases Nat.lt_or_ge k 2 with h | h
    · exact h
    · rw [List.getElem?_eq_none (by simpa using h)] at hc; cases hc
  rw [Nat.zero_add]
  refine cell_own (cs := r.cells) (n := 36) hm ?_
  rw [← hc]
  have : k = 0 ∨ k = 1 := by omega
  rcases this with rfl | rfl <;> rfl
def PR.saves (p : PR) : Bool := p.chg || decide (p.fresh ≠ 0)
def PR.saveE (p : PR) : List PE := if 0 < p.fresh then p.from_ p.fresh (p.last - p.fresh + 1) else []
def PR.saved (p : PR) : PR := { p with chg := false, fresh := 0 }
set_option maxHeartbeats 1000000 in
theorem r_Save (O : World) (F : Fz) (a : Nat) (r : Rf) (Fr : List Ent) (hr : r.ok F) (hf : 0 < r.p.fresh → r.p.fresh ≤ r.p.last) :
    Does Tryz.prog O 38 #[ptrV a] F (RfH a r Fr) (fun v F' H' => F.le F' ∧ (r.p.saves = false → (v = .tuple #[.agg #[.bool false, .int .u64 0, .int .i64 0, .slice none 0 0], .bool false] ∧ H' = RfH a r Fr)) ∧
      (r.p.saves = true → ∃ (es : List En) (ev : Value), es.map En.pure = r.p.saveE ∧ (∀ e ∈ es, e ∈ r.l) ∧ Sl F' [] 4 ev es.length (enV es) ∧ v = .tuple #[.agg #[.bool r.p.chg, .int .u64 r.p.term, .int .i64 r.p.vote, ev], .bool true] ∧ H' = RfH a { r with p := r.p.saved } Fr)) := by
  refine does_of_run (args := [_]) Tryz.func38 rfl rfl ?_
  have hla : r.p.last ≤ 300000 := hr.B.last
  have hfb := hr.B.fresh
  refine r_seq (r_region rfl (o_act rfl rfl rfl rfl (a_alloc rfl) ?_))
  rintro v' H' ⟨y, rfl, rfl⟩
  refine j_heap (H' := .mem y [.bool false, .int .u64 0, .int .i64 0, .slice none 0 0] 4 :: RfH a r Fr) rfl ?_
  refine j_perm (box_in a r _ Fr) ?_
  refine o_vl rfl rfl (v_assign rfl) (o_end (r_seq ?_))
  refine r_join (fun _ : Unit => r.p.saves = true) (fun _ => [(0, ptrV a), (2, ptrV y)]) (fun _ => F) (fun _ => RfH a r (.mem y [.bool false, .int .u64 0, .int .i64 0, .slice none 0 0] 4 :: Fr)) ?_ ?_
  · intro J
    have hokb : ∀ b : Bool, r.p.chg = b → (Value.bool r.p.chg) = .bool b := fun b h => by rw [h]
    rcases (show r.p.chg = true ∨ r.p.chg = false by cases r.p.chg <;> simp) with hc | hc
    · skip
      have hs : r.p.saves = true := by unfold PR.saves; rw [hc]; rfl
      refine r_seq (r_region rfl (o_vl rfl rfl (v_move rfl) (o_vl rfl rfl (v_peqnil rfl rfl rfl) (o_vl rfl rfl (v_move rfl) (o_vl rfl rfl (v_move rfl) (o_vl rfl rfl (v_nilCheck rfl) (o_vl rfl rfl (v_field (k := 29) rfl rfl rfl) (o_vl rfl rfl (v_load (v := .bool true) rfl rfl (by rw [← hokb true hc]; exact rfc (r := r) 29 (by first | exact List.mem_cons_self .. | simp [RfH]) rfl)) (o_vl rfl rfl (v_not rfl) (o_vl rfl rfl (v_move rfl) (o_sk rfl rfl (o_sk rfl rfl (o_sk rfl rfl ?_)))))))))))))
      refine o_sk rfl rfl (o_sk rfl rfl (o_vl rfl rfl (v_pick0 rfl rfl) (o_vl rfl rfl (v_pick0 rfl rfl) (o_end (r_false rfl (r_skip ?_))))))
      refine j_keep ?_ (J () hs)
      exact ⟨rfl, rfl, trivial⟩
    · skip
      refine r_seq (r_region rfl (o_vl rfl rfl (v_move rfl) (o_vl rfl rfl (v_peqnil rfl rfl rfl) (o_vl rfl rfl (v_move rfl) (o_vl rfl rfl (v_move rfl) (o_vl rfl rfl (v_nilCheck rfl) (o_vl rfl rfl (v_field (k := 29) rfl rfl rfl) (o_vl rfl rfl (v_load (v := .bool false) rfl rfl (by rw [← hokb false hc]; exact rfc (r := r) 29 (by first | exact List.mem_cons_self .. | simp [RfH]) rfl)) (o_vl rfl rfl (v_not rfl) (o_vl rfl rfl (v_move rfl) (o_vl rfl rfl (v_move rfl) (o_vl rfl rfl (v_nilCheck rfl) (o_vl rfl rfl (v_field (k := 30) rfl rfl rfl) ?_)))))))))))))
      refine o_vl rfl rfl (v_load rfl rfl (rfc (r := r) 30 (by first | exact List.mem_cons_self .. | simp [RfH]) rfl)) (o_vl rfl rfl (v_eql rfl rfl) (o_vl rfl rfl (v_pick1 rfl rfl) (o_vl rfl rfl (v_pick0 rfl rfl) (o_end (r_if rfl (fun h => ?_) (fun h => ?_))))))
      · have hs : r.p.saves = false := by unfold PR.saves; rw [hc, decide_eq_false (by omega)]; rfl
        refine r_seq (r_region rfl (o_vl rfl rfl (v_build rfl rfl) ?_))
        refine j_perm (box_in a r _ Fr).symm ?_
        refine o_act0 rfl rfl rfl (a_store (sz := 4) 0 rfl rfl rfl rfl rfl rfl (Nat.le_of_ble_eq_true rfl)) ?_
        refine j_heap (H' := .mem y [.bool false, .int .u64 0, .int .i64 0, .slice none 0 0] 4 :: RfH a r Fr) rfl ?_
        refine o_vl rfl rfl (v_assign rfl) (o_end ?_)
        exact r_retC1 (cs := [.bool false, .int .u64 0, .int .i64 0, .slice none 0 0]) (sz := 4) Tryz.func38 rfl rfl rfl rfl rfl rfl (fun i c hc => cell_at (j := 0) rfl (by simpa using hc)) (List.sublist_cons_self _ _) ⟨⟨Fz.le_refl _, fun _ => ⟨rfl, rfl⟩, fun h => by rw [hs] at h; cases h⟩, Fz.le_refl _⟩
      · have hs : r.p.saves = true := by unfold PR.saves; rw [hc, decide_eq_true (by omega)]; rfl
        refine r_skip ?_
        refine j_keep ?_ (J () hs)
        exact ⟨rfl, rfl, trivial⟩
  · rintro ⟨⟩ hs
    obtain ⟨Y, hY⟩ : ∃ Y : Ent, Y = .mem y [.bool false, .int .u64 0, .int .i64 0, .slice none 0 0] 4 := ⟨_, rfl⟩
    rw [← hY]
    refine r_seq (d_region 1000000 rfl ([RfE a r]) ?_)
    refine d_tk (i := 0) rfl rfl (by simp [RfH]) (v_move rfl) (d_tk (i := 1) rfl rfl (by simp [RfH]) (v_nilCheck rfl) (d_tk (i := 2) rfl rfl (by simp [RfH]) (v_field (k := 29) rfl rfl rfl) (d_tk (i := 3) rfl rfl (by simp [RfH]) (v_load rfl rfl (rfc (r := r) 29 (by first | exact List.mem_cons_self .. | simp [RfH]) rfl)) (d_tk (i := 4) rfl rfl (by simp [RfH]) (v_move rfl) (d_tk (i := 5) rfl rfl (by simp [RfH]) (v_nilCheck rfl) (d_tk (i := 6) rfl rfl (by simp [RfH]) (v_field (k := 4) rfl rfl rfl) (d_tk (i := 7) rfl rfl (by simp [RfH]) (v_loadAgg (sz := 2) (cs := [.int .u64 r.p.term, .int .i64 r.p.vote]) rfl rfl rfl rfl (hard_cell (by simp))) (d_tk (i := 8) rfl rfl (by simp [RfH]) (v_build rfl rfl) (d_one (i := 9) (by decide +kernel) (d1_act rfl rfl rfl rfl (a_alloc rfl) ?_))))))))))
    rintro v' H' ⟨z, rfl, rfl⟩
    refine ⟨fun w hw => held_of hw (by first | exact Fz.le_refl _ | assumption) (by simp [RfH]), ?_⟩
    refine d_one (i := 10) (by decide +kernel) ?_
    refine d1_act0 rfl rfl rfl (a_store (sz := 4) 0 rfl rfl rfl rfl rfl rfl (Nat.le_of_ble_eq_true rfl)) (fun w hw => held_of hw (Fz.le_refl _) (by simp [RfH])) ?_
    refine j_heap (H' := .mem z [.bool r.p.chg, .int .u64 r.p.term, .int .i64 r.p.vote, .slice none 0 0] 4 :: RfH a r (Y :: Fr)) rfl ?_
    refine j_perm (box_in a r _ (Y :: Fr)) ?_
    refine d_end (by decide +kernel) (r_seq ?_)
    refine r_join (fun g : List En × Value × Fz => F.le g.2.2 ∧ g.1.map En.pure = r.p.saveE ∧ (∀ e ∈ g.1, e ∈ r.l) ∧ Sl g.2.2 [] 4 g.2.1 g.1.length (enV g.1)) (fun _ => [(0, ptrV a), (2, ptrV y), (4, ptrV z)]) (fun g => g.2.2) (fun g => RfH a r (.mem z [.bool r.p.chg, .int .u64 r.p.term, .int .i64 r.p.vote, g.2.1] 4 :: Y :: Fr)) ?_ ?_
    · intro J
      refine r_seq (r_region rfl (o_vl rfl rfl (v_move rfl) (o_vl rfl rfl (v_nilCheck rfl) (o_vl rfl rfl (v_field (k := 30) rfl rfl rfl) (o_vl rfl rfl (v_load rfl rfl (rfc (r := r) 30 (by first | exact List.mem_cons_self .. | simp [RfH]) rfl)) (o_vl rfl rfl (v_gtr rfl rfl) (o_end (r_if rfl (fun h => ?_) (fun h => ?_)))))))))
      · have hfl := hf (by omega)
        refine d_region 1000000 rfl ([RfE a r]) ?_
        refine d_tk (i := 0) rfl rfl (by simp [RfH]) (v_move rfl) (d_tk (i := 1) rfl rfl (by simp [RfH]) (v_nilCheck rfl) (d_tk (i := 2) rfl rfl (by simp [RfH]) (v_field (k := 8) rfl rfl rfl) (d_tk (i := 3) rfl rfl (by simp [RfH]) (v_load rfl rfl (rfc (r := r) 8 (by first | exact List.mem_cons_self .. | simp [RfH]) rfl)) (d_tk (i := 4) rfl rfl (by simp [RfH]) (v_move rfl) (d_tk (i := 5) rfl rfl (by simp [RfH]) (v_nilCheck rfl) (d_tk (i := 6) rfl rfl (by simp [RfH]) (v_field (k := 30) rfl rfl rfl) (d_tk (i := 7) rfl rfl (by simp [RfH]) (v_load rfl rfl (rfc (r := r) 30 (by first | exact List.mem_cons_self .. | simp [RfH]) rfl)) (d_tk (i := 8) rfl rfl (by simp [RfH]) (v_move rfl) (d_tk (i := 9) rfl rfl (by simp [RfH]) (v_nilCheck rfl) (d_tk (i := 10) rfl rfl (by simp [RfH]) (v_field (k := 8) rfl rfl rfl) (d_tk (i := 11) rfl rfl (by simp [RfH]) (v_load rfl rfl (rfc (r := r) 8 (by first | exact List.mem_cons_self .. | simp [RfH]) rfl)) (d_tk (i := 13) rfl rfl (by simp [RfH]) (v_move rfl) (d_tk (i := 14) rfl rfl (by simp [RfH]) (v_nilCheck rfl) ?_)))))))))))))
        refine d_tk (i := 15) rfl rfl (by simp [RfH]) (v_field (k := 30) rfl rfl rfl) (d_tk (i := 16) rfl rfl (by simp [RfH]) (v_load rfl rfl (rfc (r := r) 30 (by first | exact List.mem_cons_self .. | simp [RfH]) rfl)) (d_one (i := 12) (by decide +kernel) (d1_call rfl rfl rfl rfl (c_call callable45 rfl) (rl_Last _ _ a r _ hr) ?_)))
        rintro v' F H' ⟨rfl, rfl, rfl⟩ _
        refine ⟨fun w hw => held_of hw (by first | exact Fz.le_refl _ | assumption) (by simp [RfH]), ?_⟩
        refine d_tk (i := 17) rfl rfl (by simp [RfH]) (v_sub rfl rfl (r := ((r.p.last - r.p.fresh : Nat) : Int)) ((wrap_u64 (by omega) (by omega)).trans (by omega))) (d_tk (i := 18) rfl rfl (by simp [RfH]) (v_add rfl rfl (r := ((r.p.last - r.p.fresh + 1 : Nat) : Int)) ((wrap_u64 (by omega) (by omega)).trans (by omega))) (d_tk (i := 19) rfl rfl (by simp [RfH]) (v_conv rfl rfl rfl (wrap_i64 (by omega) (by omega))) (d_one (i := 20) (by decide +kernel) (d1_call rfl rfl rfl rfl (c_call callable43 rfl) (rl_From _ _ a r r.p.fresh (r.p.last - r.p.fresh + 1) _ hr (by omega) (by omega)) ?_))))
        rintro v' F2 H' ⟨hF2, ⟨es, hes, hesm, hev⟩, rfl⟩ _
        refine ⟨fun w hw => held_of hw (by first | exact Fz.le_refl _ | assumption) (by simp [RfH]), ?_⟩
        obtain ⟨ae, ce, rfl, _⟩ := Sl.shape hev
        refine d_tk (i := 21) rfl rfl (by simp [RfH]) (hF := hF2) (v_field (k := 3) rfl rfl rfl) ?_
        refine j_perm (box_in a r _ (Y :: Fr)).symm ?_
        refine d_one (i := 22) (by decide +kernel) ?_
        refine d1_act0 rfl rfl rfl (a_store1 0 rfl rfl rfl rfl rfl (Nat.le_of_ble_eq_true rfl)) (fun w hw => held_of hw hF2 (by simp [RfH])) ?_
        refine j_heap (H' := .mem z [.bool r.p.chg, .int .u64 r.p.term, .int .i64 r.p.vote, .slice ae es.length ce] 4 :: RfH a r (Y :: Fr)) rfl ?_
        refine j_perm (box_in a r _ (Y :: Fr)) ?_
        refine d_end (by decide +kernel) ?_
        refine j_keep ?_ (J (es, .slice ae es.length ce, F2) ⟨hF2, by rw [hes]; unfold PR.saveE; rw [if_pos (by omega)], hesm, hev⟩)
        exact ⟨rfl, rfl, rfl, trivial⟩
      · refine r_skip ?_
        refine j_keep ?_ (J ([], .slice none 0 0, F) ⟨Fz.le_refl _, by unfold PR.saveE; rw [if_neg (by omega)]; rfl, by simp, Sl.nil _ _ _⟩)
        exact ⟨rfl, rfl, rfl, trivial⟩
    · rintro ⟨es, ev, F2⟩ ⟨hF2, hes, hesm, hev⟩
      dsimp only at hF2 hes hesm hev ⊢
      obtain ⟨ae, ce, rfl, _⟩ := Sl.shape hev
      obtain ⟨r2, hr2⟩ : ∃ r2 : Rf, r2 = { r with p := r.p.saved } := ⟨_, rfl⟩
      obtain ⟨Zc, hZc⟩ : ∃ Zc : List Value, Zc = [.bool r.p.chg, .int .u64 r.p.term, .int .i64 r.p.vote, .slice ae es.length ce] := ⟨_, rfl⟩
      rw [← hZc]
      refine r_seq (r_region rfl (o_vl rfl rfl (v_move rfl) (o_vl rfl rfl (v_move rfl) (o_vl rfl rfl (v_nilCheck rfl) (o_vl rfl rfl (v_field (k := 29) rfl rfl rfl) ?_)))))
      refine j_heap (H' := RfE a r :: RfT r (.mem z Zc 4 :: Y :: Fr)) rfl ?_
      refine o_act0 rfl rfl rfl (a_rf { r with p := { r.p with chg := false } } rfl rfl rfl rfl (Nat.le_of_ble_eq_true rfl) rfl) ?_
      refine o_vl rfl rfl (v_nilCheck rfl) (o_vl rfl rfl (v_field (k := 30) rfl rfl rfl) (o_act0 rfl rfl rfl (a_rf r2 rfl rfl rfl rfl (Nat.le_of_ble_eq_true rfl) (by rw [hr2]; rfl)) ?_))
      refine j_heap (H' := RfH a r2 (.mem z Zc 4 :: Y :: Fr)) (by rw [hr2]; rfl) ?_
      refine j_perm (box_in a r2 _ (Y :: Fr)).symm ?_
      refine j_perm (List.Perm.cons _ (box_in a r2 Y Fr).symm) ?_
      refine o_end (r_seq (r_region rfl (o_vl rfl rfl (v_loadAgg (sz := 4) (cs := Zc) rfl rfl rfl (by rw [hZc]; rfl) (fun i c hc => cell_at (j := 0) rfl (by simpa using hc))) ?_)))
      rw [hY, hZc]
      refine o_act0 rfl rfl rfl (a_store (sz := 4) (v := .agg #[.bool r.p.chg, .int .u64 r.p.term, .int .i64 r.p.vote, .slice ae es.length ce]) 1 rfl rfl rfl rfl rfl rfl (Nat.le_of_ble_eq_true rfl)) ?_
      refine j_drop (List.sublist_cons_self _ _) ?_
      refine j_heap (H' := .mem y [.bool r.p.chg, .int .u64 r.p.term, .int .i64 r.p.vote, .slice ae es.length ce] 4 :: RfH a r2 Fr) rfl ?_
      refine o_vl rfl rfl (v_assign rfl) (o_end ?_)
      exact r_retC1 (cs := [.bool r.p.chg, .int .u64 r.p.term, .int .i64 r.p.vote, .slice ae es.length ce]) (sz := 4) Tryz.func38 rfl rfl rfl rfl rfl rfl (fun i c hc => cell_at (j := 0) rfl (by simpa using hc)) (List.sublist_cons_self _ _) ⟨⟨hF2, fun h => (by rw [hs] at h; cases h), fun _ => ⟨es, _, hes, hesm, hev, rfl, by rw [hr2]⟩⟩, hF2⟩
theorem r_Restore (O : World) (F : Fz) (a : Nat) (r : Rf) (Fr : List Ent) (hr : r.ok F) :
    Does Tryz.prog O 63 #[ptrV a] F (RfH a r Fr) (fun v F' H' => F' = F ∧ (∃ cs : List Value, cs.length = 4 ∧ cs.all oneCellB = true ∧ v = .tuple #[.agg cs.toArray, .bool r.p.rs]) ∧ H' = RfH a { r with p := { r.p with rs := false } } Fr) := by
  refine does_of_run (args := [_]) Tryz.func63 rfl rfl ?_
  have hsd1 : oneCellB r.sdv = true := by
    obtain ⟨a2, c2, h2, _⟩ := Sl.shape hr.sd
    rw [h2]
    rfl
  have hokb : ∀ b : Bool, r.p.rs = b → (Value.bool r.p.rs) = .bool b := fun b h => by rw [h]
  refine r_seq (r_region rfl (o_act rfl rfl rfl rfl (a_alloc rfl) ?_))
  rintro v' H' ⟨y, rfl, rfl⟩
  refine j_heap (H' := .mem y [.int .u64 0, .int .u64 0, .int .u64 0, .slice none 0 0] 4 :: RfH a r Fr) rfl ?_
  refine j_perm (box_in a r _ Fr) ?_
  refine o_vl rfl rfl (v_assign rfl) (o_end ?_)
  cases hc : r.p.rs with
  | true =>
    obtain ⟨r2, hr2⟩ : ∃ r2 : Rf, r2 = { r with p := { r.p with rs := false } } := ⟨_, rfl⟩
    have hsd2 : oneCellB r2.sdv = true := by rw [hr2]; exact hsd1
    refine r_seq (r_seq (r_region rfl (o_vl rfl rfl (v_move rfl) (o_vl rfl rfl (v_peqnil rfl rfl rfl) (o_vl rfl rfl (v_move rfl) (o_vl rfl rfl (v_move rfl) (o_vl rfl rfl (v_nilCheck rfl) (o_vl rfl rfl (v_field (k := 35) rfl rfl rfl) (o_vl rfl rfl (v_load (v := .bool true) rfl rfl (by rw [← hokb true hc]; exact rfc (r := r) 35 (by first | exact List.mem_cons_self .. | simp [RfH]) rfl)) (o_vl rfl rfl (v_not rfl) (o_vl rfl rfl (v_pick0 rfl rfl) (o_end (r_false rfl ?_)))))))))))))
    refine r_skip (r_seq (r_region rfl (o_vl rfl rfl (v_move rfl) (o_vl rfl rfl (v_nilCheck rfl) (o_vl rfl rfl (v_field (k := 35) rfl rfl rfl) ?_)))))
    refine j_heap (H' := RfE a r :: RfT r (.mem y [.int .u64 0, .int .u64 0, .int .u64 0, .slice none 0 0] 4 :: Fr)) rfl ?_
    refine o_act0 rfl rfl rfl (a_rf r2 rfl rfl rfl rfl (Nat.le_of_ble_eq_true rfl) (by rw [hr2]; rfl)) ?_
    refine j_heap (H' := RfH a r2 (.mem y [.int .u64 0, .int .u64 0, .int .u64 0, .slice none 0 0] 4 :: Fr)) (by rw [hr2]; rfl) ?_
    refine o_end (r_seq (r_region rfl (o_vl rfl rfl (v_move rfl) (o_vl rfl rfl (v_nilCheck rfl) (o_vl rfl rfl (v_field (k := 31) rfl rfl rfl) (o_vl rfl rfl (v_loadAgg (sz := 4) (cs := [.int .u64 r2.p.six, .int .u64 r2.p.stm, .int .u64 r2.p.svt, r2.sdv]) rfl rfl rfl rfl (snap_cell (List.mem_cons_self ..))) ?_))))))
    refine j_perm (box_in a r2 _ Fr).symm ?_
    refine o_act0 rfl rfl rfl (a_store (sz := 4) (v := .agg #[.int .u64 r2.p.six, .int .u64 r2.p.stm, .int .u64 r2.p.svt, r2.sdv]) 0 rfl rfl rfl (by show [Value.int .u64 r2.p.six, .int .u64 r2.p.stm, .int .u64 r2.p.svt, r2.sdv].all oneCellB = true; simp only [List.all_cons, List.all_nil, hsd2, Bool.and_true]; rfl) rfl rfl (Nat.le_of_ble_eq_true rfl)) ?_
    refine j_heap (H' := .mem y [.int .u64 r2.p.six, .int .u64 r2.p.stm, .int .u64 r2.p.svt, r2.sdv] 4 :: RfH a r2 Fr) rfl ?_
    refine o_vl rfl rfl (v_assign rfl) (o_end ?_)
    exact r_retC1 (cs := [.int .u64 r2.p.six, .int .u64 r2.p.stm, .int .u64 r2.p.svt, r2.sdv]) (sz := 4) Tryz.func63 rfl rfl rfl rfl rfl rfl (fun i c hc => cell_at (j := 0) rfl (by simpa using hc)) (List.sublist_cons_self _ _) ⟨⟨rfl, ⟨[.int .u64 r2.p.six, .int .u64 r2.p.stm, .int .u64 r2.p.svt, r2.sdv], rfl, (by show [Value.int .u64 r2.p.six, .int .u64 r2.p.stm, .int .u64 r2.p.svt, r2.sdv].all oneCellB = true; simp only [List.all_cons, List.all_nil, hsd2, Bool.and_true]; rfl), rfl⟩, by rw [hr2]⟩, Fz.le_refl _⟩
  | false =>
    have e : ({ r with p := { r.p with rs := false } } : Rf) = r := by rw [← hc]
    refine r_seq (r_seq (r_region rfl (o_vl rfl rfl (v_move rfl) (o_vl rfl rfl (v_peqnil rfl rfl rfl) (o_vl rfl rfl (v_move rfl) (o_vl rfl rfl (v_move rfl) (o_vl rfl rfl (v_nilCheck rfl) (o_vl rfl rfl (v_field (k := 35) rfl rfl rfl) (o_vl rfl rfl (v_load (v := .bool false) rfl rfl (by rw [← hokb false hc]; exact rfc (r := r) 35 (by first | exact List.mem_cons_self .. | simp [RfH]) rfl)) (o_vl rfl rfl (v_not rfl) (o_vl rfl rfl (v_pick0 rfl rfl) (o_end (r_true rfl ?_)))))))))))))
    refine r_seq (r_region rfl (o_vl rfl rfl (v_build rfl rfl) ?_))
    refine j_perm (box_in a r _ Fr).symm ?_
    refine o_act0 rfl rfl rfl (a_store (sz := 4) 0 rfl rfl rfl rfl rfl rfl (Nat.le_of_ble_eq_true rfl)) ?_
    refine j_heap (H' := .mem y [.int .u64 0, .int .u64 0, .int .u64 0, .slice none 0 0] 4 :: RfH a r Fr) rfl ?_
    refine o_vl rfl rfl (v_assign rfl) (o_end ?_)
    exact r_retC1 (cs := [.int .u64 0, .int .u64 0, .int .u64 0, .slice none 0 0]) (sz := 4) Tryz.func63 rfl rfl rfl rfl rfl rfl (fun i c hc => cell_at (j := 0) rfl (by simpa using hc)) (List.sublist_cons_self _ _) ⟨⟨rfl, ⟨[.int .u64 0, .int .u64 0, .int .u64 0, .slice none 0 0], rfl, rfl, rfl⟩, by rw [e]⟩, Fz.le_refl _⟩
end Go.SX
namespace Go.SX
open Go Go.Proofs
set_option maxRecDepth 4000
def PR.entry (p : PR) (i : Nat) : Option PE := if p.cm < i ∨ i ≤ p.lix ∨ p.last < i then none else p.l[i - p.lix - 1]?
def En.z : En := ⟨0, 0, 0, .slice none 0 0, []⟩
theorem En.z_ok (F : Fz) : En.z.ok F := ⟨by decide, by decide, by decide, Sl.nil _ _ _, by decide⟩
theorem lgEntry_pure (F : Fz) (r : Rf) (hr : r.ok F) (i : Nat) (hi : ¬ r.p.cm < i) : ∃ e : En, e.ok F ∧ e.pure = (r.p.entry i).getD ⟨0, 0, 0, []⟩ ∧ (lgEntry r.p.lix r.l i).1 = e.cells ∧ (lgEntry r.p.lix r.l i).2 = (r.p.entry i).isSome := by
  have hl := hr.len
  unfold lgEntry PR.entry PR.last
  by_cases h : i ≤ r.p.lix ∨ r.p.lix + r.l.length < i
  · rw [if_pos h, if_pos (by omega)]
    exact ⟨En.z, En.z_ok F, rfl, rfl, rfl⟩
  · rw [if_neg h, if_neg (by omega)]
    have hlt : i - r.p.lix - 1 < r.l.length := by omega
    refine ⟨r.l[i - r.p.lix - 1], hr.lok _ (List.getElem_mem _), ?_, ?_, ?_⟩
    · rw [← hr.l, List.getElem?_map, List.getElem?_eq_getElem hlt]
      rfl
    · rw [List.getElem?_eq_getElem hlt]
      rfl
    · rw [← hr.l, List.getElem?_map, List.getElem?_eq_getElem hlt]
      rfl
theorem rl_Entry (O : World) (F : Fz) (a : Nat) (r : Rf) (i : Nat) (Fr : List Ent) (hr : r.ok F) (hi : i < 18446744073709551616) : Does Tryz.prog O 93 #[ptrV r.lg, .int .u64 i] F (RfH a r Fr) (fun v F' H' => v = .tuple #[.agg (lgEntry r.p.lix r.l i).1.toArray, .bool (lgEntry r.p.lix r.l i).2] ∧ F' = F ∧ H' = RfH a r Fr) := by
  have hb := hr.bnd
  exact does_same (perm_in (RfE a r) (LgE r.lg r.p.lix r.p.ltm r.p.lvt r.lbf r.l.length) (r.lbf.ents 4 (enV r.l)) (r.obf.ents 13 (mgV r.out) ++ Fr)) (lg_Entry O F r.lg r.p.lix r.p.ltm r.p.lvt r.lbf r.l i _ (by omega) hr.lbf hi hr.lok)
theorem r_Entry (O : World) (F : Fz) (a : Nat) (r : Rf) (i : Nat) (Fr : List Ent) (hr : r.ok F) (hi : i < 18446744073709551616) :
    Does Tryz.prog O 67 #[ptrV a, .int .u64 i] F (RfH a r Fr) (fun v F' H' => F' = F ∧ (∃ e : En, e.ok F ∧ e.pure = (r.p.entry i).getD ⟨0, 0, 0, []⟩ ∧ v = .tuple #[.agg e.cells.toArray, .bool (r.p.entry i).isSome]) ∧ H' = RfH a r Fr) := by
  refine does_of_run (args := [_, _]) Tryz.func67 rfl rfl ?_
  refine r_seq (r_region rfl (o_act rfl rfl rfl rfl (a_alloc rfl) ?_))
  rintro v' H' ⟨y, rfl, rfl⟩
  refine j_heap (H' := .mem y [.int .u64 0, .int .u64 0, .int .u8 0, .slice none 0 0] 4 :: RfH a r Fr) rfl ?_
  refine j_perm (box_in a r _ Fr) ?_
  refine o_vl rfl rfl (v_assign rfl) (o_end (r_seq (r_seq (r_region rfl (o_vl rfl rfl (v_move rfl) (o_vl rfl rfl (v_peqnil rfl rfl rfl) (o_vl rfl rfl (v_move rfl) (o_vl rfl rfl (v_move rfl) (o_vl rfl rfl (v_move rfl) (o_vl rfl rfl (v_nilCheck rfl) (o_vl rfl rfl (v_field (k := 9) rfl rfl rfl) (o_vl rfl rfl (v_load rfl rfl (rfc (r := r) 9 (by first | exact List.mem_cons_self .. | simp [RfH]) rfl)) (o_vl rfl rfl (v_gtr rfl rfl) ?_)))))))))))))
  refine o_vl rfl rfl (v_pick0 rfl rfl) (o_end (r_if rfl (fun h => ?_) (fun h => ?_)))
  · have he : r.p.entry i = none := by unfold PR.entry; rw [if_pos (.inl (by omega))]
    refine r_seq (r_region rfl (o_vl rfl rfl (v_build rfl rfl) ?_))
    refine j_perm (box_in a r _ Fr).symm ?_
    refine o_act0 rfl rfl rfl (a_store (sz := 4) 0 rfl rfl rfl rfl rfl rfl (Nat.le_of_ble_eq_true rfl)) ?_
    refine j_heap (H' := .mem y En.z.cells 4 :: RfH a r Fr) rfl ?_
    refine o_vl rfl rfl (v_assign rfl) (o_end ?_)
    exact r_retC1 (cs := En.z.cells) (sz := 4) Tryz.func67 rfl rfl rfl rfl rfl rfl (fun i c hc => cell_at (j := 0) rfl (by simpa using hc)) (List.sublist_cons_self _ _) ⟨⟨rfl, ⟨En.z, En.z_ok F, by rw [he]; rfl, by rw [he]; rfl⟩, rfl⟩, Fz.le_refl _⟩
  · obtain ⟨e, heok, hep, hec, heb⟩ := lgEntry_pure F r hr i (by omega)
    refine r_skip (r_seq (r_region rfl (o_vl rfl rfl (v_move rfl) (o_vl rfl rfl (v_nilCheck rfl) (o_vl rfl rfl (v_field (k := 8) rfl rfl rfl) (o_vl rfl rfl (v_load rfl rfl (rfc (r := r) 8 (by first | exact List.mem_cons_self .. | simp [RfH]) rfl)) (o_vl rfl rfl (v_move rfl) (o_call rfl rfl rfl rfl (c_call callable93 rfl) (rl_Entry _ _ a r i _ hr hi) ?_))))))))
    rintro v' F H' ⟨rfl, rfl, rfl⟩ _
    rw [hec, heb]
    refine o_vl rfl rfl (v_extract rfl rfl) (o_vl rfl rfl (v_extract rfl rfl) ?_)
    refine j_perm (box_in a r _ Fr).symm ?_
    refine o_act0 rfl rfl rfl (a_store (sz := 4) (v := .agg e.cells.toArray) 0 rfl rfl rfl heok.one rfl rfl (Nat.le_of_ble_eq_true rfl)) ?_
    refine j_heap (H' := .mem y e.cells 4 :: RfH a r Fr) rfl ?_
    refine o_vl rfl rfl (v_assign rfl) (o_end ?_)
    exact r_retC1 (cs := e.cells) (sz := 4) Tryz.func67 rfl rfl rfl rfl rfl rfl (fun i c hc => cell_at (j := 0) rfl (by simpa using hc)) (List.sublist_cons_self _ _) ⟨⟨rfl, ⟨e, heok, hep, rfl⟩, rfl⟩, Fz.le_refl _⟩
def PR.image (p : PR) : PI := ⟨p.term, p.vote, p.six, p.stm, p.svt, p.sd, p.from_ (p.lix + 1) p.l.length⟩
set_option maxHeartbeats 1000000 in
theorem r_Image (O : World) (F : Fz) (a : Nat) (r : Rf) (Fr : List Ent) (hr : r.ok F) :
    Does Tryz.prog O 21 #[ptrV a] F (RfH a r Fr) (fun v F' H' => F.le F' ∧ (∃ q : Im, q.ok F' ∧ q.pure = r.p.image ∧ v = .agg q.cells.toArray) ∧ H' = RfH a r Fr) := by
  refine does_of_run (args := [_]) Tryz.func21 rfl rfl ?_
  have hla := hr.B.last
  have hll : r.p.last = r.p.lix + r.p.l.length := rfl
  have hsd := hr.sd
  obtain ⟨a3, c3, hsv, _⟩ := Sl.shape hsd
  refine r_seq (r_region rfl (o_act rfl rfl rfl rfl (a_alloc rfl) ?_))
  rintro v' H' ⟨y, rfl, rfl⟩
  refine j_heap (H' := .mem y [.int .u64 0, .int .i64 0, .int .u64 0, .int .u64 0, .int .u64 0, .slice none 0 0, .slice none 0 0] 7 :: RfH a r Fr) rfl ?_
  refine j_perm (box_in a r _ Fr) ?_
  refine o_end (r_seq (r_seq (r_region rfl (o_vl rfl rfl (v_move rfl) (o_vl rfl rfl (v_peqnil rfl rfl rfl) (o_end (r_false rfl (r_skip (r_seq (d_region 1000000 rfl ([RfE a r]) ?_))))))))))
  refine d_tk (i := 0) rfl rfl (by simp [RfH]) (v_move rfl) (d_tk (i := 1) rfl rfl (by simp [RfH]) (v_nilCheck rfl) (d_tk (i := 2) rfl rfl (by simp [RfH]) (v_field (k := 4) rfl rfl rfl) (d_tk (i := 3) rfl rfl (by simp [RfH]) (v_loadAgg (sz := 2) (cs := [.int .u64 r.p.term, .int .i64 r.p.vote]) rfl rfl rfl rfl (hard_cell (by simp))) (d_tk (i := 4) rfl rfl (by simp [RfH]) (v_move rfl) (d_tk (i := 5) rfl rfl (by simp [RfH]) (v_nilCheck rfl) (d_tk (i := 6) rfl rfl (by simp [RfH]) (v_field (k := 31) rfl rfl rfl) (d_tk (i := 7) rfl rfl (by simp [RfH]) (v_loadAgg (sz := 4) (cs := [.int .u64 r.p.six, .int .u64 r.p.stm, .int .u64 r.p.svt, r.sdv]) rfl rfl rfl rfl (snap_cell (by simp))) (d_tk (i := 8) rfl rfl (by simp [RfH]) (v_move rfl) (d_tk (i := 9) rfl rfl (by simp [RfH]) (v_nilCheck rfl) (d_tk (i := 10) rfl rfl (by simp [RfH]) (v_field (k := 8) rfl rfl rfl) (d_tk (i := 11) rfl rfl (by simp [RfH]) (v_load rfl rfl (rfc (r := r) 8 (by first | exact List.mem_cons_self .. | simp [RfH]) rfl)) (d_tk (i := 12) rfl rfl (by simp [RfH]) (v_move rfl) (d_tk (i := 13) rfl rfl (by simp [RfH]) (v_nilCheck rfl) ?_)))))))))))))
  refine d_tk (i := 14) rfl rfl (by simp [RfH]) (v_field (k := 8) rfl rfl rfl) (d_tk (i := 15) rfl rfl (by simp [RfH]) (v_load rfl rfl (rfc (r := r) 8 (by first | exact List.mem_cons_self .. | simp [RfH]) rfl)) (d_tk (i := 18) rfl rfl (by simp [RfH]) (v_move rfl) (d_tk (i := 19) rfl rfl (by simp [RfH]) (v_nilCheck rfl) (d_tk (i := 20) rfl rfl (by simp [RfH]) (v_field (k := 8) rfl rfl rfl) (d_tk (i := 21) rfl rfl (by simp [RfH]) (v_load rfl rfl (rfc (r := r) 8 (by first | exact List.mem_cons_self .. | simp [RfH]) rfl)) (d_tk (i := 23) rfl rfl (by simp [RfH]) (v_move rfl) (d_tk (i := 24) rfl rfl (by simp [RfH]) (v_nilCheck rfl) (d_tk (i := 25) rfl rfl (by simp [RfH]) (v_field (k := 8) rfl rfl rfl) (d_tk (i := 26) rfl rfl (by simp [RfH]) (v_load rfl rfl (rfc (r := r) 8 (by first | exact List.mem_cons_self .. | simp [RfH]) rfl)) (d_one (i := 16) (by decide +kernel) (d1_call rfl rfl rfl rfl (c_call callable44 rfl) (rl_Base _ _ a r _) ?_)))))))))))
  rintro v' F H' ⟨rfl, rfl, rfl⟩ _
  refine ⟨fun w hw => held_of hw (by first | exact Fz.le_refl _ | assumption) (by simp [RfH]), ?_⟩
  refine d_tk (i := 17) rfl rfl (by simp [RfH]) (v_add rfl rfl (r := ((r.p.lix + 1 : Nat) : Int)) (wrap_u64 (by omega) (by omega))) (d_one (i := 22) (by decide +kernel) (d1_call rfl rfl rfl rfl (c_call callable45 rfl) (rl_Last _ _ a r _ hr) ?_))
  rintro v' F H' ⟨rfl, rfl, rfl⟩ _
  refine ⟨fun w hw => held_of hw (by first | exact Fz.le_refl _ | assumption) (by simp [RfH]), ?_⟩
  refine d_one (i := 27) (by decide +kernel) (d1_call rfl rfl rfl rfl (c_call callable44 rfl) (rl_Base _ _ a r _) ?_)
  rintro v' F H' ⟨rfl, rfl, rfl⟩ _
  refine ⟨fun w hw => held_of hw (by first | exact Fz.le_refl _ | assumption) (by simp [RfH]), ?_⟩
  refine d_tk (i := 28) rfl rfl (by simp [RfH]) (v_sub rfl rfl (r := ((r.p.l.length : Nat) : Int)) ((wrap_u64 (by omega) (by omega)).trans (by omega))) (d_tk (i := 29) rfl rfl (by simp [RfH]) (v_conv rfl rfl rfl (wrap_i64 (by omega) (by omega))) (d_one (i := 30) (by decide +kernel) (d1_call rfl rfl rfl rfl (c_call callable43 rfl) (rl_From _ _ a r (r.p.lix + 1) r.p.l.length _ hr (by omega) (by omega)) ?_)))
  rintro v' F2 H' ⟨hF2, ⟨es, hes, hesm, hev⟩, rfl⟩ _
  refine ⟨fun w hw => held_of hw (by first | exact Fz.le_refl _ | assumption) (by simp [RfH]), ?_⟩
  obtain ⟨ae, ce, rfl, _⟩ := Sl.shape hev
  rw [hsv]
  refine d_tk (i := 31) rfl rfl (by simp [RfH]) (hF := hF2) (v_build rfl rfl) ?_
  obtain ⟨q, hq⟩ : ∃ q : Im, q = ⟨r.p.term, r.p.vote, r.p.six, r.p.stm, r.p.svt, r.sdv, r.p.sd, .slice ae es.length ce, es⟩ := ⟨_, rfl⟩
  have hqc : q.cells = [.int .u64 r.p.term, .int .i64 r.p.vote, .int .u64 r.p.six, .int .u64 r.p.stm, .int .u64 r.p.svt, .slice a3 r.p.sd.length c3, .slice ae es.length ce] := by rw [hq, ← hsv]; rfl
  have hqok : q.ok F2 := by
    have h1 := hr.B.term
    have h2 := hr.B.v1
    have h3 := hr.B.v2
    have h4 := hr.B.six
    have h5 := hr.B.stm
    have h6 := hr.B.svt
    have h7 := hr.B.sd
    rw [hq]
    exact ⟨by dsimp only; omega, h2, by dsimp only; omega, by dsimp only; omega, by dsimp only; omega, by dsimp only; omega, hsd.frz hF2, by dsimp only; omega, hev, fun e he => (hr.lok e (hesm e he)).frz hF2⟩
  refine j_perm (box_in a r _ Fr).symm ?_
  refine d_one (i := 32) (by decide +kernel) ?_
  refine d1_act0 rfl rfl rfl (a_store (sz := 7) (v := .agg q.cells.toArray) 0 rfl rfl rfl hqok.one rfl (by rw [hqc]; rfl) (Nat.le_of_ble_eq_true rfl)) (fun w hw => held_of hw hF2 (by simp [RfH])) ?_
  refine j_heap (H' := .mem y q.cells 7 :: RfH a r Fr) rfl ?_
  refine d_end (by decide +kernel) ?_
  exact r_retC (cs := q.cells) (sz := 7) Tryz.func21 rfl rfl rfl rfl rfl (fun i c hc => cell_at (j := 0) rfl (by simpa using hc)) (List.sublist_cons_self _ _) ⟨⟨hF2, ⟨q, hqok, by rw [hq]; show PI.mk _ _ _ _ _ _ _ = _; rw [hes]; rfl, rfl⟩, rfl⟩, hF2⟩
section
variable {C : Cx} {τ : Env} {F : Fz} {H : List Ent} {dst : Option Nat} {ty t : TypeId} {pos : String} {aft : Array Edge} {g : Option (Nat × Bool)}
theorem v_buildZ {parts : Array (Nat × Operand)} {fields : Array Field} {z : List Value} {places : List (Nat × Nat)} {cs : List Value} (hu : C.P.underlying t = some (.struct fields)) (hp : allEv τ (parts.toList.map (·.2)) = true)
    (hz : zeroCells? C.P t = some z) (hpl : fields.toList.mapM (fun f => (C.P.info? f.type).map fun i => (f.offset, i.size)) = some places) (hb : buildL places z (parts.toList.map fun p => (p.1, evD τ p.2)) = some cs) :
    Val C ⟨dst, .build t parts, ty, pos, aft, g⟩ τ F H (.agg cs.toArray) := by
  refine v_build hp ?_
  unfold buildV
  rw [hu]
  dsimp only
  rw [hz, hpl]
  exact hb
end
def rfZ : List Value := [.int .i64 0, .int .i64 0, .int .i64 0, .float .f64 0, .int .u64 0, .int .i64 0, .int .u8 0, .int .i64 0, .pointer none, .int .u64 0, .int .u64 0, .int .i64 0, .int .i64 0, .int .u64 0,
  .int .u64 0, .int .u64 0, .int .u64 0, .int .u64 0, .int .u64 0, .int .u64 0, .int .u64 0, .int .u64 0, .int .u64 0, .int .u64 0, .int .u64 0, .int .u64 0, .int .u64 0, .int .u64 0, .slice none 0 0, .bool false, .int .u64 0, .int .u64 0, .int .u64 0, .int .u64 0, .slice none 0 0, .bool false]
def rfPl : List (Nat × Nat) := [(0, 1), (1, 1), (2, 1), (3, 1), (4, 2), (6, 1), (7, 1), (8, 1), (9, 1), (10, 1), (11, 1), (12, 1), (13, 1), (14, 7), (21, 7), (28, 1), (29, 1), (30, 1), (31, 4), (35, 1)]
def PI.new (me : Nat) (q : PI) : PR :=
  { me := me, dr := ownD me, term := q.term, vote := q.vote, role := 0, lead := -1, lix := q.ix, ltm := q.tm, lvt := q.vt, l := q.l, cm := q.ix, st := q.ix + q.l.length, ticks := 0, lim := 0, yes := 0, nx := List.replicate 7 0, mt := List.replicate 7 0, out := [], chg := false, fresh := 0, six := q.ix, stm := q.tm, svt := q.vt, sd := q.data, rs := false }
set_option maxHeartbeats 1000000 in
theorem r_New (O : World) (F : Fz) (me : Nat) (q : Im) (Fr : List Ent) (hq : q.ok F) (hn : lgNew q.ix q.tm q.l) (hB : (PI.new me q.pure).B) :
    Does Tryz.prog O 47 #[.int .i64 me, .int .i64 2, .int .i64 4, .agg q.cells.toArray] F Fr (fun v F' H' => F' = F ∧ ∃ (a : Nat) (r : Rf), r.ok F ∧ r.p = (PI.new me q.pure).rest ∧ v = .tuple #[ptrV a, .int .i64 0] ∧ H' = RfH a r Fr) := by
  refine does_of_run (args := [_, _, _, _]) Tryz.func47 rfl rfl ?_
  have hme : me < 7 := hB.me
  have hla : q.ix + q.l.length ≤ 300000 := by
    have h1 := hB.last
    have h2 : (PI.new me q.pure).l.length = q.l.length := by show (q.l.map En.pure).length = _; simp
    rw [h2] at h1
    exact h1
  have hone := hq.one
  obtain ⟨ad, cd, hdv, _⟩ := Sl.shape hq.dv
  have hcx : ∀ F H x j c, Ent.mem x q.cells 7 ∈ H → q.cells[j]? = some c → Cell F H x (0 + j) c := fun F H x j c hm hc => by
    rw [Nat.zero_add]
    exact cell_own hm hc
  have hs4 : ∀ F H x, Ent.mem x q.cells 7 ∈ H → ∀ k c, [Value.int .u64 q.ix, .int .u64 q.tm, .int .u64 q.vt, q.dv][k]? = some c → Cell F H x (0 + 2 + k) c := fun F H x hm k c hc => by
    have hk : k < 4 := by
      rcases Nat.lt_or_ge k 4 with h | h
      · exact h
      · rw [List.getElem?_eq_none (by simpa using h)] at hc; cases hc
    rw [Nat.zero_add]
    refine cell_own (cs := q.cells) (n := 7) hm ?_
    rw [← hc]
    have : k = 0 ∨ k = 1 ∨ k = 2 ∨ k = 3 := by omega
    rcases this with rfl | rfl | rfl | rfl <;> rfl
  have hs2 : ∀ F H x, Ent.mem x q.cells 7 ∈ H → ∀ k c, [Value.int .u64 q.term, .int .i64 q.vote][k]? = some c → Cell F H x (0 + 0 + k) c := fun F H x hm k c hc => by
    have hk : k < 2 := by
      rcases Nat.lt_or_ge k 2 with h | h
      · exact h
      · rw [List.getElem?_eq_none (by simpa using h)] at hc; cases hc
    rw [Nat.zero_add]
    refine cell_own (cs := q.cells) (n := 7) hm ?_
    rw [← hc]
    have : k = 0 ∨ k = 1 := by omega
    rcases this with rfl | rfl <;> rfl
  refine r_seq (r_region rfl (o_act rfl rfl rfl rfl (a_box rfl) ?_))
  rintro v' H' ⟨x, rfl, rfl⟩
  refine j_heap (H' := .mem x q.cells 7 :: Fr) rfl ?_
  refine o_vl rfl rfl (v_assign rfl) (o_vl rfl rfl (v_assign rfl) (o_end (r_seq (r_region rfl (o_vl rfl rfl (v_field (k := 2) rfl rfl rfl) (o_vl rfl rfl (v_loadAgg (sz := 4) (cs := [.int .u64 q.ix, .int .u64 q.tm, .int .u64 q.vt, q.dv]) rfl rfl rfl rfl (hs4 _ _ _ (List.mem_cons_self ..))) (o_vl rfl rfl (v_field (k := 6) rfl rfl rfl) (o_vl rfl rfl (v_load (v := q.lv) rfl rfl (hcx _ _ _ 6 _ (List.mem_cons_self ..) rfl)) (o_call rfl rfl rfl rfl (c_call callable73 rfl) (lg_New _ _ q.ix q.tm q.vt q.dv q.lv q.l _ (hq.lv.frz (Fz.le_refl _)) hq.l (by omega) (by omega)) ?_)))))))))
  rintro v' F H' ⟨rfl, hnew⟩ _
  rcases hnew with ⟨_, lg, bf, hbf, rfl, rfl⟩ | ⟨hno, _, _⟩
  · refine o_vl rfl rfl (v_move rfl) (o_vl rfl rfl (v_extract rfl rfl) (o_vl rfl rfl (v_extract rfl rfl) (o_vl rfl rfl (v_assign rfl) (o_vl rfl rfl (v_assign rfl) (o_end (r_seq (r_seq (r_region rfl (o_vl rfl rfl (v_move rfl) (o_vl rfl rfl (v_neq rfl rfl) ?_))))))))))
    refine j_slot 22 rfl (v' := .bool false) rfl ?_
    refine o_vl rfl rfl (v_move rfl) (o_vl rfl rfl (v_move rfl) (o_vl rfl rfl (v_lss rfl rfl) ?_))
    refine j_slot 25 rfl (v' := .bool false) (by rw [decide_eq_false]; omega) ?_
    refine o_vl rfl rfl (v_pick0 rfl rfl) (o_vl rfl rfl (v_move rfl) (o_vl rfl rfl (v_move rfl) (o_vl rfl rfl (v_geq rfl rfl) ?_)))
    refine j_slot 29 rfl (v' := .bool false) (by rw [decide_eq_false]; omega) ?_
    refine o_vl rfl rfl (v_pick0 rfl rfl) (o_vl rfl rfl (v_move rfl) (o_vl rfl rfl (v_move rfl) (o_vl rfl rfl (v_lss rfl rfl) ?_)))
    refine j_slot 33 rfl (v' := .bool false) rfl ?_
    refine o_vl rfl rfl (v_pick0 rfl rfl) (o_vl rfl rfl (v_move rfl) (o_vl rfl rfl (v_move rfl) (o_vl rfl rfl (v_move rfl) (o_vl rfl rfl (v_leq rfl rfl) ?_))))
    refine j_slot 38 rfl (v' := .bool false) rfl ?_
    refine o_vl rfl rfl (v_pick0 rfl rfl) (o_end (r_false rfl (r_skip (r_seq (d_region 1000000 rfl ([.mem x q.cells 7]) ?_)))))
    refine d_tk (i := 0) rfl rfl (by simp [LgH]) (v_move rfl) (d_tk (i := 1) rfl rfl (by simp [LgH]) (v_move rfl) (d_tk (i := 2) rfl rfl (by simp [LgH]) (v_move rfl) (d_tk (i := 3) rfl rfl (by simp [LgH]) (v_field (k := 0) rfl rfl rfl) (d_tk (i := 4) rfl rfl (by simp [LgH]) (v_loadAgg (sz := 2) (cs := [.int .u64 q.term, .int .i64 q.vote]) rfl rfl rfl rfl (hs2 _ _ _ (by simp))) (d_tk (i := 5) rfl rfl (by simp [LgH]) (v_move rfl) (d_tk (i := 6) rfl rfl (by simp [LgH]) (v_field (k := 2) rfl rfl rfl) (d_tk (i := 7) rfl rfl (by simp [LgH]) (v_field (k := 0) rfl rfl rfl) (d_tk (i := 8) rfl rfl (by simp [LgH]) (v_load (v := .int .u64 q.ix) rfl rfl (hcx _ _ _ 2 _ (by simp) rfl)) (d_tk (i := 9) rfl rfl (by simp [LgH]) (v_move rfl) (d_tk (i := 11) rfl rfl (by simp [LgH]) (v_field (k := 2) rfl rfl rfl) (d_tk (i := 12) rfl rfl (by simp [LgH]) (v_loadAgg (sz := 4) (cs := [.int .u64 q.ix, .int .u64 q.tm, .int .u64 q.vt, q.dv]) rfl rfl rfl rfl (hs4 _ _ _ (by simp))) (d_one (i := 10) (by decide +kernel) (d1_call rfl rfl rfl rfl (c_call callable45 rfl) (lg_Last _ _ lg q.ix q.tm q.vt bf q.l.length _ (by omega)) ?_)))))))))))))
    rintro v' F H' ⟨rfl, rfl, rfl⟩ _
    refine ⟨fun w hw => held_of hw (by first | exact Fz.le_refl _ | assumption) (by simp [LgH]), ?_⟩
    rw [hdv]
    refine d_tk (i := 13) rfl rfl (by simp [LgH]) (v_buildZ (z := rfZ) (places := rfPl) (cs := [.int .i64 me, .int .i64 2, .int .i64 4, .float .f64 0, .int .u64 q.term, .int .i64 q.vote, .int .u8 0, .int .i64 (-1), ptrV lg, .int .u64 q.ix, .int .u64 (q.ix + q.l.length : Nat), .int .i64 0, .int .i64 0, .int .u64 0, .int .u64 0, .int .u64 0, .int .u64 0, .int .u64 0, .int .u64 0, .int .u64 0, .int .u64 0, .int .u64 0, .int .u64 0, .int .u64 0, .int .u64 0, .int .u64 0, .int .u64 0, .int .u64 0, .slice none 0 0, .bool false, .int .u64 0, .int .u64 q.ix, .int .u64 q.tm, .int .u64 q.vt, .slice ad q.data.length cd, .bool false]) Tryz.underlying75 rfl (by kernel_rfl) (by kernel_rfl) (by kernel_rfl)) (d_one (i := 14) (by decide +kernel) (d1_act rfl rfl rfl rfl (a_box rfl) ?_))
    rintro v' H' ⟨a, rfl, rfl⟩
    refine ⟨fun w hw => held_of hw (by first | exact Fz.le_refl _ | assumption) (by simp [LgH]), ?_⟩
    obtain ⟨r0, hr0⟩ : ∃ r0 : Rf, r0 = ⟨PI.new me q.pure, lg, bf, .nil, q.l, [], q.dv, 0⟩ := ⟨_, rfl⟩
    have hl2 : (q.l.map En.pure).length = q.l.length := by simp
    refine j_heap (H' := RfE a r0 :: (LgH lg q.ix q.tm q.vt bf q.l (.mem x q.cells 7 :: Fr))) (by
      rw [hr0]
      unfold RfE Rf.cells PI.new Im.pure
      dsimp only
      rw [hl2, hdv]
      rfl) ?_
    refine j_heap (H' := RfH a r0 (.mem x q.cells 7 :: Fr)) (by rw [hr0]; rfl) ?_
    refine d_tk (i := 15) rfl rfl (by intro z hz; rw [List.mem_singleton.1 hz]; exact mg_in a _ x _ _ Fr) (v_assign rfl) (d_end (by decide +kernel) (r_seq (r_region rfl (o_vl rfl rfl (v_move rfl) (o_vl rfl rfl (v_move rfl) ?_)))))
    refine j_drop (box_out a r0 _ Fr) ?_
    refine j_heap (H' := RfE a r0 :: RfT r0 Fr) rfl ?_
    refine o_call rfl rfl rfl rfl (c_call callable74 rfl) (r_own _ _ a r0 _ (by rw [hr0]; exact hme)) ?_
    rintro v' F H' ⟨rfl, rfl, rfl⟩ _
    obtain ⟨r1, hr1⟩ : ∃ r1 : Rf, r1 = ⟨PI.new me q.pure, lg, bf, .nil, q.l, [], q.dv, ownB me⟩ := ⟨_, rfl⟩
    have hr1ok : r1.ok F := by
      rw [hr1]
      exact ⟨hB, rfl, hq.l, hbf, rfl, by simp, rfl, hq.dv, own_dr hme⟩
    refine o_vl rfl rfl (v_nilCheck rfl) (o_vl rfl rfl (v_field (k := 3) rfl rfl rfl) (o_act0 rfl rfl rfl (a_rf r1 rfl rfl rfl rfl (Nat.le_of_ble_eq_true rfl) (by rw [hr1, hr0]; rfl)) ?_))
    refine o_end (r_seq (r_region rfl (o_vl rfl rfl (v_move rfl) (o_call rfl rfl rfl rfl (c_call callable51 rfl) (r_rest _ _ a r1 _ (by rw [hr1]; exact hme) hr1ok.dr) ?_))))
    rintro v' F H' ⟨rfl, rfl, rfl⟩ _
    refine j_heap (H' := RfH a { r1 with p := r1.p.rest, fb := ownB r1.p.me } Fr) (by rw [hr1, hr0]; rfl) ?_
    refine o_end (r_seq (r_region rfl (o_vl rfl rfl (v_move rfl) (o_vl rfl rfl (v_assign rfl) (o_vl rfl rfl (v_assign rfl) (o_end ?_))))))
    exact r_ret2 Tryz.func47 rfl rfl rfl ⟨⟨rfl, a, _, rest_ok hr1ok, by rw [hr1], rfl, rfl⟩, Fz.le_refl _⟩
  · exact absurd hn hno
end Go.SX
