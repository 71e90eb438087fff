/-
  Contracts and plain laws, laid together: part 6.
-/
import Derived.Calls
import Derived.Orders
import Derived.OrdersHeld
import Derived.Tactics
import Derived.OwnWalk
import Derived.Laws.Small
import Derived.Laws.Strings
import Derived.Laws.Pointers
import Derived.Laws.CopyRow
import Derived.Laws.Append
import Derived.Laws.AppendOwn
import Derived.Laws.BytesArg
import Derived.Laws.Slices
import Derived.Laws.MakeOwn
import Derived.Laws.Tables
import Derived.Great.BuildSlice
import Derived.Laws.Cover3
import Derived.Laws.Concat
import Derived.Test.YtbciniijhlaomaaGreatProg
import Derived.Below
import Derived.SizedLaws
import Derived.ChangeSlices
import Derived.ChangeOld
import Derived.Laws.StructEq
import Derived.Deep.Matrix
import Derived.Deep.SlicePairs
import Derived.Deep.Grids
import Derived.MapKept
import Derived.Carry
import Derived.WideLaws
import Derived.Laws.Externs
import Derived.Laws.FloatArith
import Derived.Test.YtbciniijhlaomaaGreatMa5
namespace Go.SX
open Go Go.Proofs
set_option maxRecDepth 4000
set_option linter.unusedSimpArgs false
set_option linter.unusedVariables false
theorem rounds_n {off : Int} : ∀ {n : Nat} {s s' : PS}, PS.rounds off n s = some s' → s'.ms.length = s.ms.length
  | 0, s, s', h => by rw [← Option.some.inj h]
  | n + 1, s, s', h => by
    unfold PS.rounds at h
    split at h
    · cases h
    · obtain ⟨s1, h1, h⟩ := Option.bind_eq_some_iff.1 h
      rw [rounds_n h]
      unfold PS.round at h1
      obtain ⟨t1, e1, h1⟩ := Option.bind_eq_some_iff.1 h1
      obtain ⟨t2, e2, h1⟩ := Option.bind_eq_some_iff.1 h1
      have k1 : ∀ (n i : Nat) (s s' : PS), PS.ticks n i s = some s' → s'.ms.length = s.ms.length := by
        intro n
        induction n with
        | zero => intro i s s' h; rw [← Option.some.inj h]
        | succ n ih =>
          intro i s s' h
          unfold PS.ticks at h
          obtain ⟨u1, f1, h⟩ := Option.bind_eq_some_iff.1 h
          obtain ⟨u2, f2, h⟩ := Option.bind_eq_some_iff.1 h
          rw [ih _ _ _ h, sync_n f2]
          unfold PS.tickAt at f1
          split at f1
          · split at f1
            · rw [← Option.some.inj f1]; simp
            · cases f1
          · cases f1
      have k2 : ∀ (n : Nat) (s s' : PS), PS.deliver off n s = some s' → s'.ms.length = s.ms.length := by
        intro n
        induction n with
        | zero => intro s s' h; rw [← Option.some.inj h]
        | succ n ih =>
          intro s s' h
          unfold PS.deliver at h
          split at h
          · cases h
          · rename_i m r hn
            obtain ⟨u1, f1, h⟩ := Option.bind_eq_some_iff.1 h
            rw [ih _ _ h]
            split at f1
            · rw [← Option.some.inj f1]
            · exact (come0 hn f1).1
      have k3 : ∀ (n i : Nat) (s s' : PS), PS.syncs n i s = some s' → s'.ms.length = s.ms.length := by
        intro n
        induction n with
        | zero => intro i s s' h; rw [← Option.some.inj h]
        | succ n ih =>
          intro i s s' h
          unfold PS.syncs at h
          obtain ⟨u1, f1, h⟩ := Option.bind_eq_some_iff.1 h
          rw [ih _ _ _ h, sync_n f1]
      rw [k3 _ _ _ _ h1, k2 _ _ _ e2, k1 _ _ _ _ e1]
theorem rounds_step {off : Int} {n : Nat} {s s' : PS} (h : PS.rounds off (n + 1) s = some s') : s.bad = false ∧ ∃ s1, s.round off = some s1 ∧ PS.rounds off n s1 = some s' := by
  unfold PS.rounds at h
  split at h
  · cases h
  · rename_i hb
    obtain ⟨s1, h1, h⟩ := Option.bind_eq_some_iff.1 h
    exact ⟨by simpa using hb, s1, h1, h⟩
theorem chk_is {o : Option PS} {f : PS → Bool} (h : chk o f = true) : ∃ s, o = some s ∧ f s = true := by
  unfold chk at h
  split at h
  · exact ⟨_, rfl, h⟩
  · cases h
theorem gH_out (g : Gr) (Fr : List Ent) : Fr.Sublist (g.H Fr) := by
  have h : g.H Fr = (g.E :: (g.lb.ents 1 (msV g.ms) ++ (g.wf.ents (mgV g.net) ++ (g.L :: g.D :: msH g.ms)))) ++ Fr := by simp [Gr.H]
  rw [h]
  exact List.sublist_append_right _ _
theorem new_n (n : Nat) : (PS.new n).ms.length = n := by simp [PS.new]
theorem g_awake (O : World) (F : Fz) (Fr : List Ent) : Does Tryz.prog O 8 #[] F Fr (fun v F' H' => v = .bool true ∧ H' = Fr) := by
  refine does_of_run (args := []) Tryz.func8 rfl rfl ?_
  obtain ⟨s4, h4, hB⟩ := chk_is awake_run
  have hpn : ∀ g : Gr, g.ps.ms.length = g.ms.length := fun g => by simp [Gr.ps]
  refine r_seq ?_
  refine r_region rfl ?_
  refine o_val rfl rfl rfl rfl (v_assign rfl) ?_
  refine o_end ?_
  refine r_seq ?_
  refine r_region rfl ?_
  refine o_call rfl rfl rfl rfl (c_call callable9 rfl) (g_new _ _ 1 _ (by decide) (by decide)) ?_
  rintro v' F1 H' ⟨g0, hg0, hp0, rfl, rfl⟩ hF1
  rw [← hp0] at h4
  have hn0 : g0.ms.length = 1 := by rw [← hpn, hp0, new_n]
  refine o_val rfl rfl rfl rfl (v_assign rfl) ?_
  refine o_end ?_
  refine r_seq ?_
  refine r_seq ?_
  refine r_region rfl ?_
  refine o_val rfl rfl rfl rfl (v_assign rfl) ?_
  refine o_end ?_
  refine r_block ?_
  refine r_loop (fun q : Gr × Fz × Nat => F.le q.2.1 ∧ q.1.ok q.2.1 ∧ q.1.ga = g0.ga ∧ q.1.ms.length = 1 ∧ q.2.2 ≤ 4 ∧ PS.rounds (-1) (4 - q.2.2) q.1.ps = some s4) (fun q => [(1, ptrV g0.ga), (2, .int .i64 q.2.2)]) (fun q => q.2.1) (fun q => q.1.H Fr) (fun q => 4 - q.2.2) (g0, F1, 0) ⟨hF1, hg0, rfl, hn0, Nat.zero_le _, h4⟩ ⟨rfl, rfl, trivial⟩ rfl rfl ?_
  rintro ⟨g, F2, i⟩ ⟨hF2, hg, hga, hn, hi, hr⟩ IH
  dsimp only at hF2 hg hga hn hi hr ⊢
  rw [← hga]
  have hil : 0 < g.ms.length := by omega
  obtain ⟨m, hm⟩ : ∃ m, m = g.ms[0] := ⟨_, rfl⟩
  have hget : g.ms[0]? = some m := by rw [hm]; exact List.getElem?_eq_getElem hil
  have hmi : m ∈ g.ms := List.mem_of_getElem? hget
  have hmr := (hg.ms m hmi).1
  obtain ⟨lb, c, N, hlv, hlm⟩ := g.lbH hg hil
  have hpm : g.ps.ms[0]? = some m.r.p := by simp [Gr.ps, hget]
  have hlvc : ∀ F H, g.E ∈ H → Cell F H g.ga (0 + 0) (.slice (some ⟨lb, 0, none⟩) g.ms.length c) := fun F H hH => by rw [← hlv]; exact gcell0 (g := g) 0 hH rfl
  have hptr : ∀ F, Cell F (g.H Fr) lb (0 + 0) (ptrV m.ma) := fun F => cell_own (cs := msV g.ms) (n := N) (hlm _) (msV_get hget)
  refine r_seq ?_
  refine r_seq ?_
  refine r_region rfl ?_
  refine o_val rfl rfl rfl rfl (v_move rfl) ?_
  refine o_val rfl rfl rfl rfl (v_lss rfl rfl) ?_
  refine j_prop 5 rfl (fun h5 => ?_) (fun h5 => ?_)
  · rw [show 4 - i = (4 - (i + 1)) + 1 by omega] at hr
    obtain ⟨hb, s1, h1, hr⟩ := rounds_step hr
    have hb : g.bad = false := hb
    refine o_val rfl rfl rfl rfl (v_move rfl) ?_
    refine o_val rfl rfl rfl rfl (v_move rfl) ?_
    refine o_val rfl rfl rfl rfl (v_nilCheck rfl) ?_
    refine o_val rfl rfl rfl rfl (v_field (k := 4) rfl rfl rfl) ?_
    refine o_val rfl rfl rfl rfl (v_load (v := .bool false) rfl rfl (by rw [← hb]; exact gcell0 (g := g) 4 (by simp [Gr.H]) rfl)) ?_
    refine o_val rfl rfl rfl rfl (v_not rfl) ?_
    refine o_val rfl rfl rfl rfl (v_pick1 rfl rfl) ?_
    refine o_val rfl rfl rfl rfl (v_move rfl) ?_
    refine o_val rfl rfl rfl rfl (v_move rfl) ?_
    refine o_val rfl rfl rfl rfl (v_nilCheck rfl) ?_
    refine o_val rfl rfl rfl rfl (v_field (k := 0) rfl rfl rfl) ?_
    refine o_val rfl rfl rfl rfl (v_load (v := .slice (some ⟨lb, 0, none⟩) g.ms.length c) rfl rfl (hlvc _ _ (by simp [Gr.H]))) ?_
    refine o_val rfl rfl rfl rfl (v_index1 (i := 0) rfl rfl rfl rfl hil) ?_
    refine o_val rfl rfl rfl rfl (v_load (v := ptrV m.ma) rfl rfl (hptr _)) ?_
    refine o_val rfl rfl rfl rfl (v_nilCheck rfl) ?_
    refine o_val rfl rfl rfl rfl (v_field (k := 0) rfl rfl rfl) ?_
    refine o_val rfl rfl rfl rfl (v_load rfl rfl (ecell (m := m) 0 (by first | exact mE_in hmi _ | simp) rfl)) ?_
    refine o_val rfl rfl rfl rfl (v_pneqnil rfl rfl rfl) ?_
    refine o_val rfl rfl rfl rfl (v_pick1 rfl rfl) ?_
    refine o_end ?_
    refine r_true rfl ?_
    refine r_skip ?_
    refine r_seq ?_
    refine r_block ?_
    refine r_region rfl ?_
    refine o_val rfl rfl rfl rfl (v_move rfl) ?_
    refine o_call rfl rfl rfl rfl (c_call callable10 rfl) (g_round _ _ g (-1) s1 Fr hg h1) ?_
    rintro v' F3 H' ⟨rfl, g2, hg2, hp2, hga2, rfl⟩ hF3
    refine o_end ?_
    refine r_inBlock ?_
    refine r_region rfl ?_
    refine o_val rfl rfl rfl rfl (v_move rfl) ?_
    refine o_val rfl rfl rfl rfl (v_add rfl rfl (r := ((i + 1 : Nat) : Int)) (wrap_i64 (by omega) (by omega))) ?_
    refine o_val rfl rfl rfl rfl (v_assign rfl) ?_
    refine o_end ?_
    rw [← hp2] at hr
    refine j_keep ?_ (IH (g2, F3, i + 1) ⟨Fz.le_trans hF2 hF3, hg2, by dsimp only; rw [hga2, hga], ?_, by dsimp only; omega, hr⟩ (by dsimp only; omega))
    · exact ⟨by rw [← hga]; rfl, rfl, trivial⟩
    · have e1 := rounds_n (n := 1) (off := -1) (s := g.ps) (s' := g2.ps) (by unfold PS.rounds; rw [if_neg (by show ¬ g.bad = true; rw [hb]; simp), h1, hp2]; rfl)
      rw [hpn, hpn, hn] at e1
      exact e1
  · have h40 : 4 - i = 0 := by omega
    rw [h40] at hr
    have hr : g.ps = s4 := Option.some.inj hr
    rw [← hr] at hB
    unfold PS.awakeB at hB
    rw [hpm] at hB
    simp only [Bool.and_eq_true, Bool.not_eq_true', decide_eq_true_eq] at hB
    obtain ⟨hb, ⟨hro, hrd⟩, hcm⟩ := hB
    have hb : g.bad = false := hb
    unfold PR.ready at hrd
    refine o_val rfl rfl rfl rfl (v_move rfl) ?_
    refine o_skip rfl rfl rfl rfl ?_
    refine o_skip rfl rfl rfl rfl ?_
    refine o_skip rfl rfl rfl rfl ?_
    refine o_skip rfl rfl rfl rfl ?_
    refine o_skip rfl rfl rfl rfl ?_
    refine o_val rfl rfl rfl rfl (v_pick0 rfl rfl) ?_
    refine o_val rfl rfl rfl rfl (v_move rfl) ?_
    refine o_skip rfl rfl rfl rfl ?_
    refine o_skip rfl rfl rfl rfl ?_
    refine o_skip rfl rfl rfl rfl ?_
    refine o_skip rfl rfl rfl rfl ?_
    refine o_skip rfl rfl rfl rfl ?_
    refine o_skip rfl rfl rfl rfl ?_
    refine o_skip rfl rfl rfl rfl ?_
    refine o_skip rfl rfl rfl rfl ?_
    refine o_skip rfl rfl rfl rfl ?_
    refine o_skip rfl rfl rfl rfl ?_
    refine o_val rfl rfl rfl rfl (v_pick0 rfl rfl) ?_
    refine o_end ?_
    refine r_false rfl ?_
    refine r_exit rfl ?_
    refine r_seq ?_
    refine r_region rfl ?_
    refine o_val rfl rfl rfl rfl (v_move rfl) ?_
    refine o_val rfl rfl rfl rfl (v_nilCheck rfl) ?_
    refine o_val rfl rfl rfl rfl (v_field (k := 0) rfl rfl rfl) ?_
    refine o_val rfl rfl rfl rfl (v_load (v := .slice (some ⟨lb, 0, none⟩) g.ms.length c) rfl rfl (hlvc _ _ (by simp [Gr.H]))) ?_
    refine o_val rfl rfl rfl rfl (v_index1 (i := 0) rfl rfl rfl rfl hil) ?_
    refine o_val rfl rfl rfl rfl (v_load (v := ptrV m.ma) rfl rfl (hptr _)) ?_
    refine o_val rfl rfl rfl rfl (v_nilCheck rfl) ?_
    refine o_val rfl rfl rfl rfl (v_field (k := 0) rfl rfl rfl) ?_
    refine o_val rfl rfl rfl rfl (v_load rfl rfl (ecell (m := m) 0 (by first | exact mE_in hmi _ | simp) rfl)) ?_
    refine o_val rfl rfl rfl rfl (v_pneqnil rfl rfl rfl) ?_
    refine o_val rfl rfl rfl rfl (v_move rfl) ?_
    refine o_val rfl rfl rfl rfl (v_move rfl) ?_
    refine o_val rfl rfl rfl rfl (v_nilCheck rfl) ?_
    refine o_val rfl rfl rfl rfl (v_field (k := 0) rfl rfl rfl) ?_
    refine o_val rfl rfl rfl rfl (v_load (v := .slice (some ⟨lb, 0, none⟩) g.ms.length c) rfl rfl (hlvc _ _ (by simp [Gr.H]))) ?_
    refine o_val rfl rfl rfl rfl (v_index1 (i := 0) rfl rfl rfl rfl hil) ?_
    refine o_val rfl rfl rfl rfl (v_load (v := ptrV m.ma) rfl rfl (hptr _)) ?_
    refine o_val rfl rfl rfl rfl (v_nilCheck rfl) ?_
    refine o_val rfl rfl rfl rfl (v_field (k := 0) rfl rfl rfl) ?_
    refine o_val rfl rfl rfl rfl (v_load rfl rfl (ecell (m := m) 0 (by first | exact mE_in hmi _ | simp) rfl)) ?_
    refine o_call rfl rfl rfl rfl (c_call callable26 rfl) (g_rd hget (fun X => r_Leads _ _ m.ra m.r X)) ?_
    rintro v' F2 H' ⟨rfl, rfl, rfl⟩ _
    rw [decide_eq_true hro]
    refine o_val rfl rfl rfl rfl (v_pick1 rfl rfl) ?_
    refine o_val rfl rfl rfl rfl (v_move rfl) ?_
    refine o_val rfl rfl rfl rfl (v_move rfl) ?_
    refine o_val rfl rfl rfl rfl (v_nilCheck rfl) ?_
    refine o_val rfl rfl rfl rfl (v_field (k := 0) rfl rfl rfl) ?_
    refine o_val rfl rfl rfl rfl (v_load (v := .slice (some ⟨lb, 0, none⟩) g.ms.length c) rfl rfl (hlvc _ _ (by simp [Gr.H]))) ?_
    refine o_val rfl rfl rfl rfl (v_index1 (i := 0) rfl rfl rfl rfl hil) ?_
    refine o_val rfl rfl rfl rfl (v_load (v := ptrV m.ma) rfl rfl (hptr _)) ?_
    refine o_val rfl rfl rfl rfl (v_nilCheck rfl) ?_
    refine o_val rfl rfl rfl rfl (v_field (k := 0) rfl rfl rfl) ?_
    refine o_val rfl rfl rfl rfl (v_load rfl rfl (ecell (m := m) 0 (by first | exact mE_in hmi _ | simp) rfl)) ?_
    refine o_call rfl rfl rfl rfl (c_call callable12 rfl) (g_rd hget (fun X => r_Ready _ _ m.ra m.r X hmr)) ?_
    rintro v' F2 H' ⟨rfl, rfl, rfl⟩ _
    rw [hrd]
    refine o_val rfl rfl rfl rfl (v_pick1 rfl rfl) ?_
    refine o_val rfl rfl rfl rfl (v_move rfl) ?_
    refine o_val rfl rfl rfl rfl (v_move rfl) ?_
    refine o_val rfl rfl rfl rfl (v_nilCheck rfl) ?_
    refine o_val rfl rfl rfl rfl (v_field (k := 0) rfl rfl rfl) ?_
    refine o_val rfl rfl rfl rfl (v_load (v := .slice (some ⟨lb, 0, none⟩) g.ms.length c) rfl rfl (hlvc _ _ (by simp [Gr.H]))) ?_
    refine o_val rfl rfl rfl rfl (v_index1 (i := 0) rfl rfl rfl rfl hil) ?_
    refine o_val rfl rfl rfl rfl (v_load (v := ptrV m.ma) rfl rfl (hptr _)) ?_
    refine o_val rfl rfl rfl rfl (v_nilCheck rfl) ?_
    refine o_val rfl rfl rfl rfl (v_field (k := 0) rfl rfl rfl) ?_
    refine o_val rfl rfl rfl rfl (v_load rfl rfl (ecell (m := m) 0 (by first | exact mE_in hmi _ | simp) rfl)) ?_
    refine o_call rfl rfl rfl rfl (c_call callable15 rfl) (g_rd hget (fun X => r_Commit _ _ m.ra m.r X)) ?_
    rintro v' F2 H' ⟨rfl, rfl, rfl⟩ _
    rw [hcm]
    refine o_val rfl rfl rfl rfl (v_eql rfl rfl) ?_
    refine j_slot 74 rfl (v' := .bool true) rfl ?_
    refine o_val rfl rfl rfl rfl (v_pick1 rfl rfl) ?_
    refine o_val rfl rfl rfl rfl (v_move rfl) ?_
    refine o_val rfl rfl rfl rfl (v_move rfl) ?_
    refine o_val rfl rfl rfl rfl (v_nilCheck rfl) ?_
    refine o_val rfl rfl rfl rfl (v_field (k := 4) rfl rfl rfl) ?_
    refine o_val rfl rfl rfl rfl (v_load (v := .bool false) rfl rfl (by rw [← hb]; exact gcell0 (g := g) 4 (by simp [Gr.H]) rfl)) ?_
    refine o_val rfl rfl rfl rfl (v_not rfl) ?_
    refine o_val rfl rfl rfl rfl (v_pick1 rfl rfl) ?_
    refine o_val rfl rfl rfl rfl (v_assign rfl) ?_
    refine o_end ?_
    refine j_drop (gH_out g Fr) ?_
    exact r_ret1 Tryz.func8 rfl rfl ⟨⟨rfl, rfl⟩, hF2⟩
/-! ### RaftElects -/
/-- What a member read in a group is. -/
theorem Gr.rd {F : Fz} {g : Gr} (hg : g.ok F) {i : Nat} (hi : i < g.ms.length) : ∃ (m : Mb) (lb c N : Nat), g.ms[i]? = some m ∧ m.r.ok F ∧ m ∈ g.ms ∧ g.ps.ms[i]? = some m.r.p ∧ (∀ F H, g.E ∈ H → Cell F H g.ga (0 + 0) (.slice (some ⟨lb, 0, none⟩) g.ms.length c)) ∧ (∀ Fr, Ent.mem lb (msV g.ms) N ∈ g.H Fr) ∧ ∀ F H, Ent.mem lb (msV g.ms) N ∈ H → Cell F H lb (0 + i) (ptrV m.ma) := by
  obtain ⟨lb, c, N, hlv, hlm⟩ := g.lbH hg hi
  have hget : g.ms[i]? = some g.ms[i] := List.getElem?_eq_getElem hi
  exact ⟨g.ms[i], lb, c, N, hget, (hg.ms _ (List.getElem_mem hi)).1, List.getElem_mem hi, by simp [Gr.ps, hi], fun F H hH => by rw [← hlv]; exact gcell0 (g := g) 0 hH rfl, hlm, fun F H hm => cell_own (cs := msV g.ms) (n := N) hm (msV_get hget)⟩
theorem elect_all (n off : Nat) : ∃ s, PS.rounds (if 2 < 1 + n % 5 then ((off % (1 + n % 5) : Nat) : Int) else -1) 14 (PS.new (1 + n % 5)) = some s ∧ PS.electsB (if 2 < 1 + n % 5 then ((off % (1 + n % 5) : Nat) : Int) else -1) (1 + n % 5) s = true := by
  have h5 : n % 5 < 5 := Nat.mod_lt _ (by decide)
  have hk : ∀ k, k = 1 + n % 5 → electRun k (if 2 < k then ((off % k : Nat) : Int) else -1) = true := by
    intro k hk
    have hc := Nat.mod_lt off (show 0 < k by omega)
    generalize off % k = c at hc
    have : k = 1 ∨ k = 2 ∨ k = 3 ∨ k = 4 ∨ k = 5 := by omega
    rcases this with rfl | rfl | rfl | rfl | rfl
    · exact elect1
    · exact elect2
    · exact elect3 c hc
    · exact elect4 c hc
    · exact elect5 c hc
  exact chk_is (hk _ rfl)
theorem rounds_len {off : Int} {g : Gr} {n : Nat} (hn : g.ms.length = n) {g2 : Gr} (hb : g.bad = false) (h : g.ps.round off = some g2.ps) : g2.ms.length = n := by
  have e1 := rounds_n (n := 1) (off := off) (s := g.ps) (s' := g2.ps) (by unfold PS.rounds; rw [if_neg (by show ¬ g.bad = true; rw [hb]; simp), h]; rfl)
  have hpn : ∀ g : Gr, g.ps.ms.length = g.ms.length := fun g => by simp [Gr.ps]
  rw [hpn, hpn, hn] at e1
  exact e1
set_option maxHeartbeats 2000000 in
theorem law_RaftElects (O : World) (F : Fz) (n off : Nat) (Fr : List Ent) (hn : n < 256) (ho : off < 256) :
    Does Tryz.prog O 3 #[.int .u8 n, .int .u8 off] F Fr (fun v F' H' => v = .bool true) := by
  refine does_of_run (args := [_, _]) Tryz.func3 rfl rfl ?_
  obtain ⟨s4, h4, hB⟩ := elect_all n off
  obtain ⟨k, hk⟩ : ∃ k, k = 1 + n % 5 := ⟨_, rfl⟩
  rw [← hk] at h4 hB
  have hk1 : 1 ≤ k ∧ k ≤ 5 := by omega
  obtain ⟨cut, hcut⟩ : ∃ cut : Int, cut = if 2 < k then ((off % k : Nat) : Int) else -1 := ⟨_, rfl⟩
  rw [← hcut] at h4 hB
  have hpn : ∀ g : Gr, g.ps.ms.length = g.ms.length := fun g => by simp [Gr.ps]
  have hr1 : Int.tmod (n : Int) 5 = ((n % 5 : Nat) : Int) := rfl
  have hr2 : Int.tmod (off : Int) (k : Int) = ((off % k : Nat) : Int) := rfl
  refine r_seq ?_
  refine r_region rfl ?_
  refine o_val rfl rfl rfl rfl (v_assign rfl) ?_
  refine o_end ?_
  refine r_seq ?_
  refine r_seq ?_
  refine r_region rfl ?_
  refine o_call rfl rfl rfl rfl (c_call callable8 rfl) (g_awake _ _ _) ?_
  rintro v' F1 Fr ⟨rfl, rfl⟩ hF1
  refine o_val rfl rfl rfl rfl (v_not rfl) ?_
  refine o_end ?_
  refine r_false rfl ?_
  refine r_skip ?_
  refine r_seq ?_
  refine r_region rfl ?_
  refine o_val rfl rfl rfl rfl (v_move rfl) ?_
  refine o_val rfl rfl rfl rfl (v_conv rfl rfl rfl (wrap_i64 (by omega) (by omega))) ?_
  refine o_val rfl rfl rfl rfl (v_rem rfl rfl (by decide) hr1) ?_
  refine o_val rfl rfl rfl rfl (v_add rfl rfl (r := (k : Int)) (by rw [hk]; exact (wrap_i64 (by omega) (by omega)).trans (by omega))) ?_
  refine o_val rfl rfl rfl rfl (v_assign rfl) ?_
  refine o_end ?_
  refine r_seq ?_
  refine r_region rfl ?_
  refine o_val rfl rfl rfl rfl (v_move rfl) ?_
  refine o_call rfl rfl rfl rfl (c_call callable9 rfl) (g_new _ _ k _ hk1.2 hk1.1) ?_
  rintro v' F2 H' ⟨g0, hg0, hp0, rfl, rfl⟩ hF2
  have hF2 := Fz.le_trans hF1 hF2
  rw [← hp0] at h4
  have hn0 : g0.ms.length = k := by rw [← hpn, hp0, new_n]
  refine o_val rfl rfl rfl rfl (v_assign rfl) ?_
  refine o_end ?_
  refine r_seq ?_
  refine r_region rfl ?_
  refine o_val rfl rfl rfl rfl (v_assign rfl) ?_
  refine o_end ?_
  refine r_seq ?_
  refine r_join (fun _ : Unit => True) (fun _ => [(5, .int .i64 k), (6, ptrV g0.ga), (7, .int .i64 cut)]) (fun _ => F2) (fun _ => g0.H Fr) ?_ ?_
  · intro J
    refine r_seq ?_
    refine r_region rfl ?_
    refine o_val rfl rfl rfl rfl (v_move rfl) ?_
    refine o_val rfl rfl rfl rfl (v_gtr rfl rfl) ?_
    refine o_end ?_
    refine r_if rfl (fun h5 => ?_) (fun h5 => ?_)
    · rw [if_pos (by omega)] at hcut
      refine r_region rfl ?_
      refine o_val rfl rfl rfl rfl (v_move rfl) ?_
      refine o_val rfl rfl rfl rfl (v_conv rfl rfl rfl (wrap_i64 (by omega) (by omega))) ?_
      refine o_val rfl rfl rfl rfl (v_move rfl) ?_
      refine o_val rfl rfl rfl rfl (v_rem rfl rfl (by omega) hr2) ?_
      refine o_val rfl rfl rfl rfl (v_assign rfl) ?_
      refine o_end ?_
      refine j_keep ?_ (J () trivial)
      exact ⟨rfl, rfl, by rw [hcut]; rfl, trivial⟩
    · rw [if_neg (by omega)] at hcut
      refine r_skip ?_
      refine j_keep ?_ (J () trivial)
      exact ⟨rfl, rfl, by rw [hcut]; rfl, trivial⟩
  · rintro ⟨⟩ -
    have hcb : -1 ≤ cut ∧ cut < k := by
      have := Nat.mod_lt off (show 0 < k by omega)
      rw [hcut]
      split <;> omega
    clear hcut
    refine r_seq ?_
    refine r_join (fun q : Gr × Fz => F.le q.2 ∧ q.1.ok q.2 ∧ q.1.ms.length = k ∧ q.1.ps = s4) (fun q => [(5, .int .i64 k), (6, ptrV q.1.ga), (7, .int .i64 cut)]) (fun q => q.2) (fun q => q.1.H Fr) ?_ ?_
    · intro J
      refine r_seq ?_
      refine r_region rfl ?_
      refine o_val rfl rfl rfl rfl (v_assign rfl) ?_
      refine o_end ?_
      refine r_block ?_
      refine r_loop (fun q : Gr × Fz × Nat => F.le q.2.1 ∧ q.1.ok q.2.1 ∧ q.1.ga = g0.ga ∧ q.1.ms.length = k ∧ q.2.2 ≤ 14 ∧ PS.rounds cut (14 - q.2.2) q.1.ps = some s4) (fun q => [(5, .int .i64 k), (6, ptrV g0.ga), (7, .int .i64 cut), (8, .int .i64 q.2.2)]) (fun q => q.2.1) (fun q => q.1.H Fr) (fun q => 14 - q.2.2) (g0, F2, 0) ⟨hF2, hg0, rfl, hn0, Nat.zero_le _, h4⟩ ⟨rfl, rfl, rfl, rfl, trivial⟩ rfl rfl ?_
      rintro ⟨g, F3, i⟩ ⟨hF3, hg, hga, hgn, hi, hr⟩ IH
      dsimp only at hF3 hg hga hgn hi hr ⊢
      rw [← hga]
      refine r_seq ?_
      refine r_seq ?_
      refine r_region rfl ?_
      refine o_val rfl rfl rfl rfl (v_move rfl) ?_
      refine o_val rfl rfl rfl rfl (v_lss rfl rfl) ?_
      refine o_end ?_
      refine r_if rfl (fun h5 => ?_) (fun h5 => ?_)
      · rw [show 14 - i = (14 - (i + 1)) + 1 by omega] at hr
        obtain ⟨hb, s1, h1, hr⟩ := rounds_step hr
        have hb : g.bad = false := hb
        refine r_skip ?_
        refine r_seq ?_
        refine r_block ?_
        refine r_region rfl ?_
        refine o_val rfl rfl rfl rfl (v_move rfl) ?_
        refine o_val rfl rfl rfl rfl (v_move rfl) ?_
        refine o_call rfl rfl rfl rfl (c_call callable10 rfl) (g_round _ _ g cut s1 Fr hg h1) ?_
        rintro v' F4 H' ⟨rfl, g2, hg2, hp2, hga2, rfl⟩ hF4
        refine o_end ?_
        refine r_inBlock ?_
        refine r_region rfl ?_
        refine o_val rfl rfl rfl rfl (v_move rfl) ?_
        refine o_val rfl rfl rfl rfl (v_add rfl rfl (r := ((i + 1 : Nat) : Int)) (wrap_i64 (by omega) (by omega))) ?_
        refine o_val rfl rfl rfl rfl (v_assign rfl) ?_
        refine o_end ?_
        rw [← hp2] at hr h1
        refine j_keep ?_ (IH (g2, F4, i + 1) ⟨Fz.le_trans hF3 hF4, hg2, by dsimp only; rw [hga2, hga], rounds_len hgn hb h1, by dsimp only; omega, hr⟩ (by dsimp only; omega))
        exact ⟨rfl, by rw [← hga]; rfl, rfl, rfl, trivial⟩
      · rw [show 14 - i = 0 by omega] at hr
        have hr : g.ps = s4 := Option.some.inj hr
        refine r_exit rfl ?_
        refine j_keep ?_ (J (g, F3) ⟨hF3, hg, hgn, hr⟩)
        exact ⟨rfl, rfl, rfl, trivial⟩
    · rintro ⟨g, F3⟩ ⟨hF3, hg, hgn, hr⟩
      dsimp only at hF3 hg hgn hr ⊢
      rw [← hr] at hB
      have hlead : ∃ a : Nat, a < k ∧ g.ps.leader = a := by
        rcases ledBy_lt g.ps g.ps.ms.length with h | ⟨a, h1, h2⟩
        · exfalso
          unfold PS.electsB at hB
          simp only [Bool.and_eq_true, decide_eq_true_eq] at hB
          have := hB.1.1.1.2
          unfold PS.leader at this
          omega
        · rw [hpn, hgn] at h1
          exact ⟨a, h1, h2⟩
      obtain ⟨a, hak, ha⟩ := hlead
      unfold PS.electsB PS.ofAt at hB
      rw [ha, Int.toNat_natCast] at hB
      obtain ⟨ma, lb, c, N, hgeta, hmra, hmia, hpa, hlvc, hlm, hptra⟩ := Gr.rd hg (i := a) (by omega)
      rw [hpa] at hB
      simp only [Bool.and_eq_true, Bool.not_eq_true', Bool.or_eq_true, decide_eq_true_eq, List.all_eq_true, List.mem_range] at hB
      obtain ⟨⟨⟨⟨hb, _⟩, hac⟩, hrd, hall⟩, hcm⟩ := hB
      have hb : g.bad = false := hb
      unfold PR.ready at hrd
      have hmem := fun i hi => Gr.rd hg (i := i) hi
      refine r_seq ?_
      refine r_region rfl ?_
      refine o_val rfl rfl rfl rfl (v_move rfl) ?_
      refine o_call rfl rfl rfl rfl (c_call callable11 rfl) (g_leader _ _ g Fr hg) ?_
      rintro v' F3 H' ⟨rfl, rfl, rfl⟩ _
      rw [ha]
      refine o_val rfl rfl rfl rfl (v_assign rfl) ?_
      refine o_end ?_
      refine r_seq ?_
      refine r_seq ?_
      refine r_region rfl ?_
      refine o_val rfl rfl rfl rfl (v_move rfl) ?_
      refine o_val rfl rfl rfl rfl (v_lss rfl rfl) ?_
      refine j_slot 35 rfl (v' := .bool false) (congrArg Value.bool (decide_eq_false (by omega))) ?_
      refine o_val rfl rfl rfl rfl (v_move rfl) ?_
      refine o_val rfl rfl rfl rfl (v_move rfl) ?_
      refine o_val rfl rfl rfl rfl (v_move rfl) ?_
      refine o_val rfl rfl rfl rfl (v_eql rfl rfl) ?_
      refine j_slot 39 rfl (v' := .bool false) (congrArg Value.bool (decide_eq_false hac)) ?_
      refine o_val rfl rfl rfl rfl (v_pick0 rfl rfl) ?_
      refine o_val rfl rfl rfl rfl (v_move rfl) ?_
      refine o_val rfl rfl rfl rfl (v_move rfl) ?_
      refine o_val rfl rfl rfl rfl (v_nilCheck rfl) ?_
      refine o_val rfl rfl rfl rfl (v_field (k := 4) rfl rfl rfl) ?_
      refine o_val rfl rfl rfl rfl (v_load (v := .bool false) rfl rfl (by rw [← hb]; exact gcell0 (g := g) 4 (by simp [Gr.H]) rfl)) ?_
      refine o_val rfl rfl rfl rfl (v_pick0 rfl rfl) ?_
      refine o_val rfl rfl rfl rfl (v_move rfl) ?_
      refine o_val rfl rfl rfl rfl (v_move rfl) ?_
      refine o_val rfl rfl rfl rfl (v_nilCheck rfl) ?_
      refine o_val rfl rfl rfl rfl (v_field (k := 0) rfl rfl rfl) ?_
      refine o_val rfl rfl rfl rfl (v_load (v := .slice (some ⟨lb, 0, none⟩) g.ms.length c) rfl rfl (hlvc _ _ (by simp [Gr.H]))) ?_
      refine o_val rfl rfl rfl rfl (v_move rfl) ?_
      refine o_val rfl rfl rfl rfl (v_index1 (i := a) rfl rfl rfl rfl (by omega)) ?_
      refine o_val rfl rfl rfl rfl (v_load (v := ptrV ma.ma) rfl rfl (hptra _ _ (hlm _))) ?_
      refine o_val rfl rfl rfl rfl (v_nilCheck rfl) ?_
      refine o_val rfl rfl rfl rfl (v_field (k := 0) rfl rfl rfl) ?_
      refine o_val rfl rfl rfl rfl (v_load rfl rfl (ecell (m := ma) 0 (by first | exact mE_in hmia _ | simp) rfl)) ?_
      refine o_call rfl rfl rfl rfl (c_call callable12 rfl) (g_rd hgeta (fun X => r_Ready _ _ ma.ra ma.r X hmra)) ?_
      rintro v' F3 H' ⟨rfl, rfl, rfl⟩ _
      rw [hrd]
      refine o_val rfl rfl rfl rfl (v_not rfl) ?_
      refine o_val rfl rfl rfl rfl (v_pick0 rfl rfl) ?_
      refine o_end ?_
      refine r_false rfl ?_
      refine r_skip ?_
      refine r_seq ?_
      refine r_join (fun _ : Unit => True) (fun _ => [(6, ptrV g.ga), (7, .int .i64 cut)]) (fun _ => F3) (fun _ => g.H Fr) ?_ ?_
      · intro J
        refine r_seq ?_
        refine r_region rfl ?_
        refine o_val rfl rfl rfl rfl (v_assign rfl) ?_
        refine o_end ?_
        refine r_block ?_
        refine r_loop (fun i : Nat => i ≤ k) (fun i => [(5, .int .i64 k), (6, ptrV g.ga), (7, .int .i64 cut), (9, .int .i64 a), (10, .int .i64 i)]) (fun _ => F3) (fun _ => g.H Fr) (fun i => k - i) 0 (Nat.zero_le _) ⟨rfl, rfl, rfl, rfl, rfl, trivial⟩ rfl rfl ?_
        rintro i hi IH
        refine r_seq ?_
        refine r_seq ?_
        refine r_region rfl ?_
        refine o_val rfl rfl rfl rfl (v_move rfl) ?_
        refine o_val rfl rfl rfl rfl (v_move rfl) ?_
        refine o_val rfl rfl rfl rfl (v_lss rfl rfl) ?_
        refine o_end ?_
        refine r_if rfl (fun h5 => ?_) (fun h5 => ?_)
        · have hik : i < k := by omega
          have hnext := IH (i + 1) hik (by omega)
          obtain ⟨mi, lb2, c2, N2, hgeti, hmri, hmii, hpi, hlvc2, hlm2, hptri⟩ := hmem i (by omega)
          have hrest := hall i hik
          rw [hpi] at hrest
          simp only [Bool.and_eq_true, decide_eq_true_eq] at hrest
          refine r_skip ?_
          refine r_seq ?_
          refine r_block ?_
          refine r_seq ?_
          refine d_region 1000000 rfl ([g.E, .mem lb2 (msV g.ms) N2, mi.E, .mem lb (msV g.ms) N, ma.E]) ?_
          refine d_take (i := 0) rfl rfl rfl (by decide +kernel) (by decide +kernel) (by decide +kernel) (Fz.le_refl _) (by intro z hz; simp only [List.mem_cons, List.not_mem_nil, or_false] at hz; rcases hz with rfl | rfl | rfl | rfl | rfl; simp [Gr.H]; exact hlm2 _; exact mE_in hmii _; exact hlm _; exact mE_in hmia _) rfl (v_move rfl) ?_
          refine d_take (i := 1) rfl rfl rfl (by decide +kernel) (by decide +kernel) (by decide +kernel) (Fz.le_refl _) (by intro z hz; simp only [List.mem_cons, List.not_mem_nil, or_false] at hz; rcases hz with rfl | rfl | rfl | rfl | rfl; simp [Gr.H]; exact hlm2 _; exact mE_in hmii _; exact hlm _; exact mE_in hmia _) rfl (v_move rfl) ?_
          refine d_take (i := 2) rfl rfl rfl (by decide +kernel) (by decide +kernel) (by decide +kernel) (Fz.le_refl _) (by intro z hz; simp only [List.mem_cons, List.not_mem_nil, or_false] at hz; rcases hz with rfl | rfl | rfl | rfl | rfl; simp [Gr.H]; exact hlm2 _; exact mE_in hmii _; exact hlm _; exact mE_in hmia _) rfl (v_neq rfl rfl) ?_
          refine j_prop 68 rfl (fun h6 => ?_) (fun h6 => ?_)
          · obtain ⟨⟨hl1, hl2⟩, hl3⟩ : (mi.r.p.lead = a ∧ mi.r.p.term = ma.r.p.term) ∧ 1 ≤ mi.r.p.cm := by
              rcases hrest with h | h
              · exact absurd h h6
              · exact h
            refine d_take (i := 3) rfl rfl rfl (by decide +kernel) (by decide +kernel) (by decide +kernel) (Fz.le_refl _) (by intro z hz; simp only [List.mem_cons, List.not_mem_nil, or_false] at hz; rcases hz with rfl | rfl | rfl | rfl | rfl; simp [Gr.H]; exact hlm2 _; exact mE_in hmii _; exact hlm _; exact mE_in hmia _) rfl (v_move rfl) ?_
            refine d_take (i := 4) rfl rfl rfl (by decide +kernel) (by decide +kernel) (by decide +kernel) (Fz.le_refl _) (by intro z hz; simp only [List.mem_cons, List.not_mem_nil, or_false] at hz; rcases hz with rfl | rfl | rfl | rfl | rfl; simp [Gr.H]; exact hlm2 _; exact mE_in hmii _; exact hlm _; exact mE_in hmia _) rfl (v_move rfl) ?_
            refine d_take (i := 5) rfl rfl rfl (by decide +kernel) (by decide +kernel) (by decide +kernel) (Fz.le_refl _) (by intro z hz; simp only [List.mem_cons, List.not_mem_nil, or_false] at hz; rcases hz with rfl | rfl | rfl | rfl | rfl; simp [Gr.H]; exact hlm2 _; exact mE_in hmii _; exact hlm _; exact mE_in hmia _) rfl (v_nilCheck rfl) ?_
            refine d_take (i := 6) rfl rfl rfl (by decide +kernel) (by decide +kernel) (by decide +kernel) (Fz.le_refl _) (by intro z hz; simp only [List.mem_cons, List.not_mem_nil, or_false] at hz; rcases hz with rfl | rfl | rfl | rfl | rfl; simp [Gr.H]; exact hlm2 _; exact mE_in hmii _; exact hlm _; exact mE_in hmia _) rfl (v_field (k := 0) rfl rfl rfl) ?_
            refine d_take (i := 7) rfl rfl rfl (by decide +kernel) (by decide +kernel) (by decide +kernel) (Fz.le_refl _) (by intro z hz; simp only [List.mem_cons, List.not_mem_nil, or_false] at hz; rcases hz with rfl | rfl | rfl | rfl | rfl; simp [Gr.H]; exact hlm2 _; exact mE_in hmii _; exact hlm _; exact mE_in hmia _) rfl (v_load (v := .slice (some ⟨lb2, 0, none⟩) g.ms.length c2) rfl rfl (hlvc2 _ _ (by simp))) ?_
            refine d_take (i := 8) rfl rfl rfl (by decide +kernel) (by decide +kernel) (by decide +kernel) (Fz.le_refl _) (by intro z hz; simp only [List.mem_cons, List.not_mem_nil, or_false] at hz; rcases hz with rfl | rfl | rfl | rfl | rfl; simp [Gr.H]; exact hlm2 _; exact mE_in hmii _; exact hlm _; exact mE_in hmia _) rfl (v_move rfl) ?_
            refine d_take (i := 9) rfl rfl rfl (by decide +kernel) (by decide +kernel) (by decide +kernel) (Fz.le_refl _) (by intro z hz; simp only [List.mem_cons, List.not_mem_nil, or_false] at hz; rcases hz with rfl | rfl | rfl | rfl | rfl; simp [Gr.H]; exact hlm2 _; exact mE_in hmii _; exact hlm _; exact mE_in hmia _) rfl (v_index1 (i := i) rfl rfl rfl rfl (by omega)) ?_
            refine d_take (i := 10) rfl rfl rfl (by decide +kernel) (by decide +kernel) (by decide +kernel) (Fz.le_refl _) (by intro z hz; simp only [List.mem_cons, List.not_mem_nil, or_false] at hz; rcases hz with rfl | rfl | rfl | rfl | rfl; simp [Gr.H]; exact hlm2 _; exact mE_in hmii _; exact hlm _; exact mE_in hmia _) rfl (v_load (v := ptrV mi.ma) rfl rfl (hptri _ _ (by simp))) ?_
            refine d_take (i := 15) rfl rfl rfl (by decide +kernel) (by decide +kernel) (by decide +kernel) (Fz.le_refl _) (by intro z hz; simp only [List.mem_cons, List.not_mem_nil, or_false] at hz; rcases hz with rfl | rfl | rfl | rfl | rfl; simp [Gr.H]; exact hlm2 _; exact mE_in hmii _; exact hlm _; exact mE_in hmia _) rfl (v_move rfl) ?_
            refine d_take (i := 11) rfl rfl rfl (by decide +kernel) (by decide +kernel) (by decide +kernel) (Fz.le_refl _) (by intro z hz; simp only [List.mem_cons, List.not_mem_nil, or_false] at hz; rcases hz with rfl | rfl | rfl | rfl | rfl; simp [Gr.H]; exact hlm2 _; exact mE_in hmii _; exact hlm _; exact mE_in hmia _) rfl (v_nilCheck rfl) ?_
            refine d_take (i := 12) rfl rfl rfl (by decide +kernel) (by decide +kernel) (by decide +kernel) (Fz.le_refl _) (by intro z hz; simp only [List.mem_cons, List.not_mem_nil, or_false] at hz; rcases hz with rfl | rfl | rfl | rfl | rfl; simp [Gr.H]; exact hlm2 _; exact mE_in hmii _; exact hlm _; exact mE_in hmia _) rfl (v_field (k := 0) rfl rfl rfl) ?_
            refine d_take (i := 13) rfl rfl rfl (by decide +kernel) (by decide +kernel) (by decide +kernel) (Fz.le_refl _) (by intro z hz; simp only [List.mem_cons, List.not_mem_nil, or_false] at hz; rcases hz with rfl | rfl | rfl | rfl | rfl; simp [Gr.H]; exact hlm2 _; exact mE_in hmii _; exact hlm _; exact mE_in hmia _) rfl (v_load rfl rfl (ecell (m := mi) 0 (by first | exact mE_in hmii _ | simp) rfl)) ?_
            refine d_one (i := 14) (by decide +kernel) ?_
            refine d1_call rfl rfl rfl rfl (c_call callable13 rfl) (g_rd hgeti (fun X => r_Leader _ _ mi.ra mi.r X)) ?_
            rintro v' F3 H' ⟨rfl, rfl, rfl⟩ _
            refine ⟨fun w hw => held_of hw (by first | exact Fz.le_refl _ | assumption) (by intro z hz; simp only [List.mem_cons, List.not_mem_nil, or_false] at hz; rcases hz with rfl | rfl | rfl | rfl | rfl; simp [Gr.H]; exact hlm2 _; exact mE_in hmii _; exact hlm _; exact mE_in hmia _), ?_⟩
            rw [hl1]
            refine d_take (i := 16) rfl rfl rfl (by decide +kernel) (by decide +kernel) (by decide +kernel) (Fz.le_refl _) (by intro z hz; simp only [List.mem_cons, List.not_mem_nil, or_false] at hz; rcases hz with rfl | rfl | rfl | rfl | rfl; simp [Gr.H]; exact hlm2 _; exact mE_in hmii _; exact hlm _; exact mE_in hmia _) rfl (v_neq rfl rfl) ?_
            refine j_slot 82 rfl (v' := .bool false) (congrArg Value.bool (decide_eq_false (by simp))) ?_
            refine d_take (i := 17) rfl rfl rfl (by decide +kernel) (by decide +kernel) (by decide +kernel) (Fz.le_refl _) (by intro z hz; simp only [List.mem_cons, List.not_mem_nil, or_false] at hz; rcases hz with rfl | rfl | rfl | rfl | rfl; simp [Gr.H]; exact hlm2 _; exact mE_in hmii _; exact hlm _; exact mE_in hmia _) rfl (v_move rfl) ?_
            refine d_take (i := 18) rfl rfl rfl (by decide +kernel) (by decide +kernel) (by decide +kernel) (Fz.le_refl _) (by intro z hz; simp only [List.mem_cons, List.not_mem_nil, or_false] at hz; rcases hz with rfl | rfl | rfl | rfl | rfl; simp [Gr.H]; exact hlm2 _; exact mE_in hmii _; exact hlm _; exact mE_in hmia _) rfl (v_move rfl) ?_
            refine d_take (i := 19) rfl rfl rfl (by decide +kernel) (by decide +kernel) (by decide +kernel) (Fz.le_refl _) (by intro z hz; simp only [List.mem_cons, List.not_mem_nil, or_false] at hz; rcases hz with rfl | rfl | rfl | rfl | rfl; simp [Gr.H]; exact hlm2 _; exact mE_in hmii _; exact hlm _; exact mE_in hmia _) rfl (v_nilCheck rfl) ?_
            refine d_take (i := 20) rfl rfl rfl (by decide +kernel) (by decide +kernel) (by decide +kernel) (Fz.le_refl _) (by intro z hz; simp only [List.mem_cons, List.not_mem_nil, or_false] at hz; rcases hz with rfl | rfl | rfl | rfl | rfl; simp [Gr.H]; exact hlm2 _; exact mE_in hmii _; exact hlm _; exact mE_in hmia _) rfl (v_field (k := 0) rfl rfl rfl) ?_
            refine d_take (i := 21) rfl rfl rfl (by decide +kernel) (by decide +kernel) (by decide +kernel) (Fz.le_refl _) (by intro z hz; simp only [List.mem_cons, List.not_mem_nil, or_false] at hz; rcases hz with rfl | rfl | rfl | rfl | rfl; simp [Gr.H]; exact hlm2 _; exact mE_in hmii _; exact hlm _; exact mE_in hmia _) rfl (v_load (v := .slice (some ⟨lb2, 0, none⟩) g.ms.length c2) rfl rfl (hlvc2 _ _ (by simp))) ?_
            refine d_take (i := 22) rfl rfl rfl (by decide +kernel) (by decide +kernel) (by decide +kernel) (Fz.le_refl _) (by intro z hz; simp only [List.mem_cons, List.not_mem_nil, or_false] at hz; rcases hz with rfl | rfl | rfl | rfl | rfl; simp [Gr.H]; exact hlm2 _; exact mE_in hmii _; exact hlm _; exact mE_in hmia _) rfl (v_move rfl) ?_
            refine d_take (i := 23) rfl rfl rfl (by decide +kernel) (by decide +kernel) (by decide +kernel) (Fz.le_refl _) (by intro z hz; simp only [List.mem_cons, List.not_mem_nil, or_false] at hz; rcases hz with rfl | rfl | rfl | rfl | rfl; simp [Gr.H]; exact hlm2 _; exact mE_in hmii _; exact hlm _; exact mE_in hmia _) rfl (v_index1 (i := i) rfl rfl rfl rfl (by omega)) ?_
            refine d_take (i := 24) rfl rfl rfl (by decide +kernel) (by decide +kernel) (by decide +kernel) (Fz.le_refl _) (by intro z hz; simp only [List.mem_cons, List.not_mem_nil, or_false] at hz; rcases hz with rfl | rfl | rfl | rfl | rfl; simp [Gr.H]; exact hlm2 _; exact mE_in hmii _; exact hlm _; exact mE_in hmia _) rfl (v_load (v := ptrV mi.ma) rfl rfl (hptri _ _ (by simp))) ?_
            refine d_take (i := 29) rfl rfl rfl (by decide +kernel) (by decide +kernel) (by decide +kernel) (Fz.le_refl _) (by intro z hz; simp only [List.mem_cons, List.not_mem_nil, or_false] at hz; rcases hz with rfl | rfl | rfl | rfl | rfl; simp [Gr.H]; exact hlm2 _; exact mE_in hmii _; exact hlm _; exact mE_in hmia _) rfl (v_move rfl) ?_
            refine d_take (i := 30) rfl rfl rfl (by decide +kernel) (by decide +kernel) (by decide +kernel) (Fz.le_refl _) (by intro z hz; simp only [List.mem_cons, List.not_mem_nil, or_false] at hz; rcases hz with rfl | rfl | rfl | rfl | rfl; simp [Gr.H]; exact hlm2 _; exact mE_in hmii _; exact hlm _; exact mE_in hmia _) rfl (v_nilCheck rfl) ?_
            refine d_take (i := 31) rfl rfl rfl (by decide +kernel) (by decide +kernel) (by decide +kernel) (Fz.le_refl _) (by intro z hz; simp only [List.mem_cons, List.not_mem_nil, or_false] at hz; rcases hz with rfl | rfl | rfl | rfl | rfl; simp [Gr.H]; exact hlm2 _; exact mE_in hmii _; exact hlm _; exact mE_in hmia _) rfl (v_field (k := 0) rfl rfl rfl) ?_
            refine d_take (i := 32) rfl rfl rfl (by decide +kernel) (by decide +kernel) (by decide +kernel) (Fz.le_refl _) (by intro z hz; simp only [List.mem_cons, List.not_mem_nil, or_false] at hz; rcases hz with rfl | rfl | rfl | rfl | rfl; simp [Gr.H]; exact hlm2 _; exact mE_in hmii _; exact hlm _; exact mE_in hmia _) rfl (v_load (v := .slice (some ⟨lb, 0, none⟩) g.ms.length c) rfl rfl (hlvc _ _ (by simp))) ?_
            refine d_take (i := 33) rfl rfl rfl (by decide +kernel) (by decide +kernel) (by decide +kernel) (Fz.le_refl _) (by intro z hz; simp only [List.mem_cons, List.not_mem_nil, or_false] at hz; rcases hz with rfl | rfl | rfl | rfl | rfl; simp [Gr.H]; exact hlm2 _; exact mE_in hmii _; exact hlm _; exact mE_in hmia _) rfl (v_move rfl) ?_
            refine d_take (i := 34) rfl rfl rfl (by decide +kernel) (by decide +kernel) (by decide +kernel) (Fz.le_refl _) (by intro z hz; simp only [List.mem_cons, List.not_mem_nil, or_false] at hz; rcases hz with rfl | rfl | rfl | rfl | rfl; simp [Gr.H]; exact hlm2 _; exact mE_in hmii _; exact hlm _; exact mE_in hmia _) rfl (v_index1 (i := a) rfl rfl rfl rfl (by omega)) ?_
            refine d_take (i := 35) rfl rfl rfl (by decide +kernel) (by decide +kernel) (by decide +kernel) (Fz.le_refl _) (by intro z hz; simp only [List.mem_cons, List.not_mem_nil, or_false] at hz; rcases hz with rfl | rfl | rfl | rfl | rfl; simp [Gr.H]; exact hlm2 _; exact mE_in hmii _; exact hlm _; exact mE_in hmia _) rfl (v_load (v := ptrV ma.ma) rfl rfl (hptra _ _ (by simp))) ?_
            refine d_take (i := 25) rfl rfl rfl (by decide +kernel) (by decide +kernel) (by decide +kernel) (Fz.le_refl _) (by intro z hz; simp only [List.mem_cons, List.not_mem_nil, or_false] at hz; rcases hz with rfl | rfl | rfl | rfl | rfl; simp [Gr.H]; exact hlm2 _; exact mE_in hmii _; exact hlm _; exact mE_in hmia _) rfl (v_nilCheck rfl) ?_
            refine d_take (i := 26) rfl rfl rfl (by decide +kernel) (by decide +kernel) (by decide +kernel) (Fz.le_refl _) (by intro z hz; simp only [List.mem_cons, List.not_mem_nil, or_false] at hz; rcases hz with rfl | rfl | rfl | rfl | rfl; simp [Gr.H]; exact hlm2 _; exact mE_in hmii _; exact hlm _; exact mE_in hmia _) rfl (v_field (k := 0) rfl rfl rfl) ?_
            refine d_take (i := 27) rfl rfl rfl (by decide +kernel) (by decide +kernel) (by decide +kernel) (Fz.le_refl _) (by intro z hz; simp only [List.mem_cons, List.not_mem_nil, or_false] at hz; rcases hz with rfl | rfl | rfl | rfl | rfl; simp [Gr.H]; exact hlm2 _; exact mE_in hmii _; exact hlm _; exact mE_in hmia _) rfl (v_load rfl rfl (ecell (m := mi) 0 (by first | exact mE_in hmii _ | simp) rfl)) ?_
            refine d_take (i := 36) rfl rfl rfl (by decide +kernel) (by decide +kernel) (by decide +kernel) (Fz.le_refl _) (by intro z hz; simp only [List.mem_cons, List.not_mem_nil, or_false] at hz; rcases hz with rfl | rfl | rfl | rfl | rfl; simp [Gr.H]; exact hlm2 _; exact mE_in hmii _; exact hlm _; exact mE_in hmia _) rfl (v_nilCheck rfl) ?_
            refine d_take (i := 37) rfl rfl rfl (by decide +kernel) (by decide +kernel) (by decide +kernel) (Fz.le_refl _) (by intro z hz; simp only [List.mem_cons, List.not_mem_nil, or_false] at hz; rcases hz with rfl | rfl | rfl | rfl | rfl; simp [Gr.H]; exact hlm2 _; exact mE_in hmii _; exact hlm _; exact mE_in hmia _) rfl (v_field (k := 0) rfl rfl rfl) ?_
            refine d_take (i := 38) rfl rfl rfl (by decide +kernel) (by decide +kernel) (by decide +kernel) (Fz.le_refl _) (by intro z hz; simp only [List.mem_cons, List.not_mem_nil, or_false] at hz; rcases hz with rfl | rfl | rfl | rfl | rfl; simp [Gr.H]; exact hlm2 _; exact mE_in hmii _; exact hlm _; exact mE_in hmia _) rfl (v_load rfl rfl (ecell (m := ma) 0 (by first | exact mE_in hmia _ | simp) rfl)) ?_
            refine d_one (i := 28) (by decide +kernel) ?_
            refine d1_call rfl rfl rfl rfl (c_call callable14 rfl) (g_rd hgeti (fun X => r_Term _ _ mi.ra mi.r X)) ?_
            rintro v' F3 H' ⟨rfl, rfl, rfl⟩ _
            refine ⟨fun w hw => held_of hw (by first | exact Fz.le_refl _ | assumption) (by intro z hz; simp only [List.mem_cons, List.not_mem_nil, or_false] at hz; rcases hz with rfl | rfl | rfl | rfl | rfl; simp [Gr.H]; exact hlm2 _; exact mE_in hmii _; exact hlm _; exact mE_in hmia _), ?_⟩
            refine d_one (i := 39) (by decide +kernel) ?_
            refine d1_call rfl rfl rfl rfl (c_call callable14 rfl) (g_rd hgeta (fun X => r_Term _ _ ma.ra ma.r X)) ?_
            rintro v' F3 H' ⟨rfl, rfl, rfl⟩ _
            refine ⟨fun w hw => held_of hw (by first | exact Fz.le_refl _ | assumption) (by intro z hz; simp only [List.mem_cons, List.not_mem_nil, or_false] at hz; rcases hz with rfl | rfl | rfl | rfl | rfl; simp [Gr.H]; exact hlm2 _; exact mE_in hmii _; exact hlm _; exact mE_in hmia _), ?_⟩
            rw [hl2]
            refine d_take (i := 40) rfl rfl rfl (by decide +kernel) (by decide +kernel) (by decide +kernel) (Fz.le_refl _) (by intro z hz; simp only [List.mem_cons, List.not_mem_nil, or_false] at hz; rcases hz with rfl | rfl | rfl | rfl | rfl; simp [Gr.H]; exact hlm2 _; exact mE_in hmii _; exact hlm _; exact mE_in hmia _) rfl (v_neq rfl rfl) ?_
            refine j_slot 106 rfl (v' := .bool false) (congrArg Value.bool (decide_eq_false (by simp))) ?_
            refine d_take (i := 41) rfl rfl rfl (by decide +kernel) (by decide +kernel) (by decide +kernel) (Fz.le_refl _) (by intro z hz; simp only [List.mem_cons, List.not_mem_nil, or_false] at hz; rcases hz with rfl | rfl | rfl | rfl | rfl; simp [Gr.H]; exact hlm2 _; exact mE_in hmii _; exact hlm _; exact mE_in hmia _) rfl (v_pick0 rfl rfl) ?_
            refine d_take (i := 42) rfl rfl rfl (by decide +kernel) (by decide +kernel) (by decide +kernel) (Fz.le_refl _) (by intro z hz; simp only [List.mem_cons, List.not_mem_nil, or_false] at hz; rcases hz with rfl | rfl | rfl | rfl | rfl; simp [Gr.H]; exact hlm2 _; exact mE_in hmii _; exact hlm _; exact mE_in hmia _) rfl (v_move rfl) ?_
            refine d_take (i := 43) rfl rfl rfl (by decide +kernel) (by decide +kernel) (by decide +kernel) (Fz.le_refl _) (by intro z hz; simp only [List.mem_cons, List.not_mem_nil, or_false] at hz; rcases hz with rfl | rfl | rfl | rfl | rfl; simp [Gr.H]; exact hlm2 _; exact mE_in hmii _; exact hlm _; exact mE_in hmia _) rfl (v_move rfl) ?_
            refine d_take (i := 44) rfl rfl rfl (by decide +kernel) (by decide +kernel) (by decide +kernel) (Fz.le_refl _) (by intro z hz; simp only [List.mem_cons, List.not_mem_nil, or_false] at hz; rcases hz with rfl | rfl | rfl | rfl | rfl; simp [Gr.H]; exact hlm2 _; exact mE_in hmii _; exact hlm _; exact mE_in hmia _) rfl (v_nilCheck rfl) ?_
            refine d_take (i := 45) rfl rfl rfl (by decide +kernel) (by decide +kernel) (by decide +kernel) (Fz.le_refl _) (by intro z hz; simp only [List.mem_cons, List.not_mem_nil, or_false] at hz; rcases hz with rfl | rfl | rfl | rfl | rfl; simp [Gr.H]; exact hlm2 _; exact mE_in hmii _; exact hlm _; exact mE_in hmia _) rfl (v_field (k := 0) rfl rfl rfl) ?_
            refine d_take (i := 46) rfl rfl rfl (by decide +kernel) (by decide +kernel) (by decide +kernel) (Fz.le_refl _) (by intro z hz; simp only [List.mem_cons, List.not_mem_nil, or_false] at hz; rcases hz with rfl | rfl | rfl | rfl | rfl; simp [Gr.H]; exact hlm2 _; exact mE_in hmii _; exact hlm _; exact mE_in hmia _) rfl (v_load (v := .slice (some ⟨lb2, 0, none⟩) g.ms.length c2) rfl rfl (hlvc2 _ _ (by simp))) ?_
            refine d_take (i := 47) rfl rfl rfl (by decide +kernel) (by decide +kernel) (by decide +kernel) (Fz.le_refl _) (by intro z hz; simp only [List.mem_cons, List.not_mem_nil, or_false] at hz; rcases hz with rfl | rfl | rfl | rfl | rfl; simp [Gr.H]; exact hlm2 _; exact mE_in hmii _; exact hlm _; exact mE_in hmia _) rfl (v_move rfl) ?_
            refine d_take (i := 48) rfl rfl rfl (by decide +kernel) (by decide +kernel) (by decide +kernel) (Fz.le_refl _) (by intro z hz; simp only [List.mem_cons, List.not_mem_nil, or_false] at hz; rcases hz with rfl | rfl | rfl | rfl | rfl; simp [Gr.H]; exact hlm2 _; exact mE_in hmii _; exact hlm _; exact mE_in hmia _) rfl (v_index1 (i := i) rfl rfl rfl rfl (by omega)) ?_
            refine d_take (i := 49) rfl rfl rfl (by decide +kernel) (by decide +kernel) (by decide +kernel) (Fz.le_refl _) (by intro z hz; simp only [List.mem_cons, List.not_mem_nil, or_false] at hz; rcases hz with rfl | rfl | rfl | rfl | rfl; simp [Gr.H]; exact hlm2 _; exact mE_in hmii _; exact hlm _; exact mE_in hmia _) rfl (v_load (v := ptrV mi.ma) rfl rfl (hptri _ _ (by simp))) ?_
            refine d_take (i := 50) rfl rfl rfl (by decide +kernel) (by decide +kernel) (by decide +kernel) (Fz.le_refl _) (by intro z hz; simp only [List.mem_cons, List.not_mem_nil, or_false] at hz; rcases hz with rfl | rfl | rfl | rfl | rfl; simp [Gr.H]; exact hlm2 _; exact mE_in hmii _; exact hlm _; exact mE_in hmia _) rfl (v_nilCheck rfl) ?_
            refine d_take (i := 51) rfl rfl rfl (by decide +kernel) (by decide +kernel) (by decide +kernel) (Fz.le_refl _) (by intro z hz; simp only [List.mem_cons, List.not_mem_nil, or_false] at hz; rcases hz with rfl | rfl | rfl | rfl | rfl; simp [Gr.H]; exact hlm2 _; exact mE_in hmii _; exact hlm _; exact mE_in hmia _) rfl (v_field (k := 0) rfl rfl rfl) ?_
            refine d_take (i := 52) rfl rfl rfl (by decide +kernel) (by decide +kernel) (by decide +kernel) (Fz.le_refl _) (by intro z hz; simp only [List.mem_cons, List.not_mem_nil, or_false] at hz; rcases hz with rfl | rfl | rfl | rfl | rfl; simp [Gr.H]; exact hlm2 _; exact mE_in hmii _; exact hlm _; exact mE_in hmia _) rfl (v_load rfl rfl (ecell (m := mi) 0 (by first | exact mE_in hmii _ | simp) rfl)) ?_
            refine d_one (i := 53) (by decide +kernel) ?_
            refine d1_call rfl rfl rfl rfl (c_call callable15 rfl) (g_rd hgeti (fun X => r_Commit _ _ mi.ra mi.r X)) ?_
            rintro v' F3 H' ⟨rfl, rfl, rfl⟩ _
            refine ⟨fun w hw => held_of hw (by first | exact Fz.le_refl _ | assumption) (by intro z hz; simp only [List.mem_cons, List.not_mem_nil, or_false] at hz; rcases hz with rfl | rfl | rfl | rfl | rfl; simp [Gr.H]; exact hlm2 _; exact mE_in hmii _; exact hlm _; exact mE_in hmia _), ?_⟩
            refine d_take (i := 54) rfl rfl rfl (by decide +kernel) (by decide +kernel) (by decide +kernel) (Fz.le_refl _) (by intro z hz; simp only [List.mem_cons, List.not_mem_nil, or_false] at hz; rcases hz with rfl | rfl | rfl | rfl | rfl; simp [Gr.H]; exact hlm2 _; exact mE_in hmii _; exact hlm _; exact mE_in hmia _) rfl (v_lss rfl rfl) ?_
            refine j_slot 120 rfl (v' := .bool false) (congrArg Value.bool (decide_eq_false (by omega))) ?_
            refine d_take (i := 55) rfl rfl rfl (by decide +kernel) (by decide +kernel) (by decide +kernel) (Fz.le_refl _) (by intro z hz; simp only [List.mem_cons, List.not_mem_nil, or_false] at hz; rcases hz with rfl | rfl | rfl | rfl | rfl; simp [Gr.H]; exact hlm2 _; exact mE_in hmii _; exact hlm _; exact mE_in hmia _) rfl (v_pick0 rfl rfl) ?_
            refine d_take (i := 56) rfl rfl rfl (by decide +kernel) (by decide +kernel) (by decide +kernel) (Fz.le_refl _) (by intro z hz; simp only [List.mem_cons, List.not_mem_nil, or_false] at hz; rcases hz with rfl | rfl | rfl | rfl | rfl; simp [Gr.H]; exact hlm2 _; exact mE_in hmii _; exact hlm _; exact mE_in hmia _) rfl (v_pick1 rfl rfl) ?_
            refine d_end (by decide +kernel) ?_
            refine r_false rfl ?_
            refine r_skip ?_
            refine r_inBlock ?_
            refine r_region rfl ?_
            refine o_val rfl rfl rfl rfl (v_move rfl) ?_
            refine o_val rfl rfl rfl rfl (v_add rfl rfl (r := ((i + 1 : Nat) : Int)) (wrap_i64 (by omega) (by omega))) ?_
            refine o_val rfl rfl rfl rfl (v_assign rfl) ?_
            refine o_end ?_
            refine j_keep ?_ hnext
            exact ⟨rfl, rfl, rfl, rfl, rfl, trivial⟩
          · refine d_take (i := 3) rfl rfl rfl (by decide +kernel) (by decide +kernel) (by decide +kernel) (Fz.le_refl _) (by intro z hz; simp only [List.mem_cons, List.not_mem_nil, or_false] at hz; rcases hz with rfl | rfl | rfl | rfl | rfl; simp [Gr.H]; exact hlm2 _; exact mE_in hmii _; exact hlm _; exact mE_in hmia _) rfl (v_move rfl) ?_
            refine d_skip (i := 4) rfl rfl rfl (by decide +kernel) (by decide +kernel) (by decide +kernel) (Fz.le_refl _) (by intro z hz; simp only [List.mem_cons, List.not_mem_nil, or_false] at hz; rcases hz with rfl | rfl | rfl | rfl | rfl; simp [Gr.H]; exact hlm2 _; exact mE_in hmii _; exact hlm _; exact mE_in hmia _) rfl ?_
            refine d_skip (i := 5) rfl rfl rfl (by decide +kernel) (by decide +kernel) (by decide +kernel) (Fz.le_refl _) (by intro z hz; simp only [List.mem_cons, List.not_mem_nil, or_false] at hz; rcases hz with rfl | rfl | rfl | rfl | rfl; simp [Gr.H]; exact hlm2 _; exact mE_in hmii _; exact hlm _; exact mE_in hmia _) rfl ?_
            refine d_skip (i := 6) rfl rfl rfl (by decide +kernel) (by decide +kernel) (by decide +kernel) (Fz.le_refl _) (by intro z hz; simp only [List.mem_cons, List.not_mem_nil, or_false] at hz; rcases hz with rfl | rfl | rfl | rfl | rfl; simp [Gr.H]; exact hlm2 _; exact mE_in hmii _; exact hlm _; exact mE_in hmia _) rfl ?_
            refine d_skip (i := 7) rfl rfl rfl (by decide +kernel) (by decide +kernel) (by decide +kernel) (Fz.le_refl _) (by intro z hz; simp only [List.mem_cons, List.not_mem_nil, or_false] at hz; rcases hz with rfl | rfl | rfl | rfl | rfl; simp [Gr.H]; exact hlm2 _; exact mE_in hmii _; exact hlm _; exact mE_in hmia _) rfl ?_
            refine d_skip (i := 8) rfl rfl rfl (by decide +kernel) (by decide +kernel) (by decide +kernel) (Fz.le_refl _) (by intro z hz; simp only [List.mem_cons, List.not_mem_nil, or_false] at hz; rcases hz with rfl | rfl | rfl | rfl | rfl; simp [Gr.H]; exact hlm2 _; exact mE_in hmii _; exact hlm _; exact mE_in hmia _) rfl ?_
            refine d_skip (i := 9) rfl rfl rfl (by decide +kernel) (by decide +kernel) (by decide +kernel) (Fz.le_refl _) (by intro z hz; simp only [List.mem_cons, List.not_mem_nil, or_false] at hz; rcases hz with rfl | rfl | rfl | rfl | rfl; simp [Gr.H]; exact hlm2 _; exact mE_in hmii _; exact hlm _; exact mE_in hmia _) rfl ?_
            refine d_skip (i := 10) rfl rfl rfl (by decide +kernel) (by decide +kernel) (by decide +kernel) (Fz.le_refl _) (by intro z hz; simp only [List.mem_cons, List.not_mem_nil, or_false] at hz; rcases hz with rfl | rfl | rfl | rfl | rfl; simp [Gr.H]; exact hlm2 _; exact mE_in hmii _; exact hlm _; exact mE_in hmia _) rfl ?_
            refine d_skip (i := 11) rfl rfl rfl (by decide +kernel) (by decide +kernel) (by decide +kernel) (Fz.le_refl _) (by intro z hz; simp only [List.mem_cons, List.not_mem_nil, or_false] at hz; rcases hz with rfl | rfl | rfl | rfl | rfl; simp [Gr.H]; exact hlm2 _; exact mE_in hmii _; exact hlm _; exact mE_in hmia _) rfl ?_
            refine d_skip (i := 12) rfl rfl rfl (by decide +kernel) (by decide +kernel) (by decide +kernel) (Fz.le_refl _) (by intro z hz; simp only [List.mem_cons, List.not_mem_nil, or_false] at hz; rcases hz with rfl | rfl | rfl | rfl | rfl; simp [Gr.H]; exact hlm2 _; exact mE_in hmii _; exact hlm _; exact mE_in hmia _) rfl ?_
            refine d_skip (i := 13) rfl rfl rfl (by decide +kernel) (by decide +kernel) (by decide +kernel) (Fz.le_refl _) (by intro z hz; simp only [List.mem_cons, List.not_mem_nil, or_false] at hz; rcases hz with rfl | rfl | rfl | rfl | rfl; simp [Gr.H]; exact hlm2 _; exact mE_in hmii _; exact hlm _; exact mE_in hmia _) rfl ?_
            refine d_skip (i := 14) rfl rfl rfl (by decide +kernel) (by decide +kernel) (by decide +kernel) (Fz.le_refl _) (by intro z hz; simp only [List.mem_cons, List.not_mem_nil, or_false] at hz; rcases hz with rfl | rfl | rfl | rfl | rfl; simp [Gr.H]; exact hlm2 _; exact mE_in hmii _; exact hlm _; exact mE_in hmia _) rfl ?_
            refine d_skip (i := 15) rfl rfl rfl (by decide +kernel) (by decide +kernel) (by decide +kernel) (Fz.le_refl _) (by intro z hz; simp only [List.mem_cons, List.not_mem_nil, or_false] at hz; rcases hz with rfl | rfl | rfl | rfl | rfl; simp [Gr.H]; exact hlm2 _; exact mE_in hmii _; exact hlm _; exact mE_in hmia _) rfl ?_
            refine d_skip (i := 16) rfl rfl rfl (by decide +kernel) (by decide +kernel) (by decide +kernel) (Fz.le_refl _) (by intro z hz; simp only [List.mem_cons, List.not_mem_nil, or_false] at hz; rcases hz with rfl | rfl | rfl | rfl | rfl; simp [Gr.H]; exact hlm2 _; exact mE_in hmii _; exact hlm _; exact mE_in hmia _) rfl ?_
            refine d_skip (i := 17) rfl rfl rfl (by decide +kernel) (by decide +kernel) (by decide +kernel) (Fz.le_refl _) (by intro z hz; simp only [List.mem_cons, List.not_mem_nil, or_false] at hz; rcases hz with rfl | rfl | rfl | rfl | rfl; simp [Gr.H]; exact hlm2 _; exact mE_in hmii _; exact hlm _; exact mE_in hmia _) rfl ?_
            refine d_skip (i := 18) rfl rfl rfl (by decide +kernel) (by decide +kernel) (by decide +kernel) (Fz.le_refl _) (by intro z hz; simp only [List.mem_cons, List.not_mem_nil, or_false] at hz; rcases hz with rfl | rfl | rfl | rfl | rfl; simp [Gr.H]; exact hlm2 _; exact mE_in hmii _; exact hlm _; exact mE_in hmia _) rfl ?_
            refine d_skip (i := 19) rfl rfl rfl (by decide +kernel) (by decide +kernel) (by decide +kernel) (Fz.le_refl _) (by intro z hz; simp only [List.mem_cons, List.not_mem_nil, or_false] at hz; rcases hz with rfl | rfl | rfl | rfl | rfl; simp [Gr.H]; exact hlm2 _; exact mE_in hmii _; exact hlm _; exact mE_in hmia _) rfl ?_
            refine d_skip (i := 20) rfl rfl rfl (by decide +kernel) (by decide +kernel) (by decide +kernel) (Fz.le_refl _) (by intro z hz; simp only [List.mem_cons, List.not_mem_nil, or_false] at hz; rcases hz with rfl | rfl | rfl | rfl | rfl; simp [Gr.H]; exact hlm2 _; exact mE_in hmii _; exact hlm _; exact mE_in hmia _) rfl ?_
            refine d_skip (i := 21) rfl rfl rfl (by decide +kernel) (by decide +kernel) (by decide +kernel) (Fz.le_refl _) (by intro z hz; simp only [List.mem_cons, List.not_mem_nil, or_false] at hz; rcases hz with rfl | rfl | rfl | rfl | rfl; simp [Gr.H]; exact hlm2 _; exact mE_in hmii _; exact hlm _; exact mE_in hmia _) rfl ?_
            refine d_skip (i := 22) rfl rfl rfl (by decide +kernel) (by decide +kernel) (by decide +kernel) (Fz.le_refl _) (by intro z hz; simp only [List.mem_cons, List.not_mem_nil, or_false] at hz; rcases hz with rfl | rfl | rfl | rfl | rfl; simp [Gr.H]; exact hlm2 _; exact mE_in hmii _; exact hlm _; exact mE_in hmia _) rfl ?_
            refine d_skip (i := 23) rfl rfl rfl (by decide +kernel) (by decide +kernel) (by decide +kernel) (Fz.le_refl _) (by intro z hz; simp only [List.mem_cons, List.not_mem_nil, or_false] at hz; rcases hz with rfl | rfl | rfl | rfl | rfl; simp [Gr.H]; exact hlm2 _; exact mE_in hmii _; exact hlm _; exact mE_in hmia _) rfl ?_
            refine d_skip (i := 24) rfl rfl rfl (by decide +kernel) (by decide +kernel) (by decide +kernel) (Fz.le_refl _) (by intro z hz; simp only [List.mem_cons, List.not_mem_nil, or_false] at hz; rcases hz with rfl | rfl | rfl | rfl | rfl; simp [Gr.H]; exact hlm2 _; exact mE_in hmii _; exact hlm _; exact mE_in hmia _) rfl ?_
            refine d_skip (i := 25) rfl rfl rfl (by decide +kernel) (by decide +kernel) (by decide +kernel) (Fz.le_refl _) (by intro z hz; simp only [List.mem_cons, List.not_mem_nil, or_false] at hz; rcases hz with rfl | rfl | rfl | rfl | rfl; simp [Gr.H]; exact hlm2 _; exact mE_in hmii _; exact hlm _; exact mE_in hmia _) rfl ?_
            refine d_skip (i := 26) rfl rfl rfl (by decide +kernel) (by decide +kernel) (by decide +kernel) (Fz.le_refl _) (by intro z hz; simp only [List.mem_cons, List.not_mem_nil, or_false] at hz; rcases hz with rfl | rfl | rfl | rfl | rfl; simp [Gr.H]; exact hlm2 _; exact mE_in hmii _; exact hlm _; exact mE_in hmia _) rfl ?_
            refine d_skip (i := 27) rfl rfl rfl (by decide +kernel) (by decide +kernel) (by decide +kernel) (Fz.le_refl _) (by intro z hz; simp only [List.mem_cons, List.not_mem_nil, or_false] at hz; rcases hz with rfl | rfl | rfl | rfl | rfl; simp [Gr.H]; exact hlm2 _; exact mE_in hmii _; exact hlm _; exact mE_in hmia _) rfl ?_
            refine d_skip (i := 28) rfl rfl rfl (by decide +kernel) (by decide +kernel) (by decide +kernel) (Fz.le_refl _) (by intro z hz; simp only [List.mem_cons, List.not_mem_nil, or_false] at hz; rcases hz with rfl | rfl | rfl | rfl | rfl; simp [Gr.H]; exact hlm2 _; exact mE_in hmii _; exact hlm _; exact mE_in hmia _) rfl ?_
            refine d_skip (i := 29) rfl rfl rfl (by decide +kernel) (by decide +kernel) (by decide +kernel) (Fz.le_refl _) (by intro z hz; simp only [List.mem_cons, List.not_mem_nil, or_false] at hz; rcases hz with rfl | rfl | rfl | rfl | rfl; simp [Gr.H]; exact hlm2 _; exact mE_in hmii _; exact hlm _; exact mE_in hmia _) rfl ?_
            refine d_skip (i := 30) rfl rfl rfl (by decide +kernel) (by decide +kernel) (by decide +kernel) (Fz.le_refl _) (by intro z hz; simp only [List.mem_cons, List.not_mem_nil, or_false] at hz; rcases hz with rfl | rfl | rfl | rfl | rfl; simp [Gr.H]; exact hlm2 _; exact mE_in hmii _; exact hlm _; exact mE_in hmia _) rfl ?_
            refine d_skip (i := 31) rfl rfl rfl (by decide +kernel) (by decide +kernel) (by decide +kernel) (Fz.le_refl _) (by intro z hz; simp only [List.mem_cons, List.not_mem_nil, or_false] at hz; rcases hz with rfl | rfl | rfl | rfl | rfl; simp [Gr.H]; exact hlm2 _; exact mE_in hmii _; exact hlm _; exact mE_in hmia _) rfl ?_
            refine d_skip (i := 32) rfl rfl rfl (by decide +kernel) (by decide +kernel) (by decide +kernel) (Fz.le_refl _) (by intro z hz; simp only [List.mem_cons, List.not_mem_nil, or_false] at hz; rcases hz with rfl | rfl | rfl | rfl | rfl; simp [Gr.H]; exact hlm2 _; exact mE_in hmii _; exact hlm _; exact mE_in hmia _) rfl ?_
            refine d_skip (i := 33) rfl rfl rfl (by decide +kernel) (by decide +kernel) (by decide +kernel) (Fz.le_refl _) (by intro z hz; simp only [List.mem_cons, List.not_mem_nil, or_false] at hz; rcases hz with rfl | rfl | rfl | rfl | rfl; simp [Gr.H]; exact hlm2 _; exact mE_in hmii _; exact hlm _; exact mE_in hmia _) rfl ?_
            refine d_skip (i := 34) rfl rfl rfl (by decide +kernel) (by decide +kernel) (by decide +kernel) (Fz.le_refl _) (by intro z hz; simp only [List.mem_cons, List.not_mem_nil, or_false] at hz; rcases hz with rfl | rfl | rfl | rfl | rfl; simp [Gr.H]; exact hlm2 _; exact mE_in hmii _; exact hlm _; exact mE_in hmia _) rfl ?_
            refine d_skip (i := 35) rfl rfl rfl (by decide +kernel) (by decide +kernel) (by decide +kernel) (Fz.le_refl _) (by intro z hz; simp only [List.mem_cons, List.not_mem_nil, or_false] at hz; rcases hz with rfl | rfl | rfl | rfl | rfl; simp [Gr.H]; exact hlm2 _; exact mE_in hmii _; exact hlm _; exact mE_in hmia _) rfl ?_
            refine d_skip (i := 36) rfl rfl rfl (by decide +kernel) (by decide +kernel) (by decide +kernel) (Fz.le_refl _) (by intro z hz; simp only [List.mem_cons, List.not_mem_nil, or_false] at hz; rcases hz with rfl | rfl | rfl | rfl | rfl; simp [Gr.H]; exact hlm2 _; exact mE_in hmii _; exact hlm _; exact mE_in hmia _) rfl ?_
            refine d_skip (i := 37) rfl rfl rfl (by decide +kernel) (by decide +kernel) (by decide +kernel) (Fz.le_refl _) (by intro z hz; simp only [List.mem_cons, List.not_mem_nil, or_false] at hz; rcases hz with rfl | rfl | rfl | rfl | rfl; simp [Gr.H]; exact hlm2 _; exact mE_in hmii _; exact hlm _; exact mE_in hmia _) rfl ?_
            refine d_skip (i := 38) rfl rfl rfl (by decide +kernel) (by decide +kernel) (by decide +kernel) (Fz.le_refl _) (by intro z hz; simp only [List.mem_cons, List.not_mem_nil, or_false] at hz; rcases hz with rfl | rfl | rfl | rfl | rfl; simp [Gr.H]; exact hlm2 _; exact mE_in hmii _; exact hlm _; exact mE_in hmia _) rfl ?_
            refine d_skip (i := 39) rfl rfl rfl (by decide +kernel) (by decide +kernel) (by decide +kernel) (Fz.le_refl _) (by intro z hz; simp only [List.mem_cons, List.not_mem_nil, or_false] at hz; rcases hz with rfl | rfl | rfl | rfl | rfl; simp [Gr.H]; exact hlm2 _; exact mE_in hmii _; exact hlm _; exact mE_in hmia _) rfl ?_
            refine d_skip (i := 40) rfl rfl rfl (by decide +kernel) (by decide +kernel) (by decide +kernel) (Fz.le_refl _) (by intro z hz; simp only [List.mem_cons, List.not_mem_nil, or_false] at hz; rcases hz with rfl | rfl | rfl | rfl | rfl; simp [Gr.H]; exact hlm2 _; exact mE_in hmii _; exact hlm _; exact mE_in hmia _) rfl ?_
            refine d_skip (i := 41) rfl rfl rfl (by decide +kernel) (by decide +kernel) (by decide +kernel) (Fz.le_refl _) (by intro z hz; simp only [List.mem_cons, List.not_mem_nil, or_false] at hz; rcases hz with rfl | rfl | rfl | rfl | rfl; simp [Gr.H]; exact hlm2 _; exact mE_in hmii _; exact hlm _; exact mE_in hmia _) rfl ?_
            refine d_skip (i := 42) rfl rfl rfl (by decide +kernel) (by decide +kernel) (by decide +kernel) (Fz.le_refl _) (by intro z hz; simp only [List.mem_cons, List.not_mem_nil, or_false] at hz; rcases hz with rfl | rfl | rfl | rfl | rfl; simp [Gr.H]; exact hlm2 _; exact mE_in hmii _; exact hlm _; exact mE_in hmia _) rfl ?_
            refine d_skip (i := 43) rfl rfl rfl (by decide +kernel) (by decide +kernel) (by decide +kernel) (Fz.le_refl _) (by intro z hz; simp only [List.mem_cons, List.not_mem_nil, or_false] at hz; rcases hz with rfl | rfl | rfl | rfl | rfl; simp [Gr.H]; exact hlm2 _; exact mE_in hmii _; exact hlm _; exact mE_in hmia _) rfl ?_
            refine d_skip (i := 44) rfl rfl rfl (by decide +kernel) (by decide +kernel) (by decide +kernel) (Fz.le_refl _) (by intro z hz; simp only [List.mem_cons, List.not_mem_nil, or_false] at hz; rcases hz with rfl | rfl | rfl | rfl | rfl; simp [Gr.H]; exact hlm2 _; exact mE_in hmii _; exact hlm _; exact mE_in hmia _) rfl ?_
            refine d_skip (i := 45) rfl rfl rfl (by decide +kernel) (by decide +kernel) (by decide +kernel) (Fz.le_refl _) (by intro z hz; simp only [List.mem_cons, List.not_mem_nil, or_false] at hz; rcases hz with rfl | rfl | rfl | rfl | rfl; simp [Gr.H]; exact hlm2 _; exact mE_in hmii _; exact hlm _; exact mE_in hmia _) rfl ?_
            refine d_skip (i := 46) rfl rfl rfl (by decide +kernel) (by decide +kernel) (by decide +kernel) (Fz.le_refl _) (by intro z hz; simp only [List.mem_cons, List.not_mem_nil, or_false] at hz; rcases hz with rfl | rfl | rfl | rfl | rfl; simp [Gr.H]; exact hlm2 _; exact mE_in hmii _; exact hlm _; exact mE_in hmia _) rfl ?_
            refine d_skip (i := 47) rfl rfl rfl (by decide +kernel) (by decide +kernel) (by decide +kernel) (Fz.le_refl _) (by intro z hz; simp only [List.mem_cons, List.not_mem_nil, or_false] at hz; rcases hz with rfl | rfl | rfl | rfl | rfl; simp [Gr.H]; exact hlm2 _; exact mE_in hmii _; exact hlm _; exact mE_in hmia _) rfl ?_
            refine d_skip (i := 48) rfl rfl rfl (by decide +kernel) (by decide +kernel) (by decide +kernel) (Fz.le_refl _) (by intro z hz; simp only [List.mem_cons, List.not_mem_nil, or_false] at hz; rcases hz with rfl | rfl | rfl | rfl | rfl; simp [Gr.H]; exact hlm2 _; exact mE_in hmii _; exact hlm _; exact mE_in hmia _) rfl ?_
            refine d_skip (i := 49) rfl rfl rfl (by decide +kernel) (by decide +kernel) (by decide +kernel) (Fz.le_refl _) (by intro z hz; simp only [List.mem_cons, List.not_mem_nil, or_false] at hz; rcases hz with rfl | rfl | rfl | rfl | rfl; simp [Gr.H]; exact hlm2 _; exact mE_in hmii _; exact hlm _; exact mE_in hmia _) rfl ?_
            refine d_skip (i := 50) rfl rfl rfl (by decide +kernel) (by decide +kernel) (by decide +kernel) (Fz.le_refl _) (by intro z hz; simp only [List.mem_cons, List.not_mem_nil, or_false] at hz; rcases hz with rfl | rfl | rfl | rfl | rfl; simp [Gr.H]; exact hlm2 _; exact mE_in hmii _; exact hlm _; exact mE_in hmia _) rfl ?_
            refine d_skip (i := 51) rfl rfl rfl (by decide +kernel) (by decide +kernel) (by decide +kernel) (Fz.le_refl _) (by intro z hz; simp only [List.mem_cons, List.not_mem_nil, or_false] at hz; rcases hz with rfl | rfl | rfl | rfl | rfl; simp [Gr.H]; exact hlm2 _; exact mE_in hmii _; exact hlm _; exact mE_in hmia _) rfl ?_
            refine d_skip (i := 52) rfl rfl rfl (by decide +kernel) (by decide +kernel) (by decide +kernel) (Fz.le_refl _) (by intro z hz; simp only [List.mem_cons, List.not_mem_nil, or_false] at hz; rcases hz with rfl | rfl | rfl | rfl | rfl; simp [Gr.H]; exact hlm2 _; exact mE_in hmii _; exact hlm _; exact mE_in hmia _) rfl ?_
            refine d_skip (i := 53) rfl rfl rfl (by decide +kernel) (by decide +kernel) (by decide +kernel) (Fz.le_refl _) (by intro z hz; simp only [List.mem_cons, List.not_mem_nil, or_false] at hz; rcases hz with rfl | rfl | rfl | rfl | rfl; simp [Gr.H]; exact hlm2 _; exact mE_in hmii _; exact hlm _; exact mE_in hmia _) rfl ?_
            refine d_skip (i := 54) rfl rfl rfl (by decide +kernel) (by decide +kernel) (by decide +kernel) (Fz.le_refl _) (by intro z hz; simp only [List.mem_cons, List.not_mem_nil, or_false] at hz; rcases hz with rfl | rfl | rfl | rfl | rfl; simp [Gr.H]; exact hlm2 _; exact mE_in hmii _; exact hlm _; exact mE_in hmia _) rfl ?_
            refine d_skip (i := 55) rfl rfl rfl (by decide +kernel) (by decide +kernel) (by decide +kernel) (Fz.le_refl _) (by intro z hz; simp only [List.mem_cons, List.not_mem_nil, or_false] at hz; rcases hz with rfl | rfl | rfl | rfl | rfl; simp [Gr.H]; exact hlm2 _; exact mE_in hmii _; exact hlm _; exact mE_in hmia _) rfl ?_
            refine d_take (i := 56) rfl rfl rfl (by decide +kernel) (by decide +kernel) (by decide +kernel) (Fz.le_refl _) (by intro z hz; simp only [List.mem_cons, List.not_mem_nil, or_false] at hz; rcases hz with rfl | rfl | rfl | rfl | rfl; simp [Gr.H]; exact hlm2 _; exact mE_in hmii _; exact hlm _; exact mE_in hmia _) rfl (v_pick0 rfl rfl) ?_
            refine d_end (by decide +kernel) ?_
            refine r_false rfl ?_
            refine r_skip ?_
            refine r_inBlock ?_
            refine r_region rfl ?_
            refine o_val rfl rfl rfl rfl (v_move rfl) ?_
            refine o_val rfl rfl rfl rfl (v_add rfl rfl (r := ((i + 1 : Nat) : Int)) (wrap_i64 (by omega) (by omega))) ?_
            refine o_val rfl rfl rfl rfl (v_assign rfl) ?_
            refine o_end ?_
            refine j_keep ?_ hnext
            exact ⟨rfl, rfl, rfl, rfl, rfl, trivial⟩
        · refine r_exit rfl ?_
          refine j_keep ?_ (J () trivial)
          exact ⟨rfl, rfl, trivial⟩
      · rintro ⟨⟩ -
        refine r_seq ?_
        refine r_region rfl ?_
        refine o_val rfl rfl rfl rfl (v_move rfl) ?_
        refine o_val rfl rfl rfl rfl (v_lss rfl rfl) ?_
        refine j_prop 124 rfl (fun h6 => ?_) (fun h6 => ?_)
        · refine o_val rfl rfl rfl rfl (v_move rfl) ?_
          refine o_skip rfl rfl rfl rfl ?_
          refine o_skip rfl rfl rfl rfl ?_
          refine o_skip rfl rfl rfl rfl ?_
          refine o_skip rfl rfl rfl rfl ?_
          refine o_skip rfl rfl rfl rfl ?_
          refine o_skip rfl rfl rfl rfl ?_
          refine o_skip rfl rfl rfl rfl ?_
          refine o_skip rfl rfl rfl rfl ?_
          refine o_skip rfl rfl rfl rfl ?_
          refine o_skip rfl rfl rfl rfl ?_
          refine o_skip rfl rfl rfl rfl ?_
          refine o_skip rfl rfl rfl rfl ?_
          refine o_val rfl rfl rfl rfl (v_pick1 rfl rfl) ?_
          refine o_val rfl rfl rfl rfl (v_assign rfl) ?_
          refine o_end ?_
          exact r_ret1 Tryz.func3 rfl rfl ⟨rfl, hF3⟩
        · obtain ⟨cn, hcn⟩ : ∃ cn : Nat, cut = cn := ⟨cut.toNat, by omega⟩
          subst hcn
          have hcmz := hcm.resolve_left h6
          obtain ⟨mi, lb2, c2, N2, hgeti, hmri, hmii, hpi, hlvc2, hlm2, hptri⟩ := hmem cn (by omega)
          rw [Int.toNat_natCast, hpi] at hcmz
          have hcmz : mi.r.p.cm = 0 := of_decide_eq_true hcmz
          refine o_val rfl rfl rfl rfl (v_move rfl) ?_
          refine o_val rfl rfl rfl rfl (v_move rfl) ?_
          refine o_val rfl rfl rfl rfl (v_nilCheck rfl) ?_
          refine o_val rfl rfl rfl rfl (v_field (k := 0) rfl rfl rfl) ?_
          refine o_val rfl rfl rfl rfl (v_load (v := .slice (some ⟨lb2, 0, none⟩) g.ms.length c2) rfl rfl (hlvc2 _ _ (by simp [Gr.H]))) ?_
          refine o_val rfl rfl rfl rfl (v_move rfl) ?_
          refine o_val rfl rfl rfl rfl (v_index1 (i := cn) rfl rfl rfl rfl (by omega)) ?_
          refine o_val rfl rfl rfl rfl (v_load (v := ptrV mi.ma) rfl rfl (hptri _ _ (hlm2 _))) ?_
          refine o_val rfl rfl rfl rfl (v_nilCheck rfl) ?_
          refine o_val rfl rfl rfl rfl (v_field (k := 0) rfl rfl rfl) ?_
          refine o_val rfl rfl rfl rfl (v_load rfl rfl (ecell (m := mi) 0 (by first | exact mE_in hmii _ | simp) rfl)) ?_
          refine o_call rfl rfl rfl rfl (c_call callable15 rfl) (g_rd hgeti (fun X => r_Commit _ _ mi.ra mi.r X)) ?_
          rintro v' F3 H' ⟨rfl, rfl, rfl⟩ _
          rw [hcmz]
          refine o_val rfl rfl rfl rfl (v_eql rfl rfl) ?_
          refine j_slot 137 rfl (v' := .bool true) rfl ?_
          refine o_val rfl rfl rfl rfl (v_pick0 rfl rfl) ?_
          refine o_val rfl rfl rfl rfl (v_assign rfl) ?_
          refine o_end ?_
          exact r_ret1 Tryz.func3 rfl rfl ⟨rfl, hF3⟩
theorem in_RaftElects (W : World) (n : Int) (hn : (Lit.int .u8 n).wf = true) (off : Int) (ho : (Lit.int .u8 off).wf = true) :
    Calls Tryz.prog 3 #[.int .u8 n, .int .u8 off] W fun e w' => e = .returned (.bool true) ∧ Go.RowKit.Below W.heap.size W w' := by
  obtain ⟨n, rfl, hn'⟩ := inU8 hn
  obtain ⟨off, rfl, ho'⟩ := inU8 ho
  exact below_of_does (law_RaftElects _ _ n off [] hn' ho')
end Go.SX
