/-
  Contracts and plain laws, laid together: part 6.
-/
import Derived.Calls
import Derived.Orders
import Derived.OrdersHeld
import Derived.Tactics
import Derived.OwnWalk
import Derived.Laws.Small
import Derived.Laws.Strings
import Derived.Laws.Pointers
import Derived.Laws.CopyRow
import Derived.Laws.Append
import Derived.Laws.AppendOwn
import Derived.Laws.BytesArg
import Derived.Laws.Slices
import Derived.Laws.MakeOwn
import Derived.Laws.Tables
import Derived.Great.BuildSlice
import Derived.Laws.Cover3
import Derived.Laws.Concat
import Derived.Test.YtbciniijhlaomaaGreatProg
import Derived.Below
import Derived.SizedLaws
import Derived.ChangeSlices
import Derived.ChangeOld
import Derived.Laws.StructEq
import Derived.Deep.Matrix
import Derived.Deep.SlicePairs
import Derived.Deep.Grids
import Derived.MapKept
import Derived.Carry
import Derived.WideLaws
import Derived.Laws.Externs
import Derived.Laws.FloatArith
import Derived.Test.YtbciniijhlaomaaGreatMb5
namespace Go.SX
open Go Go.Proofs
set_option maxRecDepth 4000
set_option linter.unusedSimpArgs false
set_option linter.unusedVariables false
theorem quiets_at (a t cut : Nat) : ∀ (n x : Nat) (s : PS), PS.quiets a t cut n s = true → x ≤ n → ∃ s', PS.rounds cut x s = some s' ∧ s'.quietAt a t cut = true
  | 0, 0, s, h, _ => ⟨s, rfl, h⟩
  | n + 1, 0, s, h, _ => by
    unfold PS.quiets at h
    rw [Bool.and_eq_true] at h
    exact ⟨s, rfl, h.1⟩
  | n + 1, x + 1, s, h, hx => by
    unfold PS.quiets at h
    rw [Bool.and_eq_true] at h
    obtain ⟨s1, h1, h2⟩ := chk_is h.2
    obtain ⟨hb, s2, h3, h4⟩ := rounds_step h1
    have h4 : s2 = s1 := Option.some.inj h4
    subst h4
    obtain ⟨s', h5, h6⟩ := quiets_at a t cut n x s2 h2 (by omega)
    refine ⟨s', ?_, h6⟩
    unfold PS.rounds
    rw [if_neg (by rw [hb]; simp), h3]
    exact h5
theorem ofAt_is {s : PS} {a : Nat} {f : PR → Bool} (h : s.ofAt a f = true) : ∃ p, s.ms[a]? = some p ∧ f p = true := by
  unfold PS.ofAt at h
  rw [Int.toNat_natCast] at h
  split at h
  · rename_i p hp
    exact ⟨p, hp, h⟩
  · cases h
theorem leader_is {s : PS} (h : 0 ≤ s.leader) : ∃ a : Nat, a < s.ms.length ∧ s.leader = a := by
  rcases ledBy_lt s s.ms.length with h1 | ⟨a, h1, h2⟩
  · exfalso
    unfold PS.leader at h
    omega
  · exact ⟨a, h1, h2⟩
set_option maxHeartbeats 2000000 in
theorem law_RaftQuiet (O : World) (F : Fz) (n : Nat) (Fr : List Ent) (hn : n < 256) :
    Does Tryz.prog O 4 #[.int .u8 n] F Fr (fun v F' H' => v = .bool true) := by
  refine does_of_run (args := [_]) Tryz.func4 rfl rfl ?_
  obtain ⟨s1, h1, hB⟩ := chk_is quiet_run
  have hpn : ∀ g : Gr, g.ps.ms.length = g.ms.length := fun g => by simp [Gr.ps]
  have hx60 : n % 60 < 60 := Nat.mod_lt _ (by decide)
  obtain ⟨X, hX⟩ : ∃ X, X = n % 60 := ⟨_, rfl⟩
  have hr1 : Int.tmod (n : Int) 60 = (X : Int) := by rw [hX]; rfl
  refine r_seq ?_
  refine r_region rfl ?_
  refine o_val rfl rfl rfl rfl (v_assign rfl) ?_
  refine o_end ?_
  refine r_seq ?_
  refine r_seq ?_
  refine r_region rfl ?_
  refine o_call rfl rfl rfl rfl (c_call callable8 rfl) (g_awake _ _ _) ?_
  rintro v' F1 Fr ⟨rfl, rfl⟩ hF1
  refine o_val rfl rfl rfl rfl (v_not rfl) ?_
  refine o_end ?_
  refine r_false rfl ?_
  refine r_skip ?_
  refine r_seq ?_
  refine r_region rfl ?_
  refine o_call rfl rfl rfl rfl (c_call callable9 rfl) (g_new _ _ 3 _ (by decide) (by decide)) ?_
  rintro v' F2 H' ⟨g0, hg0, hp0, rfl, rfl⟩ hF2
  have hF2 := Fz.le_trans hF1 hF2
  rw [← hp0] at h1
  have hn0 : g0.ms.length = 3 := by rw [← hpn, hp0, new_n]
  refine o_val rfl rfl rfl rfl (v_assign rfl) ?_
  refine o_end ?_
  refine r_seq ?_
  refine r_join (fun q : Gr × Fz => F.le q.2 ∧ q.1.ok q.2 ∧ q.1.ms.length = 3 ∧ q.1.ps = s1) (fun q => [(0, .int .u8 n), (3, ptrV q.1.ga)]) (fun q => q.2) (fun q => q.1.H Fr) ?_ ?_
  · intro J
    refine r_seq ?_
    refine r_region rfl ?_
    refine o_val rfl rfl rfl rfl (v_assign rfl) ?_
    refine o_end ?_
    refine r_block ?_
    refine r_loop (fun q : Gr × Fz × Nat => F.le q.2.1 ∧ q.1.ok q.2.1 ∧ q.1.ga = g0.ga ∧ q.1.ms.length = 3 ∧ q.2.2 ≤ 14 ∧ PS.rounds (-1) (14 - q.2.2) q.1.ps = some s1) (fun q => [(0, .int .u8 n), (3, ptrV g0.ga), (4, .int .i64 q.2.2)]) (fun q => q.2.1) (fun q => q.1.H Fr) (fun q => 14 - q.2.2) (g0, F2, 0) ⟨hF2, hg0, rfl, hn0, Nat.zero_le _, h1⟩ ⟨rfl, rfl, rfl, trivial⟩ rfl rfl ?_
    rintro ⟨g, F3, i⟩ ⟨hF3, hg, hga, hgn, hi, hr⟩ IH
    dsimp only at hF3 hg hga hgn hi hr ⊢
    rw [← hga]
    refine r_seq ?_
    refine r_seq ?_
    refine r_region rfl ?_
    refine o_val rfl rfl rfl rfl (v_move rfl) ?_
    refine o_val rfl rfl rfl rfl (v_lss rfl rfl) ?_
    refine o_end ?_
    refine r_if rfl (fun h5 => ?_) (fun h5 => ?_)
    · rw [show 14 - i = (14 - (i + 1)) + 1 by omega] at hr
      obtain ⟨hb, s9, h9, hr⟩ := rounds_step hr
      have hb : g.bad = false := hb
      refine r_skip ?_
      refine r_seq ?_
      refine r_block ?_
      refine r_region rfl ?_
      refine o_val rfl rfl rfl rfl (v_move rfl) ?_
      refine o_call rfl rfl rfl rfl (c_call callable10 rfl) (g_round _ _ g (-1) s9 Fr hg h9) ?_
      rintro v' F4 H' ⟨rfl, g2, hg2, hp2, hga2, rfl⟩ hF4
      refine o_end ?_
      refine r_inBlock ?_
      refine r_region rfl ?_
      refine o_val rfl rfl rfl rfl (v_move rfl) ?_
      refine o_val rfl rfl rfl rfl (v_add rfl rfl (r := ((i + 1 : Nat) : Int)) (wrap_i64 (by omega) (by omega))) ?_
      refine o_val rfl rfl rfl rfl (v_assign rfl) ?_
      refine o_end ?_
      rw [← hp2] at hr h9
      refine j_keep ?_ (IH (g2, F4, i + 1) ⟨Fz.le_trans hF3 hF4, hg2, by dsimp only; rw [hga2, hga], rounds_len hgn hb h9, by dsimp only; omega, hr⟩ (by dsimp only; omega))
      exact ⟨rfl, by rw [← hga]; rfl, rfl, trivial⟩
    · rw [show 14 - i = 0 by omega] at hr
      have hr : g.ps = s1 := Option.some.inj hr
      refine r_exit rfl ?_
      refine j_keep ?_ (J (g, F3) ⟨hF3, hg, hgn, hr⟩)
      exact ⟨rfl, rfl, trivial⟩
  · rintro ⟨g1, F3⟩ ⟨hF3, hg1, hgn1, hr1s⟩
    dsimp only at hF3 hg1 hgn1 hr1s ⊢
    rw [← hr1s] at hB
    unfold PS.quietB at hB
    rw [Bool.and_eq_true, decide_eq_true_eq] at hB
    obtain ⟨hB0, hB⟩ := hB
    obtain ⟨a, hak, ha⟩ := leader_is hB0
    rw [hpn, hgn1] at hak
    rw [ha] at hB
    obtain ⟨p, hp, hB⟩ := ofAt_is hB
    rw [Int.toNat_natCast] at hB
    obtain ⟨ma, lb, c, N, hgeta, hmra, hmia, hpa, hlvc, hlm, hptra⟩ := Gr.rd hg1 (i := a) (by omega)
    rw [hpa] at hp
    have hp := Option.some.inj hp
    rw [← hp] at hB
    obtain ⟨t, ht⟩ : ∃ t, t = ma.r.p.term := ⟨_, rfl⟩
    obtain ⟨cut, hcut⟩ : ∃ cut, cut = (a + 1) % 3 := ⟨_, rfl⟩
    rw [← ht, ← hcut] at hB
    have hcl : cut < 3 := by rw [hcut]; exact Nat.mod_lt _ (by decide)
    have hr2 : Int.tmod ((a + 1 : Nat) : Int) 3 = (cut : Int) := by rw [hcut]; rfl
    obtain ⟨s2, h2, hQ⟩ := quiets_at a t cut 59 X g1.ps hB (by omega)
    refine r_seq ?_
    refine r_region rfl ?_
    refine o_val rfl rfl rfl rfl (v_move rfl) ?_
    refine o_call rfl rfl rfl rfl (c_call callable11 rfl) (g_leader _ _ g1 Fr hg1) ?_
    rintro v' F3 H' ⟨rfl, rfl, rfl⟩ _
    rw [ha]
    refine o_val rfl rfl rfl rfl (v_assign rfl) ?_
    refine o_end ?_
    refine r_seq ?_
    refine r_seq ?_
    refine r_region rfl ?_
    refine o_val rfl rfl rfl rfl (v_move rfl) ?_
    refine o_val rfl rfl rfl rfl (v_lss rfl rfl) ?_
    refine o_end ?_
    refine j_slot 23 rfl (v' := .bool false) (congrArg Value.bool (decide_eq_false (by omega))) ?_
    refine r_false rfl ?_
    refine r_skip ?_
    refine r_seq ?_
    refine r_region rfl ?_
    refine o_val rfl rfl rfl rfl (v_move rfl) ?_
    refine o_val rfl rfl rfl rfl (v_nilCheck rfl) ?_
    refine o_val rfl rfl rfl rfl (v_field (k := 0) rfl rfl rfl) ?_
    refine o_val rfl rfl rfl rfl (v_load (v := .slice (some ⟨lb, 0, none⟩) g1.ms.length c) rfl rfl (hlvc _ _ (by simp [Gr.H]))) ?_
    refine o_val rfl rfl rfl rfl (v_move rfl) ?_
    refine o_val rfl rfl rfl rfl (v_index1 (i := a) rfl rfl rfl rfl (by omega)) ?_
    refine o_val rfl rfl rfl rfl (v_load (v := ptrV ma.ma) rfl rfl (hptra _ _ (hlm _))) ?_
    refine o_val rfl rfl rfl rfl (v_nilCheck rfl) ?_
    refine o_val rfl rfl rfl rfl (v_field (k := 0) rfl rfl rfl) ?_
    refine o_val rfl rfl rfl rfl (v_load rfl rfl (ecell (m := ma) 0 (by first | exact mE_in hmia _ | simp) rfl)) ?_
    refine o_call rfl rfl rfl rfl (c_call callable14 rfl) (g_rd hgeta (fun X => r_Term _ _ ma.ra ma.r X)) ?_
    rintro v' F3 H' ⟨rfl, rfl, rfl⟩ _
    rw [← ht]
    refine o_val rfl rfl rfl rfl (v_assign rfl) ?_
    refine o_end ?_
    refine r_seq ?_
    refine r_region rfl ?_
    refine o_val rfl rfl rfl rfl (v_move rfl) ?_
    refine o_val rfl rfl rfl rfl (v_add rfl rfl (r := ((a + 1 : Nat) : Int)) (wrap_i64 (by omega) (by omega))) ?_
    refine o_val rfl rfl rfl rfl (v_rem rfl rfl (by decide) hr2) ?_
    refine o_val rfl rfl rfl rfl (v_assign rfl) ?_
    refine o_end ?_
    refine r_seq ?_
    refine r_join (fun q : Gr × Fz => F.le q.2 ∧ q.1.ok q.2 ∧ q.1.ms.length = 3 ∧ q.1.ps = s2) (fun q => [(3, ptrV q.1.ga), (5, .int .i64 a), (6, .int .u64 t), (7, .int .i64 cut)]) (fun q => q.2) (fun q => q.1.H Fr) ?_ ?_
    · intro J
      refine r_seq ?_
      refine r_region rfl ?_
      refine o_val rfl rfl rfl rfl (v_assign rfl) ?_
      refine o_end ?_
      refine r_block ?_
      refine r_loop (fun q : Gr × Fz × Nat => F.le q.2.1 ∧ q.1.ok q.2.1 ∧ q.1.ga = g1.ga ∧ q.1.ms.length = 3 ∧ q.2.2 ≤ X ∧ PS.rounds cut (X - q.2.2) q.1.ps = some s2) (fun q => [(0, .int .u8 n), (3, ptrV g1.ga), (5, .int .i64 a), (6, .int .u64 t), (7, .int .i64 cut), (8, .int .i64 q.2.2)]) (fun q => q.2.1) (fun q => q.1.H Fr) (fun q => X - q.2.2) (g1, F3, 0) ⟨hF3, hg1, rfl, hgn1, Nat.zero_le _, h2⟩ ⟨rfl, rfl, rfl, rfl, rfl, rfl, trivial⟩ rfl rfl ?_
      rintro ⟨g, F4, i⟩ ⟨hF4, hg, hga, hgn, hi, hr⟩ IH
      dsimp only at hF4 hg hga hgn hi hr ⊢
      rw [← hga]
      refine r_seq ?_
      refine r_seq ?_
      refine r_region rfl ?_
      refine o_val rfl rfl rfl rfl (v_move rfl) ?_
      refine o_val rfl rfl rfl rfl (v_move rfl) ?_
      refine o_val rfl rfl rfl rfl (v_conv rfl rfl rfl (wrap_i64 (by omega) (by omega))) ?_
      refine o_val rfl rfl rfl rfl (v_rem rfl rfl (by decide) hr1) ?_
      refine o_val rfl rfl rfl rfl (v_lss rfl rfl) ?_
      refine o_end ?_
      refine r_if rfl (fun h5 => ?_) (fun h5 => ?_)
      · rw [show X - i = (X - (i + 1)) + 1 by omega] at hr
        obtain ⟨hb, s9, h9, hr⟩ := rounds_step hr
        have hb : g.bad = false := hb
        refine r_skip ?_
        refine r_seq ?_
        refine r_block ?_
        refine r_region rfl ?_
        refine o_val rfl rfl rfl rfl (v_move rfl) ?_
        refine o_val rfl rfl rfl rfl (v_move rfl) ?_
        refine o_call rfl rfl rfl rfl (c_call callable10 rfl) (g_round _ _ g cut s9 Fr hg h9) ?_
        rintro v' F5 H' ⟨rfl, g2, hg2, hp2, hga2, rfl⟩ hF5
        refine o_end ?_
        refine r_inBlock ?_
        refine r_region rfl ?_
        refine o_val rfl rfl rfl rfl (v_move rfl) ?_
        refine o_val rfl rfl rfl rfl (v_add rfl rfl (r := ((i + 1 : Nat) : Int)) (wrap_i64 (by omega) (by omega))) ?_
        refine o_val rfl rfl rfl rfl (v_assign rfl) ?_
        refine o_end ?_
        rw [← hp2] at hr h9
        refine j_keep ?_ (IH (g2, F5, i + 1) ⟨Fz.le_trans hF4 hF5, hg2, by dsimp only; rw [hga2, hga], rounds_len hgn hb h9, by dsimp only; omega, hr⟩ (by dsimp only; omega))
        exact ⟨rfl, by rw [← hga]; rfl, rfl, rfl, rfl, rfl, trivial⟩
      · rw [show X - i = 0 by omega] at hr
        have hr : g.ps = s2 := Option.some.inj hr
        refine r_exit rfl ?_
        refine j_keep ?_ (J (g, F4) ⟨hF4, hg, hgn, hr⟩)
        exact ⟨rfl, rfl, rfl, rfl, trivial⟩
    · rintro ⟨g2, F4⟩ ⟨hF4, hg2, hgn2, hr2s⟩
      dsimp only at hF4 hg2 hgn2 hr2s ⊢
      rw [← hr2s] at hQ
      unfold PS.quietAt at hQ
      rw [Bool.and_eq_true] at hQ
      obtain ⟨hu, hQ⟩ := hQ
      obtain ⟨p2, hp2, hu⟩ := ofAt_is hu
      obtain ⟨s3, h3, hB3⟩ := chk_is hQ
      obtain ⟨mc, lb2, c2, N2, hgetc, hmrc, hmic, hpc, hlvc2, hlm2, hptrc⟩ := Gr.rd hg2 (i := cut) (by omega)
      rw [hpc] at hp2
      have hp2 := Option.some.inj hp2
      have hu : mc.r.p.term = t := by rw [hp2]; exact of_decide_eq_true hu
      refine r_seq ?_
      refine r_region rfl ?_
      refine o_val rfl rfl rfl rfl (v_move rfl) ?_
      refine o_val rfl rfl rfl rfl (v_nilCheck rfl) ?_
      refine o_val rfl rfl rfl rfl (v_field (k := 0) rfl rfl rfl) ?_
      refine o_val rfl rfl rfl rfl (v_load (v := .slice (some ⟨lb2, 0, none⟩) g2.ms.length c2) rfl rfl (hlvc2 _ _ (by simp [Gr.H]))) ?_
      refine o_val rfl rfl rfl rfl (v_move rfl) ?_
      refine o_val rfl rfl rfl rfl (v_index1 (i := cut) rfl rfl rfl rfl (by omega)) ?_
      refine o_val rfl rfl rfl rfl (v_load (v := ptrV mc.ma) rfl rfl (hptrc _ _ (hlm2 _))) ?_
      refine o_val rfl rfl rfl rfl (v_nilCheck rfl) ?_
      refine o_val rfl rfl rfl rfl (v_field (k := 0) rfl rfl rfl) ?_
      refine o_val rfl rfl rfl rfl (v_load rfl rfl (ecell (m := mc) 0 (by first | exact mE_in hmic _ | simp) rfl)) ?_
      refine o_call rfl rfl rfl rfl (c_call callable14 rfl) (g_rd hgetc (fun X => r_Term _ _ mc.ra mc.r X)) ?_
      rintro v' F4 H' ⟨rfl, rfl, rfl⟩ _
      rw [hu]
      refine o_val rfl rfl rfl rfl (v_assign rfl) ?_
      refine o_end ?_
      refine r_seq ?_
      refine r_join (fun q : Gr × Fz => F.le q.2 ∧ q.1.ok q.2 ∧ q.1.ms.length = 3 ∧ q.1.ps = s3) (fun q => [(3, ptrV q.1.ga), (5, .int .i64 a), (6, .int .u64 t), (7, .int .i64 cut), (9, .int .u64 t)]) (fun q => q.2) (fun q => q.1.H Fr) ?_ ?_
      · intro J
        refine r_seq ?_
        refine r_region rfl ?_
        refine o_val rfl rfl rfl rfl (v_assign rfl) ?_
        refine o_end ?_
        refine r_block ?_
        refine r_loop (fun q : Gr × Fz × Nat => F.le q.2.1 ∧ q.1.ok q.2.1 ∧ q.1.ga = g2.ga ∧ q.1.ms.length = 3 ∧ q.2.2 ≤ 6 ∧ PS.rounds (-1) (6 - q.2.2) q.1.ps = some s3) (fun q => [(3, ptrV g2.ga), (5, .int .i64 a), (6, .int .u64 t), (7, .int .i64 cut), (9, .int .u64 t), (10, .int .i64 q.2.2)]) (fun q => q.2.1) (fun q => q.1.H Fr) (fun q => 6 - q.2.2) (g2, F4, 0) ⟨hF4, hg2, rfl, hgn2, Nat.zero_le _, h3⟩ ⟨rfl, rfl, rfl, rfl, rfl, rfl, trivial⟩ rfl rfl ?_
        rintro ⟨g, F5, i⟩ ⟨hF5, hg, hga, hgn, hi, hr⟩ IH
        dsimp only at hF5 hg hga hgn hi hr ⊢
        rw [← hga]
        refine r_seq ?_
        refine r_seq ?_
        refine r_region rfl ?_
        refine o_val rfl rfl rfl rfl (v_move rfl) ?_
        refine o_val rfl rfl rfl rfl (v_lss rfl rfl) ?_
        refine o_end ?_
        refine r_if rfl (fun h5 => ?_) (fun h5 => ?_)
        · rw [show 6 - i = (6 - (i + 1)) + 1 by omega] at hr
          obtain ⟨hb, s9, h9, hr⟩ := rounds_step hr
          have hb : g.bad = false := hb
          refine r_skip ?_
          refine r_seq ?_
          refine r_block ?_
          refine r_region rfl ?_
          refine o_val rfl rfl rfl rfl (v_move rfl) ?_
          refine o_call rfl rfl rfl rfl (c_call callable10 rfl) (g_round _ _ g (-1) s9 Fr hg h9) ?_
          rintro v' F6 H' ⟨rfl, g3, hg3, hp3, hga3, rfl⟩ hF6
          refine o_end ?_
          refine r_inBlock ?_
          refine r_region rfl ?_
          refine o_val rfl rfl rfl rfl (v_move rfl) ?_
          refine o_val rfl rfl rfl rfl (v_add rfl rfl (r := ((i + 1 : Nat) : Int)) (wrap_i64 (by omega) (by omega))) ?_
          refine o_val rfl rfl rfl rfl (v_assign rfl) ?_
          refine o_end ?_
          rw [← hp3] at hr h9
          refine j_keep ?_ (IH (g3, F6, i + 1) ⟨Fz.le_trans hF5 hF6, hg3, by dsimp only; rw [hga3, hga], rounds_len hgn hb h9, by dsimp only; omega, hr⟩ (by dsimp only; omega))
          exact ⟨by rw [← hga]; rfl, rfl, rfl, rfl, rfl, rfl, trivial⟩
        · rw [show 6 - i = 0 by omega] at hr
          have hr : g.ps = s3 := Option.some.inj hr
          refine r_exit rfl ?_
          refine j_keep ?_ (J (g, F5) ⟨hF5, hg, hgn, hr⟩)
          exact ⟨rfl, rfl, rfl, rfl, rfl, trivial⟩
      · rintro ⟨g3, F5⟩ ⟨hF5, hg3, hgn3, hr3s⟩
        dsimp only at hF5 hg3 hgn3 hr3s ⊢
        rw [← hr3s] at hB3
        unfold PS.backB at hB3
        rw [Bool.and_eq_true, Bool.and_eq_true, decide_eq_true_eq] at hB3
        obtain ⟨⟨hl3, ht3⟩, hc3⟩ := hB3
        obtain ⟨p3, hp3, ht3⟩ := ofAt_is ht3
        obtain ⟨p4, hp4, hc3⟩ := ofAt_is hc3
        obtain ⟨m3, lb3, c3, N3, hget3, hmr3, hmi3, hpm3, hlvc3, hlm3, hptr3⟩ := Gr.rd hg3 (i := a) (by omega)
        obtain ⟨m4, lb4, c4, N4, hget4, hmr4, hmi4, hpm4, hlvc4, hlm4, hptr4⟩ := Gr.rd hg3 (i := cut) (by omega)
        rw [hpm3] at hp3
        rw [hpm4] at hp4
        have hp3 := Option.some.inj hp3
        have hp4 := Option.some.inj hp4
        have ht3 : m3.r.p.term = t := by rw [hp3]; exact of_decide_eq_true ht3
        have hc3 : m4.r.p.lead = a := by rw [hp4]; exact of_decide_eq_true hc3
        refine r_seq ?_
        refine r_region rfl ?_
        refine o_val rfl rfl rfl rfl (v_move rfl) ?_
        refine o_val rfl rfl rfl rfl (v_move rfl) ?_
        refine o_val rfl rfl rfl rfl (v_eql rfl rfl) ?_
        refine j_slot 67 rfl (v' := .bool true) (congrArg Value.bool (decide_eq_true rfl)) ?_
        refine o_val rfl rfl rfl rfl (v_move rfl) ?_
        refine o_val rfl rfl rfl rfl (v_move rfl) ?_
        refine o_call rfl rfl rfl rfl (c_call callable11 rfl) (g_leader _ _ g3 Fr hg3) ?_
        rintro v' F5 H' ⟨rfl, rfl, rfl⟩ _
        rw [hl3]
        refine o_val rfl rfl rfl rfl (v_move rfl) ?_
        refine o_val rfl rfl rfl rfl (v_eql rfl rfl) ?_
        refine j_slot 72 rfl (v' := .bool true) (congrArg Value.bool (decide_eq_true rfl)) ?_
        refine o_val rfl rfl rfl rfl (v_pick1 rfl rfl) ?_
        refine o_val rfl rfl rfl rfl (v_move rfl) ?_
        refine o_val rfl rfl rfl rfl (v_move rfl) ?_
        refine o_val rfl rfl rfl rfl (v_nilCheck rfl) ?_
        refine o_val rfl rfl rfl rfl (v_field (k := 0) rfl rfl rfl) ?_
        refine o_val rfl rfl rfl rfl (v_load (v := .slice (some ⟨lb3, 0, none⟩) g3.ms.length c3) rfl rfl (hlvc3 _ _ (by simp [Gr.H]))) ?_
        refine o_val rfl rfl rfl rfl (v_move rfl) ?_
        refine o_val rfl rfl rfl rfl (v_index1 (i := a) rfl rfl rfl rfl (by omega)) ?_
        refine o_val rfl rfl rfl rfl (v_load (v := ptrV m3.ma) rfl rfl (hptr3 _ _ (hlm3 _))) ?_
        refine o_val rfl rfl rfl rfl (v_nilCheck rfl) ?_
        refine o_val rfl rfl rfl rfl (v_field (k := 0) rfl rfl rfl) ?_
        refine o_val rfl rfl rfl rfl (v_load rfl rfl (ecell (m := m3) 0 (by first | exact mE_in hmi3 _ | simp) rfl)) ?_
        refine o_call rfl rfl rfl rfl (c_call callable14 rfl) (g_rd hget3 (fun X => r_Term _ _ m3.ra m3.r X)) ?_
        rintro v' F5 H' ⟨rfl, rfl, rfl⟩ _
        rw [ht3]
        refine o_val rfl rfl rfl rfl (v_move rfl) ?_
        refine o_val rfl rfl rfl rfl (v_eql rfl rfl) ?_
        refine j_slot 87 rfl (v' := .bool true) (congrArg Value.bool (decide_eq_true rfl)) ?_
        refine o_val rfl rfl rfl rfl (v_pick1 rfl rfl) ?_
        refine o_val rfl rfl rfl rfl (v_move rfl) ?_
        refine o_val rfl rfl rfl rfl (v_move rfl) ?_
        refine o_val rfl rfl rfl rfl (v_nilCheck rfl) ?_
        refine o_val rfl rfl rfl rfl (v_field (k := 0) rfl rfl rfl) ?_
        refine o_val rfl rfl rfl rfl (v_load (v := .slice (some ⟨lb4, 0, none⟩) g3.ms.length c4) rfl rfl (hlvc4 _ _ (by simp [Gr.H]))) ?_
        refine o_val rfl rfl rfl rfl (v_move rfl) ?_
        refine o_val rfl rfl rfl rfl (v_index1 (i := cut) rfl rfl rfl rfl (by omega)) ?_
        refine o_val rfl rfl rfl rfl (v_load (v := ptrV m4.ma) rfl rfl (hptr4 _ _ (hlm4 _))) ?_
        refine o_val rfl rfl rfl rfl (v_nilCheck rfl) ?_
        refine o_val rfl rfl rfl rfl (v_field (k := 0) rfl rfl rfl) ?_
        refine o_val rfl rfl rfl rfl (v_load rfl rfl (ecell (m := m4) 0 (by first | exact mE_in hmi4 _ | simp) rfl)) ?_
        refine o_call rfl rfl rfl rfl (c_call callable13 rfl) (g_rd hget4 (fun X => r_Leader _ _ m4.ra m4.r X)) ?_
        rintro v' F5 H' ⟨rfl, rfl, rfl⟩ _
        rw [hc3]
        refine o_val rfl rfl rfl rfl (v_move rfl) ?_
        refine o_val rfl rfl rfl rfl (v_eql rfl rfl) ?_
        refine j_slot 102 rfl (v' := .bool true) (congrArg Value.bool (decide_eq_true rfl)) ?_
        refine o_val rfl rfl rfl rfl (v_pick1 rfl rfl) ?_
        refine o_val rfl rfl rfl rfl (v_assign rfl) ?_
        refine o_end ?_
        exact r_ret1 Tryz.func4 rfl rfl ⟨rfl, hF5⟩
theorem in_RaftQuiet (W : World) (n : Int) (hn : (Lit.int .u8 n).wf = true) :
    Calls Tryz.prog 4 #[.int .u8 n] W fun e w' => e = .returned (.bool true) ∧ Go.RowKit.Below W.heap.size W w' := by
  obtain ⟨n, rfl, hn'⟩ := inU8 hn
  exact below_of_does (law_RaftQuiet _ _ n [] hn')
end Go.SX
