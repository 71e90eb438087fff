/-
  Contract of package wal: what bytes come to.
-/
import Derived.Test.YtmpbgnffdpppbaaWal3
namespace Go.SX
open Go Go.Proofs
set_option maxRecDepth 4000
set_option linter.unusedSimpArgs false
set_option linter.unusedVariables false

theorem takeB_some {b : List UInt8} {k : Nat} {d rest : List UInt8} (h : takeB b = some (k, d, rest)) : rest.length + 9 ≤ b.length ∧ rest = b.drop (b.length - rest.length) ∧ d.length ≤ b.length := by
  unfold takeB at h
  split at h
  · cases h
  · split at h
    · cases h
    · rename_i h1 h2
      split at h
      · rename_i h3
        simp only [Option.some.injEq, Prod.mk.injEq] at h
        obtain ⟨_, rfl, rfl⟩ := h
        have h4 := openB_len (l := b.take (leN (b.take 4) + 9)) (by simp; omega) h3
        rw [List.length_take] at h4
        refine ⟨by simp; omega, ?_, by simp; omega⟩
        rw [List.length_drop]
        congr 1
        omega
      · cases h
def nilI : PI := ⟨0, -1, 0, 0, 0, [], []⟩
def scanP (p : PI) (b : List UInt8) : PI × Nat :=
  match h : takeB b with
  | none => (p, 0)
  | some (k, d, rest) => match addP p k d with
    | none => (p, 0)
    | some q => ((scanP q rest).1, (b.length - rest.length) + (scanP q rest).2)
termination_by b.length
decreasing_by all_goals (have := (takeB_some h).1; omega)
theorem scanP_none {p : PI} {b : List UInt8} (h : takeB b = none) : scanP p b = (p, 0) := by
  rw [scanP]
  split
  · rfl
  · rename_i h2; rw [h] at h2; cases h2
theorem scanP_stop {p : PI} {b : List UInt8} {k : Nat} {d rest : List UInt8} (h : takeB b = some (k, d, rest)) (ha : addP p k d = none) : scanP p b = (p, 0) := by
  rw [scanP]
  split
  · rfl
  · rename_i h2
    rw [h] at h2
    cases h2
    rw [ha]
theorem scanP_step {p q : PI} {b : List UInt8} {k : Nat} {d rest : List UInt8} (h : takeB b = some (k, d, rest)) (ha : addP p k d = some q) : scanP p b = ((scanP q rest).1, (b.length - rest.length) + (scanP q rest).2) := by
  rw [scanP]
  split
  · rename_i h2; rw [h] at h2; cases h2
  · rename_i h2
    rw [h] at h2
    cases h2
    rw [ha]

structure ScG where
  F : Fz
  p : Im
  v : Value
  b : List UInt8
  n : Nat

theorem wal_Scan (O : World) (F : Fz) (v : Value) (b : List UInt8) (Fr : List Ent) (hv : SlB F [] v b) (hl : b.length ≤ 1000000) :
    Does Try.prog O 12 #[v] F Fr (fun r F' H' => F.le F' ∧ H' = Fr ∧ ∃ p : Im, p.ok F' ∧ p.l.length ≤ b.length ∧ p.pure = (scanP nilI b).1 ∧ r = .tuple #[.agg p.cells.toArray, .int .i64 (scanP nilI b).2]) := by
  refine does_of_run (args := [_]) Try.func12 rfl rfl ?_
  refine r_seq ?_
  refine r_region rfl ?_
  refine o_act rfl rfl rfl rfl (a_alloc rfl) ?_
  rintro v' H' ⟨r0, rfl, rfl⟩
  refine o_val rfl rfl rfl rfl (v_assign rfl) ?_
  refine o_end ?_
  refine r_seq ?_
  refine r_region rfl ?_
  refine o_val rfl rfl rfl rfl (v_build rfl rfl) ?_
  refine o_val rfl rfl rfl rfl (v_build rfl rfl) ?_
  refine o_act rfl rfl rfl rfl (a_alloc rfl) ?_
  rintro v' H' ⟨m, rfl, rfl⟩
  refine o_act0 rfl rfl rfl (a_store (sz := 7) 0 rfl rfl rfl rfl rfl rfl (Nat.le_of_ble_eq_true rfl)) ?_
  obtain ⟨p0, hp0⟩ : ∃ p0 : Im, p0 = ⟨0, -1, 0, 0, 0, .slice none 0 0, [], .slice none 0 0, []⟩ := ⟨_, rfl⟩
  obtain ⟨z0, hz0⟩ : ∃ z0 : Im, z0 = ⟨0, 0, 0, 0, 0, .slice none 0 0, [], .slice none 0 0, []⟩ := ⟨_, rfl⟩
  refine j_heap (H' := .mem m p0.cells 7 :: .mem r0 z0.cells 7 :: Fr) (by rw [hp0, hz0]; rfl) ?_
  refine o_end ?_
  refine r_seq ?_
  refine r_region rfl ?_
  refine o_val rfl rfl rfl rfl (v_assign rfl) ?_
  refine o_end ?_
  refine r_block ?_
  refine r_loop (fun g : ScG => F.le g.F ∧ g.p.ok g.F ∧ SlB g.F [] g.v g.b ∧ g.n + g.b.length = b.length ∧ g.p.l.length ≤ g.n ∧ scanP nilI b = ((scanP g.p.pure g.b).1, g.n + (scanP g.p.pure g.b).2)) (fun g => [(0, g.v), (2, ptrV r0), (4, ptrV m), (5, .int .i64 g.n)]) (fun g => g.F) (fun g => .mem m g.p.cells 7 :: .mem r0 z0.cells 7 :: Fr) (fun g => g.b.length) ⟨F, p0, v, b, 0⟩ ⟨Fz.le_refl _, ?_, hv, by dsimp only; omega, ?_, ?_⟩ ⟨rfl, rfl, rfl, rfl, trivial⟩ rfl rfl ?_
  · dsimp only; rw [hp0]; exact ⟨by decide, by decide, by decide, by decide, by decide, by decide, Sl.nil _ _ _, by simp, Sl.nil _ _ _, by simp⟩
  · dsimp only; rw [hp0]; simp
  · have : p0.pure = nilI := by rw [hp0]; rfl
    dsimp only
    rw [this]
    simp
  rintro ⟨F1, p, v1, b1, n⟩ ⟨hF1, hp, hv1, hnb, hpn, hsc⟩ IH
  dsimp only at hF1 hp hv1 hnb hpn hsc ⊢
  obtain ⟨a0, cap, rfl, hcap⟩ := Sl.shape hv1
  refine r_block ?_
  refine r_seq ?_
  refine r_region rfl ?_
  refine o_val rfl rfl rfl rfl (v_move rfl) ?_
  refine o_call rfl rfl rfl rfl (c_call callable32 rfl) (wal_take _ _ _ b1 _ hv1 (by omega)) ?_
  rintro v' F1 H' ⟨rfl, rfl, ht⟩ _
  rcases ht with ⟨ht, rfl⟩ | ⟨k, d, rest, w1, w2, ht, hk, rfl, hw1, hw2⟩
  · have hse : scanP nilI b = (p.pure, n) := by rw [hsc, scanP_none ht]; rfl
    have hpe := hp
    have hFe := hF1
    generalize p = pe at *
    refine o_val rfl rfl rfl rfl (v_move rfl) ?_
    refine o_val rfl rfl rfl rfl (v_extract rfl rfl) ?_
    refine o_val rfl rfl rfl rfl (v_extract rfl rfl) ?_
    refine o_val rfl rfl rfl rfl (v_extract rfl rfl) ?_
    refine o_val rfl rfl rfl rfl (v_extract rfl rfl) ?_
    refine o_val rfl rfl rfl rfl (v_assign rfl) ?_
    refine o_val rfl rfl rfl rfl (v_assign rfl) ?_
    refine o_val rfl rfl rfl rfl (v_assign rfl) ?_
    refine o_val rfl rfl rfl rfl (v_assign rfl) ?_
    refine o_end ?_
    refine r_seq ?_
    refine r_seq ?_
    refine r_region rfl ?_
    refine o_val rfl rfl rfl rfl (v_move rfl) ?_
    refine o_val rfl rfl rfl rfl (v_not rfl) ?_
    refine o_val rfl rfl rfl rfl (v_move rfl) ?_
    refine o_skip rfl rfl rfl rfl ?_
    refine o_skip rfl rfl rfl rfl ?_
    refine o_skip rfl rfl rfl rfl ?_
    refine o_skip rfl rfl rfl rfl ?_
    refine o_val rfl rfl rfl rfl (v_pick1 rfl rfl) ?_
    refine o_end ?_
    refine r_true rfl ?_
    refine r_seq ?_
    refine r_region rfl ?_
    refine o_val rfl rfl rfl rfl (v_loadAgg (sz := 7) (cs := pe.cells) rfl rfl rfl rfl (cells_of (j := 0) _ _ rfl rfl)) ?_
    refine o_val rfl rfl rfl rfl (v_move rfl) ?_
    refine o_act0 rfl rfl rfl (a_store (sz := 7) 1 rfl rfl rfl (by simpa [Value.cells] using hpe.one) rfl rfl (Nat.le_of_ble_eq_true rfl)) ?_
    refine j_heap (H' := .mem m pe.cells 7 :: .mem r0 pe.cells 7 :: Fr) rfl ?_
    refine o_val rfl rfl rfl rfl (v_assign rfl) ?_
    refine o_end ?_
    refine r_retC1 Try.func12 rfl rfl rfl rfl rfl rfl (cells_of (j := 1) _ _ rfl rfl) (H' := Fr) ((List.sublist_cons_self _ _).trans (List.sublist_cons_self _ _)) ⟨⟨hFe, rfl, pe, hpe, by omega, by rw [hse], by rw [hse]⟩, hFe⟩
  · obtain ⟨hr1, hr2, hr3⟩ := takeB_some ht
    refine o_val rfl rfl rfl rfl (v_move rfl) ?_
    refine o_val rfl rfl rfl rfl (v_extract rfl rfl) ?_
    refine o_val rfl rfl rfl rfl (v_extract rfl rfl) ?_
    refine o_val rfl rfl rfl rfl (v_extract rfl rfl) ?_
    refine o_val rfl rfl rfl rfl (v_extract rfl rfl) ?_
    refine o_val rfl rfl rfl rfl (v_assign rfl) ?_
    refine o_val rfl rfl rfl rfl (v_assign rfl) ?_
    refine o_val rfl rfl rfl rfl (v_assign rfl) ?_
    refine o_val rfl rfl rfl rfl (v_assign rfl) ?_
    refine o_end ?_
    refine r_seq ?_
    refine r_seq ?_
    refine r_region rfl ?_
    refine o_val rfl rfl rfl rfl (v_move rfl) ?_
    refine o_val rfl rfl rfl rfl (v_not rfl) ?_
    refine o_val rfl rfl rfl rfl (v_move rfl) ?_
    refine o_val rfl rfl rfl rfl (v_move rfl) ?_
    refine o_val rfl rfl rfl rfl (v_move rfl) ?_
    refine o_call rfl rfl rfl rfl (c_call callable33 rfl) (wal_add _ _ m p k _ d _ hp (by omega) hk hw1 (by omega)) ?_
    rintro v' F2 H' ⟨hF2, had⟩ _
    rcases had with ⟨had, rfl, rfl⟩ | ⟨q, had, hq, hql, rfl, rfl⟩
    · have hse : scanP nilI b = (p.pure, n) := by rw [hsc, scanP_stop ht had]; rfl
      have hpe := hp.frz hF2
      have hFe := Fz.le_trans hF1 hF2
      generalize p = pe at *
      refine o_val rfl rfl rfl rfl (v_not rfl) ?_
      refine o_val rfl rfl rfl rfl (v_pick0 rfl rfl) ?_
      refine o_end ?_
      refine r_true rfl ?_
      refine r_seq ?_
      refine r_region rfl ?_
      refine o_val rfl rfl rfl rfl (v_loadAgg (sz := 7) (cs := pe.cells) rfl rfl rfl rfl (cells_of (j := 0) _ _ rfl rfl)) ?_
      refine o_val rfl rfl rfl rfl (v_move rfl) ?_
      refine o_act0 rfl rfl rfl (a_store (sz := 7) 1 rfl rfl rfl (by simpa [Value.cells] using hpe.one) rfl rfl (Nat.le_of_ble_eq_true rfl)) ?_
      refine j_heap (H' := .mem m pe.cells 7 :: .mem r0 pe.cells 7 :: Fr) rfl ?_
      refine o_val rfl rfl rfl rfl (v_assign rfl) ?_
      refine o_end ?_
      refine r_retC1 Try.func12 rfl rfl rfl rfl rfl rfl (cells_of (j := 1) _ _ rfl rfl) (H' := Fr) ((List.sublist_cons_self _ _).trans (List.sublist_cons_self _ _)) ⟨⟨hFe, rfl, pe, hpe, by omega, by rw [hse], by rw [hse]⟩, hFe⟩
    · skip
      refine o_val rfl rfl rfl rfl (v_not rfl) ?_
      refine o_val rfl rfl rfl rfl (v_pick0 rfl rfl) ?_
      refine o_end ?_
      refine r_false rfl ?_
      obtain ⟨a2, c2, rfl, hc2⟩ := Sl.shape hw2
      refine r_skip ?_
      refine r_seq ?_
      refine r_region rfl ?_
      refine o_val rfl rfl rfl rfl (v_move rfl) ?_
      refine o_val rfl rfl rfl rfl (v_move rfl) ?_
      refine o_val rfl rfl rfl rfl (v_len rfl rfl) ?_
      refine o_val rfl rfl rfl rfl (v_move rfl) ?_
      refine o_val rfl rfl rfl rfl (v_len rfl rfl) ?_
      refine o_val rfl rfl rfl rfl (v_sub rfl rfl (r := ((b1.length - rest.length : Nat) : Int)) ((wrap_i64 (by omega) (by omega)).trans (by omega))) ?_
      refine o_val rfl rfl rfl rfl (v_add rfl rfl (r := ((n + (b1.length - rest.length) : Nat) : Int)) (wrap_i64 (by omega) (by omega))) ?_
      refine o_val rfl rfl rfl rfl (v_assign rfl) ?_
      refine o_end ?_
      refine r_region rfl ?_
      refine o_val rfl rfl rfl rfl (v_move rfl) ?_
      refine o_val rfl rfl rfl rfl (v_assign rfl) ?_
      refine o_end ?_
      refine r_inBlock ?_
      refine j_keep ?_ (IH ⟨F2, q, .slice a2 rest.length c2, rest, n + (b1.length - rest.length)⟩ ⟨Fz.le_trans hF1 hF2, hq, hw2.frz hF2, by dsimp only; omega, by dsimp only; omega, ?_⟩ (by dsimp only; omega))
      · exact ⟨rfl, rfl, rfl, rfl, trivial⟩
      · dsimp only
        rw [hsc, scanP_step ht had]
        dsimp only
        rw [Nat.add_assoc]
end Go.SX
