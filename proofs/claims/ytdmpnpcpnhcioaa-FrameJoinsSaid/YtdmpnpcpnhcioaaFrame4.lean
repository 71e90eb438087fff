/-
  Contracts of package frame: Read.
-/
import Derived.Test.YtdmpnpcpnhcioaaFrame3
import Derived.Test.YtdmpnpcpnhcioaaSlices
namespace Go.SX
open Go Go.Proofs
set_option maxRecDepth 4000
set_option linter.unusedSimpArgs false
set_option linter.unusedVariables false

def rdK (b : List UInt8) : Nat × List UInt8 × Bool := rdNum b false 1
def rdI (b : List UInt8) : Nat × List UInt8 × Bool := rdNum (rdK b).2.1 (rdK b).2.2 8
def rdA (b : List UInt8) : Nat × List UInt8 × Bool := rdNum (rdI b).2.1 (rdI b).2.2 2
def rdO (b : List UInt8) : Nat × List UInt8 × Bool := rdNum (rdA b).2.1 (rdA b).2.2 2
def rdN (b : List UInt8) : Nat × List UInt8 × Bool := rdNum (rdO b).2.1 (rdO b).2.2 2
def rdDum (p b : List UInt8) : Prop := (rdK b).1 = 0 ∧ (rdK b).2.2 = false ∧ 64 ≤ p.length ∧ p.length ≤ 4096 ∧ ∀ c ∈ b, c = 0
def rdBad (p b : List UInt8) : Prop := (rdK b).1 ≠ 1 ∨ (rdN b).2.2 = true ∨ (rdN b).2.1.length < (rdN b).1 ∨ (rdO b).1 ≤ (rdA b).1 ∨ p.length < 64 ∨ 4096 < p.length ∨ ((rdN b).1 ≠ p.length - 19 ∧ (rdA b).1 + 1 ≠ (rdO b).1)
instance (p b : List UInt8) : Decidable (rdDum p b) := by unfold rdDum; infer_instance
instance (p b : List UInt8) : Decidable (rdBad p b) := by unfold rdBad; infer_instance
def rdData (b : List UInt8) : List UInt8 := (b.drop 15).take (rdN b).1
/-- What a frame tells: an error's number; its message's, its place, of how many, what it carries. -/
def readB (p : List UInt8) : Nat × Nat × Nat × Nat × List UInt8 :=
  if (openB p).1 ≠ 0 then ((openB p).1, 0, 0, 0, [])
  else if rdDum p (openB p).2 then (2, 0, 0, 0, [])
  else if rdBad p (openB p).2 then (5, 0, 0, 0, [])
  else if frB p.length (rdI (openB p).2).1 (rdA (openB p).2).1 (rdO (openB p).2).1 (rdData (openB p).2) = p then (0, (rdI (openB p).2).1, (rdA (openB p).2).1, (rdO (openB p).2).1, rdData (openB p).2)
  else (5, 0, 0, 0, [])

theorem rdNum_good {l : List UInt8} {bad : Bool} {n : Nat} (h : (rdNum l bad n).2.2 = false) : bad = false ∧ n ≤ l.length ∧ (rdNum l bad n).2.1 = l.drop n := by
  unfold rdNum at h ⊢
  split
  · rename_i h1; rw [if_pos h1] at h; cases h
  · rename_i h1
    have h2 : ¬ bad = true := fun e => h1 (.inl e)
    have h3 : ¬ ((l.length : Int) < n) := fun e => h1 (.inr (.inr e))
    exact ⟨by simpa using h2, by omega, by simp⟩
theorem rdN_good {b : List UInt8} (h : (rdN b).2.2 = false) : 15 ≤ b.length ∧ (rdN b).2.1 = b.drop 15 := by
  obtain ⟨h5, l5, e5⟩ := rdNum_good (n := 2) h
  obtain ⟨h4, l4, e4⟩ := rdNum_good (n := 2) h5
  obtain ⟨h3, l3, e3⟩ := rdNum_good (n := 2) h4
  obtain ⟨h2, l2, e2⟩ := rdNum_good (n := 8) h3
  obtain ⟨h1, l1, e1⟩ := rdNum_good (n := 1) h2
  have q1 : (rdK b).2.1 = b.drop 1 := e1
  have q2 : (rdI b).2.1 = b.drop 9 := by
    have : (rdI b).2.1 = (rdK b).2.1.drop 8 := e2
    rw [this, q1, List.drop_drop]
  have q3 : (rdA b).2.1 = b.drop 11 := by
    have : (rdA b).2.1 = (rdI b).2.1.drop 2 := e3
    rw [this, q2, List.drop_drop]
  have q4 : (rdO b).2.1 = b.drop 13 := by
    have : (rdO b).2.1 = (rdA b).2.1.drop 2 := e4
    rw [this, q3, List.drop_drop]
  have q5 : (rdN b).2.1 = b.drop 15 := by
    have : (rdN b).2.1 = (rdO b).2.1.drop 2 := e5
    rw [this, q4, List.drop_drop]
  rw [q4, List.length_drop] at l5
  exact ⟨by omega, q5⟩
theorem openB_len (p : List UInt8) : (openB p).2.length ≤ p.length := by
  unfold openB
  split
  · simp
  · split <;> simp
theorem openB_ok {p : List UInt8} (h : (openB p).1 = 0) : 4 ≤ p.length ∧ (openB p).2 = p.take (p.length - 4) ∧ sealB (p.take (p.length - 4)) = p := by
  unfold openB at h ⊢
  split
  · rename_i h1; rw [if_pos h1] at h; cases h
  · rename_i h1
    rw [if_neg h1] at h
    split
    · rename_i h2; exact ⟨by omega, rfl, h2⟩
    · rename_i h2; rw [if_neg h2] at h; cases h

set_option maxRecDepth 10000 in
set_option maxHeartbeats 2000000 in
theorem fr_Read (O : World) (F : Fz) (v : Value) (p : List UInt8) (Fr : List Ent) (hv : SlB F [] v p) (hl : p.length ≤ 140737488350000) :
    Does Try.prog O 17 #[v] F Fr (fun r F' H' => F.le F' ∧ H' = Fr ∧ ∃ dv, r = .tuple #[.agg #[.int .u64 (readB p).2.1, .int .i64 (readB p).2.2.1, .int .i64 (readB p).2.2.2.1, dv], .int .i64 (readB p).1] ∧ SlB F' [] dv (readB p).2.2.2.2) := by
  obtain ⟨a0, cap, rfl, hcap⟩ := Sl.shape hv
  refine does_of_run (args := [_]) Try.func17 rfl rfl ?_
  refine r_seq ?_
  refine r_region rfl ?_
  refine o_act rfl rfl rfl rfl (a_alloc rfl) ?_
  rintro v' H' ⟨x, rfl, rfl⟩
  obtain ⟨X, hX⟩ : ∃ X : Ent, X = .mem x [.int .u64 0, .int .i64 0, .int .i64 0, .slice none 0 0] 4 := ⟨_, rfl⟩
  refine j_heap (H' := X :: Fr) (by rw [hX]; rfl) ?_
  refine o_val rfl rfl rfl rfl (v_assign rfl) ?_
  refine o_end ?_
  refine r_seq ?_
  refine r_region rfl ?_
  refine o_val rfl rfl rfl rfl (v_move rfl) ?_
  refine o_call rfl rfl rfl rfl (c_call callable25 rfl) (oct_Open _ _ _ p _ (hv.frz (Fz.le_refl _)) (by omega)) ?_
  rintro v' F H' ⟨rfl, rfl, bv, rfl, hbv⟩ _
  have hbl := openB_len p
  refine o_val rfl rfl rfl rfl (v_move rfl) ?_
  refine o_val rfl rfl rfl rfl (v_extract rfl rfl) ?_
  refine o_val rfl rfl rfl rfl (v_extract rfl rfl) ?_
  refine o_val rfl rfl rfl rfl (v_assign rfl) ?_
  refine o_val rfl rfl rfl rfl (v_assign rfl) ?_
  refine o_end ?_
  refine r_seq ?_
  refine r_seq ?_
  refine r_region rfl ?_
  refine o_val rfl rfl rfl rfl (v_move rfl) ?_
  refine o_val rfl rfl rfl rfl (v_neq rfl rfl) ?_
  refine o_end ?_
  refine r_if rfl (fun h => ?_) (fun h => ?_)
  · have hr : readB p = ((openB p).1, 0, 0, 0, []) := by unfold readB; rw [if_pos (by omega)]
    rw [hr, hX]
    refine r_seq ?_
    refine r_region rfl ?_
    refine o_val rfl rfl rfl rfl (v_build rfl rfl) ?_
    refine o_val rfl rfl rfl rfl (v_move rfl) ?_
    refine o_act0 rfl rfl rfl (a_store (sz := 4) 0 rfl rfl rfl rfl rfl rfl (Nat.le_of_ble_eq_true rfl)) ?_
    refine o_val rfl rfl rfl rfl (v_assign rfl) ?_
    refine o_end ?_
    exact r_retC1 (sz := 4) (cs := [.int .u64 0, .int .i64 0, .int .i64 0, .slice none 0 0]) Try.func17 rfl rfl rfl rfl rfl rfl (fun j c hc => cell_at (j := 0) rfl (by rw [Nat.zero_add]; exact hc)) (List.sublist_cons_self _ _) ⟨⟨Fz.le_refl _, rfl, _, rfl, Sl.nil _ _ _⟩, Fz.le_refl _⟩
  · have hop : (openB p).1 = 0 := by omega
    obtain ⟨hp4, hbe, hse⟩ := openB_ok hop
    have hrd : readB p = if rdDum p (openB p).2 then (2, 0, 0, 0, []) else if rdBad p (openB p).2 then (5, 0, 0, 0, []) else if frB p.length (rdI (openB p).2).1 (rdA (openB p).2).1 (rdO (openB p).2).1 (rdData (openB p).2) = p then (0, (rdI (openB p).2).1, (rdA (openB p).2).1, (rdO (openB p).2).1, rdData (openB p).2) else (5, 0, 0, 0, []) := by
      unfold readB; rw [if_neg (by omega)]
    have hbl2 : (openB p).2.length = p.length - 4 := by rw [hbe]; simp
    clear hbe hse
    generalize (openB p).2 = b at *
    obtain ⟨ab, cb, hab, hcb⟩ := Sl.shape hbv
    refine r_skip ?_
    refine r_seq ?_
    refine r_region rfl ?_
    refine o_val rfl rfl rfl rfl (v_move rfl) ?_
    refine o_call rfl rfl rfl rfl (c_call callable26 rfl) (oct_Read _ _ _ b _ hbv) ?_
    rintro v' F H' ⟨rfl, a, rfl, rfl⟩ _
    refine o_val rfl rfl rfl rfl (v_assign rfl) ?_
    refine o_end ?_
    refine r_seq ?_
    refine r_region rfl ?_
    refine o_val rfl rfl rfl rfl (v_move rfl) ?_
    refine o_call rfl rfl rfl rfl (c_call callable27 rfl) (oct_RNum _ _ a bv b false 1 _ hbv (by omega)) ?_
    rintro v' F H' ⟨rfl, rfl, bv1, hb1, rfl⟩ _
    have hK : rdNum b false 1 = rdK b := rfl
    have hI : rdNum (rdK b).2.1 (rdK b).2.2 8 = rdI b := rfl
    have hA : rdNum (rdI b).2.1 (rdI b).2.2 2 = rdA b := rfl
    have hO : rdNum (rdA b).2.1 (rdA b).2.2 2 = rdO b := rfl
    have hN : rdNum (rdO b).2.1 (rdO b).2.2 2 = rdN b := rfl
    have lK : (rdK b).1 < 256 := rdNum_lt b false 1
    have lI : (rdI b).1 < 18446744073709551616 := rdNum_lt _ _ 8
    have lA : (rdA b).1 < 65536 := rdNum_lt _ _ 2
    have lO : (rdO b).1 < 65536 := rdNum_lt _ _ 2
    have lN : (rdN b).1 < 65536 := rdNum_lt _ _ 2
    have dK : (rdK b).2.1.length ≤ b.length := rdNum_len _ _ _
    have dI : (rdI b).2.1.length ≤ (rdK b).2.1.length := rdNum_len _ _ _
    have dA : (rdA b).2.1.length ≤ (rdI b).2.1.length := rdNum_len _ _ _
    have dO : (rdO b).2.1.length ≤ (rdA b).2.1.length := rdNum_len _ _ _
    rw [hK] at hb1 ⊢
    refine o_val rfl rfl rfl rfl (v_assign rfl) ?_
    refine o_end ?_
    refine r_seq ?_
    refine r_seq ?_
    refine r_join (fun _ : Unit => True) (fun _ => [(0, .slice a0 p.length cap), (2, ptrV x), (4, bv), (6, ptrV a), (7, .int .u64 (rdK b).1), (44, .bool (decide (rdDum p b)))]) (fun _ => F) (fun _ => .mem a [bv1, .bool (rdK b).2.2] 2 :: X :: Fr) ?_ ?_
    · intro J
      refine r_region rfl ?_
      refine o_val rfl rfl rfl rfl (v_move rfl) ?_
      refine o_val rfl rfl rfl rfl (v_eql rfl rfl) ?_
      refine j_prop 24 rfl (fun c1 => ?_) (fun c1 => ?_)
      · refine o_val rfl rfl rfl rfl (v_move rfl) ?_
        refine o_val rfl rfl rfl rfl (v_move rfl) ?_
        refine o_call rfl rfl rfl rfl (c_call callable28 rfl) (oct_RBad _ _ a bv1 (rdK b).2.2 _) ?_
        rintro v' F H' ⟨rfl, rfl, rfl⟩ _
        cases hq : (rdK b).2.2 with
        | true =>
          rw [hq] at J
          refine o_val rfl rfl rfl rfl (v_not rfl) ?_
          refine o_val rfl rfl rfl rfl (v_pick1 rfl rfl) ?_
          refine o_val rfl rfl rfl rfl (v_move rfl) ?_
          refine o_skip rfl rfl rfl rfl ?_
          refine o_skip rfl rfl rfl rfl ?_
          refine o_skip rfl rfl rfl rfl ?_
          refine o_val rfl rfl rfl rfl (v_pick0 rfl rfl) ?_
          refine o_val rfl rfl rfl rfl (v_move rfl) ?_
          refine o_skip rfl rfl rfl rfl ?_
          refine o_skip rfl rfl rfl rfl ?_
          refine o_skip rfl rfl rfl rfl ?_
          refine o_val rfl rfl rfl rfl (v_pick0 rfl rfl) ?_
          refine o_val rfl rfl rfl rfl (v_move rfl) ?_
          refine o_skip rfl rfl rfl rfl ?_
          refine o_skip rfl rfl rfl rfl ?_
          refine o_skip rfl rfl rfl rfl ?_
          refine o_val rfl rfl rfl rfl (v_pick0 rfl rfl) ?_
          refine o_end ?_
          refine j_slot 44 rfl (v' := .bool (decide (rdDum p b))) (by rw [decide_eq_false (p := rdDum p b) (by unfold rdDum; rw [hq]; simp)]) ?_
          refine j_keep ?_ (J () trivial)
          exact ⟨rfl, rfl, rfl, rfl, rfl, rfl, trivial⟩
        | false =>
          rw [hq] at J
          refine o_val rfl rfl rfl rfl (v_not rfl) ?_
          refine o_val rfl rfl rfl rfl (v_pick1 rfl rfl) ?_
          refine o_val rfl rfl rfl rfl (v_move rfl) ?_
          refine o_val rfl rfl rfl rfl (v_move rfl) ?_
          refine o_val rfl rfl rfl rfl (v_len rfl rfl) ?_
          refine o_val rfl rfl rfl rfl (v_geq rfl rfl) ?_
          refine o_val rfl rfl rfl rfl (v_pick1 rfl rfl) ?_
          refine j_prop 34 rfl (fun c2 => ?_) (fun c2 => ?_)
          · refine o_val rfl rfl rfl rfl (v_move rfl) ?_
            refine o_val rfl rfl rfl rfl (v_move rfl) ?_
            refine o_val rfl rfl rfl rfl (v_len rfl rfl) ?_
            refine o_val rfl rfl rfl rfl (v_leq rfl rfl) ?_
            refine o_val rfl rfl rfl rfl (v_pick1 rfl rfl) ?_
            refine j_prop 39 rfl (fun c3 => ?_) (fun c3 => ?_)
            · refine o_val rfl rfl rfl rfl (v_move rfl) ?_
              refine o_val rfl rfl rfl rfl (v_move rfl) ?_
              refine o_call rfl rfl rfl rfl (c_call callable29 rfl) (bs_Contains0 _ _ bv b _ (hbv.frz (Fz.le_refl _)) (by omega)) ?_
              rintro v' F H' ⟨rfl, rfl, rfl⟩ _
              refine o_val rfl rfl rfl rfl (v_notp rfl) ?_
              refine o_val rfl rfl rfl rfl (v_pick1 rfl rfl) ?_
              refine o_end ?_
              have e6 : (¬ ¬ ∀ c ∈ b, c = 0) ↔ rdDum p b := by
                unfold rdDum
                rw [hq]
                constructor
                · intro hh; exact ⟨by omega, rfl, by omega, by omega, Classical.byContradiction hh⟩
                · rintro ⟨_, _, _, _, hh⟩ hne; exact hne hh
              refine j_slot 44 rfl (v' := .bool (decide (rdDum p b))) (by congr 1; exact decide_eq_decide.2 e6) ?_
              refine j_keep ?_ (J () trivial)
              exact ⟨rfl, rfl, rfl, rfl, rfl, rfl, trivial⟩
            · refine o_val rfl rfl rfl rfl (v_move rfl) ?_
              refine o_skip rfl rfl rfl rfl ?_
              refine o_skip rfl rfl rfl rfl ?_
              refine o_skip rfl rfl rfl rfl ?_
              refine o_val rfl rfl rfl rfl (v_pick0 rfl rfl) ?_
              refine o_end ?_
              refine j_slot 44 rfl (v' := .bool (decide (rdDum p b))) (by rw [decide_eq_false (p := rdDum p b) (by unfold rdDum; omega)]) ?_
              refine j_keep ?_ (J () trivial)
              exact ⟨rfl, rfl, rfl, rfl, rfl, rfl, trivial⟩
          · refine o_val rfl rfl rfl rfl (v_move rfl) ?_
            refine o_skip rfl rfl rfl rfl ?_
            refine o_skip rfl rfl rfl rfl ?_
            refine o_skip rfl rfl rfl rfl ?_
            refine o_val rfl rfl rfl rfl (v_pick0 rfl rfl) ?_
            refine o_val rfl rfl rfl rfl (v_move rfl) ?_
            refine o_skip rfl rfl rfl rfl ?_
            refine o_skip rfl rfl rfl rfl ?_
            refine o_skip rfl rfl rfl rfl ?_
            refine o_val rfl rfl rfl rfl (v_pick0 rfl rfl) ?_
            refine o_end ?_
            refine j_slot 44 rfl (v' := .bool (decide (rdDum p b))) (by rw [decide_eq_false (p := rdDum p b) (by unfold rdDum; omega)]) ?_
            refine j_keep ?_ (J () trivial)
            exact ⟨rfl, rfl, rfl, rfl, rfl, rfl, trivial⟩
      · refine o_val rfl rfl rfl rfl (v_move rfl) ?_
        refine o_skip rfl rfl rfl rfl ?_
        refine o_skip rfl rfl rfl rfl ?_
        refine o_skip rfl rfl rfl rfl ?_
        refine o_val rfl rfl rfl rfl (v_pick0 rfl rfl) ?_
        refine o_val rfl rfl rfl rfl (v_move rfl) ?_
        refine o_skip rfl rfl rfl rfl ?_
        refine o_skip rfl rfl rfl rfl ?_
        refine o_skip rfl rfl rfl rfl ?_
        refine o_val rfl rfl rfl rfl (v_pick0 rfl rfl) ?_
        refine o_val rfl rfl rfl rfl (v_move rfl) ?_
        refine o_skip rfl rfl rfl rfl ?_
        refine o_skip rfl rfl rfl rfl ?_
        refine o_skip rfl rfl rfl rfl ?_
        refine o_val rfl rfl rfl rfl (v_pick0 rfl rfl) ?_
        refine o_val rfl rfl rfl rfl (v_move rfl) ?_
        refine o_skip rfl rfl rfl rfl ?_
        refine o_skip rfl rfl rfl rfl ?_
        refine o_skip rfl rfl rfl rfl ?_
        refine o_val rfl rfl rfl rfl (v_pick0 rfl rfl) ?_
        refine o_end ?_
        refine j_slot 44 rfl (v' := .bool (decide (rdDum p b))) (by rw [decide_eq_false (p := rdDum p b) (by unfold rdDum; omega)]) ?_
        refine j_keep ?_ (J () trivial)
        exact ⟨rfl, rfl, rfl, rfl, rfl, rfl, trivial⟩
    · rintro _ _
      refine r_if rfl (fun c => ?_) (fun c => ?_)
      · rw [hrd, if_pos c, hX]
        refine r_seq ?_
        refine r_region rfl ?_
        refine o_val rfl rfl rfl rfl (v_build rfl rfl) ?_
        refine o_act0 rfl rfl rfl (a_store (sz := 4) 1 rfl rfl rfl rfl rfl rfl (Nat.le_of_ble_eq_true rfl)) ?_
        refine o_val rfl rfl rfl rfl (v_assign rfl) ?_
        refine o_end ?_
        exact r_retC1 (sz := 4) (cs := [.int .u64 0, .int .i64 0, .int .i64 0, .slice none 0 0]) Try.func17 rfl rfl rfl rfl rfl rfl (fun j c hc => cell_at (j := 1) rfl (by rw [Nat.zero_add]; exact hc)) ((List.sublist_cons_self _ _).trans (List.sublist_cons_self _ _)) ⟨⟨Fz.le_refl _, rfl, _, rfl, Sl.nil _ _ _⟩, Fz.le_refl _⟩
      · rw [if_neg c] at hrd
        refine r_skip ?_
        refine r_seq ?_
        refine r_region rfl ?_
        refine o_val rfl rfl rfl rfl (v_move rfl) ?_
        refine o_call rfl rfl rfl rfl (c_call callable27 rfl) (oct_RNum _ _ a bv1 (rdK b).2.1 (rdK b).2.2 8 _ hb1 (by omega)) ?_
        rintro v' F H' ⟨rfl, rfl, bv2, hb2, rfl⟩ _
        rw [hI] at hb2 ⊢
        refine o_val rfl rfl rfl rfl (v_move rfl) ?_
        refine o_call rfl rfl rfl rfl (c_call callable27 rfl) (oct_RNum _ _ a bv2 (rdI b).2.1 (rdI b).2.2 2 _ hb2 (by omega)) ?_
        rintro v' F H' ⟨rfl, rfl, bv3, hb3, rfl⟩ _
        rw [hA] at hb3 ⊢
        refine o_val rfl rfl rfl rfl (v_conv rfl rfl rfl (wrap_i64 (by omega) (by omega))) ?_
        refine o_val rfl rfl rfl rfl (v_move rfl) ?_
        refine o_call rfl rfl rfl rfl (c_call callable27 rfl) (oct_RNum _ _ a bv3 (rdA b).2.1 (rdA b).2.2 2 _ hb3 (by omega)) ?_
        rintro v' F H' ⟨rfl, rfl, bv4, hb4, rfl⟩ _
        rw [hO] at hb4 ⊢
        refine o_val rfl rfl rfl rfl (v_conv rfl rfl rfl (wrap_i64 (by omega) (by omega))) ?_
        refine o_val rfl rfl rfl rfl (v_build rfl rfl) ?_
        refine o_act rfl rfl rfl rfl (a_alloc rfl) ?_
        rintro v' H' ⟨y, rfl, rfl⟩
        refine o_act0 rfl rfl rfl (a_store (sz := 4) 0 rfl rfl rfl rfl rfl rfl (Nat.le_of_ble_eq_true rfl)) ?_
        obtain ⟨Y, hY⟩ : ∃ Y : Ent, Y = .mem y [.int .u64 (rdI b).1, .int .i64 (rdA b).1, .int .i64 (rdO b).1, .slice none 0 0] 4 := ⟨_, rfl⟩
        have hcy : ∀ F H j c, Y ∈ H → [Value.int .u64 (rdI b).1, .int .i64 (rdA b).1, .int .i64 (rdO b).1, .slice none 0 0][j]? = some c → Cell F H y (0 + j) c := fun F H j c hm hc => by
          rw [hY] at hm
          rw [Nat.zero_add]
          exact cell_own hm hc
        refine j_heap (H' := Y :: .mem a [bv4, .bool (rdO b).2.2] 2 :: X :: Fr) (by rw [hY]; rfl) ?_
        refine j_perm (.swap _ _ _) ?_
        refine o_end ?_
        refine r_seq ?_
        refine r_region rfl ?_
        refine o_val rfl rfl rfl rfl (v_move rfl) ?_
        refine o_call rfl rfl rfl rfl (c_call callable27 rfl) (oct_RNum _ _ a bv4 (rdO b).2.1 (rdO b).2.2 2 _ hb4 (by omega)) ?_
        rintro v' F H' ⟨rfl, rfl, bv5, hb5, rfl⟩ _
        rw [hN] at hb5 ⊢
        refine o_val rfl rfl rfl rfl (v_conv rfl rfl rfl (wrap_i64 (by omega) (by omega))) ?_
        refine o_val rfl rfl rfl rfl (v_assign rfl) ?_
        refine o_end ?_
        refine r_seq ?_
        refine r_seq ?_
        refine r_join (fun _ : Unit => True) (fun _ => [(0, .slice a0 p.length cap), (2, ptrV x), (4, bv), (8, ptrV y), (9, .int .i64 (rdN b).1), (101, .bool (decide (rdBad p b)))]) (fun _ => F) (fun _ => .mem a [bv5, .bool (rdN b).2.2] 2 :: Y :: X :: Fr) ?_ ?_
        · intro J
          refine r_region rfl ?_
          refine o_val rfl rfl rfl rfl (v_move rfl) ?_
          refine o_val rfl rfl rfl rfl (v_neq rfl rfl) ?_
          refine j_prop 59 rfl (fun d1 => ?_) (fun d1 => ?_)
          · refine o_val rfl rfl rfl rfl (v_move rfl) ?_
            refine o_skip rfl rfl rfl rfl ?_
            refine o_skip rfl rfl rfl rfl ?_
            refine o_val rfl rfl rfl rfl (v_pick1 rfl rfl) ?_
            refine o_val rfl rfl rfl rfl (v_move rfl) ?_
            refine o_skip rfl rfl rfl rfl ?_
            refine o_skip rfl rfl rfl rfl ?_
            refine o_skip rfl rfl rfl rfl ?_
            refine o_skip rfl rfl rfl rfl ?_
            refine o_val rfl rfl rfl rfl (v_pick1 rfl rfl) ?_
            refine o_val rfl rfl rfl rfl (v_move rfl) ?_
            refine o_skip rfl rfl rfl rfl ?_
            refine o_skip rfl rfl rfl rfl ?_
            refine o_skip rfl rfl rfl rfl ?_
            refine o_skip rfl rfl rfl rfl ?_
            refine o_skip rfl rfl rfl rfl ?_
            refine o_val rfl rfl rfl rfl (v_pick1 rfl rfl) ?_
            refine o_val rfl rfl rfl rfl (v_move rfl) ?_
            refine o_skip rfl rfl rfl rfl ?_
            refine o_skip rfl rfl rfl rfl ?_
            refine o_skip rfl rfl rfl rfl ?_
            refine o_val rfl rfl rfl rfl (v_pick1 rfl rfl) ?_
            refine o_val rfl rfl rfl rfl (v_move rfl) ?_
            refine o_skip rfl rfl rfl rfl ?_
            refine o_skip rfl rfl rfl rfl ?_
            refine o_skip rfl rfl rfl rfl ?_
            refine o_val rfl rfl rfl rfl (v_pick1 rfl rfl) ?_
            refine o_val rfl rfl rfl rfl (v_move rfl) ?_
            refine o_skip rfl rfl rfl rfl ?_
            refine o_skip rfl rfl rfl rfl ?_
            refine o_skip rfl rfl rfl rfl ?_
            refine o_skip rfl rfl rfl rfl ?_
            refine o_skip rfl rfl rfl rfl ?_
            refine o_skip rfl rfl rfl rfl ?_
            refine o_skip rfl rfl rfl rfl ?_
            refine o_skip rfl rfl rfl rfl ?_
            refine o_skip rfl rfl rfl rfl ?_
            refine o_skip rfl rfl rfl rfl ?_
            refine o_skip rfl rfl rfl rfl ?_
            refine o_skip rfl rfl rfl rfl ?_
            refine o_skip rfl rfl rfl rfl ?_
            refine o_val rfl rfl rfl rfl (v_pick1 rfl rfl) ?_
            refine o_end ?_
            refine j_slot 101 rfl (v' := .bool (decide (rdBad p b))) (by rw [decide_eq_true (p := rdBad p b) (by unfold rdBad; omega)]) ?_
            refine j_keep ?_ (J () trivial)
            exact ⟨rfl, rfl, rfl, rfl, rfl, rfl, trivial⟩
          · refine o_val rfl rfl rfl rfl (v_move rfl) ?_
            refine o_val rfl rfl rfl rfl (v_move rfl) ?_
            refine o_call rfl rfl rfl rfl (c_call callable28 rfl) (oct_RBad _ _ a bv5 (rdN b).2.2 _) ?_
            rintro v' F H' ⟨rfl, rfl, rfl⟩ _
            cases hq : (rdN b).2.2 with
            | true =>
              rw [hq] at J
              refine o_val rfl rfl rfl rfl (v_pick0 rfl rfl) ?_
              refine o_val rfl rfl rfl rfl (v_move rfl) ?_
              refine o_skip rfl rfl rfl rfl ?_
              refine o_skip rfl rfl rfl rfl ?_
              refine o_skip rfl rfl rfl rfl ?_
              refine o_skip rfl rfl rfl rfl ?_
              refine o_val rfl rfl rfl rfl (v_pick1 rfl rfl) ?_
              refine o_val rfl rfl rfl rfl (v_move rfl) ?_
              refine o_skip rfl rfl rfl rfl ?_
              refine o_skip rfl rfl rfl rfl ?_
              refine o_skip rfl rfl rfl rfl ?_
              refine o_skip rfl rfl rfl rfl ?_
              refine o_skip rfl rfl rfl rfl ?_
              refine o_val rfl rfl rfl rfl (v_pick1 rfl rfl) ?_
              refine o_val rfl rfl rfl rfl (v_move rfl) ?_
              refine o_skip rfl rfl rfl rfl ?_
              refine o_skip rfl rfl rfl rfl ?_
              refine o_skip rfl rfl rfl rfl ?_
              refine o_val rfl rfl rfl rfl (v_pick1 rfl rfl) ?_
              refine o_val rfl rfl rfl rfl (v_move rfl) ?_
              refine o_skip rfl rfl rfl rfl ?_
              refine o_skip rfl rfl rfl rfl ?_
              refine o_skip rfl rfl rfl rfl ?_
              refine o_val rfl rfl rfl rfl (v_pick1 rfl rfl) ?_
              refine o_val rfl rfl rfl rfl (v_move rfl) ?_
              refine o_skip rfl rfl rfl rfl ?_
              refine o_skip rfl rfl rfl rfl ?_
              refine o_skip rfl rfl rfl rfl ?_
              refine o_skip rfl rfl rfl rfl ?_
              refine o_skip rfl rfl rfl rfl ?_
              refine o_skip rfl rfl rfl rfl ?_
              refine o_skip rfl rfl rfl rfl ?_
              refine o_skip rfl rfl rfl rfl ?_
              refine o_skip rfl rfl rfl rfl ?_
              refine o_skip rfl rfl rfl rfl ?_
              refine o_skip rfl rfl rfl rfl ?_
              refine o_skip rfl rfl rfl rfl ?_
              refine o_skip rfl rfl rfl rfl ?_
              refine o_val rfl rfl rfl rfl (v_pick1 rfl rfl) ?_
              refine o_end ?_
              refine j_slot 101 rfl (v' := .bool (decide (rdBad p b))) (by rw [decide_eq_true (p := rdBad p b) (by unfold rdBad; exact .inr (.inl hq))]) ?_
              refine j_keep ?_ (J () trivial)
              exact ⟨rfl, rfl, rfl, rfl, rfl, rfl, trivial⟩
            | false =>
              rw [hq] at J
              refine o_val rfl rfl rfl rfl (v_pick0 rfl rfl) ?_
              refine o_val rfl rfl rfl rfl (v_move rfl) ?_
              refine o_val rfl rfl rfl rfl (v_move rfl) ?_
              refine o_val rfl rfl rfl rfl (v_move rfl) ?_
              refine o_call rfl rfl rfl rfl (c_call callable31 rfl) (oct_RLeft _ _ a bv5 (rdN b).2.1 false _ hb5) ?_
              rintro v' F H' ⟨rfl, rfl, rfl⟩ _
              rw [if_neg (by simp)]
              refine o_val rfl rfl rfl rfl (v_gtr rfl rfl) ?_
              refine o_val rfl rfl rfl rfl (v_pick0 rfl rfl) ?_
              refine j_prop 69 rfl (fun d2 => ?_) (fun d2 => ?_)
              · refine o_val rfl rfl rfl rfl (v_move rfl) ?_
                refine o_skip rfl rfl rfl rfl ?_
                refine o_skip rfl rfl rfl rfl ?_
                refine o_skip rfl rfl rfl rfl ?_
                refine o_skip rfl rfl rfl rfl ?_
                refine o_skip rfl rfl rfl rfl ?_
                refine o_val rfl rfl rfl rfl (v_pick1 rfl rfl) ?_
                refine o_val rfl rfl rfl rfl (v_move rfl) ?_
                refine o_skip rfl rfl rfl rfl ?_
                refine o_skip rfl rfl rfl rfl ?_
                refine o_skip rfl rfl rfl rfl ?_
                refine o_val rfl rfl rfl rfl (v_pick1 rfl rfl) ?_
                refine o_val rfl rfl rfl rfl (v_move rfl) ?_
                refine o_skip rfl rfl rfl rfl ?_
                refine o_skip rfl rfl rfl rfl ?_
                refine o_skip rfl rfl rfl rfl ?_
                refine o_val rfl rfl rfl rfl (v_pick1 rfl rfl) ?_
                refine o_val rfl rfl rfl rfl (v_move rfl) ?_
                refine o_skip rfl rfl rfl rfl ?_
                refine o_skip rfl rfl rfl rfl ?_
                refine o_skip rfl rfl rfl rfl ?_
                refine o_skip rfl rfl rfl rfl ?_
                refine o_skip rfl rfl rfl rfl ?_
                refine o_skip rfl rfl rfl rfl ?_
                refine o_skip rfl rfl rfl rfl ?_
                refine o_skip rfl rfl rfl rfl ?_
                refine o_skip rfl rfl rfl rfl ?_
                refine o_skip rfl rfl rfl rfl ?_
                refine o_skip rfl rfl rfl rfl ?_
                refine o_skip rfl rfl rfl rfl ?_
                refine o_skip rfl rfl rfl rfl ?_
                refine o_val rfl rfl rfl rfl (v_pick1 rfl rfl) ?_
                refine o_end ?_
                refine j_slot 101 rfl (v' := .bool (decide (rdBad p b))) (by rw [decide_eq_true (p := rdBad p b) (by unfold rdBad; omega)]) ?_
                refine j_keep ?_ (J () trivial)
                exact ⟨rfl, rfl, rfl, rfl, rfl, rfl, trivial⟩
              · refine o_val rfl rfl rfl rfl (v_move rfl) ?_
                refine o_val rfl rfl rfl rfl (v_field (k := 1) rfl rfl rfl) ?_
                refine o_val rfl rfl rfl rfl (v_load (v := .int .i64 (rdA b).1) rfl rfl (hcy _ _ 1 _ (by simp) rfl)) ?_
                refine o_val rfl rfl rfl rfl (v_field (k := 2) rfl rfl rfl) ?_
                refine o_val rfl rfl rfl rfl (v_load (v := .int .i64 (rdO b).1) rfl rfl (hcy _ _ 2 _ (by simp) rfl)) ?_
                refine o_val rfl rfl rfl rfl (v_geq rfl rfl) ?_
                refine o_val rfl rfl rfl rfl (v_pick0 rfl rfl) ?_
                refine j_prop 76 rfl (fun d3 => ?_) (fun d3 => ?_)
                · refine o_val rfl rfl rfl rfl (v_move rfl) ?_
                  refine o_skip rfl rfl rfl rfl ?_
                  refine o_skip rfl rfl rfl rfl ?_
                  refine o_skip rfl rfl rfl rfl ?_
                  refine o_val rfl rfl rfl rfl (v_pick1 rfl rfl) ?_
                  refine o_val rfl rfl rfl rfl (v_move rfl) ?_
                  refine o_skip rfl rfl rfl rfl ?_
                  refine o_skip rfl rfl rfl rfl ?_
                  refine o_skip rfl rfl rfl rfl ?_
                  refine o_val rfl rfl rfl rfl (v_pick1 rfl rfl) ?_
                  refine o_val rfl rfl rfl rfl (v_move rfl) ?_
                  refine o_skip rfl rfl rfl rfl ?_
                  refine o_skip rfl rfl rfl rfl ?_
                  refine o_skip rfl rfl rfl rfl ?_
                  refine o_skip rfl rfl rfl rfl ?_
                  refine o_skip rfl rfl rfl rfl ?_
                  refine o_skip rfl rfl rfl rfl ?_
                  refine o_skip rfl rfl rfl rfl ?_
                  refine o_skip rfl rfl rfl rfl ?_
                  refine o_skip rfl rfl rfl rfl ?_
                  refine o_skip rfl rfl rfl rfl ?_
                  refine o_skip rfl rfl rfl rfl ?_
                  refine o_skip rfl rfl rfl rfl ?_
                  refine o_skip rfl rfl rfl rfl ?_
                  refine o_val rfl rfl rfl rfl (v_pick1 rfl rfl) ?_
                  refine o_end ?_
                  refine j_slot 101 rfl (v' := .bool (decide (rdBad p b))) (by rw [decide_eq_true (p := rdBad p b) (by unfold rdBad; omega)]) ?_
                  refine j_keep ?_ (J () trivial)
                  exact ⟨rfl, rfl, rfl, rfl, rfl, rfl, trivial⟩
                · refine o_val rfl rfl rfl rfl (v_move rfl) ?_
                  refine o_val rfl rfl rfl rfl (v_move rfl) ?_
                  refine o_val rfl rfl rfl rfl (v_len rfl rfl) ?_
                  refine o_val rfl rfl rfl rfl (v_lss rfl rfl) ?_
                  refine o_val rfl rfl rfl rfl (v_pick0 rfl rfl) ?_
                  refine j_prop 81 rfl (fun d4 => ?_) (fun d4 => ?_)
                  · refine o_val rfl rfl rfl rfl (v_move rfl) ?_
                    refine o_skip rfl rfl rfl rfl ?_
                    refine o_skip rfl rfl rfl rfl ?_
                    refine o_skip rfl rfl rfl rfl ?_
                    refine o_val rfl rfl rfl rfl (v_pick1 rfl rfl) ?_
                    refine o_val rfl rfl rfl rfl (v_move rfl) ?_
                    refine o_skip rfl rfl rfl rfl ?_
                    refine o_skip rfl rfl rfl rfl ?_
                    refine o_skip rfl rfl rfl rfl ?_
                    refine o_skip rfl rfl rfl rfl ?_
                    refine o_skip rfl rfl rfl rfl ?_
                    refine o_skip rfl rfl rfl rfl ?_
                    refine o_skip rfl rfl rfl rfl ?_
                    refine o_skip rfl rfl rfl rfl ?_
                    refine o_skip rfl rfl rfl rfl ?_
                    refine o_skip rfl rfl rfl rfl ?_
                    refine o_skip rfl rfl rfl rfl ?_
                    refine o_skip rfl rfl rfl rfl ?_
                    refine o_skip rfl rfl rfl rfl ?_
                    refine o_val rfl rfl rfl rfl (v_pick1 rfl rfl) ?_
                    refine o_end ?_
                    refine j_slot 101 rfl (v' := .bool (decide (rdBad p b))) (by rw [decide_eq_true (p := rdBad p b) (by unfold rdBad; omega)]) ?_
                    refine j_keep ?_ (J () trivial)
                    exact ⟨rfl, rfl, rfl, rfl, rfl, rfl, trivial⟩
                  · refine o_val rfl rfl rfl rfl (v_move rfl) ?_
                    refine o_val rfl rfl rfl rfl (v_move rfl) ?_
                    refine o_val rfl rfl rfl rfl (v_len rfl rfl) ?_
                    refine o_val rfl rfl rfl rfl (v_gtr rfl rfl) ?_
                    refine o_val rfl rfl rfl rfl (v_pick0 rfl rfl) ?_
                    refine j_prop 86 rfl (fun d5 => ?_) (fun d5 => ?_)
                    · refine o_val rfl rfl rfl rfl (v_move rfl) ?_
                      refine o_skip rfl rfl rfl rfl ?_
                      refine o_skip rfl rfl rfl rfl ?_
                      refine o_skip rfl rfl rfl rfl ?_
                      refine o_skip rfl rfl rfl rfl ?_
                      refine o_skip rfl rfl rfl rfl ?_
                      refine o_skip rfl rfl rfl rfl ?_
                      refine o_skip rfl rfl rfl rfl ?_
                      refine o_skip rfl rfl rfl rfl ?_
                      refine o_skip rfl rfl rfl rfl ?_
                      refine o_skip rfl rfl rfl rfl ?_
                      refine o_skip rfl rfl rfl rfl ?_
                      refine o_skip rfl rfl rfl rfl ?_
                      refine o_skip rfl rfl rfl rfl ?_
                      refine o_val rfl rfl rfl rfl (v_pick1 rfl rfl) ?_
                      refine o_end ?_
                      refine j_slot 101 rfl (v' := .bool (decide (rdBad p b))) (by rw [decide_eq_true (p := rdBad p b) (by unfold rdBad; omega)]) ?_
                      refine j_keep ?_ (J () trivial)
                      exact ⟨rfl, rfl, rfl, rfl, rfl, rfl, trivial⟩
                    · refine o_val rfl rfl rfl rfl (v_move rfl) ?_
                      refine o_val rfl rfl rfl rfl (v_move rfl) ?_
                      refine o_val rfl rfl rfl rfl (v_move rfl) ?_
                      refine o_val rfl rfl rfl rfl (v_len rfl rfl) ?_
                      refine o_call rfl rfl rfl rfl (c_call callable14 rfl) (fr_Room _ _ p.length _ (by omega) (by omega)) ?_
                      rintro v' F H' ⟨rfl, rfl, rfl⟩ _
                      refine o_val rfl rfl rfl rfl (v_neq rfl rfl) ?_
                      refine j_prop 92 rfl (fun d6 => ?_) (fun d6 => ?_)
                      · refine o_val rfl rfl rfl rfl (v_move rfl) ?_
                        refine o_val rfl rfl rfl rfl (v_field (k := 1) rfl rfl rfl) ?_
                        refine o_val rfl rfl rfl rfl (v_load (v := .int .i64 (rdA b).1) rfl rfl (hcy _ _ 1 _ (by simp) rfl)) ?_
                        refine o_val rfl rfl rfl rfl (v_field (k := 2) rfl rfl rfl) ?_
                        refine o_val rfl rfl rfl rfl (v_load (v := .int .i64 (rdO b).1) rfl rfl (hcy _ _ 2 _ (by simp) rfl)) ?_
                        refine o_val rfl rfl rfl rfl (v_sub rfl rfl (r := ((rdO b).1 : Int) - 1) (wrap_i64 (by omega) (by omega))) ?_
                        refine o_val rfl rfl rfl rfl (v_neq rfl rfl) ?_
                        refine o_val rfl rfl rfl rfl (v_pick1 rfl rfl) ?_
                        refine o_val rfl rfl rfl rfl (v_pick0 rfl rfl) ?_
                        refine o_end ?_
                        have e6 : (((rdA b).1 : Int) ≠ ((rdO b).1 : Int) - 1) ↔ rdBad p b := by
                          unfold rdBad
                          rw [hq]
                          constructor
                          · intro hh; right; right; right; right; right; right; omega
                          · rintro (hh | hh | hh | hh | hh | hh | hh)
                            · omega
                            · cases hh
                            all_goals omega
                        refine j_slot 101 rfl (v' := .bool (decide (rdBad p b))) (by congr 1; rw [decide_eq_decide]; exact e6) ?_
                        refine j_keep ?_ (J () trivial)
                        exact ⟨rfl, rfl, rfl, rfl, rfl, rfl, trivial⟩
                      · refine o_val rfl rfl rfl rfl (v_move rfl) ?_
                        refine o_skip rfl rfl rfl rfl ?_
                        refine o_skip rfl rfl rfl rfl ?_
                        refine o_skip rfl rfl rfl rfl ?_
                        refine o_skip rfl rfl rfl rfl ?_
                        refine o_skip rfl rfl rfl rfl ?_
                        refine o_skip rfl rfl rfl rfl ?_
                        refine o_val rfl rfl rfl rfl (v_pick0 rfl rfl) ?_
                        refine o_val rfl rfl rfl rfl (v_pick0 rfl rfl) ?_
                        refine o_end ?_
                        have e6 : ¬ rdBad p b := by
                          unfold rdBad
                          rw [hq]
                          rintro (hh | hh | hh | hh | hh | hh | hh)
                          · omega
                          · cases hh
                          all_goals omega
                        refine j_slot 101 rfl (v' := .bool (decide (rdBad p b))) (by rw [decide_eq_false e6]) ?_
                        refine j_keep ?_ (J () trivial)
                        exact ⟨rfl, rfl, rfl, rfl, rfl, rfl, trivial⟩
        · rintro _ _
          refine j_drop (List.sublist_cons_self _ _) ?_
          refine r_if rfl (fun d => ?_) (fun d => ?_)
          · rw [hrd, if_pos d, hX]
            refine r_seq ?_
            refine r_region rfl ?_
            refine o_val rfl rfl rfl rfl (v_build rfl rfl) ?_
            refine o_act0 rfl rfl rfl (a_store (sz := 4) 1 rfl rfl rfl rfl rfl rfl (Nat.le_of_ble_eq_true rfl)) ?_
            refine o_val rfl rfl rfl rfl (v_assign rfl) ?_
            refine o_end ?_
            exact r_retC1 (sz := 4) (cs := [.int .u64 0, .int .i64 0, .int .i64 0, .slice none 0 0]) Try.func17 rfl rfl rfl rfl rfl rfl (fun j c hc => cell_at (j := 1) rfl (by rw [Nat.zero_add]; exact hc)) ((List.sublist_cons_self _ _).trans (List.sublist_cons_self _ _)) ⟨⟨Fz.le_refl _, rfl, _, rfl, Sl.nil _ _ _⟩, Fz.le_refl _⟩
          · rw [if_neg d] at hrd
            have hq : (rdN b).2.2 = false := by
              cases hq : (rdN b).2.2 with
              | false => rfl
              | true => exact absurd (by unfold rdBad; exact .inr (.inl hq)) d
            obtain ⟨g1, g2⟩ := rdN_good hq
            have g3 : (rdN b).1 ≤ b.length - 15 := by
              have : ¬ (rdN b).2.1.length < (rdN b).1 := fun hh => d (by unfold rdBad; exact .inr (.inr (.inl hh)))
              rw [g2, List.length_drop] at this
              omega
            have g4 : ¬ 4096 < p.length := fun hh => d (by unfold rdBad; omega)
            have hdl : (rdData b).length = (rdN b).1 := by unfold rdData; simp; omega
            have hsl : SlB F [] (Go.sliced ab 15 (15 + (rdN b).1) cb 1) (rdData b) := by
              have h1 := Sl.sliced (l := 15) (h := 15 + (rdN b).1) (a := ab) (cap := cb) (cs := bytesV b) (F := F) (H := []) (by rw [← hab]; exact hbv) (by omega) (by omega)
              rw [Nat.mul_one, Nat.mul_one, Nat.add_sub_cancel_left] at h1
              have h2 : ((bytesV b).drop 15).take (rdN b).1 = bytesV (rdData b) := by simp [bytesV, rdData, List.map_drop, List.map_take]
              rw [h2] at h1
              unfold SlB
              rw [hdl]
              exact h1
            rw [hab]
            refine r_skip ?_
            refine r_seq ?_
            refine r_region rfl ?_
            refine o_val rfl rfl rfl rfl (v_move rfl) ?_
            refine o_val rfl rfl rfl rfl (v_move rfl) ?_
            refine o_val rfl rfl rfl rfl (v_add rfl rfl (r := ((15 + (rdN b).1 : Nat) : Int)) (wrap_i64 (by omega) (by omega))) ?_
            refine o_val rfl rfl rfl rfl (v_slice2 (sz := 1) (l := 15) (h := 15 + (rdN b).1) rfl rfl rfl rfl rfl rfl rfl (by omega) (by omega)) ?_
            refine o_call rfl rfl rfl rfl (c_call callable32 rfl) (bs_Clone _ _ _ (rdData b) _ (hsl.frz (Fz.le_refl _)) (by omega)) ?_
            rintro v' F H' ⟨rfl, bc, okc, rfl, rfl⟩ _
            refine j_freezeBf okc (by simp) fun F2 hF2 hs2 => ?_
            rw [hY]
            refine o_val rfl rfl rfl rfl (v_field (k := 3) rfl rfl rfl) ?_
            refine o_act0 rfl rfl rfl (a_store1 0 rfl rfl rfl rfl rfl (Nat.le_of_ble_eq_true rfl)) ?_
            obtain ⟨Z, hZ⟩ : ∃ Z : List Value, Z = [.int .u64 (rdI b).1, .int .i64 (rdA b).1, .int .i64 (rdO b).1, bc.val (rdData b).length] := ⟨_, rfl⟩
            refine j_heap (H' := .mem y Z 4 :: X :: Fr) (by rw [hZ]; rfl) ?_
            refine o_end ?_
            refine r_seq ?_
            refine r_seq ?_
            refine r_region rfl ?_
            refine o_val rfl rfl rfl rfl (v_move rfl) ?_
            refine o_val rfl rfl rfl rfl (v_len rfl rfl) ?_
            refine o_val rfl rfl rfl rfl (v_field (k := 0) rfl rfl rfl) ?_
            refine o_val rfl rfl rfl rfl (v_load (v := .int .u64 (rdI b).1) rfl rfl (cell_at (j := 0) rfl (by rw [hZ]; rfl))) ?_
            refine o_val rfl rfl rfl rfl (v_field (k := 1) rfl rfl rfl) ?_
            refine o_val rfl rfl rfl rfl (v_load (v := .int .i64 (rdA b).1) rfl rfl (cell_at (j := 0) rfl (by rw [hZ]; rfl))) ?_
            refine o_val rfl rfl rfl rfl (v_field (k := 2) rfl rfl rfl) ?_
            refine o_val rfl rfl rfl rfl (v_load (v := .int .i64 (rdO b).1) rfl rfl (cell_at (j := 0) rfl (by rw [hZ]; rfl))) ?_
            refine o_val rfl rfl rfl rfl (v_field (k := 3) rfl rfl rfl) ?_
            refine o_val rfl rfl rfl rfl (v_load (v := bc.val (rdData b).length) rfl rfl (cell_at (j := 0) rfl (by rw [hZ]; rfl))) ?_
            refine o_call rfl rfl rfl rfl (c_call callable21 rfl) (fr_part _ _ p.length (rdI b).1 (rdA b).1 (rdO b).1 _ (rdData b) _ (hs2.frz (Fz.le_refl _)) (by omega) (by omega) (by omega) (by omega)) ?_
            rintro v' F2 H' ⟨rfl, bp, okp, rfl, rfl⟩ _
            refine o_val rfl rfl rfl rfl (v_move rfl) ?_
            have hfl : (frB p.length (rdI b).1 (rdA b).1 (rdO b).1 (rdData b)).length = p.length := frB_length (by omega)
            refine o_call rfl rfl rfl rfl (c_call callable33 rfl) (bs_Equal _ _ _ _ (frB p.length (rdI b).1 (rdA b).1 (rdO b).1 (rdData b)) p _ (Bf.reads (bf := bp) (sz := 1) okp (by simp) (by intro q hq; exact List.mem_append_left _ hq)) (hv.frz hF2) (by omega) (by omega)) ?_
            rintro v' F2 H' ⟨rfl, rfl, rfl⟩ _
            refine j_drop (H' := .mem y Z 4 :: X :: Fr) (List.sublist_append_right _ _) ?_
            rw [hX]
            by_cases hfe : frB p.length (rdI b).1 (rdA b).1 (rdO b).1 (rdData b) = p
            · rw [decide_eq_true hfe]
              rw [if_pos hfe] at hrd
              rw [hrd]
              refine o_val rfl rfl rfl rfl (v_not rfl) ?_
              refine o_end ?_
              refine r_false rfl ?_
              refine r_skip ?_
              refine r_seq ?_
              refine r_region rfl ?_
              refine o_val rfl rfl rfl rfl (v_loadAgg (sz := 4) (cs := Z) rfl rfl rfl (by rw [hZ]; rfl) (fun j c hc => cell_at (j := 0) rfl (by rw [Nat.zero_add]; exact hc))) ?_
              rw [hZ]
              refine o_act0 rfl rfl rfl (a_store (sz := 4) 1 rfl rfl rfl rfl rfl rfl (Nat.le_of_ble_eq_true rfl)) ?_
              refine o_val rfl rfl rfl rfl (v_assign rfl) ?_
              refine o_end ?_
              exact r_retC1 (sz := 4) (cs := [.int .u64 (rdI b).1, .int .i64 (rdA b).1, .int .i64 (rdO b).1, bc.val (rdData b).length]) Try.func17 rfl rfl rfl rfl rfl rfl (fun j c hc => cell_at (j := 1) rfl (by rw [Nat.zero_add]; exact hc)) ((List.sublist_cons_self _ _).trans (List.sublist_cons_self _ _)) ⟨⟨hF2, rfl, _, rfl, hs2⟩, hF2⟩
            · rw [decide_eq_false hfe]
              rw [if_neg hfe] at hrd
              rw [hrd]
              refine o_val rfl rfl rfl rfl (v_not rfl) ?_
              refine o_end ?_
              refine r_true rfl ?_
              refine r_seq ?_
              refine r_region rfl ?_
              refine o_val rfl rfl rfl rfl (v_build rfl rfl) ?_
              refine o_act0 rfl rfl rfl (a_store (sz := 4) 1 rfl rfl rfl rfl rfl rfl (Nat.le_of_ble_eq_true rfl)) ?_
              refine o_val rfl rfl rfl rfl (v_assign rfl) ?_
              refine o_end ?_
              exact r_retC1 (sz := 4) (cs := [.int .u64 0, .int .i64 0, .int .i64 0, .slice none 0 0]) Try.func17 rfl rfl rfl rfl rfl rfl (fun j c hc => cell_at (j := 1) rfl (by rw [Nat.zero_add]; exact hc)) ((List.sublist_cons_self _ _).trans (List.sublist_cons_self _ _)) ⟨⟨hF2, rfl, _, rfl, Sl.nil _ _ _⟩, hF2⟩
end Go.SX
