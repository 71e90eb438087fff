/-
  Contract of package wal: an image grows by one record.
-/
import Derived.Test.YtmpbgnffdpppbaaWal2
namespace Go.SX
open Go Go.Proofs
set_option maxRecDepth 4000
set_option linter.unusedSimpArgs false
set_option linter.unusedVariables false

def hardR (d : List UInt8) : Option (Nat × Int) :=
  let x1 := rdNum d false 8
  let x2 := rdNum x1.2.1 x1.2.2 2
  if (!x2.2.2 && decide (x2.2.1 = [])) = true then some (x1.1, (x2.1 : Int) - 1) else none
def entR (d : List UInt8) : Option PE :=
  let x1 := rdNum d false 8
  let x2 := rdNum x1.2.1 x1.2.2 8
  let x3 := rdNum x2.2.1 x2.2.2 1
  let x4 := rdBytes x3.2.1 x3.2.2 1048576
  if (!x4.2.2 && decide (x4.2.1 = [])) = true then some ⟨x1.1, x2.1, x3.1, x4.1⟩ else none
def snapR (d : List UInt8) : Option (Nat × Nat × Nat × List UInt8) :=
  let x1 := rdNum d false 8
  let x2 := rdNum x1.2.1 x1.2.2 8
  let x3 := rdNum x2.2.1 x2.2.2 8
  let x4 := rdBytes x3.2.1 x3.2.2 1048576
  if (!x4.2.2 && decide (x4.2.1 = [])) = true then some (x1.1, x2.1, x3.1, x4.1) else none
def addE (p : PI) (e : PE) : Option PI := if e.ix ≤ p.ix ∨ p.l.length < e.ix - p.ix - 1 then none else some { p with l := p.l.take (e.ix - p.ix - 1) ++ [e] }
def addP (p : PI) (k : Nat) (d : List UInt8) : Option PI :=
  if k = 1 then (hardR d).map fun q => { p with term := q.1, vote := q.2 }
  else if k = 2 then (entR d).bind (addE p)
  else if k = 3 then (snapR d).map fun q => { p with ix := q.1, tm := q.2.1, vt := q.2.2.1, data := q.2.2.2, l := [] }
  else none

theorem rdBytes_len (l : List UInt8) (bad : Bool) : (rdBytes l bad 1048576).1.length ≤ 1048576 := by
  unfold rdBytes
  split
  · simp
  · rename_i h
    simp only [List.length_take]
    omega

theorem en_Clip (O : World) (F : Fz) (a : Option Addr) (n cap : Nat) (H : List Ent) (hc : n ≤ cap) :
    Does Try.prog O 52 #[.slice a n cap] F H (fun r F' H' => r = .slice a n n ∧ F' = F ∧ H' = H) := by
  refine does_of_run (args := [_]) Try.func52 rfl rfl ?_
  refine r_seq ?_
  refine r_region rfl ?_
  refine o_val rfl rfl rfl rfl (v_assign rfl) ?_
  refine o_end ?_
  refine r_seq ?_
  refine r_region rfl ?_
  refine o_val rfl rfl rfl rfl (v_move rfl) ?_
  refine o_val rfl rfl rfl rfl (v_move rfl) ?_
  refine o_val rfl rfl rfl rfl (v_len rfl rfl) ?_
  refine o_val rfl rfl rfl rfl (v_move rfl) ?_
  refine o_val rfl rfl rfl rfl (v_len rfl rfl) ?_
  refine o_val rfl rfl rfl rfl (v_sliceHM (sz := 4) rfl rfl rfl rfl rfl rfl rfl (Nat.le_refl _) hc) ?_
  refine o_val rfl rfl rfl rfl (v_assign rfl) ?_
  refine o_end ?_
  rw [sliced0]
  exact r_ret1 Try.func52 rfl rfl ⟨⟨rfl, rfl, rfl⟩, Fz.le_refl _⟩

set_option maxHeartbeats 1600000 in
theorem wal_add (O : World) (F : Fz) (m : Nat) (p : Im) (k : Nat) (v : Value) (d : List UInt8) (Fr : List Ent) (hp : p.ok F) (hn : p.l.length ≤ 1000000) (hk : k < 256) (hv : SlB F [] v d) (hl : d.length ≤ 140737488350000) :
    Does Try.prog O 33 #[ptrV m, .int .u8 k, v] F (.mem m p.cells 7 :: Fr) (fun r F' H' => F.le F' ∧ ((addP p.pure k d = none ∧ r = .bool false ∧ H' = .mem m p.cells 7 :: Fr) ∨ ∃ p' : Im, addP p.pure k d = some p'.pure ∧ p'.ok F' ∧ p'.l.length ≤ p.l.length + 1 ∧ r = .bool true ∧ H' = .mem m p'.cells 7 :: Fr)) := by
  obtain ⟨q1, q2, q3, q4, q5, q6, hpd, hpdl, hplv, hpl⟩ := id hp
  refine does_of_run (args := [_, _, _]) Try.func33 rfl rfl ?_
  refine r_seq ?_
  refine r_region rfl ?_
  refine o_val rfl rfl rfl rfl (v_assign rfl) ?_
  refine o_end ?_
  refine r_seq ?_
  refine r_region rfl ?_
  refine o_val rfl rfl rfl rfl (v_move rfl) ?_
  refine o_call rfl rfl rfl rfl (c_call callable45 rfl) (oct_Read _ _ _ d _ hv) ?_
  rintro v' F H' ⟨rfl, a, rfl, rfl⟩ _
  refine o_val rfl rfl rfl rfl (v_assign rfl) ?_
  refine o_end ?_
  refine r_seq ?_
  refine r_seq ?_
  refine r_region rfl ?_
  refine o_val rfl rfl rfl rfl (v_move rfl) ?_
  refine o_end ?_
  refine r_block ?_
  refine r_seq ?_
  refine r_region rfl ?_
  refine o_val rfl rfl rfl rfl (v_eql rfl rfl) ?_
  refine o_val rfl rfl rfl rfl (v_assign rfl) ?_
  refine o_end ?_
  refine j_sel (H' := .mem a [v, .bool false] 2 :: .mem m p.cells 7 :: Fr) [[Ent.mem a [v, .bool false] 2], [Ent.mem m p.cells 7], Fr] [0, 1, 2] rfl rfl rfl ?_
  have hx1 := rdNum_lt d false 8
  have hl1 := rdNum_len d false 8
  refine r_if rfl (fun hk1 => ?_) (fun hk1 => ?_)
  · obtain rfl : k = 1 := by omega
    have hx2 : (rdNum (rdNum d false 8).2.1 (rdNum d false 8).2.2 2).1 < 65536 := rdNum_lt _ _ 2
    have hx1 : (rdNum d false 8).1 < 18446744073709551616 := rdNum_lt _ _ 8
    have hl2 := rdNum_len (rdNum d false 8).2.1 (rdNum d false 8).2.2 2
    have had : addP p.pure 1 d = (hardR d).map fun q => { p.pure with term := q.1, vote := q.2 } := rfl
    have hr : hardR d = if (!(rdNum (rdNum d false 8).2.1 (rdNum d false 8).2.2 2).2.2 && decide ((rdNum (rdNum d false 8).2.1 (rdNum d false 8).2.2 2).2.1 = [])) = true then some ((rdNum d false 8).1, ((rdNum (rdNum d false 8).2.1 (rdNum d false 8).2.2 2).1 : Int) - 1) else none := rfl
    refine r_seq ?_
    refine r_region rfl ?_
    refine o_val rfl rfl rfl rfl (v_move rfl) ?_
    refine o_call rfl rfl rfl rfl (c_call callable46 rfl) (oct_RNum _ _ a _ d false 8 _ hv (by omega)) ?_
    rintro v' F H' ⟨rfl, rfl, v1, hv1, rfl⟩ _
    refine o_val rfl rfl rfl rfl (v_move rfl) ?_
    refine o_call rfl rfl rfl rfl (c_call callable46 rfl) (oct_RNum _ _ a _ _ _ 2 _ hv1 (by omega)) ?_
    rintro v' F H' ⟨rfl, rfl, v2, hv2, rfl⟩ _
    generalize rdNum (rdNum d false 8).2.1 (rdNum d false 8).2.2 2 = x2 at *
    generalize rdNum d false 8 = x1 at *
    refine o_val rfl rfl rfl rfl (v_conv rfl rfl rfl (wrap_i64 (by omega) (by omega))) ?_
    refine o_val rfl rfl rfl rfl (v_sub rfl rfl (r := (x2.1 : Int) - 1) (wrap_i64 (by omega) (by omega))) ?_
    refine o_val rfl rfl rfl rfl (v_build rfl rfl) ?_
    refine o_act rfl rfl rfl rfl (a_alloc rfl) ?_
    rintro v' H' ⟨x, rfl, rfl⟩
    refine o_act0 rfl rfl rfl (a_store (sz := 2) 0 rfl rfl rfl rfl rfl rfl (Nat.le_of_ble_eq_true rfl)) ?_
    refine j_heap (H' := .mem x [.int .u64 x1.1, .int .i64 ((x2.1 : Int) - 1)] 2 :: .mem a [v2, .bool x2.2.2] 2 :: .mem m p.cells 7 :: Fr) rfl ?_
    refine j_sel (H' := Ent.mem a [v2, .bool x2.2.2] 2 :: (Ent.mem x [.int .u64 x1.1, .int .i64 ((x2.1 : Int) - 1)] 2 :: (Ent.mem m p.cells 7 :: (Fr)))) [[Ent.mem x [.int .u64 x1.1, .int .i64 ((x2.1 : Int) - 1)] 2], [Ent.mem a [v2, .bool x2.2.2] 2], [Ent.mem m p.cells 7], Fr] [1, 0, 2, 3] rfl rfl rfl ?_
    refine o_end ?_
    refine r_seq ?_
    refine r_seq ?_
    refine r_region rfl ?_
    refine o_val rfl rfl rfl rfl (v_move rfl) ?_
    refine o_call rfl rfl rfl rfl (c_call callable50 rfl) (oct_REnd _ _ a _ _ _ _ hv2) ?_
    rintro v' F H' ⟨rfl, rfl, rfl⟩ _
    by_cases he : (!x2.2.2 && decide (x2.2.1 = [])) = true
    · rw [if_pos he] at hr
      rw [hr] at had
      refine j_slot 25 rfl (v' := .bool true) (by rw [he]) ?_
      refine o_val rfl rfl rfl rfl (v_not rfl) ?_
      refine o_end ?_
      refine r_false rfl ?_
      refine j_sel (H' := Ent.mem m p.cells 7 :: (Ent.mem x [.int .u64 x1.1, .int .i64 ((x2.1 : Int) - 1)] 2 :: (Fr))) [[Ent.mem a [v2, .bool x2.2.2] 2], [Ent.mem x [.int .u64 x1.1, .int .i64 ((x2.1 : Int) - 1)] 2], [Ent.mem m p.cells 7], Fr] [2, 1, 3] rfl rfl rfl ?_
      refine r_skip ?_
      refine r_region rfl ?_
      refine o_val rfl rfl rfl rfl (v_move rfl) ?_
      refine o_val rfl rfl rfl rfl (v_loadAgg (sz := 2) (cs := [.int .u64 x1.1, .int .i64 ((x2.1 : Int) - 1)]) rfl rfl rfl rfl (cells_of (j := 1) _ _ rfl rfl)) ?_
      refine o_val rfl rfl rfl rfl (v_nilCheck rfl) ?_
      refine o_val rfl rfl rfl rfl (v_field (k := 0) rfl rfl rfl) ?_
      refine o_act0 rfl rfl rfl (a_store (sz := 2) 0 rfl rfl rfl rfl rfl rfl (Nat.le_of_ble_eq_true rfl)) ?_
      refine j_heap (H' := .mem m ({ p with term := x1.1, vote := (x2.1 : Int) - 1 } : Im).cells 7 :: .mem x [.int .u64 x1.1, .int .i64 ((x2.1 : Int) - 1)] 2 :: Fr) rfl ?_
      refine j_drop (H' := .mem m ({ p with term := x1.1, vote := (x2.1 : Int) - 1 } : Im).cells 7 :: Fr) ((List.sublist_cons_self _ _).cons_cons _) ?_
      refine o_end ?_
      refine r_inBlock ?_
      refine r_seq ?_
      refine r_region rfl ?_
      refine o_val rfl rfl rfl rfl (v_assign rfl) ?_
      refine o_end ?_
      exact r_ret1 Try.func33 rfl rfl ⟨⟨Fz.le_refl _, .inr ⟨{ p with term := x1.1, vote := (x2.1 : Int) - 1 }, had, ⟨hx1, by dsimp only; omega, by dsimp only; omega, q4, q5, q6, hpd, hpdl, hplv, hpl⟩, by dsimp only; omega, rfl, rfl⟩⟩, Fz.le_refl _⟩
    · rw [if_neg he] at hr
      rw [hr] at had
      refine j_slot 25 rfl (v' := .bool false) (by rw [Bool.not_eq_true] at he; rw [he]) ?_
      refine o_val rfl rfl rfl rfl (v_not rfl) ?_
      refine o_end ?_
      refine r_true rfl ?_
      refine r_seq ?_
      refine r_region rfl ?_
      refine o_val rfl rfl rfl rfl (v_assign rfl) ?_
      refine o_end ?_
      refine j_sel (H' := Ent.mem m p.cells 7 :: (Fr)) [[Ent.mem a [v2, .bool x2.2.2] 2], [Ent.mem x [.int .u64 x1.1, .int .i64 ((x2.1 : Int) - 1)] 2], [Ent.mem m p.cells 7], Fr] [2, 3] rfl rfl rfl ?_
      exact r_ret1 Try.func33 rfl rfl ⟨⟨Fz.le_refl _, .inl ⟨had, rfl, rfl⟩⟩, Fz.le_refl _⟩
  · refine r_seq ?_
    refine r_region rfl ?_
    refine o_val rfl rfl rfl rfl (v_eql rfl rfl) ?_
    refine o_val rfl rfl rfl rfl (v_assign rfl) ?_
    refine o_end ?_
    refine r_if rfl (fun hk2 => ?_) (fun hk2 => ?_)
    · obtain rfl : k = 2 := by omega
      have hx3 : (rdNum (rdNum (rdNum d false 8).2.1 (rdNum d false 8).2.2 8).2.1 (rdNum (rdNum d false 8).2.1 (rdNum d false 8).2.2 8).2.2 1).1 < 256 := rdNum_lt _ _ 1
      have hx1 : (rdNum d false 8).1 < 18446744073709551616 := rdNum_lt _ _ 8
      have hx2 : (rdNum (rdNum d false 8).2.1 (rdNum d false 8).2.2 8).1 < 18446744073709551616 := rdNum_lt _ _ 8
      have hl2 := rdNum_len (rdNum d false 8).2.1 (rdNum d false 8).2.2 8
      have hl3 := rdNum_len (rdNum (rdNum d false 8).2.1 (rdNum d false 8).2.2 8).2.1 (rdNum (rdNum d false 8).2.1 (rdNum d false 8).2.2 8).2.2 1
      have had : addP p.pure 2 d = (entR d).bind (addE p.pure) := rfl
      have hbl := rdBytes_len (rdNum (rdNum (rdNum d false 8).2.1 (rdNum d false 8).2.2 8).2.1 (rdNum (rdNum d false 8).2.1 (rdNum d false 8).2.2 8).2.2 1).2.1 (rdNum (rdNum (rdNum d false 8).2.1 (rdNum d false 8).2.2 8).2.1 (rdNum (rdNum d false 8).2.1 (rdNum d false 8).2.2 8).2.2 1).2.2
      have hr := entR.eq_1 d
      try dsimp only at hr
      refine r_seq ?_
      refine r_region rfl ?_
      refine o_val rfl rfl rfl rfl (v_move rfl) ?_
      refine o_call rfl rfl rfl rfl (c_call callable46 rfl) (oct_RNum _ _ a _ d false 8 _ hv (by omega)) ?_
      rintro v' F H' ⟨rfl, rfl, v1, hv1, rfl⟩ _
      refine o_val rfl rfl rfl rfl (v_move rfl) ?_
      refine o_call rfl rfl rfl rfl (c_call callable46 rfl) (oct_RNum _ _ a _ _ _ 8 _ hv1 (by omega)) ?_
      rintro v' F H' ⟨rfl, rfl, v2, hv2, rfl⟩ _
      refine o_val rfl rfl rfl rfl (v_move rfl) ?_
      refine o_call rfl rfl rfl rfl (c_call callable46 rfl) (oct_RNum _ _ a _ _ _ 1 _ hv2 (by omega)) ?_
      rintro v' F H' ⟨rfl, rfl, v3, hv3, rfl⟩ _
      refine o_val rfl rfl rfl rfl (v_conv rfl rfl rfl (wrap_u8 (by omega) (by omega))) ?_
      refine o_val rfl rfl rfl rfl (v_move rfl) ?_
      refine o_call rfl rfl rfl rfl (c_call callable51 rfl) (oct_RBytes _ _ a _ _ _ 1048576 _ hv3 (by omega) (by decide)) ?_
      rintro v4 F1 H' ⟨hF1, hs4, v5, hv5, rfl⟩ _
      generalize rdBytes (rdNum (rdNum (rdNum d false 8).2.1 (rdNum d false 8).2.2 8).2.1 (rdNum (rdNum d false 8).2.1 (rdNum d false 8).2.2 8).2.2 1).2.1 (rdNum (rdNum (rdNum d false 8).2.1 (rdNum d false 8).2.2 8).2.1 (rdNum (rdNum d false 8).2.1 (rdNum d false 8).2.2 8).2.2 1).2.2 1048576 = x4 at *
      generalize rdNum (rdNum (rdNum d false 8).2.1 (rdNum d false 8).2.2 8).2.1 (rdNum (rdNum d false 8).2.1 (rdNum d false 8).2.2 8).2.2 1 = x3 at *
      generalize rdNum (rdNum d false 8).2.1 (rdNum d false 8).2.2 8 = x2 at *
      generalize rdNum d false 8 = x1 at *
      obtain ⟨a4, c4, rfl, hc4⟩ := Sl.shape hs4
      obtain ⟨e, he⟩ : ∃ e : En, e = ⟨x1.1, x2.1, x3.1, .slice a4 x4.1.length c4, x4.1⟩ := ⟨_, rfl⟩
      have heok : e.ok F1 := by rw [he]; exact ⟨hx1, hx2, hx3, hs4, hbl⟩
      have hec : e.cells = [.int .u64 x1.1, .int .u64 x2.1, .int .u8 x3.1, .slice a4 x4.1.length c4] := by rw [he]; rfl
      have hei : e.ix = x1.1 := by rw [he]
      have hepu : (⟨x1.1, x2.1, x3.1, x4.1⟩ : PE) = e.pure := by rw [he]; rfl
      rw [hepu] at hr
      rw [← hei] at hec
      refine o_val rfl rfl rfl rfl (v_build rfl rfl) ?_
      refine o_act rfl rfl rfl rfl (a_alloc rfl) ?_
      rintro v' H' ⟨x, rfl, rfl⟩
      refine o_act0 rfl rfl rfl (a_store (sz := 4) 0 rfl rfl rfl rfl rfl rfl (Nat.le_of_ble_eq_true rfl)) ?_
      refine j_heap (H' := .mem x e.cells 4 :: .mem a [v5, .bool x4.2.2] 2 :: .mem m p.cells 7 :: Fr) (by rw [hec, hei]; rfl) ?_
      refine j_sel (H' := Ent.mem a [v5, .bool x4.2.2] 2 :: (Ent.mem x e.cells 4 :: (Ent.mem m p.cells 7 :: (Fr)))) [[Ent.mem x e.cells 4], [Ent.mem a [v5, .bool x4.2.2] 2], [Ent.mem m p.cells 7], Fr] [1, 0, 2, 3] rfl rfl rfl ?_
      refine o_end ?_
      refine r_seq ?_
      have hpF := hp.frz hF1
      obtain ⟨a0, cap, hlv, hcap⟩ := Sl.shape hpF.lv
      by_cases he2 : (!x4.2.2 && decide (x4.2.1 = [])) = true
      · rw [if_pos he2] at hr
        rw [hr] at had
        have had : addP p.pure 2 d = addE p.pure e.pure := had
        have hade : addE p.pure e.pure = if e.ix ≤ p.ix ∨ (p.l.map En.pure).length < e.ix - p.ix - 1 then none else some { p.pure with l := (p.l.map En.pure).take (e.ix - p.ix - 1) ++ [e.pure] } := rfl
        have hbx := heok.ix
        rw [List.length_map] at hade
        by_cases hix : e.ix ≤ p.ix
        · rw [if_pos (.inl hix)] at hade
          refine d_region 1000000 rfl ([.mem x e.cells 4, .mem m p.cells 7]) ?_
          refine d_take (i := 0) rfl rfl rfl (by decide +kernel) (by decide +kernel) (by decide +kernel) (Fz.le_refl _) (by intro q hq; simp only [List.mem_cons, List.not_mem_nil, or_false] at hq; rcases hq with rfl | rfl <;> simp) rfl (v_field (k := 0) rfl rfl rfl) ?_
          refine d_take (i := 1) rfl rfl rfl (by decide +kernel) (by decide +kernel) (by decide +kernel) (Fz.le_refl _) (by intro q hq; simp only [List.mem_cons, List.not_mem_nil, or_false] at hq; rcases hq with rfl | rfl <;> simp) rfl (v_load (v := .int .u64 e.ix) rfl rfl (cell_at (j := 0) rfl (by rw [hec]; rfl))) ?_
          refine d_take (i := 2) rfl rfl rfl (by decide +kernel) (by decide +kernel) (by decide +kernel) (Fz.le_refl _) (by intro q hq; simp only [List.mem_cons, List.not_mem_nil, or_false] at hq; rcases hq with rfl | rfl <;> simp) rfl (v_move rfl) ?_
          refine d_take (i := 3) rfl rfl rfl (by decide +kernel) (by decide +kernel) (by decide +kernel) (Fz.le_refl _) (by intro q hq; simp only [List.mem_cons, List.not_mem_nil, or_false] at hq; rcases hq with rfl | rfl <;> simp) rfl (v_nilCheck rfl) ?_
          refine d_take (i := 4) rfl rfl rfl (by decide +kernel) (by decide +kernel) (by decide +kernel) (Fz.le_refl _) (by intro q hq; simp only [List.mem_cons, List.not_mem_nil, or_false] at hq; rcases hq with rfl | rfl <;> simp) rfl (v_field (k := 2) rfl rfl rfl) ?_
          refine d_take (i := 5) rfl rfl rfl (by decide +kernel) (by decide +kernel) (by decide +kernel) (Fz.le_refl _) (by intro q hq; simp only [List.mem_cons, List.not_mem_nil, or_false] at hq; rcases hq with rfl | rfl <;> simp) rfl (v_field (k := 0) rfl rfl rfl) ?_
          refine d_take (i := 6) rfl rfl rfl (by decide +kernel) (by decide +kernel) (by decide +kernel) (Fz.le_refl _) (by intro q hq; simp only [List.mem_cons, List.not_mem_nil, or_false] at hq; rcases hq with rfl | rfl <;> simp) rfl (v_load (v := .int .u64 p.ix) rfl rfl (cell_at (j := 1) rfl rfl)) ?_
          refine d_take (i := 7) rfl rfl rfl (by decide +kernel) (by decide +kernel) (by decide +kernel) (Fz.le_refl _) (by intro q hq; simp only [List.mem_cons, List.not_mem_nil, or_false] at hq; rcases hq with rfl | rfl <;> simp) rfl (v_sub rfl rfl rfl) ?_
          refine d_take (i := 8) rfl rfl rfl (by decide +kernel) (by decide +kernel) (by decide +kernel) (Fz.le_refl _) (by intro q hq; simp only [List.mem_cons, List.not_mem_nil, or_false] at hq; rcases hq with rfl | rfl <;> simp) rfl (v_sub rfl rfl rfl) ?_
          refine d_take (i := 9) rfl rfl rfl (by decide +kernel) (by decide +kernel) (by decide +kernel) (Fz.le_refl _) (by intro q hq; simp only [List.mem_cons, List.not_mem_nil, or_false] at hq; rcases hq with rfl | rfl <;> simp) rfl (v_assign rfl) ?_
          refine d_end (by decide +kernel) ?_
          refine r_seq ?_
          refine r_seq ?_
          refine d_region 1000000 rfl ([.mem x e.cells 4, .mem m p.cells 7]) ?_
          refine d_take (i := 0) rfl rfl rfl (by decide +kernel) (by decide +kernel) (by decide +kernel) (Fz.le_refl _) (by intro q hq; simp only [List.mem_cons, List.not_mem_nil, or_false] at hq; rcases hq with rfl | rfl <;> simp) rfl (v_move rfl) ?_
          refine d_one (i := 1) (by decide +kernel) ?_
          refine d1_call rfl rfl rfl rfl (c_call callable50 rfl) (oct_REnd _ _ a _ _ _ _ hv5) ?_
          rintro v' F1 H' ⟨rfl, rfl, rfl⟩ _
          refine ⟨fun w hw => held_of hw (by first | exact Fz.le_refl _ | assumption) (by intro q hq; simp only [List.mem_cons, List.not_mem_nil, or_false] at hq; rcases hq with rfl | rfl <;> simp), ?_⟩
          refine j_slot 53 rfl (v' := .bool true) (by rw [he2]) ?_
          refine d_take (i := 2) rfl rfl rfl (by decide +kernel) (by decide +kernel) (by decide +kernel) (Fz.le_refl _) (by intro q hq; simp only [List.mem_cons, List.not_mem_nil, or_false] at hq; rcases hq with rfl | rfl <;> simp) rfl (v_not rfl) ?_
          refine d_take (i := 3) rfl rfl rfl (by decide +kernel) (by decide +kernel) (by decide +kernel) (Fz.le_refl _) (by intro q hq; simp only [List.mem_cons, List.not_mem_nil, or_false] at hq; rcases hq with rfl | rfl <;> simp) rfl (v_move rfl) ?_
          refine d_take (i := 4) rfl rfl rfl (by decide +kernel) (by decide +kernel) (by decide +kernel) (Fz.le_refl _) (by intro q hq; simp only [List.mem_cons, List.not_mem_nil, or_false] at hq; rcases hq with rfl | rfl <;> simp) rfl (v_field (k := 0) rfl rfl rfl) ?_
          refine d_take (i := 5) rfl rfl rfl (by decide +kernel) (by decide +kernel) (by decide +kernel) (Fz.le_refl _) (by intro q hq; simp only [List.mem_cons, List.not_mem_nil, or_false] at hq; rcases hq with rfl | rfl <;> simp) rfl (v_load (v := .int .u64 e.ix) rfl rfl (cell_at (j := 0) rfl (by rw [hec]; rfl))) ?_
          refine d_take (i := 6) rfl rfl rfl (by decide +kernel) (by decide +kernel) (by decide +kernel) (Fz.le_refl _) (by intro q hq; simp only [List.mem_cons, List.not_mem_nil, or_false] at hq; rcases hq with rfl | rfl <;> simp) rfl (v_move rfl) ?_
          refine d_take (i := 7) rfl rfl rfl (by decide +kernel) (by decide +kernel) (by decide +kernel) (Fz.le_refl _) (by intro q hq; simp only [List.mem_cons, List.not_mem_nil, or_false] at hq; rcases hq with rfl | rfl <;> simp) rfl (v_nilCheck rfl) ?_
          refine d_take (i := 8) rfl rfl rfl (by decide +kernel) (by decide +kernel) (by decide +kernel) (Fz.le_refl _) (by intro q hq; simp only [List.mem_cons, List.not_mem_nil, or_false] at hq; rcases hq with rfl | rfl <;> simp) rfl (v_field (k := 2) rfl rfl rfl) ?_
          refine d_take (i := 9) rfl rfl rfl (by decide +kernel) (by decide +kernel) (by decide +kernel) (Fz.le_refl _) (by intro q hq; simp only [List.mem_cons, List.not_mem_nil, or_false] at hq; rcases hq with rfl | rfl <;> simp) rfl (v_field (k := 0) rfl rfl rfl) ?_
          refine d_take (i := 10) rfl rfl rfl (by decide +kernel) (by decide +kernel) (by decide +kernel) (Fz.le_refl _) (by intro q hq; simp only [List.mem_cons, List.not_mem_nil, or_false] at hq; rcases hq with rfl | rfl <;> simp) rfl (v_load (v := .int .u64 p.ix) rfl rfl (cell_at (j := 1) rfl rfl)) ?_
          refine d_take (i := 11) rfl rfl rfl (by decide +kernel) (by decide +kernel) (by decide +kernel) (Fz.le_refl _) (by intro q hq; simp only [List.mem_cons, List.not_mem_nil, or_false] at hq; rcases hq with rfl | rfl <;> simp) rfl (v_leq rfl rfl) ?_
          refine d_take (i := 12) rfl rfl rfl (by decide +kernel) (by decide +kernel) (by decide +kernel) (Fz.le_refl _) (by intro q hq; simp only [List.mem_cons, List.not_mem_nil, or_false] at hq; rcases hq with rfl | rfl <;> simp) rfl (v_pick0 rfl rfl) ?_
          refine j_slot 64 rfl (v' := .bool true) (by rw [decide_eq_true (by omega)]) ?_
          refine d_take (i := 13) rfl rfl rfl (by decide +kernel) (by decide +kernel) (by decide +kernel) (Fz.le_refl _) (by intro q hq; simp only [List.mem_cons, List.not_mem_nil, or_false] at hq; rcases hq with rfl | rfl <;> simp) rfl (v_move rfl) ?_
          refine d_skip (i := 14) rfl rfl rfl (by decide +kernel) (by decide +kernel) (by decide +kernel) (Fz.le_refl _) (by intro q hq; simp only [List.mem_cons, List.not_mem_nil, or_false] at hq; rcases hq with rfl | rfl <;> simp) rfl ?_
          refine d_skip (i := 15) rfl rfl rfl (by decide +kernel) (by decide +kernel) (by decide +kernel) (Fz.le_refl _) (by intro q hq; simp only [List.mem_cons, List.not_mem_nil, or_false] at hq; rcases hq with rfl | rfl <;> simp) rfl ?_
          refine d_skip (i := 16) rfl rfl rfl (by decide +kernel) (by decide +kernel) (by decide +kernel) (Fz.le_refl _) (by intro q hq; simp only [List.mem_cons, List.not_mem_nil, or_false] at hq; rcases hq with rfl | rfl <;> simp) rfl ?_
          refine d_skip (i := 17) rfl rfl rfl (by decide +kernel) (by decide +kernel) (by decide +kernel) (Fz.le_refl _) (by intro q hq; simp only [List.mem_cons, List.not_mem_nil, or_false] at hq; rcases hq with rfl | rfl <;> simp) rfl ?_
          refine d_skip (i := 18) rfl rfl rfl (by decide +kernel) (by decide +kernel) (by decide +kernel) (Fz.le_refl _) (by intro q hq; simp only [List.mem_cons, List.not_mem_nil, or_false] at hq; rcases hq with rfl | rfl <;> simp) rfl ?_
          refine d_skip (i := 19) rfl rfl rfl (by decide +kernel) (by decide +kernel) (by decide +kernel) (Fz.le_refl _) (by intro q hq; simp only [List.mem_cons, List.not_mem_nil, or_false] at hq; rcases hq with rfl | rfl <;> simp) rfl ?_
          refine d_skip (i := 20) rfl rfl rfl (by decide +kernel) (by decide +kernel) (by decide +kernel) (Fz.le_refl _) (by intro q hq; simp only [List.mem_cons, List.not_mem_nil, or_false] at hq; rcases hq with rfl | rfl <;> simp) rfl ?_
          refine d_skip (i := 21) rfl rfl rfl (by decide +kernel) (by decide +kernel) (by decide +kernel) (Fz.le_refl _) (by intro q hq; simp only [List.mem_cons, List.not_mem_nil, or_false] at hq; rcases hq with rfl | rfl <;> simp) rfl ?_
          refine d_take (i := 22) rfl rfl rfl (by decide +kernel) (by decide +kernel) (by decide +kernel) (Fz.le_refl _) (by intro q hq; simp only [List.mem_cons, List.not_mem_nil, or_false] at hq; rcases hq with rfl | rfl <;> simp) rfl (v_pick1 rfl rfl) ?_
          refine d_end (by decide +kernel) ?_
          refine r_true rfl ?_
          refine r_seq ?_
          refine r_region rfl ?_
          refine o_val rfl rfl rfl rfl (v_assign rfl) ?_
          refine o_end ?_
          refine j_sel (H' := Ent.mem m p.cells 7 :: (Fr)) [[Ent.mem a [v5, .bool x4.2.2] 2], [Ent.mem x e.cells 4], [Ent.mem m p.cells 7], Fr] [2, 3] rfl rfl rfl ?_
          exact r_ret1 Try.func33 rfl rfl ⟨⟨hF1, .inl ⟨had.trans hade, rfl, rfl⟩⟩, hF1⟩
        · skip
          refine d_region 1000000 rfl ([.mem x e.cells 4, .mem m p.cells 7]) ?_
          refine d_take (i := 0) rfl rfl rfl (by decide +kernel) (by decide +kernel) (by decide +kernel) (Fz.le_refl _) (by intro q hq; simp only [List.mem_cons, List.not_mem_nil, or_false] at hq; rcases hq with rfl | rfl <;> simp) rfl (v_field (k := 0) rfl rfl rfl) ?_
          refine d_take (i := 1) rfl rfl rfl (by decide +kernel) (by decide +kernel) (by decide +kernel) (Fz.le_refl _) (by intro q hq; simp only [List.mem_cons, List.not_mem_nil, or_false] at hq; rcases hq with rfl | rfl <;> simp) rfl (v_load (v := .int .u64 e.ix) rfl rfl (cell_at (j := 0) rfl (by rw [hec]; rfl))) ?_
          refine d_take (i := 2) rfl rfl rfl (by decide +kernel) (by decide +kernel) (by decide +kernel) (Fz.le_refl _) (by intro q hq; simp only [List.mem_cons, List.not_mem_nil, or_false] at hq; rcases hq with rfl | rfl <;> simp) rfl (v_move rfl) ?_
          refine d_take (i := 3) rfl rfl rfl (by decide +kernel) (by decide +kernel) (by decide +kernel) (Fz.le_refl _) (by intro q hq; simp only [List.mem_cons, List.not_mem_nil, or_false] at hq; rcases hq with rfl | rfl <;> simp) rfl (v_nilCheck rfl) ?_
          refine d_take (i := 4) rfl rfl rfl (by decide +kernel) (by decide +kernel) (by decide +kernel) (Fz.le_refl _) (by intro q hq; simp only [List.mem_cons, List.not_mem_nil, or_false] at hq; rcases hq with rfl | rfl <;> simp) rfl (v_field (k := 2) rfl rfl rfl) ?_
          refine d_take (i := 5) rfl rfl rfl (by decide +kernel) (by decide +kernel) (by decide +kernel) (Fz.le_refl _) (by intro q hq; simp only [List.mem_cons, List.not_mem_nil, or_false] at hq; rcases hq with rfl | rfl <;> simp) rfl (v_field (k := 0) rfl rfl rfl) ?_
          refine d_take (i := 6) rfl rfl rfl (by decide +kernel) (by decide +kernel) (by decide +kernel) (Fz.le_refl _) (by intro q hq; simp only [List.mem_cons, List.not_mem_nil, or_false] at hq; rcases hq with rfl | rfl <;> simp) rfl (v_load (v := .int .u64 p.ix) rfl rfl (cell_at (j := 1) rfl rfl)) ?_
          refine d_take (i := 7) rfl rfl rfl (by decide +kernel) (by decide +kernel) (by decide +kernel) (Fz.le_refl _) (by intro q hq; simp only [List.mem_cons, List.not_mem_nil, or_false] at hq; rcases hq with rfl | rfl <;> simp) rfl (v_sub rfl rfl (r := ((e.ix - p.ix : Nat) : Int)) ((wrap_u64 (by omega) (by omega)).trans (by omega))) ?_
          refine d_take (i := 8) rfl rfl rfl (by decide +kernel) (by decide +kernel) (by decide +kernel) (Fz.le_refl _) (by intro q hq; simp only [List.mem_cons, List.not_mem_nil, or_false] at hq; rcases hq with rfl | rfl <;> simp) rfl (v_sub rfl rfl (r := ((e.ix - p.ix - 1 : Nat) : Int)) ((wrap_u64 (by omega) (by omega)).trans (by omega))) ?_
          refine d_take (i := 9) rfl rfl rfl (by decide +kernel) (by decide +kernel) (by decide +kernel) (Fz.le_refl _) (by intro q hq; simp only [List.mem_cons, List.not_mem_nil, or_false] at hq; rcases hq with rfl | rfl <;> simp) rfl (v_assign rfl) ?_
          refine d_end (by decide +kernel) ?_
          refine r_seq ?_
          refine r_seq ?_
          refine d_region 1000000 rfl ([.mem x e.cells 4, .mem m p.cells 7]) ?_
          refine d_take (i := 0) rfl rfl rfl (by decide +kernel) (by decide +kernel) (by decide +kernel) (Fz.le_refl _) (by intro q hq; simp only [List.mem_cons, List.not_mem_nil, or_false] at hq; rcases hq with rfl | rfl <;> simp) rfl (v_move rfl) ?_
          refine d_one (i := 1) (by decide +kernel) ?_
          refine d1_call rfl rfl rfl rfl (c_call callable50 rfl) (oct_REnd _ _ a _ _ _ _ hv5) ?_
          rintro v' F1 H' ⟨rfl, rfl, rfl⟩ _
          refine ⟨fun w hw => held_of hw (by first | exact Fz.le_refl _ | assumption) (by intro q hq; simp only [List.mem_cons, List.not_mem_nil, or_false] at hq; rcases hq with rfl | rfl <;> simp), ?_⟩
          refine j_slot 53 rfl (v' := .bool true) (by rw [he2]) ?_
          refine d_take (i := 2) rfl rfl rfl (by decide +kernel) (by decide +kernel) (by decide +kernel) (Fz.le_refl _) (by intro q hq; simp only [List.mem_cons, List.not_mem_nil, or_false] at hq; rcases hq with rfl | rfl <;> simp) rfl (v_not rfl) ?_
          refine d_take (i := 3) rfl rfl rfl (by decide +kernel) (by decide +kernel) (by decide +kernel) (Fz.le_refl _) (by intro q hq; simp only [List.mem_cons, List.not_mem_nil, or_false] at hq; rcases hq with rfl | rfl <;> simp) rfl (v_move rfl) ?_
          refine d_take (i := 4) rfl rfl rfl (by decide +kernel) (by decide +kernel) (by decide +kernel) (Fz.le_refl _) (by intro q hq; simp only [List.mem_cons, List.not_mem_nil, or_false] at hq; rcases hq with rfl | rfl <;> simp) rfl (v_field (k := 0) rfl rfl rfl) ?_
          refine d_take (i := 5) rfl rfl rfl (by decide +kernel) (by decide +kernel) (by decide +kernel) (Fz.le_refl _) (by intro q hq; simp only [List.mem_cons, List.not_mem_nil, or_false] at hq; rcases hq with rfl | rfl <;> simp) rfl (v_load (v := .int .u64 e.ix) rfl rfl (cell_at (j := 0) rfl (by rw [hec]; rfl))) ?_
          refine d_take (i := 6) rfl rfl rfl (by decide +kernel) (by decide +kernel) (by decide +kernel) (Fz.le_refl _) (by intro q hq; simp only [List.mem_cons, List.not_mem_nil, or_false] at hq; rcases hq with rfl | rfl <;> simp) rfl (v_move rfl) ?_
          refine d_take (i := 7) rfl rfl rfl (by decide +kernel) (by decide +kernel) (by decide +kernel) (Fz.le_refl _) (by intro q hq; simp only [List.mem_cons, List.not_mem_nil, or_false] at hq; rcases hq with rfl | rfl <;> simp) rfl (v_nilCheck rfl) ?_
          refine d_take (i := 8) rfl rfl rfl (by decide +kernel) (by decide +kernel) (by decide +kernel) (Fz.le_refl _) (by intro q hq; simp only [List.mem_cons, List.not_mem_nil, or_false] at hq; rcases hq with rfl | rfl <;> simp) rfl (v_field (k := 2) rfl rfl rfl) ?_
          refine d_take (i := 9) rfl rfl rfl (by decide +kernel) (by decide +kernel) (by decide +kernel) (Fz.le_refl _) (by intro q hq; simp only [List.mem_cons, List.not_mem_nil, or_false] at hq; rcases hq with rfl | rfl <;> simp) rfl (v_field (k := 0) rfl rfl rfl) ?_
          refine d_take (i := 10) rfl rfl rfl (by decide +kernel) (by decide +kernel) (by decide +kernel) (Fz.le_refl _) (by intro q hq; simp only [List.mem_cons, List.not_mem_nil, or_false] at hq; rcases hq with rfl | rfl <;> simp) rfl (v_load (v := .int .u64 p.ix) rfl rfl (cell_at (j := 1) rfl rfl)) ?_
          refine d_take (i := 11) rfl rfl rfl (by decide +kernel) (by decide +kernel) (by decide +kernel) (Fz.le_refl _) (by intro q hq; simp only [List.mem_cons, List.not_mem_nil, or_false] at hq; rcases hq with rfl | rfl <;> simp) rfl (v_leq rfl rfl) ?_
          refine d_take (i := 12) rfl rfl rfl (by decide +kernel) (by decide +kernel) (by decide +kernel) (Fz.le_refl _) (by intro q hq; simp only [List.mem_cons, List.not_mem_nil, or_false] at hq; rcases hq with rfl | rfl <;> simp) rfl (v_pick0 rfl rfl) ?_
          refine j_slot 64 rfl (v' := .bool false) (by rw [decide_eq_false (by omega)]) ?_
          refine d_take (i := 13) rfl rfl rfl (by decide +kernel) (by decide +kernel) (by decide +kernel) (Fz.le_refl _) (by intro q hq; simp only [List.mem_cons, List.not_mem_nil, or_false] at hq; rcases hq with rfl | rfl <;> simp) rfl (v_move rfl) ?_
          refine d_take (i := 14) rfl rfl rfl (by decide +kernel) (by decide +kernel) (by decide +kernel) (Fz.le_refl _) (by intro q hq; simp only [List.mem_cons, List.not_mem_nil, or_false] at hq; rcases hq with rfl | rfl <;> simp) rfl (v_move rfl) ?_
          refine d_take (i := 15) rfl rfl rfl (by decide +kernel) (by decide +kernel) (by decide +kernel) (Fz.le_refl _) (by intro q hq; simp only [List.mem_cons, List.not_mem_nil, or_false] at hq; rcases hq with rfl | rfl <;> simp) rfl (v_move rfl) ?_
          refine d_take (i := 16) rfl rfl rfl (by decide +kernel) (by decide +kernel) (by decide +kernel) (Fz.le_refl _) (by intro q hq; simp only [List.mem_cons, List.not_mem_nil, or_false] at hq; rcases hq with rfl | rfl <;> simp) rfl (v_nilCheck rfl) ?_
          refine d_take (i := 17) rfl rfl rfl (by decide +kernel) (by decide +kernel) (by decide +kernel) (Fz.le_refl _) (by intro q hq; simp only [List.mem_cons, List.not_mem_nil, or_false] at hq; rcases hq with rfl | rfl <;> simp) rfl (v_field (k := 6) rfl rfl rfl) ?_
          refine d_take (i := 18) rfl rfl rfl (by decide +kernel) (by decide +kernel) (by decide +kernel) (Fz.le_refl _) (by intro q hq; simp only [List.mem_cons, List.not_mem_nil, or_false] at hq; rcases hq with rfl | rfl <;> simp) rfl (v_load (v := .slice a0 p.l.length cap) rfl rfl (cell_at (j := 1) rfl (by show some p.lv = _; rw [hlv]))) ?_
          refine d_take (i := 19) rfl rfl rfl (by decide +kernel) (by decide +kernel) (by decide +kernel) (Fz.le_refl _) (by intro q hq; simp only [List.mem_cons, List.not_mem_nil, or_false] at hq; rcases hq with rfl | rfl <;> simp) rfl (v_len rfl rfl) ?_
          refine d_take (i := 20) rfl rfl rfl (by decide +kernel) (by decide +kernel) (by decide +kernel) (Fz.le_refl _) (by intro q hq; simp only [List.mem_cons, List.not_mem_nil, or_false] at hq; rcases hq with rfl | rfl <;> simp) rfl (v_conv rfl rfl rfl (wrap_u64 (by omega) (by omega))) ?_
          refine d_take (i := 21) rfl rfl rfl (by decide +kernel) (by decide +kernel) (by decide +kernel) (Fz.le_refl _) (by intro q hq; simp only [List.mem_cons, List.not_mem_nil, or_false] at hq; rcases hq with rfl | rfl <;> simp) rfl (v_gtr rfl rfl) ?_
          refine d_take (i := 22) rfl rfl rfl (by decide +kernel) (by decide +kernel) (by decide +kernel) (Fz.le_refl _) (by intro q hq; simp only [List.mem_cons, List.not_mem_nil, or_false] at hq; rcases hq with rfl | rfl <;> simp) rfl (v_pick0 rfl rfl) ?_
          refine d_end (by decide +kernel) ?_
          refine r_if rfl (fun h3 => ?_) (fun h3 => ?_)
          · rw [if_pos (.inr (by omega))] at hade
            refine r_seq ?_
            refine r_region rfl ?_
            refine o_val rfl rfl rfl rfl (v_assign rfl) ?_
            refine o_end ?_
            refine j_sel (H' := Ent.mem m p.cells 7 :: (Fr)) [[Ent.mem a [v5, .bool x4.2.2] 2], [Ent.mem x e.cells 4], [Ent.mem m p.cells 7], Fr] [2, 3] rfl rfl rfl ?_
            exact r_ret1 Try.func33 rfl rfl ⟨⟨hF1, .inl ⟨had.trans hade, rfl, rfl⟩⟩, hF1⟩
          · rw [if_neg (by omega)] at hade
            refine j_sel (H' := Ent.mem x e.cells 4 :: (Ent.mem m p.cells 7 :: (Fr))) [[Ent.mem a [v5, .bool x4.2.2] 2], [Ent.mem x e.cells 4], [Ent.mem m p.cells 7], Fr] [1, 2, 3] rfl rfl rfl ?_
            obtain ⟨at_, hat⟩ : ∃ at_ : Nat, at_ = e.ix - p.ix - 1 := ⟨_, rfl⟩
            rw [← hat] at hade ⊢
            have hatl : at_ ≤ p.l.length := by omega
            have hlen' : (p.l.take at_ ++ [e]).length = at_ + 1 := by simp; omega
            have hu : Sl F1 [] 4 (.slice a0 at_ at_) at_ (enV (p.l.take at_)) := by
              have h := hpF.lv
              rw [hlv] at h
              have h' := Sl.cut4 h hatl (Nat.le_refl at_) (by omega)
              have e9 : (p.l.take at_).length = at_ := by simp; omega
              rw [e9] at h'
              exact h'
            refine r_skip ?_
            refine d_region 13 rfl ([.mem x e.cells 4, .mem m p.cells 7]) ?_
            refine d_take (i := 0) rfl rfl rfl (by decide +kernel) (by decide +kernel) (by decide +kernel) (Fz.le_refl _) (by intro q hq; simp only [List.mem_cons, List.not_mem_nil, or_false] at hq; rcases hq with rfl | rfl <;> simp) rfl (v_move rfl) ?_
            refine d_take (i := 1) rfl rfl rfl (by decide +kernel) (by decide +kernel) (by decide +kernel) (Fz.le_refl _) (by intro q hq; simp only [List.mem_cons, List.not_mem_nil, or_false] at hq; rcases hq with rfl | rfl <;> simp) rfl (v_move rfl) ?_
            refine d_take (i := 2) rfl rfl rfl (by decide +kernel) (by decide +kernel) (by decide +kernel) (Fz.le_refl _) (by intro q hq; simp only [List.mem_cons, List.not_mem_nil, or_false] at hq; rcases hq with rfl | rfl <;> simp) rfl (v_nilCheck rfl) ?_
            refine d_take (i := 3) rfl rfl rfl (by decide +kernel) (by decide +kernel) (by decide +kernel) (Fz.le_refl _) (by intro q hq; simp only [List.mem_cons, List.not_mem_nil, or_false] at hq; rcases hq with rfl | rfl <;> simp) rfl (v_field (k := 6) rfl rfl rfl) ?_
            refine d_take (i := 4) rfl rfl rfl (by decide +kernel) (by decide +kernel) (by decide +kernel) (Fz.le_refl _) (by intro q hq; simp only [List.mem_cons, List.not_mem_nil, or_false] at hq; rcases hq with rfl | rfl <;> simp) rfl (v_load (v := .slice a0 p.l.length cap) rfl rfl (cell_at (j := 1) rfl (by show some p.lv = _; rw [hlv]))) ?_
            refine d_take (i := 5) rfl rfl rfl (by decide +kernel) (by decide +kernel) (by decide +kernel) (Fz.le_refl _) (by intro q hq; simp only [List.mem_cons, List.not_mem_nil, or_false] at hq; rcases hq with rfl | rfl <;> simp) rfl (v_move rfl) ?_
            refine d_take (i := 6) rfl rfl rfl (by decide +kernel) (by decide +kernel) (by decide +kernel) (Fz.le_refl _) (by intro q hq; simp only [List.mem_cons, List.not_mem_nil, or_false] at hq; rcases hq with rfl | rfl <;> simp) rfl (v_sliceH (sz := 4) rfl rfl rfl rfl rfl (by omega)) ?_
            refine d_take (i := 8) rfl rfl rfl (by decide +kernel) (by decide +kernel) (by decide +kernel) (Fz.le_refl _) (by intro q hq; simp only [List.mem_cons, List.not_mem_nil, or_false] at hq; rcases hq with rfl | rfl <;> simp) rfl (v_loadAgg (sz := 4) (cs := e.cells) rfl rfl rfl rfl (cells_of (j := 0) _ _ rfl rfl)) ?_
            refine j_slot 81 rfl (v' := .slice a0 at_ cap) (sliced0 _ _ _ _) ?_
            refine d_all [7, 9] (by decide +kernel) (by simp) ?_
            intro zz hzz
            simp only [List.mem_cons, List.not_mem_nil, or_false] at hzz
            rcases hzz with rfl | rfl
            · refine d1_call rfl rfl rfl rfl (c_call callable52 rfl) (en_Clip _ _ a0 at_ cap _ (by omega)) ?_
              rintro v' F1 H' ⟨rfl, rfl, rfl⟩ _
              refine ⟨fun w hw => held_of hw (by first | exact Fz.le_refl _ | assumption) (by intro q hq; simp only [List.mem_cons, List.not_mem_nil, or_false] at hq; rcases hq with rfl | rfl <;> simp), ?_⟩
              refine d_one (i := 9) (by decide +kernel) ?_
              refine d1_act rfl rfl rfl rfl (a_buildS (sz := 4) (cs := e.cells) [.tmp 83] rfl rfl rfl rfl rfl rfl rfl rfl rfl rfl) ?_
              rintro v' H' ⟨y, rfl, rfl⟩
              refine ⟨fun w hw => held_of hw (by first | exact Fz.le_refl _ | assumption) (by intro q hq; simp only [List.mem_cons, List.not_mem_nil, or_false] at hq; rcases hq with rfl | rfl <;> simp), ?_⟩
              refine d_one (i := 10) (by decide +kernel) ?_
              refine d1_act rfl rfl rfl rfl (a_appendNew (sz := 4) (bytes := 48) (m := 1) (ys := enV [e]) ⟨⟨_, _, _, rfl, rfl, rfl, rfl, rfl, rfl⟩, by decide⟩ rfl (hu.frz (Fz.le_refl _)) rfl (sl_lit (e := e) (List.mem_cons_self ..)) (by decide) (by unfold maxLen; omega) (by omega)) ?_
              rintro v' H' ⟨bb, cc, rfl, hcc, rfl⟩
              refine ⟨fun w hw => held_of hw (by first | exact Fz.le_refl _ | assumption) (by intro q hq; simp only [List.mem_cons, List.not_mem_nil, or_false] at hq; rcases hq with rfl | rfl <;> simp), ?_⟩
              rw [← vec_append]
              refine d_take (i := 11) rfl rfl rfl (by decide +kernel) (by decide +kernel) (by decide +kernel) (Fz.le_refl _) (by intro q hq; simp only [List.mem_cons, List.not_mem_nil, or_false] at hq; rcases hq with rfl | rfl <;> simp) rfl (v_nilCheck rfl) ?_
              refine d_take (i := 12) rfl rfl rfl (by decide +kernel) (by decide +kernel) (by decide +kernel) (Fz.le_refl _) (by intro q hq; simp only [List.mem_cons, List.not_mem_nil, or_false] at hq; rcases hq with rfl | rfl <;> simp) rfl (v_field (k := 6) rfl rfl rfl) ?_
              refine d_one (i := 13) (by decide +kernel) ?_
              refine d1_last 1000000 ([]) rfl rfl rfl (a_store1 3 rfl rfl rfl rfl rfl (Nat.le_of_ble_eq_true rfl)) ?_
              refine j_heap (H' := (Bf.at bb cc).ents 4 (enV (p.l.take at_ ++ [e])) ++ (.mem y e.cells 4 :: .mem x e.cells 4 :: .mem m ({ p with lv := .slice (some ⟨bb, 0, none⟩) (at_ + 1) cc, l := p.l.take at_ ++ [e] } : Im).cells 7 :: Fr)) rfl ?_
              refine j_freezeBf (n := at_ + 1) hcc (by rw [en_len, hlen']) fun F2 hF2 hs2 => ?_
              refine j_drop (H' := .mem m ({ p with lv := .slice (some ⟨bb, 0, none⟩) (at_ + 1) cc, l := p.l.take at_ ++ [e] } : Im).cells 7 :: Fr) ((List.sublist_cons_self _ _).trans (List.sublist_cons_self _ _)) ?_
              refine d_end (by decide +kernel) ?_
              refine r_inBlock ?_
              refine r_seq ?_
              refine r_region rfl ?_
              refine o_val rfl rfl rfl rfl (v_assign rfl) ?_
              refine o_end ?_
              refine r_ret1 Try.func33 rfl rfl ⟨⟨Fz.le_trans hF1 hF2, .inr ⟨{ p with lv := .slice (some ⟨bb, 0, none⟩) (at_ + 1) cc, l := p.l.take at_ ++ [e] }, ?_, ⟨q1, q2, q3, q4, q5, q6, hpd.frz (Fz.le_trans hF1 hF2), hpdl, ?_, ?_⟩, ?_, rfl, rfl⟩⟩, Fz.le_trans hF1 hF2⟩
              · rw [had, hade]
                simp only [Im.pure, List.map_append, List.map_take, List.map_cons, List.map_nil]
              · show Sl F2 [] 4 _ (p.l.take at_ ++ [e]).length _
                rw [hlen']
                exact hs2
              · intro q hq
                rcases List.mem_append.1 hq with hq | hq
                · exact (hpF.l q (List.mem_of_mem_take hq)).frz hF2
                · rw [List.mem_singleton] at hq
                  rw [hq]
                  exact heok.frz hF2
              · show (p.l.take at_ ++ [e]).length ≤ _
                omega
            · refine d1_act rfl rfl rfl rfl (a_buildS (sz := 4) (cs := e.cells) [.tmp 83] rfl rfl rfl rfl rfl rfl rfl rfl rfl rfl) ?_
              rintro v' H' ⟨y, rfl, rfl⟩
              refine ⟨fun w hw => held_of hw (by first | exact Fz.le_refl _ | assumption) (by intro q hq; simp only [List.mem_cons, List.not_mem_nil, or_false] at hq; rcases hq with rfl | rfl <;> simp), ?_⟩
              refine d_one (i := 7) (by decide +kernel) ?_
              refine d1_call rfl rfl rfl rfl (c_call callable52 rfl) (en_Clip _ _ a0 at_ cap _ (by omega)) ?_
              rintro v' F1 H' ⟨rfl, rfl, rfl⟩ _
              refine ⟨fun w hw => held_of hw (by first | exact Fz.le_refl _ | assumption) (by intro q hq; simp only [List.mem_cons, List.not_mem_nil, or_false] at hq; rcases hq with rfl | rfl <;> simp), ?_⟩
              refine d_one (i := 10) (by decide +kernel) ?_
              refine d1_act rfl rfl rfl rfl (a_appendNew (sz := 4) (bytes := 48) (m := 1) (ys := enV [e]) ⟨⟨_, _, _, rfl, rfl, rfl, rfl, rfl, rfl⟩, by decide⟩ rfl (hu.frz (Fz.le_refl _)) rfl (sl_lit (e := e) (List.mem_cons_self ..)) (by decide) (by unfold maxLen; omega) (by omega)) ?_
              rintro v' H' ⟨bb, cc, rfl, hcc, rfl⟩
              refine ⟨fun w hw => held_of hw (by first | exact Fz.le_refl _ | assumption) (by intro q hq; simp only [List.mem_cons, List.not_mem_nil, or_false] at hq; rcases hq with rfl | rfl <;> simp), ?_⟩
              rw [← vec_append]
              refine d_take (i := 11) rfl rfl rfl (by decide +kernel) (by decide +kernel) (by decide +kernel) (Fz.le_refl _) (by intro q hq; simp only [List.mem_cons, List.not_mem_nil, or_false] at hq; rcases hq with rfl | rfl <;> simp) rfl (v_nilCheck rfl) ?_
              refine d_take (i := 12) rfl rfl rfl (by decide +kernel) (by decide +kernel) (by decide +kernel) (Fz.le_refl _) (by intro q hq; simp only [List.mem_cons, List.not_mem_nil, or_false] at hq; rcases hq with rfl | rfl <;> simp) rfl (v_field (k := 6) rfl rfl rfl) ?_
              refine d_one (i := 13) (by decide +kernel) ?_
              refine d1_last 1000000 ([]) rfl rfl rfl (a_store1 3 rfl rfl rfl rfl rfl (Nat.le_of_ble_eq_true rfl)) ?_
              refine j_heap (H' := (Bf.at bb cc).ents 4 (enV (p.l.take at_ ++ [e])) ++ (.mem y e.cells 4 :: .mem x e.cells 4 :: .mem m ({ p with lv := .slice (some ⟨bb, 0, none⟩) (at_ + 1) cc, l := p.l.take at_ ++ [e] } : Im).cells 7 :: Fr)) rfl ?_
              refine j_freezeBf (n := at_ + 1) hcc (by rw [en_len, hlen']) fun F2 hF2 hs2 => ?_
              refine j_drop (H' := .mem m ({ p with lv := .slice (some ⟨bb, 0, none⟩) (at_ + 1) cc, l := p.l.take at_ ++ [e] } : Im).cells 7 :: Fr) ((List.sublist_cons_self _ _).trans (List.sublist_cons_self _ _)) ?_
              refine d_end (by decide +kernel) ?_
              refine r_inBlock ?_
              refine r_seq ?_
              refine r_region rfl ?_
              refine o_val rfl rfl rfl rfl (v_assign rfl) ?_
              refine o_end ?_
              refine r_ret1 Try.func33 rfl rfl ⟨⟨Fz.le_trans hF1 hF2, .inr ⟨{ p with lv := .slice (some ⟨bb, 0, none⟩) (at_ + 1) cc, l := p.l.take at_ ++ [e] }, ?_, ⟨q1, q2, q3, q4, q5, q6, hpd.frz (Fz.le_trans hF1 hF2), hpdl, ?_, ?_⟩, ?_, rfl, rfl⟩⟩, Fz.le_trans hF1 hF2⟩
              · rw [had, hade]
                simp only [Im.pure, List.map_append, List.map_take, List.map_cons, List.map_nil]
              · show Sl F2 [] 4 _ (p.l.take at_ ++ [e]).length _
                rw [hlen']
                exact hs2
              · intro q hq
                rcases List.mem_append.1 hq with hq | hq
                · exact (hpF.l q (List.mem_of_mem_take hq)).frz hF2
                · rw [List.mem_singleton] at hq
                  rw [hq]
                  exact heok.frz hF2
              · show (p.l.take at_ ++ [e]).length ≤ _
                omega
      · rw [if_neg he2] at hr
        rw [hr] at had
        have had : addP p.pure 2 d = none := had
        refine d_region 1000000 rfl ([.mem x e.cells 4, .mem m p.cells 7]) ?_
        refine d_take (i := 0) rfl rfl rfl (by decide +kernel) (by decide +kernel) (by decide +kernel) (Fz.le_refl _) (by intro q hq; simp only [List.mem_cons, List.not_mem_nil, or_false] at hq; rcases hq with rfl | rfl <;> simp) rfl (v_field (k := 0) rfl rfl rfl) ?_
        refine d_take (i := 1) rfl rfl rfl (by decide +kernel) (by decide +kernel) (by decide +kernel) (Fz.le_refl _) (by intro q hq; simp only [List.mem_cons, List.not_mem_nil, or_false] at hq; rcases hq with rfl | rfl <;> simp) rfl (v_load (v := .int .u64 e.ix) rfl rfl (cell_at (j := 0) rfl (by rw [hec]; rfl))) ?_
        refine d_take (i := 2) rfl rfl rfl (by decide +kernel) (by decide +kernel) (by decide +kernel) (Fz.le_refl _) (by intro q hq; simp only [List.mem_cons, List.not_mem_nil, or_false] at hq; rcases hq with rfl | rfl <;> simp) rfl (v_move rfl) ?_
        refine d_take (i := 3) rfl rfl rfl (by decide +kernel) (by decide +kernel) (by decide +kernel) (Fz.le_refl _) (by intro q hq; simp only [List.mem_cons, List.not_mem_nil, or_false] at hq; rcases hq with rfl | rfl <;> simp) rfl (v_nilCheck rfl) ?_
        refine d_take (i := 4) rfl rfl rfl (by decide +kernel) (by decide +kernel) (by decide +kernel) (Fz.le_refl _) (by intro q hq; simp only [List.mem_cons, List.not_mem_nil, or_false] at hq; rcases hq with rfl | rfl <;> simp) rfl (v_field (k := 2) rfl rfl rfl) ?_
        refine d_take (i := 5) rfl rfl rfl (by decide +kernel) (by decide +kernel) (by decide +kernel) (Fz.le_refl _) (by intro q hq; simp only [List.mem_cons, List.not_mem_nil, or_false] at hq; rcases hq with rfl | rfl <;> simp) rfl (v_field (k := 0) rfl rfl rfl) ?_
        refine d_take (i := 6) rfl rfl rfl (by decide +kernel) (by decide +kernel) (by decide +kernel) (Fz.le_refl _) (by intro q hq; simp only [List.mem_cons, List.not_mem_nil, or_false] at hq; rcases hq with rfl | rfl <;> simp) rfl (v_load (v := .int .u64 p.ix) rfl rfl (cell_at (j := 1) rfl rfl)) ?_
        refine d_take (i := 7) rfl rfl rfl (by decide +kernel) (by decide +kernel) (by decide +kernel) (Fz.le_refl _) (by intro q hq; simp only [List.mem_cons, List.not_mem_nil, or_false] at hq; rcases hq with rfl | rfl <;> simp) rfl (v_sub rfl rfl rfl) ?_
        refine d_take (i := 8) rfl rfl rfl (by decide +kernel) (by decide +kernel) (by decide +kernel) (Fz.le_refl _) (by intro q hq; simp only [List.mem_cons, List.not_mem_nil, or_false] at hq; rcases hq with rfl | rfl <;> simp) rfl (v_sub rfl rfl rfl) ?_
        refine d_take (i := 9) rfl rfl rfl (by decide +kernel) (by decide +kernel) (by decide +kernel) (Fz.le_refl _) (by intro q hq; simp only [List.mem_cons, List.not_mem_nil, or_false] at hq; rcases hq with rfl | rfl <;> simp) rfl (v_assign rfl) ?_
        refine d_end (by decide +kernel) ?_
        refine r_seq ?_
        refine r_seq ?_
        refine d_region 1000000 rfl ([]) ?_
        refine d_take (i := 0) rfl rfl rfl (by decide +kernel) (by decide +kernel) (by decide +kernel) (Fz.le_refl _) (by simp) rfl (v_move rfl) ?_
        refine d_one (i := 1) (by decide +kernel) ?_
        refine d1_call rfl rfl rfl rfl (c_call callable50 rfl) (oct_REnd _ _ a _ _ _ _ hv5) ?_
        rintro v' F1 H' ⟨rfl, rfl, rfl⟩ _
        refine ⟨fun w hw => held_of hw (by first | exact Fz.le_refl _ | assumption) (by simp), ?_⟩
        refine j_slot 53 rfl (v' := .bool false) (by rw [Bool.not_eq_true] at he2; rw [he2]) ?_
        refine d_take (i := 2) rfl rfl rfl (by decide +kernel) (by decide +kernel) (by decide +kernel) (Fz.le_refl _) (by simp) rfl (v_not rfl) ?_
        refine d_take (i := 3) rfl rfl rfl (by decide +kernel) (by decide +kernel) (by decide +kernel) (Fz.le_refl _) (by simp) rfl (v_move rfl) ?_
        refine d_skip (i := 4) rfl rfl rfl (by decide +kernel) (by decide +kernel) (by decide +kernel) (Fz.le_refl _) (by simp) rfl ?_
        refine d_skip (i := 5) rfl rfl rfl (by decide +kernel) (by decide +kernel) (by decide +kernel) (Fz.le_refl _) (by simp) rfl ?_
        refine d_skip (i := 6) rfl rfl rfl (by decide +kernel) (by decide +kernel) (by decide +kernel) (Fz.le_refl _) (by simp) rfl ?_
        refine d_skip (i := 7) rfl rfl rfl (by decide +kernel) (by decide +kernel) (by decide +kernel) (Fz.le_refl _) (by simp) rfl ?_
        refine d_skip (i := 8) rfl rfl rfl (by decide +kernel) (by decide +kernel) (by decide +kernel) (Fz.le_refl _) (by simp) rfl ?_
        refine d_skip (i := 9) rfl rfl rfl (by decide +kernel) (by decide +kernel) (by decide +kernel) (Fz.le_refl _) (by simp) rfl ?_
        refine d_skip (i := 10) rfl rfl rfl (by decide +kernel) (by decide +kernel) (by decide +kernel) (Fz.le_refl _) (by simp) rfl ?_
        refine d_skip (i := 11) rfl rfl rfl (by decide +kernel) (by decide +kernel) (by decide +kernel) (Fz.le_refl _) (by simp) rfl ?_
        refine d_take (i := 12) rfl rfl rfl (by decide +kernel) (by decide +kernel) (by decide +kernel) (Fz.le_refl _) (by simp) rfl (v_pick1 rfl rfl) ?_
        refine d_take (i := 13) rfl rfl rfl (by decide +kernel) (by decide +kernel) (by decide +kernel) (Fz.le_refl _) (by simp) rfl (v_move rfl) ?_
        refine d_skip (i := 14) rfl rfl rfl (by decide +kernel) (by decide +kernel) (by decide +kernel) (Fz.le_refl _) (by simp) rfl ?_
        refine d_skip (i := 15) rfl rfl rfl (by decide +kernel) (by decide +kernel) (by decide +kernel) (Fz.le_refl _) (by simp) rfl ?_
        refine d_skip (i := 16) rfl rfl rfl (by decide +kernel) (by decide +kernel) (by decide +kernel) (Fz.le_refl _) (by simp) rfl ?_
        refine d_skip (i := 17) rfl rfl rfl (by decide +kernel) (by decide +kernel) (by decide +kernel) (Fz.le_refl _) (by simp) rfl ?_
        refine d_skip (i := 18) rfl rfl rfl (by decide +kernel) (by decide +kernel) (by decide +kernel) (Fz.le_refl _) (by simp) rfl ?_
        refine d_skip (i := 19) rfl rfl rfl (by decide +kernel) (by decide +kernel) (by decide +kernel) (Fz.le_refl _) (by simp) rfl ?_
        refine d_skip (i := 20) rfl rfl rfl (by decide +kernel) (by decide +kernel) (by decide +kernel) (Fz.le_refl _) (by simp) rfl ?_
        refine d_skip (i := 21) rfl rfl rfl (by decide +kernel) (by decide +kernel) (by decide +kernel) (Fz.le_refl _) (by simp) rfl ?_
        refine d_take (i := 22) rfl rfl rfl (by decide +kernel) (by decide +kernel) (by decide +kernel) (Fz.le_refl _) (by simp) rfl (v_pick1 rfl rfl) ?_
        refine d_end (by decide +kernel) ?_
        refine r_true rfl ?_
        refine r_seq ?_
        refine r_region rfl ?_
        refine o_val rfl rfl rfl rfl (v_assign rfl) ?_
        refine o_end ?_
        refine j_sel (H' := Ent.mem m p.cells 7 :: (Fr)) [[Ent.mem a [v5, .bool x4.2.2] 2], [Ent.mem x e.cells 4], [Ent.mem m p.cells 7], Fr] [2, 3] rfl rfl rfl ?_
        exact r_ret1 Try.func33 rfl rfl ⟨⟨hF1, .inl ⟨had, rfl, rfl⟩⟩, hF1⟩
    · refine r_seq ?_
      refine r_region rfl ?_
      refine o_val rfl rfl rfl rfl (v_eql rfl rfl) ?_
      refine o_val rfl rfl rfl rfl (v_assign rfl) ?_
      refine o_end ?_
      refine r_if rfl (fun hk3 => ?_) (fun hk3 => ?_)
      · obtain rfl : k = 3 := by omega
        have hx1 : (rdNum d false 8).1 < 18446744073709551616 := rdNum_lt _ _ 8
        have hx2 : (rdNum (rdNum d false 8).2.1 (rdNum d false 8).2.2 8).1 < 18446744073709551616 := rdNum_lt _ _ 8
        have hx3 : (rdNum (rdNum (rdNum d false 8).2.1 (rdNum d false 8).2.2 8).2.1 (rdNum (rdNum d false 8).2.1 (rdNum d false 8).2.2 8).2.2 8).1 < 18446744073709551616 := rdNum_lt _ _ 8
        have hl2 := rdNum_len (rdNum d false 8).2.1 (rdNum d false 8).2.2 8
        have hl3 := rdNum_len (rdNum (rdNum d false 8).2.1 (rdNum d false 8).2.2 8).2.1 (rdNum (rdNum d false 8).2.1 (rdNum d false 8).2.2 8).2.2 8
        have had : addP p.pure 3 d = (snapR d).map fun q => { p.pure with ix := q.1, tm := q.2.1, vt := q.2.2.1, data := q.2.2.2, l := [] } := rfl
        have hbl := rdBytes_len (rdNum (rdNum (rdNum d false 8).2.1 (rdNum d false 8).2.2 8).2.1 (rdNum (rdNum d false 8).2.1 (rdNum d false 8).2.2 8).2.2 8).2.1 (rdNum (rdNum (rdNum d false 8).2.1 (rdNum d false 8).2.2 8).2.1 (rdNum (rdNum d false 8).2.1 (rdNum d false 8).2.2 8).2.2 8).2.2
        have hr := snapR.eq_1 d
        try dsimp only at hr
        refine r_seq ?_
        refine r_region rfl ?_
        refine o_val rfl rfl rfl rfl (v_move rfl) ?_
        refine o_call rfl rfl rfl rfl (c_call callable46 rfl) (oct_RNum _ _ a _ d false 8 _ hv (by omega)) ?_
        rintro v' F H' ⟨rfl, rfl, v1, hv1, rfl⟩ _
        refine o_val rfl rfl rfl rfl (v_move rfl) ?_
        refine o_call rfl rfl rfl rfl (c_call callable46 rfl) (oct_RNum _ _ a _ _ _ 8 _ hv1 (by omega)) ?_
        rintro v' F H' ⟨rfl, rfl, v2, hv2, rfl⟩ _
        refine o_val rfl rfl rfl rfl (v_move rfl) ?_
        refine o_call rfl rfl rfl rfl (c_call callable46 rfl) (oct_RNum _ _ a _ _ _ 8 _ hv2 (by omega)) ?_
        rintro v' F H' ⟨rfl, rfl, v3, hv3, rfl⟩ _
        refine o_val rfl rfl rfl rfl (v_move rfl) ?_
        refine o_call rfl rfl rfl rfl (c_call callable51 rfl) (oct_RBytes _ _ a _ _ _ 1048576 _ hv3 (by omega) (by decide)) ?_
        rintro v4 F1 H' ⟨hF1, hs4, v5, hv5, rfl⟩ _
        generalize rdBytes (rdNum (rdNum (rdNum d false 8).2.1 (rdNum d false 8).2.2 8).2.1 (rdNum (rdNum d false 8).2.1 (rdNum d false 8).2.2 8).2.2 8).2.1 (rdNum (rdNum (rdNum d false 8).2.1 (rdNum d false 8).2.2 8).2.1 (rdNum (rdNum d false 8).2.1 (rdNum d false 8).2.2 8).2.2 8).2.2 1048576 = x4 at *
        generalize rdNum (rdNum (rdNum d false 8).2.1 (rdNum d false 8).2.2 8).2.1 (rdNum (rdNum d false 8).2.1 (rdNum d false 8).2.2 8).2.2 8 = x3 at *
        generalize rdNum (rdNum d false 8).2.1 (rdNum d false 8).2.2 8 = x2 at *
        generalize rdNum d false 8 = x1 at *
        obtain ⟨a4, c4, rfl, hc4⟩ := Sl.shape hs4
        refine o_val rfl rfl rfl rfl (v_build rfl rfl) ?_
        refine o_act rfl rfl rfl rfl (a_alloc rfl) ?_
        rintro v' H' ⟨x, rfl, rfl⟩
        refine o_act0 rfl rfl rfl (a_store (sz := 4) 0 rfl rfl rfl rfl rfl rfl (Nat.le_of_ble_eq_true rfl)) ?_
        refine j_heap (H' := .mem x [.int .u64 x1.1, .int .u64 x2.1, .int .u64 x3.1, .slice a4 x4.1.length c4] 4 :: .mem a [v5, .bool x4.2.2] 2 :: .mem m p.cells 7 :: Fr) rfl ?_
        refine j_sel (H' := Ent.mem a [v5, .bool x4.2.2] 2 :: (Ent.mem x [.int .u64 x1.1, .int .u64 x2.1, .int .u64 x3.1, .slice a4 x4.1.length c4] 4 :: (Ent.mem m p.cells 7 :: (Fr)))) [[Ent.mem x [.int .u64 x1.1, .int .u64 x2.1, .int .u64 x3.1, .slice a4 x4.1.length c4] 4], [Ent.mem a [v5, .bool x4.2.2] 2], [Ent.mem m p.cells 7], Fr] [1, 0, 2, 3] rfl rfl rfl ?_
        refine o_end ?_
        refine r_seq ?_
        refine r_seq ?_
        refine r_region rfl ?_
        refine o_val rfl rfl rfl rfl (v_move rfl) ?_
        refine o_call rfl rfl rfl rfl (c_call callable50 rfl) (oct_REnd _ _ a _ _ _ _ hv5) ?_
        rintro v' F1 H' ⟨rfl, rfl, rfl⟩ _
        by_cases he : (!x4.2.2 && decide (x4.2.1 = [])) = true
        · rw [if_pos he] at hr
          rw [hr] at had
          refine j_slot 100 rfl (v' := .bool true) (by rw [he]) ?_
          refine o_val rfl rfl rfl rfl (v_not rfl) ?_
          refine o_end ?_
          refine r_false rfl ?_
          refine j_sel (H' := Ent.mem m p.cells 7 :: (Ent.mem x [.int .u64 x1.1, .int .u64 x2.1, .int .u64 x3.1, .slice a4 x4.1.length c4] 4 :: (Fr))) [[Ent.mem a [v5, .bool x4.2.2] 2], [Ent.mem x [.int .u64 x1.1, .int .u64 x2.1, .int .u64 x3.1, .slice a4 x4.1.length c4] 4], [Ent.mem m p.cells 7], Fr] [2, 1, 3] rfl rfl rfl ?_
          refine r_skip ?_
          refine r_region rfl ?_
          refine o_val rfl rfl rfl rfl (v_move rfl) ?_
          refine o_val rfl rfl rfl rfl (v_move rfl) ?_
          refine o_val rfl rfl rfl rfl (v_loadAgg (sz := 4) (cs := [.int .u64 x1.1, .int .u64 x2.1, .int .u64 x3.1, .slice a4 x4.1.length c4]) rfl rfl rfl rfl (cells_of (j := 1) _ _ rfl rfl)) ?_
          refine o_val rfl rfl rfl rfl (v_nilCheck rfl) ?_
          refine o_val rfl rfl rfl rfl (v_field (k := 2) rfl rfl rfl) ?_
          refine o_act0 rfl rfl rfl (a_store (sz := 4) 0 rfl rfl rfl rfl rfl rfl (Nat.le_of_ble_eq_true rfl)) ?_
          refine o_val rfl rfl rfl rfl (v_nilCheck rfl) ?_
          refine o_val rfl rfl rfl rfl (v_field (k := 6) rfl rfl rfl) ?_
          refine o_act0 rfl rfl rfl (a_store1 0 rfl rfl rfl rfl rfl (Nat.le_of_ble_eq_true rfl)) ?_
          refine j_heap (H' := .mem m ({ p with ix := x1.1, tm := x2.1, vt := x3.1, dv := .slice a4 x4.1.length c4, data := x4.1, lv := .slice none 0 0, l := [] } : Im).cells 7 :: .mem x [.int .u64 x1.1, .int .u64 x2.1, .int .u64 x3.1, .slice a4 x4.1.length c4] 4 :: Fr) rfl ?_
          refine j_drop (H' := .mem m ({ p with ix := x1.1, tm := x2.1, vt := x3.1, dv := .slice a4 x4.1.length c4, data := x4.1, lv := .slice none 0 0, l := [] } : Im).cells 7 :: Fr) ((List.sublist_cons_self _ _).cons_cons _) ?_
          refine o_end ?_
          refine r_inBlock ?_
          refine r_seq ?_
          refine r_region rfl ?_
          refine o_val rfl rfl rfl rfl (v_assign rfl) ?_
          refine o_end ?_
          exact r_ret1 Try.func33 rfl rfl ⟨⟨hF1, .inr ⟨{ p with ix := x1.1, tm := x2.1, vt := x3.1, dv := .slice a4 x4.1.length c4, data := x4.1, lv := .slice none 0 0, l := [] }, had, ⟨q1, q2, q3, hx1, hx2, hx3, hs4, hbl, Sl.nil _ _ _, by simp⟩, by simp, rfl, rfl⟩⟩, hF1⟩
        · rw [if_neg he] at hr
          rw [hr] at had
          refine j_slot 100 rfl (v' := .bool false) (by rw [Bool.not_eq_true] at he; rw [he]) ?_
          refine o_val rfl rfl rfl rfl (v_not rfl) ?_
          refine o_end ?_
          refine r_true rfl ?_
          refine r_seq ?_
          refine r_region rfl ?_
          refine o_val rfl rfl rfl rfl (v_assign rfl) ?_
          refine o_end ?_
          refine j_sel (H' := Ent.mem m p.cells 7 :: (Fr)) [[Ent.mem a [v5, .bool x4.2.2] 2], [Ent.mem x [.int .u64 x1.1, .int .u64 x2.1, .int .u64 x3.1, .slice a4 x4.1.length c4] 4], [Ent.mem m p.cells 7], Fr] [2, 3] rfl rfl rfl ?_
          exact r_ret1 Try.func33 rfl rfl ⟨⟨hF1, .inl ⟨had, rfl, rfl⟩⟩, hF1⟩
      · have had : addP p.pure k d = none := by
          unfold addP
          rw [if_neg (by omega), if_neg (by omega), if_neg (by omega)]
        refine r_seq ?_
        refine r_region rfl ?_
        refine o_val rfl rfl rfl rfl (v_assign rfl) ?_
        refine o_end ?_
        refine j_drop (List.sublist_cons_self _ _) ?_
        exact r_ret1 Try.func33 rfl rfl ⟨⟨Fz.le_refl _, .inl ⟨had, rfl, rfl⟩⟩, Fz.le_refl _⟩
end Go.SX
