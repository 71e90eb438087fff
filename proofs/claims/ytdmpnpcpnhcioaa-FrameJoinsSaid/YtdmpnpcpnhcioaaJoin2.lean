/-
  Contracts of package frame: Take.
-/
import Derived.Test.YtdmpnpcpnhcioaaJoin
namespace Go.SX
open Go Go.Proofs
set_option maxRecDepth 4000
set_option linter.unusedSimpArgs false
set_option linter.unusedVariables false

def absR (l : List (Option Row)) : List (Option (List UInt8)) := l.map fun r => r.map (·.2)
theorem absR_hole (l : List (Option Row)) (a : Nat) : isHole (absR l) a = isHole l a := by
  unfold isHole absR
  rw [List.getElem?_map]
  cases l[a]? with
  | none => rfl
  | some x => cases x <;> rfl
theorem absR_none (l : List (Option Row)) : (absR l).any Option.isNone = l.any Option.isNone := by
  unfold absR
  induction l with
  | nil => rfl
  | cons x r ih => cases x <;> simp [ih]
theorem absR_put (l : List (Option Row)) (a : Nat) (x : Row) : absR (putO l a x) = putO (absR l) a x.2 := by
  unfold putO
  rw [absR_hole]
  split
  · unfold absR
    rw [List.map_set]
    rfl
  · rfl
theorem isHole_get {α : Type} {l : List (Option α)} {a : Nat} : isHole l a = true ↔ l[a]? = some none := by
  unfold isHole
  split <;> simp_all
/-- All parts are there. -/
theorem all_some : ∀ (l : List (Option Row)), l.any Option.isNone = false → ∃ rs : List Row, l = rs.map some
  | [], _ => ⟨[], rfl⟩
  | none :: r, h => by simp at h
  | some x :: r, h => by
    obtain ⟨rs, hrs⟩ := all_some r (by simpa using h)
    exact ⟨x :: rs, by rw [hrs]; rfl⟩
theorem absR_flat (rs : List Row) : ((absR (rs.map some)).flatMap fun r => r.getD []) = rs.flatMap fun r => r.2 := by
  unfold absR
  induction rs with
  | nil => rfl
  | cons x r ih => simpa using ih
theorem blens_bound (rs : List Row) (k : Nat) (h : ∀ r ∈ rs, r.2.length ≤ k) : blens rs ≤ rs.length * k := by
  unfold blens
  induction rs with
  | nil => simp
  | cons x r ih =>
    have h1 := h x List.mem_cons_self
    have h2 := ih fun r hr => h r (List.mem_cons_of_mem _ hr)
    simp only [List.map_cons, List.sum_cons, List.length_cons, Nat.add_mul, Nat.one_mul]
    omega
theorem blk_split (hs : List Hf) (i : Nat) (hi : i < hs.length) : hs.map Hf.blk = (hs.take i).map Hf.blk ++ (hs[i].blk :: (hs.drop (i + 1)).map Hf.blk) := by
  rw [← List.map_cons, ← List.drop_eq_getElem_cons hi, ← List.map_append, List.take_append_drop]
theorem blk_set (hs : List Hf) (i : Nat) (hi : i < hs.length) (h : Hf) : (hs.set i h).map Hf.blk = (hs.take i).map Hf.blk ++ (h.blk :: (hs.drop (i + 1)).map Hf.blk) := by
  rw [List.set_eq_take_append_cons_drop, if_pos hi, List.map_append, List.map_cons]
theorem hf_erase (hs : List Hf) (i : Nat) (hi : i < hs.length) : (hfV hs).take (i * 4) ++ (hfV hs).drop ((i + 1) * 4) = hfV (hs.eraseIdx i) := by
  unfold hfV
  rw [vec_take Hf.cells_len hs i (by omega), vec_drop Hf.cells_len hs (i + 1) (by omega), ← List.flatMap_append, List.eraseIdx_eq_take_drop_succ]
theorem blk_erase (hs : List Hf) (i : Nat) : (hs.eraseIdx i).map Hf.blk = (hs.take i).map Hf.blk ++ (hs.drop (i + 1)).map Hf.blk := by
  rw [List.eraseIdx_eq_take_drop_succ, List.map_append]
theorem hfV_one (hs : List Hf) : (hfV hs).all oneCellB = true := vec_one hs fun h _ => h.cells_one
theorem mem_set_or {α : Type} {l : List α} {i : Nat} {a b : α} (h : b ∈ l.set i a) : b ∈ l ∨ b = a := List.mem_or_eq_of_mem_set h

theorem Cell.at0 {F : Fz} {H : List Ent} {b i j : Nat} {v : Value} (h : Cell F H b (i + j) v) : Cell F H b (0 + i + j) v := by rw [Nat.zero_add]; exact h
structure TG where
  hs : List Hf
  c : Nat
  b : Nat
  i : Nat
set_option maxRecDepth 4000 in
set_option maxHeartbeats 4000000 in
theorem j_Take (O : World) (F : Fz) (j : Nat) (bf : Bf) (hs : List Hf) (v : Value) (p : List UInt8) (Fr : List Ent) (hok : bf.ok hs.length) (hhs : ∀ h ∈ hs, h.ok F) (hn : hs.length ≤ 16) (hv : SlB F [] v p) (hl : p.length ≤ 140737488350000)
    (hat : (readB p).1 = 0 → (readB p).2.2.1 < (readB p).2.2.2.1 ∧ (readB p).2.2.2.1 < 65536 ∧ (readB p).2.1 < 18446744073709551616 ∧ (readB p).2.2.2.2.length ≤ 4096) :
    Does Try.prog O 18 #[ptrV j, v] F (JH j bf hs Fr)
      (fun r F' H' => F.le F' ∧ ∃ (hs' : List Hf) (bf' : Bf) (rv : Value), r = .tuple #[rv, .bool (joinT (hs.map Hf.abs) p).2.isSome] ∧ SlB F' [] rv ((joinT (hs.map Hf.abs) p).2.getD []) ∧ hs'.map Hf.abs = (joinT (hs.map Hf.abs) p).1 ∧ (∀ h ∈ hs', h.ok F') ∧ bf'.ok hs'.length ∧ hs'.length ≤ 16 ∧ H' = JH j bf' hs' Fr) := by
  obtain ⟨a0, cap, rfl, hcap⟩ := Sl.shape hv
  refine does_of_run (args := [_, _]) Try.func18 rfl rfl ?_
  refine r_seq ?_
  refine r_region rfl ?_
  refine o_val rfl rfl rfl rfl (v_assign rfl) ?_
  refine o_val rfl rfl rfl rfl (v_assign rfl) ?_
  refine o_end ?_
  refine r_seq ?_
  refine r_region rfl ?_
  refine o_val rfl rfl rfl rfl (v_move rfl) ?_
  refine o_call rfl rfl rfl rfl (c_call callable17 rfl) (fr_Read _ _ _ p _ hv hl) ?_
  rintro v' F2 H' ⟨hF2, rfl, dv, rfl, hdv⟩ _
  obtain ⟨ad, cd, rfl, _⟩ := Sl.shape hdv
  have hjT : (readB p).1 ≠ 0 → joinT (hs.map Hf.abs) p = (hs.map Hf.abs, none) := fun h => by unfold joinT; rw [if_pos h]
  have hjT2 : (readB p).1 = 0 → joinT (hs.map Hf.abs) p = if (hs.map Hf.abs).findIdx (fun h => h.is (readB p).2.1 (readB p).2.2.2.1) < (hs.map Hf.abs).length then joinAt (hs.map Hf.abs) ((hs.map Hf.abs).findIdx fun h => h.is (readB p).2.1 (readB p).2.2.2.1) (readB p).2.2.1 (readB p).2.2.2.2
      else joinAt ((if 16 ≤ (hs.map Hf.abs).length then (hs.map Hf.abs).drop 1 else hs.map Hf.abs) ++ [⟨(readB p).2.1, (readB p).2.2.2.1, List.replicate (readB p).2.2.2.1 none⟩]) (if 16 ≤ (hs.map Hf.abs).length then (hs.map Hf.abs).drop 1 else hs.map Hf.abs).length (readB p).2.2.1 (readB p).2.2.2.2 := fun h => by
    unfold joinT; rw [if_neg (by omega)]
  generalize joinT (hs.map Hf.abs) p = JT at *
  generalize (readB p).2.2.2.2 = d at *
  generalize (readB p).2.2.2.1 = o at *
  generalize (readB p).2.2.1 = a at *
  generalize (readB p).2.1 = id at *
  generalize (readB p).1 = e at *
  have hhs2 : ∀ h ∈ hs, h.ok F2 := fun h hh => (hhs h hh).frz hF2
  refine o_val rfl rfl rfl rfl (v_move rfl) ?_
  refine o_val rfl rfl rfl rfl (v_extract rfl rfl) ?_
  refine o_val rfl rfl rfl rfl (v_extract rfl rfl) ?_
  refine o_act rfl rfl rfl rfl (a_alloc rfl) ?_
  rintro v' H' ⟨x, rfl, rfl⟩
  refine o_act0 rfl rfl rfl (a_store (sz := 4) 0 rfl rfl rfl rfl rfl rfl (Nat.le_of_ble_eq_true rfl)) ?_
  obtain ⟨X, hX⟩ : ∃ X : Ent, X = .mem x [.int .u64 id, .int .i64 a, .int .i64 o, .slice ad d.length cd] 4 := ⟨_, rfl⟩
  have hcx : ∀ F H j c, X ∈ H → [Value.int .u64 id, .int .i64 a, .int .i64 o, .slice ad d.length cd][j]? = some c → Cell F H x (0 + j) c := fun F H j c hm hc => by
    rw [hX] at hm
    rw [Nat.zero_add]
    exact cell_own hm hc
  refine j_heap (H' := X :: JE j bf hs.length :: (bf.ents 4 (hfV hs) ++ (hs.map Hf.blk ++ Fr))) (by rw [hX]; rfl) ?_
  refine o_val rfl rfl rfl rfl (v_assign rfl) ?_
  refine o_end ?_
  refine r_seq ?_
  refine r_seq ?_
  refine r_region rfl ?_
  refine o_val rfl rfl rfl rfl (v_move rfl) ?_
  refine o_val rfl rfl rfl rfl (v_peqnil rfl rfl rfl) ?_
  refine o_val rfl rfl rfl rfl (v_move rfl) ?_
  refine o_val rfl rfl rfl rfl (v_move rfl) ?_
  refine o_val rfl rfl rfl rfl (v_neq rfl rfl) ?_
  refine o_val rfl rfl rfl rfl (v_pick0 rfl rfl) ?_
  refine o_end ?_
  refine r_if rfl (fun h => ?_) (fun h => ?_)
  · refine j_drop (List.sublist_cons_self _ _) ?_
    rw [hjT (by omega)]
    refine r_seq ?_
    refine r_region rfl ?_
    refine o_val rfl rfl rfl rfl (v_assign rfl) ?_
    refine o_val rfl rfl rfl rfl (v_assign rfl) ?_
    refine o_end ?_
    exact r_ret2 Try.func18 rfl rfl rfl ⟨⟨hF2, hs, bf, _, rfl, Sl.nil _ _ _, rfl, hhs2, hok, hn, rfl⟩, hF2⟩
  · obtain rfl : e = 0 := by omega
    obtain ⟨hao, ho, hid, hdl⟩ := hat rfl
    have hJT := hjT2 rfl
    clear hjT hjT2 hat
    have hfi : (hs.map Hf.abs).findIdx (fun h => h.is id o) = hs.findIdx (fun h => h.abs.is id o) := by
      rw [List.findIdx_map]; rfl
    rw [hfi, List.length_map] at hJT
    refine j_sel (H' := JE j bf hs.length :: (bf.ents 4 (hfV hs) ++ (hs.map Hf.blk ++ (X :: (Fr))))) [[X], [JE j bf hs.length], bf.ents 4 (hfV hs), hs.map Hf.blk, Fr] [1, 2, 3, 0, 4] rfl rfl rfl ?_
    refine r_skip ?_
    refine r_seq ?_
    refine r_region rfl ?_
    refine o_val rfl rfl rfl rfl (v_move rfl) ?_
    refine o_val rfl rfl rfl rfl (v_nilCheck rfl) ?_
    refine o_val rfl rfl rfl rfl (v_field (k := 0) rfl rfl rfl) ?_
    refine o_val rfl rfl rfl rfl (v_load rfl rfl (cell_at (j := 0) rfl rfl)) ?_
    refine o_val rfl rfl rfl rfl (v_makeFunc (first := []) (cap := [.tmp 6]) rfl rfl) ?_
    refine o_call rfl rfl rfl rfl (c_call callable34 rfl) (j_Index _ _ _ hs x id a o (.slice ad d.length cd) _ (Bf.reads (bf := bf) (sz := 4) hok (vec_len Hf.cells_len hs) (by intro q hq; simp [hq])) (by rw [← hX]; simp) (by omega)) ?_
    rintro v' F2 H' ⟨⟨n, rfl, hn1, hn2⟩, rfl, rfl⟩ _
    refine o_val rfl rfl rfl rfl (v_assign rfl) ?_
    refine o_end ?_
    refine r_seq ?_
    refine r_join (fun g : TG => (∀ h ∈ g.hs, h.ok F2) ∧ g.hs.length ≤ g.c ∧ g.hs.length ≤ 16 ∧ ∃ hi : g.i < g.hs.length, g.hs[g.i].of = o ∧ JT = joinAt (g.hs.map Hf.abs) g.i a d) (fun g => [(0, ptrV j), (6, ptrV x), (8, .int .i64 g.i)]) (fun _ => F2) (fun g => JE j (.at g.b g.c) g.hs.length :: .mem g.b (hfV g.hs) (g.c * 4) :: (g.hs.map Hf.blk ++ (X :: Fr))) ?_ ?_
    · intro J
      refine r_seq ?_
      refine r_region rfl ?_
      refine o_val rfl rfl rfl rfl (v_move rfl) ?_
      refine o_val rfl rfl rfl rfl (v_lss rfl rfl) ?_
      refine o_end ?_
      refine r_if rfl (fun h5 => ?_) (fun h5 => ?_)
      · have hnf : ¬ hs.findIdx (fun h => h.abs.is id o) < hs.length := hn1.1 h5
        rw [if_neg hnf] at hJT
        clear hn2 hn1 hfi
        refine r_seq ?_
        refine r_join (fun g : List Hf × Bf => (∀ h ∈ g.1, h.ok F2) ∧ g.2.ok g.1.length ∧ g.1.length ≤ 15 ∧ g.1.map Hf.abs = if 16 ≤ hs.length then (hs.map Hf.abs).drop 1 else hs.map Hf.abs) (fun g => [(0, ptrV j), (6, ptrV x)]) (fun _ => F2) (fun g => JE j g.2 g.1.length :: (g.2.ents 4 (hfV g.1) ++ (g.1.map Hf.blk ++ (X :: Fr)))) ?_ ?_
        · intro JD
          refine r_seq ?_
          refine r_region rfl ?_
          refine o_val rfl rfl rfl rfl (v_move rfl) ?_
          refine o_val rfl rfl rfl rfl (v_nilCheck rfl) ?_
          refine o_val rfl rfl rfl rfl (v_field (k := 0) rfl rfl rfl) ?_
          refine o_val rfl rfl rfl rfl (v_load rfl rfl (cell_at (j := 0) rfl rfl)) ?_
          refine o_val rfl rfl rfl rfl (v_len rfl rfl) ?_
          refine o_val rfl rfl rfl rfl (v_geq rfl rfl) ?_
          refine o_end ?_
          refine r_if rfl (fun h6 => ?_) (fun h6 => ?_)
          · have h16 : 16 ≤ hs.length := by omega
            match hs, hok, h16, hn, hhs2, JD with
            | y :: rest, hok, h16, hn, hhs2, JD =>
              cases bf with
              | nil =>
                have : (y :: rest).length = 0 := hok
                simp at this
              | «at» b c =>
                have hokc : (y :: rest).length ≤ c := hok
                refine r_region rfl ?_
                refine o_val rfl rfl rfl rfl (v_move rfl) ?_
                refine o_val rfl rfl rfl rfl (v_move rfl) ?_
                refine o_val rfl rfl rfl rfl (v_nilCheck rfl) ?_
                refine o_val rfl rfl rfl rfl (v_field (k := 0) rfl rfl rfl) ?_
                refine o_val rfl rfl rfl rfl (v_load rfl rfl (cell_at (j := 0) rfl rfl)) ?_
                refine j_heap (H' := JE j (.at b c) (y :: rest).length :: .mem b (hfV (y :: rest)) (c * 4) :: (y.blk :: (rest.map Hf.blk ++ (X :: Fr)))) rfl ?_
                refine j_perm (.swap _ _ _) ?_
                refine o_call rfl rfl rfl rfl (c_call callable36 rfl) (sl_DeleteH _ _ b (y :: rest).length c 0 1 _ _ (by rw [vec_len Hf.cells_len]) hokc (by omega) (by simp) (by omega) (hfV_one _)) ?_
                rintro v' F2 H' ⟨rfl, rfl, rfl⟩ _
                have her : (hfV (y :: rest)).take (0 * 4) ++ (hfV (y :: rest)).drop (1 * 4) = hfV rest := by
                  have := hf_erase (y :: rest) 0 (by simp)
                  simpa using this
                have hel : 0 + ((y :: rest).length - 1) = rest.length := by simp
                rw [her, hel]
                refine o_val rfl rfl rfl rfl (v_nilCheck rfl) ?_
                refine o_val rfl rfl rfl rfl (v_field (k := 0) rfl rfl rfl) ?_
                refine o_act0 rfl rfl rfl (a_store1 1 rfl rfl rfl rfl rfl (Nat.le_of_ble_eq_true rfl)) ?_
                refine j_heap (H' := .mem b (hfV rest) (c * 4) :: JE j (.at b c) rest.length :: y.blk :: (rest.map Hf.blk ++ (X :: Fr))) rfl ?_
                refine j_sel (H' := JE j (.at b c) rest.length :: (.mem b (hfV rest) (c * 4) :: (rest.map Hf.blk ++ (X :: (Fr))))) [[.mem b (hfV rest) (c * 4)], [JE j (.at b c) rest.length], [y.blk], rest.map Hf.blk, [X], Fr] [1, 0, 3, 4, 5] rfl rfl rfl ?_
                refine o_end ?_
                refine j_keep ?_ (JD (rest, .at b c) ⟨fun h hh => hhs2 h (List.mem_cons_of_mem _ hh), by show rest.length ≤ c; simp at hokc; omega, by simp at hn; omega, by rw [if_pos h16]; rfl⟩)
                exact ⟨rfl, rfl, trivial⟩
          · refine r_skip ?_
            refine j_keep ?_ (JD (hs, bf) ⟨hhs2, hok, by dsimp only; omega, by rw [if_neg (by omega)]⟩)
            exact ⟨rfl, rfl, trivial⟩
        · rintro ⟨hs1, bf1⟩ ⟨hhs1, hok1, hn15, habs1⟩
          dsimp only at hhs1 hok1 hn15 habs1 ⊢
          rw [← habs1, List.length_map] at hJT
          obtain ⟨hN, hNe⟩ : ∃ hN : Nat → Hf, hN = fun db => ⟨id, o, 0, db, List.replicate o none⟩ := ⟨_, rfl⟩
          have hNb : ∀ db, Ent.mem db (zeros [.slice none 0 0] o) (o * 1) = (hN db).blk := fun db => by
            rw [hNe, zeros_one]
            unfold Hf.blk
            simp [cellR]
          have hNc : ∀ db, (hN db).cells = [.int .u64 id, .int .i64 o, .int .i64 (0 : Nat), .slice (some ⟨db, 0, none⟩) o o] := fun db => by rw [hNe]; rfl
          have hNo : ∀ db, (hN db).ok F2 := fun db => by
            rw [hNe]
            exact ⟨by simp, ho, hid, by simp [cntR], fun r hr => by simp at hr⟩
          have hNa : ∀ db, (hN db).abs = ⟨id, o, List.replicate o none⟩ := fun db => by rw [hNe]; simp [Hf.abs]
          have hNof : ∀ db, (hN db).of = o := fun db => by rw [hNe]
          refine r_seq ?_
          refine d_region 17 rfl ([JE j bf1 hs1.length, X]) ?_
          refine d_take (i := 0) rfl rfl rfl (by decide +kernel) (by decide +kernel) (by decide +kernel) (Fz.le_refl _) (by intro q hq; simp only [List.mem_cons, List.not_mem_nil, or_false] at hq; rcases hq with rfl | rfl <;> simp) rfl (v_move rfl) ?_
          refine d_take (i := 1) rfl rfl rfl (by decide +kernel) (by decide +kernel) (by decide +kernel) (Fz.le_refl _) (by intro q hq; simp only [List.mem_cons, List.not_mem_nil, or_false] at hq; rcases hq with rfl | rfl <;> simp) rfl (v_move rfl) ?_
          refine d_take (i := 2) rfl rfl rfl (by decide +kernel) (by decide +kernel) (by decide +kernel) (Fz.le_refl _) (by intro q hq; simp only [List.mem_cons, List.not_mem_nil, or_false] at hq; rcases hq with rfl | rfl <;> simp) rfl (v_nilCheck rfl) ?_
          refine d_take (i := 3) rfl rfl rfl (by decide +kernel) (by decide +kernel) (by decide +kernel) (Fz.le_refl _) (by intro q hq; simp only [List.mem_cons, List.not_mem_nil, or_false] at hq; rcases hq with rfl | rfl <;> simp) rfl (v_field (k := 0) rfl rfl rfl) ?_
          refine d_take (i := 4) rfl rfl rfl (by decide +kernel) (by decide +kernel) (by decide +kernel) (Fz.le_refl _) (by intro q hq; simp only [List.mem_cons, List.not_mem_nil, or_false] at hq; rcases hq with rfl | rfl <;> simp) rfl (v_load rfl rfl (cell_at (j := 0) rfl rfl)) ?_
          refine d_take (i := 5) rfl rfl rfl (by decide +kernel) (by decide +kernel) (by decide +kernel) (Fz.le_refl _) (by intro q hq; simp only [List.mem_cons, List.not_mem_nil, or_false] at hq; rcases hq with rfl | rfl <;> simp) rfl (v_field (k := 0) rfl rfl rfl) ?_
          refine d_take (i := 6) rfl rfl rfl (by decide +kernel) (by decide +kernel) (by decide +kernel) (Fz.le_refl _) (by intro q hq; simp only [List.mem_cons, List.not_mem_nil, or_false] at hq; rcases hq with rfl | rfl <;> simp) rfl (v_load (v := .int .u64 id) rfl rfl (hcx _ _ 0 _ (by simp) rfl)) ?_
          refine d_take (i := 7) rfl rfl rfl (by decide +kernel) (by decide +kernel) (by decide +kernel) (Fz.le_refl _) (by intro q hq; simp only [List.mem_cons, List.not_mem_nil, or_false] at hq; rcases hq with rfl | rfl <;> simp) rfl (v_field (k := 2) rfl rfl rfl) ?_
          refine d_take (i := 8) rfl rfl rfl (by decide +kernel) (by decide +kernel) (by decide +kernel) (Fz.le_refl _) (by intro q hq; simp only [List.mem_cons, List.not_mem_nil, or_false] at hq; rcases hq with rfl | rfl <;> simp) rfl (v_load (v := .int .i64 o) rfl rfl (hcx _ _ 2 _ (by simp) rfl)) ?_
          refine d_take (i := 9) rfl rfl rfl (by decide +kernel) (by decide +kernel) (by decide +kernel) (Fz.le_refl _) (by intro q hq; simp only [List.mem_cons, List.not_mem_nil, or_false] at hq; rcases hq with rfl | rfl <;> simp) rfl (v_field (k := 2) rfl rfl rfl) ?_
          refine d_take (i := 10) rfl rfl rfl (by decide +kernel) (by decide +kernel) (by decide +kernel) (Fz.le_refl _) (by intro q hq; simp only [List.mem_cons, List.not_mem_nil, or_false] at hq; rcases hq with rfl | rfl <;> simp) rfl (v_load (v := .int .i64 o) rfl rfl (hcx _ _ 2 _ (by simp) rfl)) ?_
          refine d_one (i := 11) (by decide +kernel) ?_
          refine d1_act rfl rfl rfl rfl (a_make (zc := [.slice none 0 0]) (bytes := 24) (l := o) (c := o) ⟨⟨_, _, _, rfl, rfl, rfl, rfl, rfl, rfl⟩, by decide⟩ rfl rfl rfl rfl (Nat.le_refl _) (by omega) (by omega)) ?_
          rintro v' H' ⟨db, rfl, rfl⟩
          refine ⟨fun w hw => held_of hw (by first | exact Fz.le_refl _ | assumption) (by intro q hq; simp only [List.mem_cons, List.not_mem_nil, or_false] at hq; rcases hq with rfl | rfl <;> simp), ?_⟩
          refine j_heap (H' := (hN db).blk :: JE j bf1 hs1.length :: (bf1.ents 4 (hfV hs1) ++ (hs1.map Hf.blk ++ (X :: Fr)))) (by rw [← hNb]; rfl) ?_
          refine d_take (i := 12) rfl rfl rfl (by decide +kernel) (by decide +kernel) (by decide +kernel) (Fz.le_refl _) (by intro q hq; simp only [List.mem_cons, List.not_mem_nil, or_false] at hq; rcases hq with rfl | rfl <;> simp) rfl (v_build rfl rfl) ?_
          refine d_one (i := 13) (by decide +kernel) ?_
          refine d1_act rfl rfl rfl rfl (a_buildS (sz := 4) (cs := [.int .u64 id, .int .i64 o, .int .i64 0, .slice (some ⟨db, 0, none⟩) o o]) [.tmp 56] rfl rfl rfl rfl rfl rfl rfl rfl rfl rfl) ?_
          rintro v' H' ⟨y, rfl, rfl⟩
          refine ⟨fun w hw => held_of hw (by first | exact Fz.le_refl _ | assumption) (by intro q hq; simp only [List.mem_cons, List.not_mem_nil, or_false] at hq; rcases hq with rfl | rfl <;> simp), ?_⟩
          refine j_heap (H' := .mem y (hN db).cells 4 :: (hN db).blk :: JE j bf1 hs1.length :: (bf1.ents 4 (hfV hs1) ++ (hs1.map Hf.blk ++ (X :: Fr)))) (by rw [hNc]; rfl) ?_
          refine d_one (i := 14) (by decide +kernel) ?_
          refine d1_act rfl rfl rfl rfl (a_appendP (bf := bf1) (n := hs1.length) (m := 1) (ys := (hN db).cells) (sz := 4) (bytes := 48) [.mem y (hN db).cells 4, (hN db).blk, JE j bf1 hs1.length] ⟨⟨_, _, _, rfl, rfl, rfl, rfl, rfl, rfl⟩, by decide⟩ rfl hok1 (vec_len Hf.cells_len hs1) rfl rfl ⟨_, 1, rfl, by rw [Hf.cells_len], Nat.le_refl _, by simp, fun j c hj => ⟨y, 0, rfl, cell_own (cs := (hN db).cells) (n := 4) (List.mem_cons_self ..) (by simpa using hj)⟩⟩ ((hN db).cells_one) (by unfold maxLen; omega) (by omega)) ?_
          rintro v' H' ⟨bf2, rfl, hok2, rfl⟩
          refine ⟨fun w hw => held_of hw (by first | exact Fz.le_refl _ | assumption) (by intro q hq; simp only [List.mem_cons, List.not_mem_nil, or_false] at hq; rcases hq with rfl | rfl <;> simp), ?_⟩
          have hap : hfV hs1 ++ (hN db).cells = hfV (hs1 ++ [hN db]) := by simp [hfV]
          have hle1 : hs1.length + 1 = (hs1 ++ [hN db]).length := by simp
          rw [hap]
          rw [hle1] at hok2 ⊢
          have hsub : ((hs1 ++ [hN db]).length : Int) - 1 = hs1.length := by simp
          cases bf2 with
          | nil =>
            have : (hs1 ++ [hN db]).length = 0 := hok2
            simp at this
          | «at» b c =>
            refine d_take (i := 15) rfl rfl rfl (by decide +kernel) (by decide +kernel) (by decide +kernel) (Fz.le_refl _) (by intro q hq; simp only [List.mem_cons, List.not_mem_nil, or_false] at hq; rcases hq with rfl | rfl <;> simp) rfl (v_nilCheck rfl) ?_
            refine d_take (i := 16) rfl rfl rfl (by decide +kernel) (by decide +kernel) (by decide +kernel) (Fz.le_refl _) (by intro q hq; simp only [List.mem_cons, List.not_mem_nil, or_false] at hq; rcases hq with rfl | rfl <;> simp) rfl (v_field (k := 0) rfl rfl rfl) ?_
            refine d_one (i := 17) (by decide +kernel) ?_
            refine d1_last 1000000 ([]) rfl rfl rfl (a_store1 2 rfl rfl rfl rfl rfl (Nat.le_of_ble_eq_true rfl)) ?_
            refine j_heap (H' := .mem y (hN db).cells 4 :: (hN db).blk :: JE j (.at b c) (hs1 ++ [hN db]).length :: .mem b (hfV (hs1 ++ [hN db])) (c * 4) :: (hs1.map Hf.blk ++ (X :: Fr))) rfl ?_
            refine j_sel (H' := JE j (.at b c) (hs1 ++ [hN db]).length :: (.mem b (hfV (hs1 ++ [hN db])) (c * 4) :: (hs1.map Hf.blk ++ ((hN db).blk :: (X :: (Fr)))))) [[.mem y (hN db).cells 4], [(hN db).blk], [JE j (.at b c) (hs1 ++ [hN db]).length], [.mem b (hfV (hs1 ++ [hN db])) (c * 4)], hs1.map Hf.blk, [X], Fr] [2, 3, 4, 1, 5, 6] rfl rfl rfl ?_
            refine j_heap (H' := JE j (.at b c) (hs1 ++ [hN db]).length :: .mem b (hfV (hs1 ++ [hN db])) (c * 4) :: ((hs1 ++ [hN db]).map Hf.blk ++ (X :: Fr))) (by simp) ?_
            refine d_end (by decide +kernel) ?_
            refine r_region rfl ?_
            refine o_val rfl rfl rfl rfl (v_move rfl) ?_
            refine o_val rfl rfl rfl rfl (v_nilCheck rfl) ?_
            refine o_val rfl rfl rfl rfl (v_field (k := 0) rfl rfl rfl) ?_
            refine o_val rfl rfl rfl rfl (v_load rfl rfl (cell_at (j := 0) rfl rfl)) ?_
            refine o_val rfl rfl rfl rfl (v_len rfl rfl) ?_
            refine o_val rfl rfl rfl rfl (v_sub rfl rfl (r := (hs1.length : Int)) (by rw [hsub]; exact wrap_i64 (by omega) (by omega))) ?_
            refine o_val rfl rfl rfl rfl (v_assign rfl) ?_
            refine o_end ?_
            refine j_keep ?_ (J ⟨hs1 ++ [hN db], c, b, hs1.length⟩ ⟨fun h hh => ?_, hok2, by dsimp only; omega, by dsimp only; omega, ?_, ?_⟩)
            · exact ⟨rfl, rfl, rfl, trivial⟩
            · rcases List.mem_append.1 hh with hh | hh
              · exact hhs1 h hh
              · rw [List.mem_singleton.1 hh]; exact hNo db
            · simp [hNof]
            · rw [hJT, List.map_append, List.map_cons, List.map_nil, hNa]
      · have hfnd : hs.findIdx (fun h => h.abs.is id o) < hs.length := Classical.byContradiction fun hh => h5 (hn1.2 hh)
        have hne := hn2 hfnd
        rw [if_pos hfnd] at hJT
        have hp := List.findIdx_getElem (w := hfnd)
        generalize hs.findIdx (fun h => h.abs.is id o) = i at *
        have hpo : hs[i].of = o := by
          unfold HP.is at hp
          simp only [Bool.and_eq_true, decide_eq_true_eq] at hp
          exact hp.2
        cases bf with
        | nil =>
          have : hs.length = 0 := hok
          omega
        | «at» b c =>
          subst hne
          refine r_skip ?_
          refine j_keep ?_ (J ⟨hs, c, b, i⟩ ⟨hhs2, hok, hn, hfnd, hpo, hJT⟩)
          exact ⟨rfl, rfl, rfl, trivial⟩
    · clear hJT hfi hn1 hn2 hn hhs2 hok hhs
      rintro ⟨hs, c, b, i⟩ ⟨hhs2, hokc, hn, hi, hof, hJT⟩
      dsimp only at hhs2 hokc hn hi hof hJT ⊢
      have hhi := hhs2 hs[i] (List.getElem_mem _)
      have hie : joinAt (hs.map Hf.abs) i a d = if (putO (absR hs[i].rows) a d).any Option.isNone then ((hs.map Hf.abs).set i ⟨hs[i].id, hs[i].of, putO (absR hs[i].rows) a d⟩, none) else ((hs.map Hf.abs).eraseIdx i, some ((putO (absR hs[i].rows) a d).flatMap fun r => r.getD [])) := by
        unfold joinAt
        rw [List.getElem?_map, List.getElem?_eq_getElem hi]
        rfl
      rw [hie] at hJT
      clear hie
      rw [blk_split hs i hi]
      have hc0 : ∀ F H j v, Ent.mem b (hfV hs) (c * 4) ∈ H → hs[i].cells[j]? = some v → Cell F H b (i * 4 + j) v := fun F H j v hm hv => vec_cell Hf.cells_len hm i hi j v hv
      have hset := fun (g : Hf) => blk_set hs i hi g
      have hvs : ∀ (g : Hf) (v : Value), g.cells = hs[i].cells.set 2 v → (hfV hs).set (i * 4 + 2) v = hfV (hs.set i g) := fun g v hg => vec_set Hf.cells_len hs i 2 hi (by decide) g v hg
      have hself : hs.set i hs[i] = hs := List.set_getElem_self hi
      have hrl := hhi.len
      obtain ⟨T1, hT1⟩ : ∃ T1, T1 = (hs.take i).map Hf.blk := ⟨_, rfl⟩
      obtain ⟨D1, hD1⟩ : ∃ D1, D1 = (hs.drop (i + 1)).map Hf.blk := ⟨_, rfl⟩
      have hlb : (hfV hs).length = hs.length * 4 := vec_len Hf.cells_len hs
      rw [← hT1, ← hD1]
      refine j_heap (H' := JE j (.at b c) hs.length :: .mem b (hfV hs) (c * 4) :: (T1 ++ (hs[i].blk :: (D1 ++ (X :: Fr))))) (by simp) ?_
      refine j_sel (H' := hs[i].blk :: (.mem b (hfV hs) (c * 4) :: (JE j (.at b c) hs.length :: (X :: (T1 ++ (D1 ++ (Fr))))))) [[JE j (.at b c) hs.length], [.mem b (hfV hs) (c * 4)], T1, [hs[i].blk], D1, [X], Fr] [3, 1, 0, 5, 2, 4, 6] rfl rfl rfl ?_
      have hcell := hc0
      refine r_seq ?_
      refine r_region rfl ?_
      refine o_val rfl rfl rfl rfl (v_move rfl) ?_
      refine o_val rfl rfl rfl rfl (v_nilCheck rfl) ?_
      refine o_val rfl rfl rfl rfl (v_field (k := 0) rfl rfl rfl) ?_
      refine o_val rfl rfl rfl rfl (v_load rfl rfl (cell_at (j := 2) rfl rfl)) ?_
      refine o_val rfl rfl rfl rfl (v_move rfl) ?_
      refine o_val rfl rfl rfl rfl (v_indexN (sz := 4) rfl rfl rfl rfl hi) ?_
      refine o_val rfl rfl rfl rfl (v_assign rfl) ?_
      refine o_end ?_
      refine r_seq ?_
      refine r_join (fun g : Hf × Fz => F2.le g.2 ∧ g.1.ok g.2 ∧ g.1.id = hs[i].id ∧ g.1.of = hs[i].of ∧ absR g.1.rows = putO (absR hs[i].rows) a d) (fun g => [(0, ptrV j), (8, .int .i64 i), (9, .pointer (some ⟨b, 0 + i * 4, none⟩))]) (fun g => g.2) (fun g => g.1.blk :: .mem b (hfV (hs.set i g.1)) (c * 4) :: JE j (.at b c) hs.length :: X :: (T1 ++ (D1 ++ Fr))) ?_ ?_
      · intro JC
        have hal : a < hs[i].rows.length := by omega
        have hrc : ∀ F H v, hs[i].blk ∈ H → (hs[i].rows.map cellR)[a]? = some v → Cell F H hs[i].b (0 + a) v := fun F H v hm hv => by
          rw [Nat.zero_add]
          exact cell_own hm hv
        rcases hra : hs[i].rows[a]? with _ | _ | r
        · rw [List.getElem?_eq_getElem hal] at hra; cases hra
        · -- it isn't there yet
          have hhole : isHole hs[i].rows a = true := isHole_get.2 hra
          have hcnt := cntR_set (x := (.slice none 0 0, d)) hra
          refine r_seq ?_
          refine d_region 1000000 rfl ([hs[i].blk, .mem b (hfV hs) (c * 4), X]) ?_
          refine d_take (i := 0) rfl rfl rfl (by decide +kernel) (by decide +kernel) (by decide +kernel) (Fz.le_refl _) (by simp) rfl (v_move rfl) ?_
          refine d_take (i := 1) rfl rfl rfl (by decide +kernel) (by decide +kernel) (by decide +kernel) (Fz.le_refl _) (by simp) rfl (v_nilCheck rfl) ?_
          refine d_take (i := 2) rfl rfl rfl (by decide +kernel) (by decide +kernel) (by decide +kernel) (Fz.le_refl _) (by simp) rfl (v_field (k := 3) rfl rfl rfl) ?_
          refine d_take (i := 3) rfl rfl rfl (by decide +kernel) (by decide +kernel) (by decide +kernel) (Fz.le_refl _) (by simp) rfl (v_load (v := .slice (some ⟨hs[i].b, 0, none⟩) hs[i].of hs[i].of) rfl rfl ((hc0 _ _ 3 _ (by simp) rfl).at0)) ?_
          refine d_take (i := 4) rfl rfl rfl (by decide +kernel) (by decide +kernel) (by decide +kernel) (Fz.le_refl _) (by simp) rfl (v_field (k := 1) rfl rfl rfl) ?_
          refine d_take (i := 5) rfl rfl rfl (by decide +kernel) (by decide +kernel) (by decide +kernel) (Fz.le_refl _) (by simp) rfl (v_load (v := .int .i64 a) rfl rfl (hcx _ _ 1 _ (by simp) rfl)) ?_
          refine d_take (i := 6) rfl rfl rfl (by decide +kernel) (by decide +kernel) (by decide +kernel) (Fz.le_refl _) (by simp) rfl (v_index1 rfl rfl rfl rfl (by omega)) ?_
          refine d_take (i := 7) rfl rfl rfl (by decide +kernel) (by decide +kernel) (by decide +kernel) (Fz.le_refl _) (by simp) rfl (v_load rfl rfl (hrc _ _ _ (by simp) (by rw [List.getElem?_map, hra]; rfl))) ?_
          refine d_take (i := 8) rfl rfl rfl (by decide +kernel) (by decide +kernel) (by decide +kernel) (Fz.le_refl _) (by simp) rfl (v_slnil rfl rfl rfl) ?_
          refine d_end (by decide +kernel) ?_
          refine r_true rfl ?_
          refine r_seq ?_
          refine d_region 11 rfl ([hs[i].blk, .mem b (hfV hs) (c * 4), X]) ?_
          refine d_take (i := 0) rfl rfl rfl (by decide +kernel) (by decide +kernel) (by decide +kernel) (Fz.le_refl _) (by simp) rfl (v_move rfl) ?_
          refine d_take (i := 1) rfl rfl rfl (by decide +kernel) (by decide +kernel) (by decide +kernel) (Fz.le_refl _) (by simp) rfl (v_nilCheck rfl) ?_
          refine d_take (i := 2) rfl rfl rfl (by decide +kernel) (by decide +kernel) (by decide +kernel) (Fz.le_refl _) (by simp) rfl (v_field (k := 3) rfl rfl rfl) ?_
          refine d_take (i := 3) rfl rfl rfl (by decide +kernel) (by decide +kernel) (by decide +kernel) (Fz.le_refl _) (by simp) rfl (v_load (v := .slice (some ⟨hs[i].b, 0, none⟩) hs[i].of hs[i].of) rfl rfl ((hc0 _ _ 3 _ (by simp) rfl).at0)) ?_
          refine d_take (i := 4) rfl rfl rfl (by decide +kernel) (by decide +kernel) (by decide +kernel) (Fz.le_refl _) (by simp) rfl (v_field (k := 1) rfl rfl rfl) ?_
          refine d_take (i := 5) rfl rfl rfl (by decide +kernel) (by decide +kernel) (by decide +kernel) (Fz.le_refl _) (by simp) rfl (v_load (v := .int .i64 a) rfl rfl (hcx _ _ 1 _ (by simp) rfl)) ?_
          refine d_take (i := 7) rfl rfl rfl (by decide +kernel) (by decide +kernel) (by decide +kernel) (Fz.le_refl _) (by simp) rfl (v_field (k := 3) rfl rfl rfl) ?_
          refine d_take (i := 8) rfl rfl rfl (by decide +kernel) (by decide +kernel) (by decide +kernel) (Fz.le_refl _) (by simp) rfl (v_load (v := .slice ad d.length cd) rfl rfl (hcx _ _ 3 _ (by simp) rfl)) ?_
          refine d_one (i := 6) (by decide +kernel) ?_
          refine d1_act rfl rfl rfl rfl (a_buildS0 rfl rfl) ?_
          rintro v' H' ⟨z, rfl, rfl⟩
          refine ⟨fun w hw => held_of hw (by first | exact Fz.le_refl _ | assumption) (by simp), ?_⟩
          refine d_one (i := 9) (by decide +kernel) ?_
          refine d1_act rfl rfl rfl rfl (a_appendAt [] (b0 := z) (c0 := 0) (n := 0) (m := d.length) (sz := 1) (bytes := 1) (xs := []) ⟨⟨_, _, _, rfl, rfl, rfl, rfl, rfl, rfl⟩, by decide⟩ rfl (Nat.le_refl _) rfl rfl rfl (hdv.frz (Fz.le_refl _)) (bytes_one d) (by unfold maxLen; omega) (by omega)) ?_
          rintro v' H' ⟨b2, c2, rfl, hc2, rfl⟩
          refine ⟨fun w hw => held_of hw (by first | exact Fz.le_refl _ | assumption) (by simp), ?_⟩
          rw [Nat.zero_add] at hc2 ⊢
          refine j_heap (H' := (Bf.at b2 c2).ents 1 (bytesV d) ++ (hs[i].blk :: .mem b (hfV hs) (c * 4) :: JE j (.at b c) hs.length :: X :: (T1 ++ (D1 ++ Fr)))) rfl ?_
          refine j_freezeBf hc2 (by simp) fun F3 hF3 hs3 => ?_
          refine d_more ([hs[i].blk, .mem b (hfV hs) (c * 4), X]) (by first | assumption | exact Fz.le_refl _) (by simp) ?_
          refine d_take (i := 10) rfl rfl rfl (by decide +kernel) (by decide +kernel) (by decide +kernel) (Fz.le_refl _) (by simp) rfl (v_index1 rfl rfl rfl rfl (by omega)) ?_
          obtain ⟨g, hg⟩ : ∃ g : Hf, g = ⟨hs[i].id, hs[i].of, hs[i].hv + 1, hs[i].b, hs[i].rows.set a (some (.slice (some ⟨b2, 0, none⟩) d.length c2, d))⟩ := ⟨_, rfl⟩
          have hgb : Ent.mem hs[i].b ((hs[i].rows.map cellR).set (0 + a) (.slice (some ⟨b2, 0, none⟩) d.length c2)) (hs[i].of * 1) = g.blk := by
            rw [hg, Nat.zero_add]
            unfold Hf.blk
            rw [List.map_set]
            rfl
          refine d_one (i := 11) (by decide +kernel) ?_
          refine d1_last 1000000 ([]) rfl rfl rfl (a_store1 0 rfl rfl rfl rfl rfl (by rw [List.length_map, Nat.zero_add]; exact hal)) ?_
          refine j_heap (H' := g.blk :: .mem b (hfV hs) (c * 4) :: JE j (.at b c) hs.length :: X :: (T1 ++ (D1 ++ Fr))) (by rw [← hgb]; rfl) ?_
          have hvi : hs[i].hv ≤ 65536 := by
            have := cntR_le hs[i].rows
            have := hhi.hv
            have := hhi.of
            omega
          refine d_end (by decide +kernel) ?_
          refine r_region rfl ?_
          refine o_val rfl rfl rfl rfl (v_move rfl) ?_
          refine o_val rfl rfl rfl rfl (v_nilCheck rfl) ?_
          refine o_val rfl rfl rfl rfl (v_field (k := 2) rfl rfl rfl) ?_
          refine o_val rfl rfl rfl rfl (v_load (v := .int .i64 hs[i].hv) rfl rfl ((hc0 _ _ 2 _ (by simp) rfl).at0)) ?_
          refine o_val rfl rfl rfl rfl (v_add rfl rfl (r := ((hs[i].hv + 1 : Nat) : Int)) (wrap_i64 (by omega) (by omega))) ?_
          refine o_val rfl rfl rfl rfl (v_nilCheck rfl) ?_
          refine o_val rfl rfl rfl rfl (v_field (k := 2) rfl rfl rfl) ?_
          refine o_act0 rfl rfl rfl (a_store1 1 rfl rfl rfl rfl rfl (by rw [hlb]; omega)) ?_
          have hmb : (hfV hs).set (0 + i * 4 + 2) (.int .i64 (hs[i].hv + 1 : Nat)) = hfV (hs.set i g) := by
            rw [Nat.zero_add]
            exact hvs g _ (by rw [hg]; rfl)
          refine j_heap (H' := g.blk :: .mem b (hfV (hs.set i g)) (c * 4) :: JE j (.at b c) hs.length :: X :: (T1 ++ (D1 ++ Fr))) (by rw [← hmb]; rfl) ?_
          refine o_end ?_
          refine j_keep ?_ (JC (g, F3) ⟨hF3, ?_, by rw [hg], by rw [hg], ?_⟩)
          · exact ⟨rfl, rfl, rfl, trivial⟩
          · rw [hg]
            refine ⟨by simp [hrl], hhi.of, hhi.id, ?_, fun r hr => ?_⟩
            · show hs[i].hv + 1 = cntR (hs[i].rows.set a (some _))
              rw [cntR_set hra, hhi.hv]
            · rcases List.mem_or_eq_of_mem_set hr with hr | hr
              · exact ((hhi.frz hF3).fz r hr)
              · cases hr
                exact ⟨hs3, ⟨_, _, _, rfl⟩, hdl⟩
          · rw [hg]
            have h1 : putO hs[i].rows a ((.slice (some ⟨b2, 0, none⟩) d.length c2, d) : Row) = hs[i].rows.set a (some (.slice (some ⟨b2, 0, none⟩) d.length c2, d)) := by unfold putO; rw [if_pos hhole]
            rw [← h1, absR_put]
        · -- it is there
          obtain ⟨hrf, ⟨ra, rl, rc, hrv⟩, _⟩ := hhi.fz r (List.mem_of_getElem? hra)
          have hhole : putO (absR hs[i].rows) a d = absR hs[i].rows := by
            unfold putO
            rw [absR_hole]
            have : isHole hs[i].rows a = false := by
              unfold isHole
              rw [hra]
            rw [this]
            rfl
          have hcr : cellR (some r) = .slice (some ra) rl rc := hrv
          refine r_seq ?_
          refine d_region 1000000 rfl ([hs[i].blk, .mem b (hfV hs) (c * 4), X]) ?_
          refine d_take (i := 0) rfl rfl rfl (by decide +kernel) (by decide +kernel) (by decide +kernel) (Fz.le_refl _) (by simp) rfl (v_move rfl) ?_
          refine d_take (i := 1) rfl rfl rfl (by decide +kernel) (by decide +kernel) (by decide +kernel) (Fz.le_refl _) (by simp) rfl (v_nilCheck rfl) ?_
          refine d_take (i := 2) rfl rfl rfl (by decide +kernel) (by decide +kernel) (by decide +kernel) (Fz.le_refl _) (by simp) rfl (v_field (k := 3) rfl rfl rfl) ?_
          refine d_take (i := 3) rfl rfl rfl (by decide +kernel) (by decide +kernel) (by decide +kernel) (Fz.le_refl _) (by simp) rfl (v_load (v := .slice (some ⟨hs[i].b, 0, none⟩) hs[i].of hs[i].of) rfl rfl ((hc0 _ _ 3 _ (by simp) rfl).at0)) ?_
          refine d_take (i := 4) rfl rfl rfl (by decide +kernel) (by decide +kernel) (by decide +kernel) (Fz.le_refl _) (by simp) rfl (v_field (k := 1) rfl rfl rfl) ?_
          refine d_take (i := 5) rfl rfl rfl (by decide +kernel) (by decide +kernel) (by decide +kernel) (Fz.le_refl _) (by simp) rfl (v_load (v := .int .i64 a) rfl rfl (hcx _ _ 1 _ (by simp) rfl)) ?_
          refine d_take (i := 6) rfl rfl rfl (by decide +kernel) (by decide +kernel) (by decide +kernel) (Fz.le_refl _) (by simp) rfl (v_index1 rfl rfl rfl rfl (by omega)) ?_
          refine d_take (i := 7) rfl rfl rfl (by decide +kernel) (by decide +kernel) (by decide +kernel) (Fz.le_refl _) (by simp) rfl (v_load rfl rfl (hrc _ _ _ (by simp) (by rw [List.getElem?_map, hra]; rfl))) ?_
          rw [hcr]
          refine d_take (i := 8) rfl rfl rfl (by decide +kernel) (by decide +kernel) (by decide +kernel) (Fz.le_refl _) (by simp) rfl (v_slnil rfl rfl rfl) ?_
          refine d_end (by decide +kernel) ?_
          refine r_false rfl ?_
          refine j_heap (H' := hs[i].blk :: .mem b (hfV (hs.set i hs[i])) (c * 4) :: JE j (.at b c) hs.length :: X :: (T1 ++ (D1 ++ Fr))) (by rw [hself]) ?_
          refine r_skip ?_
          refine j_keep ?_ (JC (hs[i], F2) ⟨Fz.le_refl _, hhi, rfl, rfl, hhole.symm⟩)
          exact ⟨rfl, rfl, rfl, trivial⟩
      · rintro ⟨g, F3⟩ ⟨hF3, hg, hgid, hgof, hgr⟩
        dsimp only at hF3 hg hgid hgof hgr ⊢
        have hgi : (hs.set i g)[i]? = some g := by rw [List.getElem?_set_self hi]
        have hgl : (hs.set i g).length = hs.length := by simp
        have hgg : (hs.set i g)[i]'(by simpa using hi) = g := by simp
        have hcg : ∀ F H j v, Ent.mem b (hfV (hs.set i g)) (c * 4) ∈ H → g.cells[j]? = some v → Cell F H b (i * 4 + j) v := fun F H j v hm hv => vec_cell Hf.cells_len hm i (by simpa using hi) j v (by rw [hgg]; exact hv)
        have hset' := hset g
        rw [← hT1, ← hD1] at hset'
        have hgo := hg.of
        have hgrl := hg.len
        have hgh := hg.hv
        have hgc := cntR_le g.rows
        have habs : (hs.map Hf.abs).set i g.abs = (hs.set i g).map Hf.abs := by rw [List.map_set]
        have hgabs : g.abs = ⟨hs[i].id, hs[i].of, putO (absR hs[i].rows) a d⟩ := by
          rw [← hgr, ← hgid, ← hgof]; rfl
        have hhs3 : ∀ h ∈ hs, h.ok F3 := fun h hh => (hhs2 h hh).frz hF3
        refine r_seq ?_
        refine r_seq ?_
        refine d_region 1000000 rfl ([g.blk, .mem b (hfV (hs.set i g)) (c * 4)]) ?_
        refine d_take (i := 0) rfl rfl rfl (by decide +kernel) (by decide +kernel) (by decide +kernel) (Fz.le_refl _) (by simp) rfl (v_move rfl) ?_
        refine d_take (i := 1) rfl rfl rfl (by decide +kernel) (by decide +kernel) (by decide +kernel) (Fz.le_refl _) (by simp) rfl (v_nilCheck rfl) ?_
        refine d_take (i := 2) rfl rfl rfl (by decide +kernel) (by decide +kernel) (by decide +kernel) (Fz.le_refl _) (by simp) rfl (v_field (k := 2) rfl rfl rfl) ?_
        refine d_take (i := 3) rfl rfl rfl (by decide +kernel) (by decide +kernel) (by decide +kernel) (Fz.le_refl _) (by simp) rfl (v_load (v := .int .i64 g.hv) rfl rfl ((hcg _ _ 2 _ (by simp) rfl).at0)) ?_
        refine d_take (i := 4) rfl rfl rfl (by decide +kernel) (by decide +kernel) (by decide +kernel) (Fz.le_refl _) (by simp) rfl (v_move rfl) ?_
        refine d_take (i := 5) rfl rfl rfl (by decide +kernel) (by decide +kernel) (by decide +kernel) (Fz.le_refl _) (by simp) rfl (v_nilCheck rfl) ?_
        refine d_take (i := 6) rfl rfl rfl (by decide +kernel) (by decide +kernel) (by decide +kernel) (Fz.le_refl _) (by simp) rfl (v_field (k := 1) rfl rfl rfl) ?_
        refine d_take (i := 7) rfl rfl rfl (by decide +kernel) (by decide +kernel) (by decide +kernel) (Fz.le_refl _) (by simp) rfl (v_load (v := .int .i64 g.of) rfl rfl ((hcg _ _ 1 _ (by simp) rfl).at0)) ?_
        refine d_take (i := 8) rfl rfl rfl (by decide +kernel) (by decide +kernel) (by decide +kernel) (Fz.le_refl _) (by simp) rfl (v_lss rfl rfl) ?_
        refine d_end (by decide +kernel) ?_
        refine r_if rfl (fun h2 => ?_) (fun h2 => ?_)
        · have hany : (putO (absR hs[i].rows) a d).any Option.isNone = true := by
            rw [← hgr, absR_none]
            exact (cntR_lt g.rows).1 (by omega)
          rw [if_pos hany, ← hgabs, habs] at hJT
          rw [hJT]
          refine j_sel (H' := JE j (.at b c) hs.length :: (.mem b (hfV (hs.set i g)) (c * 4) :: (T1 ++ (g.blk :: (D1 ++ (Fr)))))) [[g.blk], [.mem b (hfV (hs.set i g)) (c * 4)], [JE j (.at b c) hs.length], [X], T1, D1, Fr] [2, 1, 4, 0, 5, 6] rfl rfl rfl ?_
          refine j_heap (H' := JH j (.at b c) (hs.set i g) Fr) ?_ ?_
          · show _ = JE j (.at b c) (hs.set i g).length :: .mem b (hfV (hs.set i g)) (c * 4) :: ((hs.set i g).map Hf.blk ++ Fr)
            rw [hset', hgl]
            simp
          refine r_seq ?_
          refine r_region rfl ?_
          refine o_val rfl rfl rfl rfl (v_assign rfl) ?_
          refine o_val rfl rfl rfl rfl (v_assign rfl) ?_
          refine o_end ?_
          refine r_ret2 Try.func18 rfl rfl rfl ⟨⟨Fz.le_trans hF2 hF3, hs.set i g, .at b c, _, rfl, Sl.nil _ _ _, rfl, fun h hh => ?_, by rw [hgl]; exact hokc, by rw [hgl]; exact hn, rfl⟩, Fz.le_trans hF2 hF3⟩
          rcases List.mem_or_eq_of_mem_set hh with hh | rfl
          · exact hhs3 h hh
          · exact hg
        · have hany : (putO (absR hs[i].rows) a d).any Option.isNone = false := by
            rw [← hgr, absR_none]
            cases hq : g.rows.any Option.isNone with
            | false => rfl
            | true =>
              have := (cntR_lt g.rows).2 hq
              omega
          rw [if_neg (by rw [hany]; simp)] at hJT
          have hgn : g.rows.any Option.isNone = false := by rw [← absR_none, hgr]; exact hany
          obtain ⟨rs, hrs⟩ := all_some g.rows hgn
          have hrsl : rs.length = g.of := by rw [← hgrl, hrs]; simp
          have hrsf : ∀ r ∈ rs, SlB F3 [] r.1 r.2 ∧ r.2.length ≤ 4096 := fun r hr => by
            have := hg.fz r (by rw [hrs]; exact List.mem_map.2 ⟨r, hr, rfl⟩)
            exact ⟨this.1, this.2.2⟩
          have hbl := blens_bound rs 4096 fun r hr => (hrsf r hr).2
          have hbk : g.blk = .mem g.b (rs.map (·.1)) (g.of * 1) := by
            unfold Hf.blk
            rw [hrs, List.map_map]
            rfl
          have hflat : ((putO (absR hs[i].rows) a d).flatMap fun r => r.getD []) = rs.flatMap fun r => r.2 := by rw [← hgr, hrs, absR_flat]
          rw [hflat] at hJT
          rw [hJT, hbk]
          refine r_skip ?_
          refine r_seq ?_
          refine r_region rfl ?_
          refine o_val rfl rfl rfl rfl (v_move rfl) ?_
          refine o_val rfl rfl rfl rfl (v_nilCheck rfl) ?_
          refine o_val rfl rfl rfl rfl (v_field (k := 3) rfl rfl rfl) ?_
          refine o_val rfl rfl rfl rfl (v_load (v := .slice (some ⟨g.b, 0, none⟩) g.of g.of) rfl rfl ((hcg _ _ 3 _ (by simp) rfl).at0)) ?_
          rw [← hrsl]
          refine o_call rfl rfl rfl rfl (c_call callable37 rfl) (bs_Concat _ _ _ rs _ (Bf.reads (bf := .at g.b rs.length) (sz := 1) (n := rs.length) (Nat.le_refl _) (by simp) (by intro q hq; exact List.mem_append_left _ hq)) (fun r hr => (hrsf r hr).1.frz (Fz.le_refl _)) (by omega) (by omega)) ?_
          rintro v' F3 H' ⟨rfl, bo, hbo, rfl, rfl⟩ _
          refine j_freezeBf hbo (by simp) fun F4 hF4 hs4 => ?_
          refine j_heap (H' := .mem g.b (rs.map (·.1)) (rs.length * 1) :: .mem b (hfV (hs.set i g)) (c * 4) :: JE j (.at b c) hs.length :: X :: (T1 ++ (D1 ++ Fr))) rfl ?_
          refine j_sel (H' := .mem b (hfV (hs.set i g)) (c * 4) :: (JE j (.at b c) hs.length :: (T1 ++ (D1 ++ (Fr))))) [[.mem g.b (rs.map (·.1)) (rs.length * 1)], [.mem b (hfV (hs.set i g)) (c * 4)], [JE j (.at b c) hs.length], [X], T1, D1, Fr] [1, 2, 4, 5, 6] rfl rfl rfl ?_
          refine o_val rfl rfl rfl rfl (v_assign rfl) ?_
          refine o_end ?_
          refine r_seq ?_
          refine r_region rfl ?_
          refine o_val rfl rfl rfl rfl (v_move rfl) ?_
          refine o_val rfl rfl rfl rfl (v_move rfl) ?_
          refine o_val rfl rfl rfl rfl (v_nilCheck rfl) ?_
          refine o_val rfl rfl rfl rfl (v_field (k := 0) rfl rfl rfl) ?_
          refine o_val rfl rfl rfl rfl (v_load rfl rfl (cell_at (j := 1) rfl rfl)) ?_
          refine o_val rfl rfl rfl rfl (v_move rfl) ?_
          refine o_val rfl rfl rfl rfl (v_move rfl) ?_
          refine o_val rfl rfl rfl rfl (v_add rfl rfl (r := ((i + 1 : Nat) : Int)) (wrap_i64 (by omega) (by omega))) ?_
          refine o_call rfl rfl rfl rfl (c_call callable36 rfl) (sl_DeleteH _ _ b hs.length c i (i + 1) _ _ (by rw [vec_len Hf.cells_len, hgl]) hokc (by omega) (by omega) (by omega) (hfV_one _)) ?_
          rintro v' F4 H' ⟨rfl, rfl, rfl⟩ _
          have her : (hfV (hs.set i g)).take (i * 4) ++ (hfV (hs.set i g)).drop ((i + 1) * 4) = hfV (hs.eraseIdx i) := by
            rw [hf_erase _ i (by simpa using hi)]
            congr 1
            rw [List.eraseIdx_set_eq]
          have hel : (hs.eraseIdx i).length = i + (hs.length - (i + 1)) := by rw [List.length_eraseIdx_of_lt hi]; omega
          have hbe : (hs.eraseIdx i).map Hf.blk = T1 ++ D1 := by rw [blk_erase, hT1, hD1]
          rw [her, ← hel]
          refine o_val rfl rfl rfl rfl (v_nilCheck rfl) ?_
          refine o_val rfl rfl rfl rfl (v_field (k := 0) rfl rfl rfl) ?_
          refine o_act0 rfl rfl rfl (a_store1 1 rfl rfl rfl rfl rfl (Nat.le_of_ble_eq_true rfl)) ?_
          refine j_heap (H' := .mem b (hfV (hs.eraseIdx i)) (c * 4) :: JE j (.at b c) (hs.eraseIdx i).length :: (T1 ++ (D1 ++ Fr))) rfl ?_
          refine j_perm (.swap _ _ _) ?_
          refine j_heap (H' := JH j (.at b c) (hs.eraseIdx i) Fr) ?_ ?_
          · show _ = JE j (.at b c) (hs.eraseIdx i).length :: .mem b (hfV (hs.eraseIdx i)) (c * 4) :: ((hs.eraseIdx i).map Hf.blk ++ Fr)
            rw [hbe, List.append_assoc]
          refine o_end ?_
          refine r_seq ?_
          refine r_region rfl ?_
          refine o_val rfl rfl rfl rfl (v_move rfl) ?_
          refine o_val rfl rfl rfl rfl (v_assign rfl) ?_
          refine o_val rfl rfl rfl rfl (v_assign rfl) ?_
          refine o_end ?_
          have heq : (hs.eraseIdx i).map Hf.abs = (hs.map Hf.abs).eraseIdx i := by
            rw [List.eraseIdx_eq_take_drop_succ, List.eraseIdx_eq_take_drop_succ, List.map_append, List.map_take, List.map_drop]
          exact r_ret2 Try.func18 rfl rfl rfl ⟨⟨Fz.le_trans hF2 (Fz.le_trans hF3 hF4), hs.eraseIdx i, .at b c, _, rfl, hs4, heq, fun h hh => (hhs3 h (List.mem_of_mem_eraseIdx hh)).frz hF4, by show (hs.eraseIdx i).length ≤ c; omega, by omega, rfl⟩, Fz.le_trans hF2 (Fz.le_trans hF3 hF4)⟩
end Go.SX
