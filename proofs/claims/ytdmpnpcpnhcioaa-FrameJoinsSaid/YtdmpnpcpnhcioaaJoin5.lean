/-
  The reference's joiner: Take.
-/
import Derived.Test.YtdmpnpcpnhcioaaJoin4
namespace Go.SX
open Go Go.Proofs
set_option maxRecDepth 4000
set_option linter.unusedSimpArgs false
set_option linter.unusedVariables false

structure Rm.okF (F : Fz) (g : Rm) : Prop where
  ok : g.ok
  ofb : g.of < 65536
  idb : g.id < 18446744073709551616
  fz : ∀ x ∈ g.kv, SlB F [] x.2.1 x.2.2 ∧ x.2.2.length ≤ 4096
theorem Rm.okF.frz {F F' : Fz} {g : Rm} (h : g.okF F) (hle : F.le F') : g.okF F' := ⟨h.ok, h.ofb, h.idb, fun x hx => ⟨(h.fz x hx).1.frz hle, (h.fz x hx).2⟩⟩
def Rm.cells (g : Rm) : List Value := [.int .u64 g.id, .int .i64 g.of, .map (some g.b)]
theorem Rm.cells_len (g : Rm) : g.cells.length = 3 := rfl
theorem Rm.cells_one (g : Rm) : g.cells.all oneCellB = true := rfl
def Rm.blk (g : Rm) : Ent := .obj g.b (mapObj (kvV g.kv))
abbrev rmV (l : List Rm) : List Value := l.flatMap Rm.cells
def rmD (l : List Rm) : Prop := l.Pairwise fun a b => ¬ (a.id = b.id ∧ a.of = b.of)
def Rm.isB (g : Rm) (id o : Nat) : Bool := decide (g.id = id) && decide (g.of = o)
abbrev RH (wf : Wf) (gs : List Rm) (Fr : List Ent) : List Ent := wf.ents (rmV gs) ++ (gs.map Rm.blk ++ Fr)

theorem rm_isB {g : Rm} {id o : Nat} : g.isB id o = true ↔ g.id = id ∧ g.of = o := by simp [Rm.isB]
theorem rm_last {l : List Rm} {id o : Nat} (h : rmD l) (i : Nat) (hi : i < l.length) : l[i].isB id o = true ↔ i = l.findIdx (fun g => g.isB id o) := by
  constructor
  · intro hb
    have hf : l.findIdx (fun g => g.isB id o) ≤ i := Nat.not_lt.1 fun hlt => by
      have := List.not_of_lt_findIdx hlt
      rw [hb] at this
      cases this
    rcases Nat.lt_or_eq_of_le hf with hlt | he
    · exfalso
      have hfl : l.findIdx (fun g => g.isB id o) < l.length := by omega
      have h1 := List.findIdx_getElem (w := hfl)
      have h2 := List.pairwise_iff_getElem.1 h _ i hfl hi hlt
      rw [rm_isB] at h1 hb
      exact h2 ⟨h1.1.trans hb.1.symm, h1.2.trans hb.2.symm⟩
    · exact he.symm
  · intro he
    have h1 := List.findIdx_getElem (xs := l) (p := fun g => g.isB id o) (w := by omega)
    rw [← h1]
    congr 1
    simp [← he]
theorem rmV_set (l : List Rm) (i : Nat) (hi : i < l.length) (g : Rm) (hg : g.cells = l[i].cells) : rmV (l.set i g) = rmV l := by
  unfold rmV
  rw [← vec_put Rm.cells_len l i hi g, hg, vec_put Rm.cells_len l i hi l[i], List.set_getElem_self]
theorem rmD_set {l : List Rm} (h : rmD l) (i : Nat) (hi : i < l.length) (g : Rm) (h1 : g.id = l[i].id) (h2 : g.of = l[i].of) : rmD (l.set i g) := by
  have h3 : ∀ l : List Rm, rmD l ↔ (l.map fun g => (g.id, g.of)).Pairwise (· ≠ ·) := fun l => by
    rw [List.pairwise_map]
    unfold rmD
    simp
  rw [h3] at h ⊢
  have h4 : (l.set i g).map (fun g => (g.id, g.of)) = l.map (fun g => (g.id, g.of)) := by
    rw [List.map_set, h1, h2]
    apply List.ext_getElem?
    intro j
    rw [List.getElem?_set]
    by_cases e : i = j
    · subst e
      rw [if_pos rfl, if_pos (by simpa using hi), List.getElem?_map, List.getElem?_eq_getElem hi]
      rfl
    · rw [if_neg e]
  rw [h4]
  exact h
theorem rm_split (hs : List Rm) (i : Nat) (hi : i < hs.length) : hs.map Rm.blk = (hs.take i).map Rm.blk ++ (hs[i].blk :: (hs.drop (i + 1)).map Rm.blk) := by
  rw [← List.map_cons, ← List.drop_eq_getElem_cons hi, ← List.map_append, List.take_append_drop]
theorem rm_setblk (hs : List Rm) (i : Nat) (hi : i < hs.length) (h : Rm) : (hs.set i h).map Rm.blk = (hs.take i).map Rm.blk ++ (h.blk :: (hs.drop (i + 1)).map Rm.blk) := by
  rw [List.set_eq_take_append_cons_drop, if_pos hi, List.map_append, List.map_cons]
theorem rm_erase (hs : List Rm) (i : Nat) (hi : i < hs.length) : (rmV hs).take (i * 3) ++ (rmV hs).drop ((i + 1) * 3) = rmV (hs.eraseIdx i) := by
  unfold rmV
  rw [vec_take Rm.cells_len hs i (by omega), vec_drop Rm.cells_len hs (i + 1) (by omega), ← List.flatMap_append, List.eraseIdx_eq_take_drop_succ]
theorem rm_eblk (hs : List Rm) (i : Nat) : (hs.eraseIdx i).map Rm.blk = (hs.take i).map Rm.blk ++ (hs.drop (i + 1)).map Rm.blk := by
  rw [List.eraseIdx_eq_take_drop_succ, List.map_append]
theorem rm_cell {F : Fz} {H : List Ent} {b N off : Nat} {pre : List Value} {hs : List Rm} (hp : pre.length = off) (hm : Ent.mem b (pre ++ rmV hs) N ∈ H) (i : Nat) (hi : i < hs.length) (j : Nat) (v : Value) (hv : hs[i].cells[j]? = some v) : Cell F H b (off + i * 3 + j) v := by
  have hj : j < 3 := by
    rw [← Rm.cells_len hs[i]]
    rcases Nat.lt_or_ge j hs[i].cells.length with h | h
    · exact h
    · rw [List.getElem?_eq_none h] at hv; cases hv
  refine cell_own hm ?_
  rw [List.getElem?_append_right (by omega), hp, Nat.add_assoc, Nat.add_sub_cancel_left, vec_get Rm.cells_len hs i hi j hj]
  exact hv
theorem wf_tail {wf : Wf} {n sz : Nat} {x xs : List Value} (hok : wf.ok sz (n + 1)) (hn : 1 ≤ n) (hx : x.length = sz) : ∃ wf' : Wf, wf'.ok sz n ∧ Go.sliced wf.addr 1 (n + 1) wf.cp sz = wf'.val n ∧ wf.ents (x ++ xs) = wf'.ents xs := by
  cases wf with
  | nil =>
    have : n + 1 = 0 := hok
    omega
  | «at» b off cp N pre =>
    obtain ⟨h1, h2, h3⟩ := hok
    obtain ⟨c, rfl⟩ : ∃ c, cp = c + 1 := ⟨cp - 1, by omega⟩
    have hc : ¬ c + 1 = 1 := by omega
    refine ⟨.at b (off + sz) c N (pre ++ x), ⟨by omega, ?_, by simp [h3, hx]⟩, ?_, by simp [Wf.ents]⟩
    · rw [Nat.add_mul, Nat.one_mul] at h2
      omega
    · have hadd : (⟨b, off, none⟩ : Addr).add (1 * sz) = ⟨b, off + sz, none⟩ := by
        unfold Addr.add
        split
        · rename_i h0
          have : sz = 0 := by omega
          subst this
          rfl
        · simp
      show Value.slice (if c + 1 = 1 then some ⟨b, off, none⟩ else (some (⟨b, off, none⟩ : Addr)).map (·.add (1 * sz))) (n + 1 - 1) (c + 1 - 1) = .slice (some ⟨b, off + sz, none⟩) n c
      rw [if_neg hc, Option.map_some, hadd]
      rfl
theorem kvV_append (l : List (Nat × Row)) (a : Nat) (x : Row) : kvV (l ++ [(a, x)]) = kvV l ++ [((a : Int), x.1)] := by simp [kvV]
theorem kvV_length (l : List (Nat × Row)) : (kvV l).length = l.length := by simp [kvV]
theorem lookR_mem : ∀ (l : List (Nat × Row)) (k : Nat) (x : Row), lookR l k = some x → (k, x) ∈ l
  | [], k, x, h => by simp [lookR] at h
  | y :: r, k, x, h => by
    simp only [lookR] at h
    by_cases e : y.1 = k
    · rw [if_pos e] at h
      cases h
      rw [← e]
      exact List.mem_cons_self ..
    · rw [if_neg e] at h
      exact List.mem_cons_of_mem _ (lookR_mem r k x h)
def Wf.ofBf (sz : Nat) : Bf → Wf
  | .nil => .nil
  | .at b c => .at b 0 c (c * sz) []
theorem Wf.ofBf_val (sz n : Nat) (bf : Bf) : (Wf.ofBf sz bf).val n = bf.val n := by cases bf <;> rfl
theorem Wf.ofBf_ok {sz n : Nat} {bf : Bf} (h : bf.ok n) : (Wf.ofBf sz bf).ok sz n := by
  cases bf with
  | nil => exact h
  | «at» b c => exact ⟨h, by omega, rfl⟩
theorem Wf.ofBf_ents (sz : Nat) (bf : Bf) (xs : List Value) : (Wf.ofBf sz bf).ents xs = bf.ents sz xs := by cases bf <;> rfl

section
variable {C : Cx} {k : List Item} {τ : Env} {F : Fz} {H : List Ent} {dst : Option Nat} {ty t u kt et : TypeId} {pos : String} {aft : Array Edge} {g : Option (Nat × Bool)} {x y z : Operand}
theorem v_lookup2 {b : Nat} {l : List (Int × Value)} {n : Int} {i : TypeInfo} {zv : Value} (ht : C.P.underlying t = some (.map kt et)) (hk : C.P.underlying kt = some (.int .i64)) (hi : C.P.info? et = some i) (hz : i.zero = some zv)
    (hm : Ent.obj b (mapObj l) ∈ H) (hx : ev τ x = some (.map (some b))) (hy : ev τ y = some (.int .i64 n)) {v : Value} {q : Bool} (hv : (lookKV l n).getD zv = v) (hq : (lookKV l n).isSome = q) :
    Val C ⟨dst, .lookup t x y true, ty, pos, aft, g⟩ τ F H (.tuple #[v, .bool q]) := by
  subst hv hq
  exact v_lookup true ht hk hi hz hm hx hy
theorem v_lookup1 {b : Nat} {l : List (Int × Value)} {n : Int} {i : TypeInfo} {zv : Value} (ht : C.P.underlying t = some (.map kt et)) (hk : C.P.underlying kt = some (.int .i64)) (hi : C.P.info? et = some i) (hz : i.zero = some zv)
    (hm : Ent.obj b (mapObj l) ∈ H) (hx : ev τ x = some (.map (some b))) (hy : ev τ y = some (.int .i64 n)) {v : Value} (hv : (lookKV l n).getD zv = v) :
    Val C ⟨dst, .lookup t x y false, ty, pos, aft, g⟩ τ F H v := by
  subst hv
  exact v_lookup false ht hk hi hz hm hx hy
end

structure OG where
  j : Nat
  bo : Bf
structure RG where
  hs : List Rm
  wf : Wf
  i : Nat
set_option maxRecDepth 4000 in
set_option maxHeartbeats 4000000 in
theorem ref_Take (O : World) (F : Fz) (wf : Wf) (gs : List Rm) (v : Value) (p : List UInt8) (Fr : List Ent) (e : Int) (id a o : Nat) (d : List UInt8) (hok : wf.ok 3 gs.length) (hgs : ∀ g ∈ gs, g.okF F) (hD : rmD gs) (hn : gs.length ≤ 16) (hv : SlB F [] v p)
    (hrd : ∀ Fr, Does Try.prog O 38 #[v] F Fr (fun r F' H' => F.le F' ∧ H' = Fr ∧ ∃ dv, r = .tuple #[.agg #[.int .u64 id, .int .i64 a, .int .i64 o, dv], .int .i64 e] ∧ SlB F' [] dv d))
    (hb1 : e ≠ 0 → (readB p).1 ≠ 0) (hb0 : e = 0 → readB p = (0, id, a, o, d) ∧ a < o ∧ o < 65536 ∧ id < 18446744073709551616 ∧ d.length ≤ 4096) :
    Does Try.prog O 19 #[wf.val gs.length, v] F (RH wf gs Fr)
      (fun r F' H' => F.le F' ∧ ∃ (hs' : List Rm) (wf' : Wf) (rv : Value), r = .tuple #[wf'.val hs'.length, rv, .bool (joinT (gs.map Rm.abs) p).2.isSome] ∧ SlB F' [] rv ((joinT (gs.map Rm.abs) p).2.getD []) ∧ hs'.map Rm.abs = (joinT (gs.map Rm.abs) p).1 ∧ (∀ h ∈ hs', h.okF F') ∧ rmD hs' ∧ wf'.ok 3 hs'.length ∧ hs'.length ≤ 16 ∧ H' = RH wf' hs' Fr) := by
  obtain ⟨a0, cap, rfl, hcap⟩ := Sl.shape hv
  refine does_of_run (args := [_, _]) Try.func19 rfl rfl ?_
  refine r_seq ?_
  refine r_region rfl ?_
  refine o_val rfl rfl rfl rfl (v_assign rfl) ?_
  refine o_val rfl rfl rfl rfl (v_assign rfl) ?_
  refine o_val rfl rfl rfl rfl (v_assign rfl) ?_
  refine o_end ?_
  refine r_seq ?_
  refine r_region rfl ?_
  refine o_val rfl rfl rfl rfl (v_move rfl) ?_
  refine o_call rfl rfl rfl rfl (c_call callable38 rfl) (hrd _) ?_
  rintro v' F2 H' ⟨hF2, rfl, dv, rfl, hdv⟩ _
  obtain ⟨ad, cd, rfl, _⟩ := Sl.shape hdv
  have hjT : (readB p).1 ≠ 0 → joinT (gs.map Rm.abs) p = (gs.map Rm.abs, none) := fun h => by unfold joinT; rw [if_pos h]
  have hjT2 : readB p = (0, id, a, o, d) → joinT (gs.map Rm.abs) p = if (gs.map Rm.abs).findIdx (fun h => h.is id o) < (gs.map Rm.abs).length then joinAt (gs.map Rm.abs) ((gs.map Rm.abs).findIdx fun h => h.is id o) a d
      else joinAt ((if 16 ≤ (gs.map Rm.abs).length then (gs.map Rm.abs).drop 1 else gs.map Rm.abs) ++ [⟨id, o, List.replicate o none⟩]) (if 16 ≤ (gs.map Rm.abs).length then (gs.map Rm.abs).drop 1 else gs.map Rm.abs).length a d := fun h => by
    unfold joinT; rw [h]; dsimp only; rw [if_neg (by simp)]
  generalize joinT (gs.map Rm.abs) p = JT at *
  have hgs2 : ∀ g ∈ gs, g.okF F2 := fun h hh => (hgs h hh).frz hF2
  refine o_val rfl rfl rfl rfl (v_move rfl) ?_
  refine o_val rfl rfl rfl rfl (v_extract rfl rfl) ?_
  refine o_val rfl rfl rfl rfl (v_extract rfl rfl) ?_
  refine o_act rfl rfl rfl rfl (a_alloc rfl) ?_
  rintro v' H' ⟨x, rfl, rfl⟩
  refine o_act0 rfl rfl rfl (a_store (sz := 4) 0 rfl rfl rfl rfl rfl rfl (Nat.le_of_ble_eq_true rfl)) ?_
  obtain ⟨X, hX⟩ : ∃ X : Ent, X = .mem x [.int .u64 id, .int .i64 a, .int .i64 o, .slice ad d.length cd] 4 := ⟨_, rfl⟩
  have hcx : ∀ F H j c, X ∈ H → [Value.int .u64 id, .int .i64 a, .int .i64 o, .slice ad d.length cd][j]? = some c → Cell F H x (0 + j) c := fun F H j c hm hc => by
    rw [hX] at hm
    rw [Nat.zero_add]
    exact cell_own hm hc
  refine j_heap (H' := X :: (wf.ents (rmV gs) ++ (gs.map Rm.blk ++ Fr))) (by rw [hX]; rfl) ?_
  refine o_val rfl rfl rfl rfl (v_assign rfl) ?_
  refine o_end ?_
  refine r_seq ?_
  refine r_seq ?_
  refine r_region rfl ?_
  refine o_val rfl rfl rfl rfl (v_move rfl) ?_
  refine o_val rfl rfl rfl rfl (v_neq rfl rfl) ?_
  refine o_end ?_
  refine r_if rfl (fun h => ?_) (fun h => ?_)
  · refine j_drop (List.sublist_cons_self _ _) ?_
    rw [hjT (hb1 h)]
    refine r_seq ?_
    refine r_region rfl ?_
    refine o_val rfl rfl rfl rfl (v_move rfl) ?_
    refine o_val rfl rfl rfl rfl (v_assign rfl) ?_
    refine o_val rfl rfl rfl rfl (v_assign rfl) ?_
    refine o_val rfl rfl rfl rfl (v_assign rfl) ?_
    refine o_end ?_
    exact r_ret3 Try.func19 rfl rfl rfl rfl ⟨⟨hF2, gs, wf, _, rfl, Sl.nil _ _ _, rfl, hgs2, hD, hok, hn, rfl⟩, hF2⟩
  · obtain rfl : e = 0 := Classical.not_not.1 h
    obtain ⟨hrb, hao, ho, hid, hdl⟩ := hb0 rfl
    have hJT := hjT2 hrb
    clear hjT hjT2 hb0 hb1 hrb hrd
    have hfi : (gs.map Rm.abs).findIdx (fun h => h.is id o) = gs.findIdx (fun h => h.isB id o) := by
      rw [List.findIdx_map]; rfl
    rw [hfi, List.length_map] at hJT
    have hlast := fun i hi => rm_last (id := id) (o := o) hD i hi
    have hfle := List.findIdx_le_length (xs := gs) (p := fun h => h.isB id o)
    have hfp : ∀ hf : gs.findIdx (fun h => h.isB id o) < gs.length, gs[gs.findIdx (fun h => h.isB id o)].isB id o = true := fun hf => List.findIdx_getElem (w := hf)
    generalize gs.findIdx (fun h => h.isB id o) = f at *
    refine r_skip ?_
    refine r_seq ?_
    refine r_region rfl ?_
    refine o_val rfl rfl rfl rfl (v_assign rfl) ?_
    refine o_end ?_
    refine r_seq ?_
    refine r_join (fun _ : Unit => True) (fun _ => [(0, wf.val gs.length), (7, ptrV x), (9, .int .i64 (if f < gs.length then (f : Int) else -1))]) (fun _ => F2) (fun _ => X :: (wf.ents (rmV gs) ++ (gs.map Rm.blk ++ Fr))) ?_ ?_
    · intro JL
      refine r_seq ?_
      refine r_region rfl ?_
      refine o_val rfl rfl rfl rfl (v_assign rfl) ?_
      refine o_end ?_
      refine r_block ?_
      refine r_loop (fun i : Nat => i ≤ gs.length) (fun i => [(0, wf.val gs.length), (7, ptrV x), (9, .int .i64 (if f < i then (f : Int) else -1)), (10, .int .i64 i)]) (fun _ => F2) (fun _ => X :: (wf.ents (rmV gs) ++ (gs.map Rm.blk ++ Fr))) (fun i => gs.length - i) 0 (Nat.zero_le _) ⟨rfl, rfl, rfl, rfl, trivial⟩ rfl rfl ?_
      rintro i hi IH
      refine r_seq ?_
      refine r_seq ?_
      refine r_region rfl ?_
      refine o_val rfl rfl rfl rfl (v_move rfl) ?_
      refine o_val rfl rfl rfl rfl (v_move rfl) ?_
      refine o_val rfl rfl rfl rfl (v_len rfl rfl) ?_
      refine o_val rfl rfl rfl rfl (v_lss rfl rfl) ?_
      refine o_end ?_
      refine r_if rfl (fun h1 => ?_) (fun h1 => ?_)
      · have hil : i < gs.length := by omega
        cases wf with
        | nil =>
          have : gs.length = 0 := hok
          omega
        | «at» b off cp N pre =>
          have hcell : ∀ j c, gs[i].cells[j]? = some c → Cell F2 [X, .mem b (pre ++ rmV gs) N] b (off + i * 3 + j) c := fun j c hj => rm_cell hok.2.2 (List.mem_cons_of_mem _ (List.mem_singleton.2 rfl)) i hil j c hj
          have hsub : [X, .mem b (pre ++ rmV gs) N] ⊆ X :: ((Wf.at b off cp N pre).ents (rmV gs) ++ (gs.map Rm.blk ++ Fr)) := by
            intro q hq
            simp only [List.mem_cons, List.not_mem_nil, or_false] at hq
            rcases hq with rfl | rfl
            · exact List.mem_cons_self ..
            · exact List.mem_cons_of_mem _ (List.mem_append_left _ (List.mem_singleton.2 rfl))
          have hli := hlast i hil
          rw [rm_isB] at hli
          have hnext : ∀ q : Int, q = (if f < i + 1 then (f : Int) else -1) → Run _ _ _ _ _ := fun q hq => by
            have := IH (i + 1) hil (by omega)
            rw [← hq] at this
            exact this
          refine r_skip ?_
          refine r_seq ?_
          refine r_block ?_
          refine r_seq ?_
          refine d_region 1000000 rfl ([X, .mem b (pre ++ rmV gs) N]) ?_
          refine d_take (i := 0) rfl rfl rfl (by decide +kernel) (by decide +kernel) (by decide +kernel) (Fz.le_refl _) hsub rfl (v_move rfl) ?_
          refine d_take (i := 1) rfl rfl rfl (by decide +kernel) (by decide +kernel) (by decide +kernel) (Fz.le_refl _) hsub rfl (v_move rfl) ?_
          refine d_take (i := 2) rfl rfl rfl (by decide +kernel) (by decide +kernel) (by decide +kernel) (Fz.le_refl _) hsub rfl (v_indexN (sz := 3) rfl rfl rfl rfl hil) ?_
          refine d_take (i := 3) rfl rfl rfl (by decide +kernel) (by decide +kernel) (by decide +kernel) (Fz.le_refl _) hsub rfl (v_field (k := 0) rfl rfl rfl) ?_
          refine d_take (i := 4) rfl rfl rfl (by decide +kernel) (by decide +kernel) (by decide +kernel) (Fz.le_refl _) hsub rfl (v_load (v := .int .u64 gs[i].id) rfl rfl (hcell 0 _ rfl)) ?_
          refine d_take (i := 5) rfl rfl rfl (by decide +kernel) (by decide +kernel) (by decide +kernel) (Fz.le_refl _) hsub rfl (v_field (k := 0) rfl rfl rfl) ?_
          refine d_take (i := 6) rfl rfl rfl (by decide +kernel) (by decide +kernel) (by decide +kernel) (Fz.le_refl _) hsub rfl (v_load (v := .int .u64 id) rfl rfl (hcx _ _ 0 _ (by simp) rfl)) ?_
          refine d_take (i := 7) rfl rfl rfl (by decide +kernel) (by decide +kernel) (by decide +kernel) (Fz.le_refl _) hsub rfl (v_eql rfl rfl) ?_
          refine j_prop 37 rfl (fun h2 => ?_) (fun h2 => ?_)
          · refine d_take (i := 8) rfl rfl rfl (by decide +kernel) (by decide +kernel) (by decide +kernel) (Fz.le_refl _) hsub rfl (v_move rfl) ?_
            refine d_take (i := 9) rfl rfl rfl (by decide +kernel) (by decide +kernel) (by decide +kernel) (Fz.le_refl _) hsub rfl (v_move rfl) ?_
            refine d_take (i := 10) rfl rfl rfl (by decide +kernel) (by decide +kernel) (by decide +kernel) (Fz.le_refl _) hsub rfl (v_move rfl) ?_
            refine d_take (i := 11) rfl rfl rfl (by decide +kernel) (by decide +kernel) (by decide +kernel) (Fz.le_refl _) hsub rfl (v_indexN (sz := 3) rfl rfl rfl rfl hil) ?_
            refine d_take (i := 12) rfl rfl rfl (by decide +kernel) (by decide +kernel) (by decide +kernel) (Fz.le_refl _) hsub rfl (v_field (k := 1) rfl rfl rfl) ?_
            refine d_take (i := 13) rfl rfl rfl (by decide +kernel) (by decide +kernel) (by decide +kernel) (Fz.le_refl _) hsub rfl (v_load (v := .int .i64 gs[i].of) rfl rfl (hcell 1 _ rfl)) ?_
            refine d_take (i := 14) rfl rfl rfl (by decide +kernel) (by decide +kernel) (by decide +kernel) (Fz.le_refl _) hsub rfl (v_field (k := 2) rfl rfl rfl) ?_
            refine d_take (i := 15) rfl rfl rfl (by decide +kernel) (by decide +kernel) (by decide +kernel) (Fz.le_refl _) hsub rfl (v_load (v := .int .i64 o) rfl rfl (hcx _ _ 2 _ (by simp) rfl)) ?_
            refine d_take (i := 16) rfl rfl rfl (by decide +kernel) (by decide +kernel) (by decide +kernel) (Fz.le_refl _) hsub rfl (v_eql rfl rfl) ?_
            refine d_take (i := 17) rfl rfl rfl (by decide +kernel) (by decide +kernel) (by decide +kernel) (Fz.le_refl _) hsub rfl (v_pick1 rfl rfl) ?_
            refine d_end (by decide +kernel) ?_
            refine r_if rfl (fun h3 => ?_) (fun h3 => ?_)
            · have he : i = f := hli.1 ⟨by omega, by omega⟩
              refine r_region rfl ?_
              refine o_val rfl rfl rfl rfl (v_move rfl) ?_
              refine o_val rfl rfl rfl rfl (v_assign rfl) ?_
              refine o_end ?_
              refine r_inBlock ?_
              refine r_region rfl ?_
              refine o_val rfl rfl rfl rfl (v_move rfl) ?_
              refine o_val rfl rfl rfl rfl (v_add rfl rfl (wrap_i64 (by omega) (by omega))) ?_
              refine o_val rfl rfl rfl rfl (v_assign rfl) ?_
              refine o_end ?_
              refine j_keep ?_ (hnext i (by rw [if_pos (by omega)]; omega))
              exact ⟨rfl, rfl, rfl, rfl, trivial⟩
            · have he : ¬ i = f := fun he => h3 (by have := (hli.2 he).2; omega)
              refine r_skip ?_
              refine r_inBlock ?_
              refine r_region rfl ?_
              refine o_val rfl rfl rfl rfl (v_move rfl) ?_
              refine o_val rfl rfl rfl rfl (v_add rfl rfl (wrap_i64 (by omega) (by omega))) ?_
              refine o_val rfl rfl rfl rfl (v_assign rfl) ?_
              refine o_end ?_
              refine j_keep ?_ (hnext (if f < i then (f : Int) else -1) (by
                by_cases hlt : f < i
                · rw [if_pos hlt, if_pos (by omega)]
                · rw [if_neg hlt, if_neg (by omega)]))
              exact ⟨rfl, rfl, rfl, rfl, trivial⟩
          · skip
            have he : ¬ i = f := fun he => h2 (by have := (hli.2 he).1; omega)
            refine d_take (i := 8) rfl rfl rfl (by decide +kernel) (by decide +kernel) (by decide +kernel) (Fz.le_refl _) hsub rfl (v_move rfl) ?_
            refine d_skip (i := 9) rfl rfl rfl (by decide +kernel) (by decide +kernel) (by decide +kernel) (Fz.le_refl _) hsub rfl ?_
            refine d_skip (i := 10) rfl rfl rfl (by decide +kernel) (by decide +kernel) (by decide +kernel) (Fz.le_refl _) hsub rfl ?_
            refine d_skip (i := 11) rfl rfl rfl (by decide +kernel) (by decide +kernel) (by decide +kernel) (Fz.le_refl _) hsub rfl ?_
            refine d_skip (i := 12) rfl rfl rfl (by decide +kernel) (by decide +kernel) (by decide +kernel) (Fz.le_refl _) hsub rfl ?_
            refine d_skip (i := 13) rfl rfl rfl (by decide +kernel) (by decide +kernel) (by decide +kernel) (Fz.le_refl _) hsub rfl ?_
            refine d_skip (i := 14) rfl rfl rfl (by decide +kernel) (by decide +kernel) (by decide +kernel) (Fz.le_refl _) hsub rfl ?_
            refine d_skip (i := 15) rfl rfl rfl (by decide +kernel) (by decide +kernel) (by decide +kernel) (Fz.le_refl _) hsub rfl ?_
            refine d_skip (i := 16) rfl rfl rfl (by decide +kernel) (by decide +kernel) (by decide +kernel) (Fz.le_refl _) hsub rfl ?_
            refine d_take (i := 17) rfl rfl rfl (by decide +kernel) (by decide +kernel) (by decide +kernel) (Fz.le_refl _) hsub rfl (v_pick0 rfl rfl) ?_
            refine d_end (by decide +kernel) ?_
            refine r_false rfl ?_
            refine r_skip ?_
            refine r_inBlock ?_
            refine r_region rfl ?_
            refine o_val rfl rfl rfl rfl (v_move rfl) ?_
            refine o_val rfl rfl rfl rfl (v_add rfl rfl (wrap_i64 (by omega) (by omega))) ?_
            refine o_val rfl rfl rfl rfl (v_assign rfl) ?_
            refine o_end ?_
            refine j_keep ?_ (hnext (if f < i then (f : Int) else -1) (by
              by_cases hlt : f < i
              · rw [if_pos hlt, if_pos (by omega)]
              · rw [if_neg hlt, if_neg (by omega)]))
            exact ⟨rfl, rfl, rfl, rfl, trivial⟩
      · obtain rfl : i = gs.length := by omega
        refine r_exit rfl ?_
        refine j_keep ?_ (JL () trivial)
        exact ⟨rfl, rfl, rfl, trivial⟩
    · rintro ⟨⟩ -
      refine r_seq ?_
      refine r_join (fun g : RG => (∀ h ∈ g.hs, h.okF F2) ∧ rmD g.hs ∧ g.wf.ok 3 g.hs.length ∧ g.hs.length ≤ 16 ∧ ∃ hi : g.i < g.hs.length, g.hs[g.i].of = o ∧ JT = joinAt (g.hs.map Rm.abs) g.i a d) (fun g => [(0, g.wf.val g.hs.length), (7, ptrV x), (9, .int .i64 g.i)]) (fun _ => F2) (fun g => X :: (g.wf.ents (rmV g.hs) ++ (g.hs.map Rm.blk ++ Fr))) ?_ ?_
      · intro J
        refine r_seq ?_
        refine r_region rfl ?_
        refine o_val rfl rfl rfl rfl (v_move rfl) ?_
        refine o_val rfl rfl rfl rfl (v_lss rfl rfl) ?_
        refine o_end ?_
        refine r_if rfl (fun h5 => ?_) (fun h5 => ?_)
        · have hnf : ¬ f < gs.length := fun h => by rw [if_pos h] at h5; omega
          rw [if_neg hnf] at hJT
          have hnone : ∀ g ∈ gs, g.isB id o = false := fun g hg => by
            obtain ⟨i, hi, rfl⟩ := List.getElem_of_mem hg
            cases hq : gs[i].isB id o with
            | false => rfl
            | true => have := (hlast i hi).1 hq; omega
          refine r_seq ?_
          refine r_join (fun g : List Rm × Wf => (∀ h ∈ g.1, h.okF F2) ∧ rmD g.1 ∧ (∀ h ∈ g.1, h.isB id o = false) ∧ g.2.ok 3 g.1.length ∧ g.1.length ≤ 15 ∧ g.1.map Rm.abs = if 16 ≤ gs.length then (gs.map Rm.abs).drop 1 else gs.map Rm.abs) (fun g => [(0, g.2.val g.1.length), (7, ptrV x)]) (fun _ => F2) (fun g => X :: (g.2.ents (rmV g.1) ++ (g.1.map Rm.blk ++ Fr))) ?_ ?_
          · intro JD
            refine r_seq ?_
            refine r_region rfl ?_
            refine o_val rfl rfl rfl rfl (v_move rfl) ?_
            refine o_val rfl rfl rfl rfl (v_len rfl rfl) ?_
            refine o_val rfl rfl rfl rfl (v_eql rfl rfl) ?_
            refine o_end ?_
            refine r_if rfl (fun h6 => ?_) (fun h6 => ?_)
            · clear hlast hfp hfi hfle hnf hJT h5 J
              have h16 : 16 ≤ gs.length := by omega
              rw [if_pos h16] at JD
              obtain ⟨y, rest, rfl⟩ : ∃ y rest, gs = y :: rest := by
                cases gs with
                | nil => simp at h16
                | cons y r => exact ⟨y, r, rfl⟩
              have hrl : (y :: rest).length = rest.length + 1 := rfl
              obtain ⟨wf1, hok1, hsl, hents⟩ := wf_tail (xs := rmV rest) (x := y.cells) (sz := 3) (n := rest.length) hok (by omega) rfl
              rw [← hrl] at hsl
              refine r_region rfl ?_
              refine o_val rfl rfl rfl rfl (v_move rfl) ?_
              refine o_val rfl rfl rfl rfl (v_sliceL (sz := 3) (l := 1) rfl rfl rfl rfl rfl (by omega)) ?_
              refine o_val rfl rfl rfl rfl (v_assign rfl) ?_
              refine o_end ?_
              rw [hsl]
              refine j_heap (H' := X :: (wf1.ents (rmV rest) ++ (y.blk :: (rest.map Rm.blk ++ Fr)))) (by rw [← hents]; rfl) ?_
              refine j_sel (H' := X :: (wf1.ents (rmV rest) ++ (rest.map Rm.blk ++ (Fr)))) [[X], wf1.ents (rmV rest), [y.blk], rest.map Rm.blk, Fr] [0, 1, 3, 4] rfl rfl rfl ?_
              refine j_keep ?_ (JD (rest, wf1) ⟨fun h hh => hgs2 h (List.mem_cons_of_mem _ hh), (List.pairwise_cons.1 hD).2, fun h hh => hnone h (List.mem_cons_of_mem _ hh), hok1, by dsimp only; omega, rfl⟩)
              exact ⟨rfl, rfl, trivial⟩
            · refine r_skip ?_
              refine j_keep ?_ (JD (gs, wf) ⟨hgs2, hD, hnone, hok, by dsimp only; omega, by rw [if_neg (by omega)]⟩)
              exact ⟨rfl, rfl, trivial⟩
          · rintro ⟨hs1, wf1⟩ ⟨hhs1, hD1, hno1, hok1, hn15, habs1⟩
            dsimp only at hhs1 hD1 hno1 hok1 hn15 habs1 ⊢
            rw [← habs1, List.length_map] at hJT
            refine r_seq ?_
            refine r_region rfl ?_
            refine o_val rfl rfl rfl rfl (v_move rfl) ?_
            refine o_val rfl rfl rfl rfl (v_field (k := 0) rfl rfl rfl) ?_
            refine o_val rfl rfl rfl rfl (v_load (v := .int .u64 id) rfl rfl (hcx _ _ 0 _ (by simp) rfl)) ?_
            refine o_val rfl rfl rfl rfl (v_field (k := 2) rfl rfl rfl) ?_
            refine o_val rfl rfl rfl rfl (v_load (v := .int .i64 o) rfl rfl (hcx _ _ 2 _ (by simp) rfl)) ?_
            refine o_act rfl rfl rfl rfl (a_makeMap) ?_
            rintro v' H' ⟨mb, rfl, rfl⟩
            obtain ⟨gN, hgN⟩ : ∃ gN : Rm, gN = ⟨mb, id, o, []⟩ := ⟨_, rfl⟩
            have hNb : Ent.obj mb (mapObj []) = gN.blk := by rw [hgN]; rfl
            have hNc : [Value.int .u64 id, .int .i64 o, .map (some mb)] = gN.cells := by rw [hgN]; rfl
            have hNo : gN.okF F2 := by
              rw [hgN]
              exact ⟨⟨by simp, by simp⟩, ho, hid, by simp⟩
            have hNa : gN.abs = ⟨id, o, List.replicate o none⟩ := by
              rw [hgN]
              unfold Rm.abs Rm.pieces
              simp [lookR, List.eq_replicate_iff]
            have hNof : gN.of = o := by rw [hgN]
            have hNid : gN.id = id := by rw [hgN]
            rw [hNb]
            refine o_val rfl rfl rfl rfl (v_build rfl rfl) ?_
            refine o_act rfl rfl rfl rfl (a_buildS (sz := 3) (cs := [.int .u64 id, .int .i64 o, .map (some mb)]) [.tmp 62] rfl rfl rfl rfl rfl rfl rfl rfl rfl rfl) ?_
            rintro v' H' ⟨y, rfl, rfl⟩
            rw [hNc]
            refine o_act rfl rfl rfl rfl (a_appendW (wf := wf1) (n := hs1.length) (m := 1) (ys := gN.cells) (sz := 3) (bytes := 24) [.mem y gN.cells 3, gN.blk, X] ⟨⟨_, _, _, rfl, rfl, rfl, rfl, rfl, rfl⟩, by decide⟩ rfl hok1 (vec_len Rm.cells_len hs1) rfl rfl ⟨_, 1, rfl, by rw [Rm.cells_len], Nat.le_refl _, by simp, fun j c hj => ⟨y, 0, rfl, cell_own (cs := gN.cells) (n := 3) (List.mem_cons_self ..) (by simpa using hj)⟩⟩ gN.cells_one (by unfold maxLen; omega) (by omega)) ?_
            rintro v' H' ⟨wf2, rfl, hok2, rfl⟩
            have hap : rmV hs1 ++ gN.cells = rmV (hs1 ++ [gN]) := by simp [rmV]
            have hle1 : hs1.length + 1 = (hs1 ++ [gN]).length := by simp
            rw [hap]
            rw [hle1] at hok2 ⊢
            have hsub : ((hs1 ++ [gN]).length : Int) - 1 = hs1.length := by simp
            refine o_val rfl rfl rfl rfl (v_assign rfl) ?_
            refine o_end ?_
            refine r_region rfl ?_
            refine o_val rfl rfl rfl rfl (v_move rfl) ?_
            refine o_val rfl rfl rfl rfl (v_len rfl rfl) ?_
            refine o_val rfl rfl rfl rfl (v_sub rfl rfl (r := (hs1.length : Int)) (by rw [hsub]; exact wrap_i64 (by omega) (by omega))) ?_
            refine o_val rfl rfl rfl rfl (v_assign rfl) ?_
            refine o_end ?_
            refine j_sel (H' := X :: (wf2.ents (rmV (hs1 ++ [gN])) ++ (hs1.map Rm.blk ++ (gN.blk :: (Fr))))) [[.mem y gN.cells 3], [gN.blk], [X], wf2.ents (rmV (hs1 ++ [gN])), hs1.map Rm.blk, Fr] [2, 3, 4, 1, 5] rfl rfl rfl ?_
            refine j_heap (H' := X :: (wf2.ents (rmV (hs1 ++ [gN])) ++ ((hs1 ++ [gN]).map Rm.blk ++ Fr))) (by simp) ?_
            refine j_keep ?_ (J ⟨hs1 ++ [gN], wf2, hs1.length⟩ ⟨fun h hh => ?_, ?_, hok2, by dsimp only; omega, by dsimp only; omega, ?_, ?_⟩)
            · exact ⟨rfl, rfl, rfl, trivial⟩
            · rcases List.mem_append.1 hh with hh | hh
              · exact hhs1 h hh
              · rw [List.mem_singleton.1 hh]; exact hNo
            · refine List.pairwise_append.2 ⟨hD1, by simp, fun q hq z hz hqz => ?_⟩
              rw [List.mem_singleton.1 hz, hNid, hNof] at hqz
              have := hno1 q hq
              rw [rm_isB.2 hqz] at this
              cases this
            · simp [hNof]
            · rw [hJT, List.map_append, List.map_cons, List.map_nil, hNa]
        · have hfl : f < gs.length := Classical.byContradiction fun hf => h5 (by rw [if_neg hf]; omega)
          rw [if_pos hfl] at hJT ⊢
          refine r_skip ?_
          refine j_keep ?_ (J ⟨gs, wf, f⟩ ⟨hgs2, hD, hok, hn, hfl, (rm_isB.1 (hfp hfl)).2, hJT⟩)
          exact ⟨rfl, rfl, rfl, trivial⟩
      · clear hJT hlast hfp hfi hfle
        rintro ⟨hs, wf, i⟩ ⟨hhs, hDs, hoks, hns, hi, hio, hJT⟩
        dsimp only at hhs hDs hoks hns hi hio hJT ⊢
        cases wf with
        | nil =>
          have : hs.length = 0 := hoks
          omega
        | «at» b off cp N pre =>
          have hpl := hoks.2.2
          obtain ⟨g, hg⟩ : ∃ g, g = hs[i] := ⟨_, rfl⟩
          have hgF : g.okF F2 := hg ▸ hhs _ (List.getElem_mem _)
          rw [← hg] at hio
          obtain ⟨M, hM⟩ : ∃ M : Ent, M = .mem b (pre ++ rmV hs) N := ⟨_, rfl⟩
          have hcell : ∀ F H j c, M ∈ H → g.cells[j]? = some c → Cell F H b (off + i * 3 + j) c := fun F H j c hm hc => rm_cell hpl (hM ▸ hm) i hi j c (hg ▸ hc)
          obtain ⟨T1, hT1⟩ : ∃ T, T = (hs.take i).map Rm.blk := ⟨_, rfl⟩
          obtain ⟨D1, hD1⟩ : ∃ T, T = (hs.drop (i + 1)).map Rm.blk := ⟨_, rfl⟩
          refine j_heap (H' := X :: M :: (T1 ++ (g.blk :: (D1 ++ Fr)))) (by
            show X :: .mem b (pre ++ rmV hs) N :: (hs.map Rm.blk ++ Fr) = _
            rw [rm_split hs i hi, hM, hT1, hD1, hg]
            simp) ?_
          refine j_sel (H' := g.blk :: (X :: (M :: (T1 ++ (D1 ++ (Fr)))))) [[X], [M], T1, [g.blk], D1, Fr] [3, 0, 1, 2, 4, 5] rfl rfl rfl ?_
          have hlk : lookKV (kvV g.kv) (a : Int) = (lookR g.kv a).map (·.1) := lookKV_kvV _ _
          have hsub : ∀ (q : Ent) (L : List Ent), [q, X, M] ⊆ q :: X :: M :: L := fun q L z hz => by
            simp only [List.mem_cons, List.not_mem_nil, or_false] at hz ⊢
            rcases hz with h | h | h <;> simp [h]
          refine r_seq ?_
          refine d_region 1000000 rfl ([g.blk, X, M]) ?_
          refine d_take (i := 0) rfl rfl rfl (by decide +kernel) (by decide +kernel) (by decide +kernel) (Fz.le_refl _) (hsub _ _) rfl (v_move rfl) ?_
          refine d_take (i := 1) rfl rfl rfl (by decide +kernel) (by decide +kernel) (by decide +kernel) (Fz.le_refl _) (hsub _ _) rfl (v_move rfl) ?_
          refine d_take (i := 2) rfl rfl rfl (by decide +kernel) (by decide +kernel) (by decide +kernel) (Fz.le_refl _) (hsub _ _) rfl (v_indexN (sz := 3) rfl rfl rfl rfl hi) ?_
          refine d_take (i := 3) rfl rfl rfl (by decide +kernel) (by decide +kernel) (by decide +kernel) (Fz.le_refl _) (hsub _ _) rfl (v_field (k := 2) rfl rfl rfl) ?_
          refine d_take (i := 4) rfl rfl rfl (by decide +kernel) (by decide +kernel) (by decide +kernel) (Fz.le_refl _) (hsub _ _) rfl (v_load (v := .map (some g.b)) rfl rfl (hcell _ _ 2 _ (by simp) rfl)) ?_
          refine d_take (i := 5) rfl rfl rfl (by decide +kernel) (by decide +kernel) (by decide +kernel) (Fz.le_refl _) (hsub _ _) rfl (v_field (k := 1) rfl rfl rfl) ?_
          refine d_take (i := 6) rfl rfl rfl (by decide +kernel) (by decide +kernel) (by decide +kernel) (Fz.le_refl _) (hsub _ _) rfl (v_load (v := .int .i64 a) rfl rfl (hcx _ _ 1 _ (by simp) rfl)) ?_
          refine d_take (i := 7) rfl rfl rfl (by decide +kernel) (by decide +kernel) (by decide +kernel) (Fz.le_refl _) (hsub _ _) rfl (v_lookup2 (l := kvV g.kv) (v := ((lookR g.kv a).map (·.1)).getD (.slice none 0 0)) (q := (lookR g.kv a).isSome) rfl rfl rfl rfl (List.mem_cons_self ..) rfl rfl (by rw [hlk]) (by rw [hlk]; cases lookR g.kv a <;> rfl)) ?_
          refine d_take (i := 8) rfl rfl rfl (by decide +kernel) (by decide +kernel) (by decide +kernel) (Fz.le_refl _) (hsub _ _) rfl (v_move rfl) ?_
          refine d_take (i := 9) rfl rfl rfl (by decide +kernel) (by decide +kernel) (by decide +kernel) (Fz.le_refl _) (hsub _ _) rfl (v_extract rfl rfl) ?_
          refine d_take (i := 10) rfl rfl rfl (by decide +kernel) (by decide +kernel) (by decide +kernel) (Fz.le_refl _) (hsub _ _) rfl (v_extract rfl rfl) ?_
          refine d_take (i := 11) rfl rfl rfl (by decide +kernel) (by decide +kernel) (by decide +kernel) (Fz.le_refl _) (hsub _ _) rfl (v_assign rfl) ?_
          refine d_take (i := 12) rfl rfl rfl (by decide +kernel) (by decide +kernel) (by decide +kernel) (Fz.le_refl _) (hsub _ _) rfl (v_assign rfl) ?_
          refine d_end (by decide +kernel) ?_
          refine r_seq ?_
          refine r_join (fun g' : Rm => g'.cells = g.cells ∧ g'.okF F2 ∧ g'.abs = ⟨g.id, g.of, putO g.pieces a d⟩) (fun _ => [(0, (Wf.at b off cp N pre).val hs.length), (7, ptrV x), (9, .int .i64 i)]) (fun _ => F2) (fun g' => g'.blk :: X :: M :: (T1 ++ (D1 ++ Fr))) ?_ ?_
          · intro JP
            cases hl : lookR g.kv a with
            | none =>
              refine r_seq ?_
              refine r_region rfl ?_
              refine o_val rfl rfl rfl rfl (v_move rfl) ?_
              refine o_val rfl rfl rfl rfl (v_not rfl) ?_
              refine o_end ?_
              refine r_true rfl ?_
              refine d_region 9 rfl ([g.blk, X, M]) ?_
              refine d_take (i := 0) rfl rfl rfl (by decide +kernel) (by decide +kernel) (by decide +kernel) (Fz.le_refl _) (hsub _ _) rfl (v_move rfl) ?_
              refine d_take (i := 1) rfl rfl rfl (by decide +kernel) (by decide +kernel) (by decide +kernel) (Fz.le_refl _) (hsub _ _) rfl (v_move rfl) ?_
              refine d_take (i := 2) rfl rfl rfl (by decide +kernel) (by decide +kernel) (by decide +kernel) (Fz.le_refl _) (hsub _ _) rfl (v_indexN (sz := 3) rfl rfl rfl rfl hi) ?_
              refine d_take (i := 3) rfl rfl rfl (by decide +kernel) (by decide +kernel) (by decide +kernel) (Fz.le_refl _) (hsub _ _) rfl (v_field (k := 2) rfl rfl rfl) ?_
              refine d_take (i := 4) rfl rfl rfl (by decide +kernel) (by decide +kernel) (by decide +kernel) (Fz.le_refl _) (hsub _ _) rfl (v_load (v := .map (some g.b)) rfl rfl (hcell _ _ 2 _ (by simp) rfl)) ?_
              refine d_take (i := 5) rfl rfl rfl (by decide +kernel) (by decide +kernel) (by decide +kernel) (Fz.le_refl _) (hsub _ _) rfl (v_field (k := 1) rfl rfl rfl) ?_
              refine d_take (i := 6) rfl rfl rfl (by decide +kernel) (by decide +kernel) (by decide +kernel) (Fz.le_refl _) (hsub _ _) rfl (v_load (v := .int .i64 a) rfl rfl (hcx _ _ 1 _ (by simp) rfl)) ?_
              refine d_take (i := 7) rfl rfl rfl (by decide +kernel) (by decide +kernel) (by decide +kernel) (Fz.le_refl _) (hsub _ _) rfl (v_field (k := 3) rfl rfl rfl) ?_
              refine d_take (i := 8) rfl rfl rfl (by decide +kernel) (by decide +kernel) (by decide +kernel) (Fz.le_refl _) (hsub _ _) rfl (v_load (v := .slice ad d.length cd) rfl rfl (hcx _ _ 3 _ (by simp) rfl)) ?_
              refine d_one (i := 9) (by decide +kernel) ?_
              refine d1_last 1000000 ([]) rfl rfl rfl (a_mapNew (l := kvV g.kv) 0 rfl rfl rfl rfl rfl rfl (by rw [hlk, hl]; rfl)) ?_
              obtain ⟨g', hg'⟩ : ∃ g' : Rm, g' = { g with kv := g.kv ++ [(a, (.slice ad d.length cd, d))] } := ⟨_, rfl⟩
              refine j_heap (H' := g'.blk :: X :: M :: (T1 ++ (D1 ++ Fr))) (by
                rw [hg']
                unfold Rm.blk
                rw [kvV_append]
                rfl) ?_
              refine d_end (by decide +kernel) ?_
              refine j_keep ?_ (JP g' ⟨by rw [hg']; rfl, ?_, ?_⟩)
              · exact ⟨rfl, rfl, rfl, trivial⟩
              · rw [hg']
                refine ⟨hgF.ok.put (by omega) hl, hgF.ofb, hgF.idb, fun y hy => ?_⟩
                rcases List.mem_append.1 hy with hy | hy
                · exact hgF.fz y hy
                · rw [List.mem_singleton.1 hy]
                  exact ⟨hdv, hdl⟩
              · rw [hg']
                show HP.mk g.id g.of _ = _
                rw [pieces_put g a _ (by omega) hl]
            | some r =>
              refine r_seq ?_
              refine r_region rfl ?_
              refine o_val rfl rfl rfl rfl (v_move rfl) ?_
              refine o_val rfl rfl rfl rfl (v_not rfl) ?_
              refine o_end ?_
              refine r_false rfl ?_
              refine r_skip ?_
              refine j_keep ?_ (JP g ⟨rfl, hgF, ?_⟩)
              · exact ⟨rfl, rfl, rfl, trivial⟩
              · show HP.mk g.id g.of g.pieces = _
                rw [pieces_kept g a d (by omega) (by rw [hl]; simp)]
          · rintro g' ⟨hgc, hgF', hga⟩
            have hgb : g'.b = g.b := by simp [Rm.cells] at hgc; exact hgc.2.2
            have hgo : g'.of = o := by simp [Rm.cells] at hgc; rw [← hio]; omega
            have hgid : g'.id = g.id := by simp [Rm.cells] at hgc; omega
            have hgp : g'.pieces = putO g.pieces a d := congrArg HP.rows hga
            have hcell' : ∀ F H j c, M ∈ H → g'.cells[j]? = some c → Cell F H b (off + i * 3 + j) c := fun F H j c hm hc => hcell F H j c hm (hgc ▸ hc)
            have hJ : JT = if g'.pieces.any Option.isNone = true then ((hs.map Rm.abs).set i g'.abs, none) else ((hs.map Rm.abs).eraseIdx i, some (g'.pieces.flatMap fun r => r.getD [])) := by
              rw [hJT, hgp, hga]
              unfold joinAt
              rw [List.getElem?_map, List.getElem?_eq_getElem hi, ← hg]
              rfl
            clear hJT
            have hany := pieces_any g' hgF'.ok
            have hrs : rmV (hs.set i g') = rmV hs := rmV_set hs i hi g' (by rw [hgc, hg])
            refine r_seq ?_
            refine r_seq ?_
            refine d_region 1000000 rfl ([g'.blk, X, M]) ?_
            refine d_take (i := 0) rfl rfl rfl (by decide +kernel) (by decide +kernel) (by decide +kernel) (Fz.le_refl _) (hsub _ _) rfl (v_move rfl) ?_
            refine d_take (i := 1) rfl rfl rfl (by decide +kernel) (by decide +kernel) (by decide +kernel) (Fz.le_refl _) (hsub _ _) rfl (v_move rfl) ?_
            refine d_take (i := 2) rfl rfl rfl (by decide +kernel) (by decide +kernel) (by decide +kernel) (Fz.le_refl _) (hsub _ _) rfl (v_indexN (sz := 3) rfl rfl rfl rfl hi) ?_
            refine d_take (i := 3) rfl rfl rfl (by decide +kernel) (by decide +kernel) (by decide +kernel) (Fz.le_refl _) (hsub _ _) rfl (v_field (k := 2) rfl rfl rfl) ?_
            refine d_take (i := 4) rfl rfl rfl (by decide +kernel) (by decide +kernel) (by decide +kernel) (Fz.le_refl _) (hsub _ _) rfl (v_load (v := .map (some g'.b)) rfl rfl (hcell' _ _ 2 _ (by simp) rfl)) ?_
            refine d_take (i := 5) rfl rfl rfl (by decide +kernel) (by decide +kernel) (by decide +kernel) (Fz.le_refl _) (hsub _ _) rfl (v_lenMap (l := kvV g'.kv) rfl (List.mem_cons_self ..) rfl) ?_
            refine d_take (i := 6) rfl rfl rfl (by decide +kernel) (by decide +kernel) (by decide +kernel) (Fz.le_refl _) (hsub _ _) rfl (v_field (k := 2) rfl rfl rfl) ?_
            refine d_take (i := 7) rfl rfl rfl (by decide +kernel) (by decide +kernel) (by decide +kernel) (Fz.le_refl _) (hsub _ _) rfl (v_load (v := .int .i64 o) rfl rfl (hcx _ _ 2 _ (by simp) rfl)) ?_
            refine d_take (i := 8) rfl rfl rfl (by decide +kernel) (by decide +kernel) (by decide +kernel) (Fz.le_refl _) (hsub _ _) rfl (v_lss rfl rfl) ?_
            refine d_end (by decide +kernel) ?_
            refine r_if rfl (fun h8 => ?_) (fun h8 => ?_)
            · rw [kvV_length] at h8
              have hlt : g'.kv.length < g'.of := by omega
              rw [hany, decide_eq_true hlt, if_pos rfl] at hJ
              rw [hJ]
              refine j_sel (H' := M :: (T1 ++ (g'.blk :: (D1 ++ (Fr))))) [[g'.blk], [X], [M], T1, D1, Fr] [2, 3, 0, 4, 5] rfl rfl rfl ?_
              refine j_heap (H' := RH (.at b off cp N pre) (hs.set i g') Fr) (by
                show _ = .mem b (pre ++ rmV (hs.set i g')) N :: ((hs.set i g').map Rm.blk ++ Fr)
                rw [hrs, rm_setblk hs i hi g', ← hM, hT1, hD1]
                simp) ?_
              have hsl : (hs.set i g').length = hs.length := List.length_set
              refine r_seq ?_
              refine r_region rfl ?_
              refine o_val rfl rfl rfl rfl (v_move rfl) ?_
              refine o_val rfl rfl rfl rfl (v_assign rfl) ?_
              refine o_val rfl rfl rfl rfl (v_assign rfl) ?_
              refine o_val rfl rfl rfl rfl (v_assign rfl) ?_
              refine o_end ?_
              refine r_ret3 Try.func19 rfl rfl rfl rfl ⟨⟨hF2, hs.set i g', .at b off cp N pre, _, by rw [hsl]; rfl, Sl.nil _ _ _, by rw [List.map_set], fun h hh => ?_, rmD_set hDs i hi g' (by rw [hgid, hg]) (by rw [hgo, ← hio, hg]), by rw [hsl]; exact hoks, by rw [hsl]; exact hns, rfl⟩, hF2⟩
              rcases List.mem_or_eq_of_mem_set hh with hh | rfl
              · exact hhs h hh
              · exact hgF'
            · rw [kvV_length] at h8
              have hge : ¬ g'.kv.length < g'.of := by omega
              rw [hany, decide_eq_false hge, if_neg (by simp)] at hJ
              rw [hJ]
              have hall : ∀ j, j < o → ∃ r : Row, lookR g'.kv j = some r := fun j hj => by
                cases hq : lookR g'.kv j with
                | some r => exact ⟨r, rfl⟩
                | none =>
                  exfalso
                  have h1 : g'.pieces.any Option.isNone = true := List.any_eq_true.2 ⟨none, List.mem_of_getElem? (i := j) (by rw [pieces_get g' j (by omega), hq]; rfl), rfl⟩
                  rw [hany, decide_eq_false hge] at h1
                  cases h1
              have hplen : g'.pieces.length = o := by unfold Rm.pieces; simp [hgo]
              obtain ⟨oB, hoB⟩ : ∃ oB : Nat → List UInt8, oB = fun j => (g'.pieces.take j).flatMap fun r => r.getD [] := ⟨_, rfl⟩
              have hoB0 : oB 0 = [] := by rw [hoB]; rfl
              have hoS : ∀ j r, j < o → lookR g'.kv j = some r → oB (j + 1) = oB j ++ r.2 := fun j r hj hr => by
                rw [hoB]
                dsimp only
                have h1 : g'.pieces[j]? = some (some r.2) := by rw [pieces_get g' j (by omega), hr]; rfl
                have h2 : g'.pieces.take (j + 1) = g'.pieces.take j ++ [some r.2] := by rw [List.take_add_one, h1]; rfl
                rw [h2, List.flatMap_append]
                simp
              have hoL : ∀ j, j ≤ o → (oB j).length ≤ j * 4096 := fun j => by
                induction j with
                | zero => intro _; rw [hoB0]; simp
                | succ j ih =>
                  intro hj
                  obtain ⟨r, hr⟩ := hall j hj
                  have h1 := ih (by omega)
                  have h2 := (hgF'.fz _ (lookR_mem _ _ _ hr)).2
                  rw [hoS j r hj hr, List.length_append]
                  dsimp only at h2
                  omega
              have hoE : (g'.pieces.flatMap fun r => r.getD []) = oB o := by rw [hoB]; dsimp only; rw [List.take_of_length_le (by omega)]
              rw [hoE]
              clear hoE hJ
              refine r_skip ?_
              refine r_seq ?_
              refine r_region rfl ?_
              refine o_val rfl rfl rfl rfl (v_assign rfl) ?_
              refine o_end ?_
              refine r_seq ?_
              refine r_seq ?_
              refine r_region rfl ?_
              refine o_val rfl rfl rfl rfl (v_assign rfl) ?_
              refine o_end ?_
              refine r_block ?_
              refine r_loop (fun q : OG => q.j ≤ o ∧ q.bo.ok (oB q.j).length) (fun q => [(0, (Wf.at b off cp N pre).val hs.length), (7, ptrV x), (9, .int .i64 i), (13, q.bo.val (oB q.j).length), (14, .int .i64 q.j)]) (fun _ => F2) (fun q => q.bo.ents 1 (bytesV (oB q.j)) ++ (g'.blk :: X :: M :: (T1 ++ (D1 ++ Fr)))) (fun q => o - q.j) ⟨0, .nil⟩ ⟨Nat.zero_le _, by dsimp only; rw [hoB0]; rfl⟩ ⟨rfl, rfl, rfl, by dsimp only; rw [hoB0]; rfl, rfl, trivial⟩ rfl rfl ?_
              rintro ⟨j, bo⟩ ⟨hj, hbo⟩ IH
              dsimp only at hj hbo ⊢
              have hL := hoL j hj
              refine r_seq ?_
              refine r_seq ?_
              refine r_region rfl ?_
              refine o_val rfl rfl rfl rfl (v_move rfl) ?_
              refine o_val rfl rfl rfl rfl (v_field (k := 2) rfl rfl rfl) ?_
              refine o_val rfl rfl rfl rfl (v_load (v := .int .i64 o) rfl rfl (hcx _ _ 2 _ (by simp) rfl)) ?_
              refine o_val rfl rfl rfl rfl (v_lss rfl rfl) ?_
              refine o_end ?_
              refine r_if rfl (fun h9 => ?_) (fun h9 => ?_)
              · have hjo : j < o := by omega
                obtain ⟨r, hr⟩ := hall j hjo
                have hrF := hgF'.fz _ (lookR_mem _ _ _ hr)
                dsimp only at hrF
                have hlk' : lookKV (kvV g'.kv) (j : Int) = some r.1 := by rw [lookKV_kvV, hr]; rfl
                refine r_skip ?_
                refine r_seq ?_
                refine r_block ?_
                refine r_region rfl ?_
                refine o_val rfl rfl rfl rfl (v_move rfl) ?_
                refine o_val rfl rfl rfl rfl (v_move rfl) ?_
                refine o_val rfl rfl rfl rfl (v_move rfl) ?_
                refine o_val rfl rfl rfl rfl (v_indexN (sz := 3) rfl rfl rfl rfl hi) ?_
                refine o_val rfl rfl rfl rfl (v_field (k := 2) rfl rfl rfl) ?_
                refine o_val rfl rfl rfl rfl (v_load (v := .map (some g'.b)) rfl rfl (hcell' _ _ 2 _ (by simp) rfl)) ?_
                refine o_val rfl rfl rfl rfl (v_move rfl) ?_
                refine o_val rfl rfl rfl rfl (v_lookup1 (l := kvV g'.kv) (v := r.1) rfl rfl rfl rfl (List.mem_append_right _ (List.mem_cons_self ..)) rfl rfl (by rw [hlk']; rfl)) ?_
                refine o_act rfl rfl rfl rfl (a_appendP (bf := bo) (n := (oB j).length) (m := r.2.length) (sz := 1) (bytes := 1) [] ⟨⟨_, _, _, rfl, rfl, rfl, rfl, rfl, rfl⟩, by decide⟩ rfl hbo (by simp) rfl rfl (hrF.1.mono (Fz.le_refl _) (by simp)) (bytes_one _) (by unfold maxLen; omega) (by omega)) ?_
                rintro v' H' ⟨bo2, rfl, hbo2, rfl⟩
                have he : bytesV (oB j) ++ bytesV r.2 = bytesV (oB (j + 1)) := by rw [hoS j r hjo hr]; simp
                have hle : (oB j).length + r.2.length = (oB (j + 1)).length := by rw [hoS j r hjo hr]; simp
                rw [he]
                rw [hle] at hbo2 ⊢
                refine o_val rfl rfl rfl rfl (v_assign rfl) ?_
                refine o_end ?_
                refine r_inBlock ?_
                refine r_region rfl ?_
                refine o_val rfl rfl rfl rfl (v_move rfl) ?_
                refine o_val rfl rfl rfl rfl (v_add rfl rfl (wrap_i64 (by omega) (by omega))) ?_
                refine o_val rfl rfl rfl rfl (v_assign rfl) ?_
                refine o_end ?_
                refine j_keep ?_ (IH ⟨j + 1, bo2⟩ ⟨hjo, hbo2⟩ (by dsimp only; omega))
                exact ⟨rfl, rfl, rfl, rfl, rfl, trivial⟩
              · have hjo : j = o := by omega
                subst hjo
                clear IH hall hoS hoL
                have hiN : i ≤ hs.length := by omega
                have hcp := hoks.1
                have hrd : ∀ L, Sl F2 (M :: L) 3 ((Wf.at b off cp N pre).val hs.length) hs.length (rmV hs) := fun L => Wf.reads hoks (vec_len Rm.cells_len hs) (by rw [hM]; intro q hq; rw [List.mem_singleton.1 hq]; exact List.mem_cons_self ..)
                have hs1 : ∀ H, M ∈ H → Sl F2 H 3 (Go.sliced (some ⟨b, off, none⟩) 0 i cp 3) i ((rmV hs).take (i * 3)) := fun H hm => by
                  have := (Sl.sliced (l := 0) (h := i) (hrd []) (Nat.zero_le _) hiN).mono (Fz.le_refl _) (show [M] ⊆ H by simpa using hm)
                  simp only [Nat.zero_mul, List.drop_zero, Nat.sub_zero] at this
                  exact this
                have hs2 : ∀ H, M ∈ H → Sl F2 H 3 (Go.sliced (some ⟨b, off, none⟩) (i + 1) hs.length cp 3) (hs.length - (i + 1)) ((rmV hs).drop ((i + 1) * 3)) := fun H hm => by
                  have := (Sl.sliced (l := i + 1) (h := hs.length) (hrd []) (by omega) (Nat.le_refl _)).mono (Fz.le_refl _) (show [M] ⊆ H by simpa using hm)
                  rw [List.take_of_length_le (by rw [List.length_drop, vec_len Rm.cells_len, Nat.sub_mul]; omega)] at this
                  exact this
                have hone : (rmV hs).all oneCellB = true := vec_one hs fun h _ => h.cells_one
                have hone1 : ((rmV hs).take (i * 3)).all oneCellB = true := List.all_eq_true.2 fun q hq => List.all_eq_true.1 hone q (List.mem_of_mem_take hq)
                have hone2 : ((rmV hs).drop ((i + 1) * 3)).all oneCellB = true := List.all_eq_true.2 fun q hq => List.all_eq_true.1 hone q (List.mem_of_mem_drop hq)
                have hsl : (hs.eraseIdx i).length = i + (hs.length - (i + 1)) := by rw [List.length_eraseIdx_of_lt hi]; omega
                refine r_exit rfl ?_
                refine r_seq ?_
                refine r_region rfl ?_
                refine o_val rfl rfl rfl rfl (v_assign rfl) ?_
                refine o_end ?_
                refine r_seq ?_
                refine r_region rfl ?_
                refine o_val rfl rfl rfl rfl (v_move rfl) ?_
                refine o_val rfl rfl rfl rfl (v_move rfl) ?_
                refine o_val rfl rfl rfl rfl (v_move rfl) ?_
                refine o_val rfl rfl rfl rfl (v_sliceH (sz := 3) rfl rfl rfl rfl rfl (show i ≤ cp by omega)) ?_
                refine o_act rfl rfl rfl rfl (a_appendP (bf := .nil) (n := 0) (m := i) (xs := []) (sz := 3) (bytes := 24) [] ⟨⟨_, _, _, rfl, rfl, rfl, rfl, rfl, rfl⟩, by decide⟩ rfl rfl rfl rfl rfl (hs1 _ (by simp)) hone1 (by unfold maxLen; omega) (by omega)) ?_
                rintro v' H' ⟨bf1, rfl, hbf1, rfl⟩
                rw [Nat.zero_add] at hbf1 ⊢
                rw [List.nil_append, List.nil_append]
                refine o_val rfl rfl rfl rfl (v_assign rfl) ?_
                refine o_end ?_
                refine r_seq ?_
                refine r_region rfl ?_
                refine o_val rfl rfl rfl rfl (v_move rfl) ?_
                refine o_val rfl rfl rfl rfl (v_move rfl) ?_
                refine o_val rfl rfl rfl rfl (v_move rfl) ?_
                refine o_val rfl rfl rfl rfl (v_add rfl rfl (r := ((i + 1 : Nat) : Int)) (wrap_i64 (by omega) (by omega))) ?_
                refine o_val rfl rfl rfl rfl (v_sliceL (sz := 3) rfl rfl rfl rfl rfl (by omega)) ?_
                refine o_act rfl rfl rfl rfl (a_appendP (bf := bf1) (n := i) (m := hs.length - (i + 1)) (sz := 3) (bytes := 24) [] ⟨⟨_, _, _, rfl, rfl, rfl, rfl, rfl, rfl⟩, by decide⟩ rfl hbf1 (by rw [List.length_take, vec_len Rm.cells_len, Nat.min_eq_left (Nat.mul_le_mul_right _ hiN)]) rfl rfl (hs2 _ (by simp)) hone2 (by unfold maxLen; omega) (by omega)) ?_
                rintro v' H' ⟨bf2, rfl, hbf2, rfl⟩
                rw [rm_erase hs i hi]
                rw [← hsl] at hbf2 ⊢
                rw [List.nil_append]
                refine j_sel (H' := bo.ents 1 (bytesV (oB j)) ++ (bf2.ents 3 (rmV (hs.eraseIdx i)) ++ (T1 ++ (D1 ++ (Fr))))) [bf2.ents 3 (rmV (hs.eraseIdx i)), bo.ents 1 (bytesV (oB j)), [g'.blk], [X], [M], T1, D1, Fr] [1, 0, 5, 6, 7] rfl rfl rfl ?_
                refine j_freezeBf hbo (by simp) fun F3 hF3 hs3 => ?_
                refine j_heap (H' := RH (Wf.ofBf 3 bf2) (hs.eraseIdx i) Fr) (by
                  show _ = (Wf.ofBf 3 bf2).ents (rmV (hs.eraseIdx i)) ++ ((hs.eraseIdx i).map Rm.blk ++ Fr)
                  rw [Wf.ofBf_ents, rm_eblk, hT1, hD1]
                  simp) ?_
                rw [← Wf.ofBf_val 3]
                refine o_val rfl rfl rfl rfl (v_move rfl) ?_
                refine o_val rfl rfl rfl rfl (v_assign rfl) ?_
                refine o_val rfl rfl rfl rfl (v_assign rfl) ?_
                refine o_val rfl rfl rfl rfl (v_assign rfl) ?_
                refine o_end ?_
                exact r_ret3 Try.func19 rfl rfl rfl rfl ⟨⟨Fz.le_trans hF2 hF3, hs.eraseIdx i, Wf.ofBf 3 bf2, _, rfl, hs3, by rw [List.eraseIdx_eq_take_drop_succ, List.eraseIdx_eq_take_drop_succ, List.map_append, List.map_take, List.map_drop], fun h hh => (hhs h (List.mem_of_mem_eraseIdx hh)).frz hF3, List.Pairwise.sublist (List.eraseIdx_sublist _ _) hDs, Wf.ofBf_ok hbf2, by omega, rfl⟩, Fz.le_trans hF2 hF3⟩
end Go.SX
