/- Contracts and plain laws, laid together. -/
import Derived.Calls
import Derived.Orders
import Derived.OrdersHeld
import Derived.Tactics
import Derived.OwnWalk
import Derived.Laws.Small
import Derived.Laws.Strings
import Derived.Laws.Pointers
import Derived.Laws.CopyRow
import Derived.Laws.Append
import Derived.Laws.AppendOwn
import Derived.Laws.BytesArg
import Derived.Laws.Slices
import Derived.Laws.MakeOwn
import Derived.Laws.Tables
import Derived.Great.BuildSlice
import Derived.Laws.Cover3
import Derived.Laws.Concat
import Derived.Test.YtbciniijhlaomaaGreatProg
import Derived.Below
import Derived.SizedLaws
import Derived.ChangeSlices
import Derived.ChangeOld
import Derived.Laws.StructEq
import Derived.Deep.Matrix
import Derived.Deep.SlicePairs
import Derived.Deep.Grids
import Derived.MapKept
import Derived.Carry
import Derived.WideLaws
import Derived.Laws.Externs
import Derived.Laws.FloatArith
import Derived.Test.YtbciniijhlaomaaGreatMe4
namespace Go.SX
open Go Go.Proofs
set_option maxRecDepth 4000
theorem wal_Keep2 (O : World) (F : Fz) (a : Nat) (bf : Bf) (b : List UInt8) (sure ops : Nat) (h : Bool) (t : Nat) (vo : Int) (lv : Value) (l : List En) (Fr : List Ent) (hok : bf.ok b.length) (hb : b.length ≤ 100000000000000) (ho : ops ≤ 9223372036854775806)
    (hv : Sl F [] 4 lv l.length (enV l)) (hl : ∀ e ∈ l, e.ok F) (hn : l.length ≤ 1000) (h1 : -1 ≤ vo) (h2 : vo < 65535) :
    Does Tryz.prog O 64 #[ptrV a, .agg #[.bool h, .int .u64 t, .int .i64 vo, lv]] F (DkE a bf b sure ops :: (bf.ents 1 (bytesV b) ++ Fr)) (fun r F' H' => r = .int .i64 0 ∧ F' = F ∧ ∃ bf' : Bf, bf'.ok (b ++ saveB h t vo (l.map En.pure)).length ∧
      H' = DkE a bf' (b ++ saveB h t vo (l.map En.pure)) sure (ops + 1) :: (bf'.ents 1 (bytesV (b ++ saveB h t vo (l.map En.pure))) ++ Fr)) := by
  obtain ⟨a0, cap, rfl, hcap⟩ := Sl.shape hv
  have hsl := saveB_le h t vo l hl hn
  refine does_of_run (args := [_, _]) Tryz.func64 rfl rfl ?_
  refine r_seq (r_region rfl (o_act rfl rfl rfl rfl (a_box rfl) ?_))
  rintro v' H' ⟨s0, rfl, rfl⟩
  refine o_vl rfl rfl (v_assign rfl) (o_end (r_seq (r_region rfl (o_vl rfl rfl (v_move rfl) (o_vl rfl rfl (v_loadAgg (sz := 4) (cs := [.bool h, .int .u64 t, .int .i64 vo, .slice a0 l.length cap]) rfl rfl rfl rfl (cells_of (j := 0) _ _ rfl rfl)) (o_call rfl rfl rfl rfl (c_call callable77 rfl) (wal_Bytes _ _ h t vo (.slice a0 l.length cap) l _ (hv.frz (Fz.le_refl _)) hl hn h1 h2) ?_))))))
  rintro v' F H' ⟨rfl, bs, oks, rfl, rfl⟩ _
  generalize saveB h t vo (l.map En.pure) = m at *
  refine j_sel (H' := DkE a bf b sure ops :: (bf.ents 1 (bytesV b) ++ (bs.ents 1 (bytesV m) ++ Fr))) [bs.ents 1 (bytesV m), [Ent.mem s0 [.bool h, .int .u64 t, .int .i64 vo, .slice a0 l.length cap] 4], [DkE a bf b sure ops], bf.ents 1 (bytesV b), Fr] [2, 3, 0, 4] rfl rfl rfl ?_
  refine o_call rfl rfl rfl rfl (c_call callable92 rfl) (dk_Append _ _ a bf b m sure ops _ (bs.ents 1 (bytesV m) ++ Fr) hok (bf_reads oks (by intro q hq; exact List.mem_append_left _ hq)) (by omega) ho) ?_
  rintro v' F H' ⟨rfl, rfl, bf', hok', rfl⟩ _
  refine o_vl rfl rfl (v_assign rfl) (o_end ?_)
  refine j_sel (H' := DkE a bf' (b ++ m) sure (ops + 1) :: (bf'.ents 1 (bytesV (b ++ m)) ++ Fr)) [[DkE a bf' (b ++ m) sure (ops + 1)], bf'.ents 1 (bytesV (b ++ m)), bs.ents 1 (bytesV m), Fr] [0, 1, 3] rfl rfl rfl ?_
  exact r_ret1 Tryz.func64 rfl rfl ⟨⟨rfl, rfl, bf', hok', rfl⟩, Fz.le_refl _⟩
theorem wal_Open2 (O : World) (F : Fz) (a : Nat) (bf : Bf) (l : List UInt8) (sure ops : Nat) (Fr : List Ent) (hok : bf.ok l.length) (hl : l.length ≤ 10000000000) (ho : ops ≤ 9223372036854775806) :
    Does Tryz.prog O 46 #[ptrV a] F (DkE a bf l sure ops :: (bf.ents 1 (bytesV l) ++ Fr)) (fun r F' H' => F.le F' ∧ ∃ (p : Im) (bf2 : Bf) (sure2 ops2 : Nat), p.ok F' ∧ p.l.length ≤ l.length ∧ p.pure = (scanP nilI l).1 ∧ r = .tuple #[.agg p.cells.toArray, .int .i64 0] ∧ bf2.ok (l.take (scanP nilI l).2).length ∧ ((sure2 = sure ∧ (scanP nilI l).2 = l.length) ∨ sure2 = (scanP nilI l).2) ∧ ops2 ≤ ops + 1 ∧
      H' = DkE a bf2 (l.take (scanP nilI l).2) sure2 ops2 :: (bf2.ents 1 (bytesV (l.take (scanP nilI l).2)) ++ Fr)) := by
  refine does_of_run (args := [_]) Tryz.func46 rfl rfl ?_
  obtain ⟨hsc1, _⟩ := scanP_again l.length nilI l (Nat.le_refl _)
  refine r_seq (r_region rfl (o_act rfl rfl rfl rfl (a_alloc rfl) ?_))
  rintro v' H' ⟨x, rfl, rfl⟩
  obtain ⟨z0, hz0⟩ : ∃ z0 : Im, z0 = ⟨0, 0, 0, 0, 0, .slice none 0 0, [], .slice none 0 0, []⟩ := ⟨_, rfl⟩
  refine j_heap (H' := .mem x z0.cells 7 :: DkE a bf l sure ops :: (bf.ents 1 (bytesV l) ++ Fr)) (by rw [hz0]; rfl) ?_
  refine j_sel (H' := DkE a bf l sure ops :: (bf.ents 1 (bytesV l) ++ (.mem x z0.cells 7 :: Fr))) [[Ent.mem x z0.cells 7], [DkE a bf l sure ops], bf.ents 1 (bytesV l), Fr] [1, 2, 0, 3] rfl rfl rfl ?_
  refine o_vl rfl rfl (v_assign rfl) (o_end (r_seq (r_seq (r_region rfl (o_vl rfl rfl (v_move rfl) (o_vl rfl rfl (v_peqnil rfl rfl rfl) (o_end (r_false rfl (r_skip (r_seq (r_region rfl (o_vl rfl rfl (v_move rfl) (o_call rfl rfl rfl rfl (c_call callable71 rfl) (dk_Read _ _ a bf l sure ops _ hok (by omega)) ?_)))))))))))))
  rintro v' F H' ⟨rfl, bc, okc, rfl, rfl⟩ _
  refine j_freezeBf (n := l.length) okc (by simp) fun F1 hF1 hs1 => ?_
  have hs1' : SlB F1 [] (bc.val l.length) l := hs1
  refine o_vl rfl rfl (v_assign rfl) (o_end (r_seq (r_region rfl (o_vl rfl rfl (v_move rfl) (o_call rfl rfl rfl rfl (c_call callable72 rfl) (wal_Scan _ _ _ l _ hs1' hl) ?_)))))
  rintro v' F2 H' ⟨hF2, rfl, p, hp, hpl, hpp, rfl⟩ _
  have hpo := hp.one
  generalize hn : (scanP nilI l).2 = n at *
  refine o_vl rfl rfl (v_move rfl) (o_vl rfl rfl (v_extract rfl rfl) (o_vl rfl rfl (v_extract rfl rfl) (o_act rfl rfl rfl rfl (a_alloc rfl) ?_)))
  rintro v' H' ⟨y, rfl, rfl⟩
  refine o_act0 rfl rfl rfl (a_store (sz := 7) 0 rfl rfl rfl (by simpa [Value.cells] using hpo) rfl rfl (Nat.le_of_ble_eq_true rfl)) ?_
  refine j_heap (H' := .mem y p.cells 7 :: DkE a bf l sure ops :: (bf.ents 1 (bytesV l) ++ (.mem x z0.cells 7 :: Fr))) rfl ?_
  refine j_sel (H' := DkE a bf l sure ops :: (bf.ents 1 (bytesV l) ++ (.mem y p.cells 7 :: .mem x z0.cells 7 :: Fr))) [[Ent.mem y p.cells 7], [DkE a bf l sure ops], bf.ents 1 (bytesV l), [Ent.mem x z0.cells 7], Fr] [1, 2, 0, 3, 4] rfl rfl rfl ?_
  refine o_vl rfl rfl (v_assign rfl) (o_end (r_seq (r_seq (r_region rfl (o_vl rfl rfl (v_move rfl) (o_vl rfl rfl (v_move rfl) (o_vl rfl rfl (v_len rfl rfl) (o_vl rfl rfl (v_lss rfl rfl) (o_end (r_if rfl (fun g => ?_) (fun g => ?_)))))))))))
  · have hvt : SlB F2 [] (Go.sliced bc.addr 0 n bc.cp 1) (l.take n) := SlB.take (hs1'.frz hF2) (by omega)
    refine r_region rfl (o_vl rfl rfl (v_move rfl) (o_vl rfl rfl (v_move rfl) (o_vl rfl rfl (v_move rfl) (o_vl rfl rfl (v_sliceH (sz := 1) rfl rfl rfl rfl rfl (by have := Bf.ok_cp okc; omega)) (o_call rfl rfl rfl rfl (c_call callable49 rfl) (dk_Put _ _ a bf l (l.take n) sure ops _ (.mem y p.cells 7 :: .mem x z0.cells 7 :: Fr) (hvt.frz (Fz.le_refl _)) (by simp; omega) ho) ?_)))))
    rintro v' F2 H' ⟨rfl, rfl, bf', hok', rfl⟩ _
    generalize hD1 : DkE a bf' (l.take n) (l.take n).length (ops + 1) = D1
    generalize hB1 : bf'.ents 1 (bytesV (l.take n)) = B1
    refine o_end (r_seq (r_region rfl ?_))
    refine j_sel (H' := .mem y p.cells 7 :: .mem x z0.cells 7 :: D1 :: (B1 ++ Fr)) [[D1], B1, [Ent.mem y p.cells 7], [Ent.mem x z0.cells 7], Fr] [2, 3, 0, 1, 4] rfl rfl rfl ?_
    refine o_vl rfl rfl (v_loadAgg (sz := 7) (cs := p.cells) rfl rfl rfl rfl (cells_of (j := 0) _ _ rfl rfl)) (o_act0 rfl rfl rfl (a_store (sz := 7) 1 rfl rfl rfl (by simpa [Value.cells] using hpo) rfl rfl (by rw [hz0]; exact Nat.le_of_ble_eq_true rfl)) ?_)
    refine j_heap (H' := .mem y p.cells 7 :: .mem x p.cells 7 :: D1 :: (B1 ++ Fr)) (by rw [hz0]; rfl) ?_
    refine o_vl rfl rfl (v_assign rfl) (o_end ?_)
    subst hD1 hB1
    exact r_retC1 Tryz.func46 rfl rfl rfl rfl rfl rfl (cells_of (j := 1) _ _ rfl rfl) (H' := DkE a bf' (l.take n) (l.take n).length (ops + 1) :: (bf'.ents 1 (bytesV (l.take n)) ++ Fr)) ((List.sublist_cons_self _ _).trans (List.sublist_cons_self _ _)) ⟨⟨Fz.le_trans hF1 hF2, p, bf', _, _, hp, hpl, hpp, rfl, hok', .inr (by simp; omega), Nat.le_refl _, rfl⟩, Fz.le_trans hF1 hF2⟩
  · have hnl : n = l.length := by omega
    generalize hD1 : DkE a bf l sure ops = D1
    generalize hB1 : bf.ents 1 (bytesV l) = B1
    refine r_skip (r_seq (r_region rfl ?_))
    refine j_sel (H' := .mem y p.cells 7 :: .mem x z0.cells 7 :: D1 :: (B1 ++ Fr)) [[D1], B1, [Ent.mem y p.cells 7], [Ent.mem x z0.cells 7], Fr] [2, 3, 0, 1, 4] rfl rfl rfl ?_
    refine o_vl rfl rfl (v_loadAgg (sz := 7) (cs := p.cells) rfl rfl rfl rfl (cells_of (j := 0) _ _ rfl rfl)) (o_act0 rfl rfl rfl (a_store (sz := 7) 1 rfl rfl rfl (by simpa [Value.cells] using hpo) rfl rfl (by rw [hz0]; exact Nat.le_of_ble_eq_true rfl)) ?_)
    refine j_heap (H' := .mem y p.cells 7 :: .mem x p.cells 7 :: D1 :: (B1 ++ Fr)) (by rw [hz0]; rfl) ?_
    refine o_vl rfl rfl (v_assign rfl) (o_end ?_)
    subst hD1 hB1
    have htl : l.take n = l := by rw [hnl, List.take_length]
    exact r_retC1 Tryz.func46 rfl rfl rfl rfl rfl rfl (cells_of (j := 1) _ _ rfl rfl) (H' := DkE a bf l sure ops :: (bf.ents 1 (bytesV l) ++ Fr)) ((List.sublist_cons_self _ _).trans (List.sublist_cons_self _ _)) ⟨⟨Fz.le_trans hF1 hF2, p, bf, sure, ops, hp, hpl, hpp, rfl, by rw [htl]; exact hok, .inl ⟨rfl, hnl⟩, by omega, by rw [htl]⟩, Fz.le_trans hF1 hF2⟩
end Go.SX
namespace Go.SX
open Go Go.MapKept
def mapEntsK (kk : IntKind) : List (Int × Value) → Nat → List MapEntry
  | [], _ => []
  | x :: r, n => ⟨.int kk x.1, x.2, n⟩ :: mapEntsK kk r (n + 1)
theorem mapEntsK_length (kk : IntKind) : ∀ (l : List (Int × Value)) (n : Nat), (mapEntsK kk l n).length = l.length
  | [], _ => rfl
  | x :: r, n => by simp [mapEntsK, mapEntsK_length kk r]
theorem mapEntsK_get (kk : IntKind) : ∀ (l : List (Int × Value)) (n i : Nat) (h : i < l.length), (mapEntsK kk l n)[i]? = some ⟨.int kk l[i].1, l[i].2, n + i⟩
  | x :: r, n, 0, _ => rfl
  | x :: r, n, i + 1, h => by
    have := mapEntsK_get kk r (n + 1) i (by simpa using h)
    simp only [mapEntsK, List.getElem?_cons_succ, List.getElem_cons_succ]
    rw [this]
    congr 2
    omega
theorem mapEntsK_mem {kk : IntKind} {l : List (Int × Value)} {n : Nat} {e : MapEntry} (h : e ∈ mapEntsK kk l n) : ∃ (i : Nat) (hi : i < l.length), e = ⟨.int kk l[i].1, l[i].2, n + i⟩ := by
  obtain ⟨i, hi, rfl⟩ := List.getElem_of_mem h
  rw [mapEntsK_length] at hi
  refine ⟨i, hi, ?_⟩
  have := mapEntsK_get kk l n i hi
  rw [List.getElem?_eq_getElem (by rw [mapEntsK_length]; exact hi)] at this
  exact Option.some.inj this
def mapObjK (kk : IntKind) (l : List (Int × Value)) : Obj := .map (mapEntsK kk l 0).toArray l.length
def putKV : List (Int × Value) → Int → Value → List (Int × Value)
  | [], k, v => [(k, v)]
  | x :: r, k, v => if x.1 = k then (k, v) :: r else x :: putKV r k v
theorem putKV_new : ∀ (l : List (Int × Value)) (k : Int) (v : Value), lookKV l k = none → putKV l k v = l ++ [(k, v)]
  | [], _, _, _ => rfl
  | x :: r, k, v, h => by
    simp only [lookKV] at h
    by_cases e : x.1 = k
    · rw [if_pos e] at h; cases h
    · rw [if_neg e] at h
      simp only [putKV, if_neg e, List.cons_append, putKV_new r k v h]
theorem putKV_old : ∀ (l : List (Int × Value)) (k : Int) (v : Value), lookKV l k ≠ none → (putKV l k v).length = l.length
  | [], _, _, h => absurd rfl h
  | x :: r, k, v, h => by
    simp only [lookKV] at h
    by_cases e : x.1 = k
    · simp [putKV, e]
    · rw [if_neg e] at h
      simp [putKV, e, putKV_old r k v h]
theorem findNow_K (kk : IntKind) (k : Int) (v : Value) : ∀ (l : List (Int × Value)) (n i : Nat), ∃ a, Instr.findNow (.int kk) (.int kk k) (mapEntsK kk l n) i = some a ∧ a.map (·.2) = lookKV l k ∧
    ∀ q, a = some q → ∃ j, q.1 = i + j ∧ ((mapEntsK kk l n)[j]?).map (·.key) = some (.int kk k) ∧ (mapEntsK kk l n).modify j (fun e => { e with key := .int kk k, val := v }) = mapEntsK kk (putKV l k v) n
  | [], n, i => ⟨none, rfl, rfl, fun q h => by cases h⟩
  | x :: r, n, i => by
    obtain ⟨b, hq, hiff⟩ := sameNow_of_keys (d := .int kk) (a := .int kk k) (b := .int kk x.1) rfl rfl
    cases b with
    | true =>
      have hk : k = x.1 := by have := hiff.1 rfl; cases this; rfl
      refine ⟨some (i, x.2), by simp [mapEntsK, Instr.findNow, hq], by simp [lookKV, hk], fun q h => ?_⟩
      cases h
      exact ⟨0, rfl, by rw [hk]; rfl, by simp [mapEntsK, putKV, hk, List.modify]⟩
    | false =>
      have hne : ¬ x.1 = k := fun h => by have := hiff.2 (by rw [h]); cases this
      obtain ⟨a, h1, h2, h3⟩ := findNow_K kk k v r (n + 1) (i + 1)
      refine ⟨a, by simp [mapEntsK, Instr.findNow, hq, h1], by simp [lookKV, hne, h2], fun q h => ?_⟩
      obtain ⟨j, hj1, hj2, hj3⟩ := h3 q h
      refine ⟨j + 1, by omega, by simpa [mapEntsK] using hj2, ?_⟩
      simp only [mapEntsK, putKV, if_neg hne, List.modify_succ_cons, hj3]
section
variable {C : Cx} {k : List Item} {τ : Env} {F : Fz} {H : List Ent} {dst : Option Nat} {ty t u kt et : TypeId} {pos : String} {aft : Array Edge} {g : Option (Nat × Bool)} {x y z : Operand}
theorem a_makeMapK (kk : IntKind) : Act1 C ⟨dst, .makeMap t none, ty, pos, aft, g⟩ τ F H (fun v H' => ∃ b, v = .map (some b) ∧ H' = .obj b (mapObjK kk []) :: H) := by
  intro a w ha hw
  refine ⟨.map (some w.heap.size), _, w.alloc (.map #[] 0), ?_, ⟨_, rfl, rfl⟩, hw.new (o := .map #[] 0) rfl rfl rfl rfl rfl ⟨by rw [heap_alloc_new]; rfl, rfl⟩⟩
  simp only [execOp, Option.map_none, Sem.run_bind]
  rfl
theorem v_lookupK {kk : IntKind} {b : Nat} {l : List (Int × Value)} {n : Int} {i : TypeInfo} {zv : Value} (ht : C.P.underlying t = some (.map kt et)) (hk : C.P.underlying kt = some (.int kk)) (hi : C.P.info? et = some i) (hz : i.zero = some zv)
    (hm : Ent.obj b (mapObjK kk l) ∈ H) (hx : ev τ x = some (.map (some b))) (hy : ev τ y = some (.int kk n)) {v : Value} {q : Bool} (hv : (lookKV l n).getD zv = v) (hq : (lookKV l n).isSome = q) :
    Val C ⟨dst, .lookup t x y true, ty, pos, aft, g⟩ τ F H (.tuple #[v, .bool q]) := fun a w ha hw => by
  subst hv hq
  have hb := (hw.2 _ hm).1
  obtain ⟨r, h1, h2, _⟩ := findNow_K kk n zv l 0 0
  have hg : (getObj b).run C.P w = .ok (.map (mapEntsK kk l 0).toArray l.length) w := Go.MapKept.run_getObj_map hb
  have hf : (Instr.findKey kt (.int kk n) (mapEntsK kk l 0).toArray.toList).run C.P w = .ok r w := Go.MapKept.run_findKey hk h1
  have hc := Go.MapKept.run_checkKey (P := C.P) (w := w) hk (k := .int kk n) rfl (mapEntsK kk l 0).toArray.isEmpty 9999
  simp only [execOp, ha.eval hx, ha.eval hy, Instr.lookup, Sem.run_bind, run_underlying ht, Result.andThen_ok, hg, Sem.run_pure, hc, hf]
  cases r with
  | none =>
    have h3 : lookKV l n = none := by rw [← h2]; rfl
    simp [h3, zeroValue, typeInfo, hi, hz]
  | some q =>
    have h3 : lookKV l n = some q.2 := by rw [← h2]; rfl
    simp [h3]
theorem a_mapPut (j : Nat) {kk : IntKind} {b : Nat} {l : List (Int × Value)} {n : Int} {v : Value} (ht : C.P.underlying t = some (.map kt et)) (hk : C.P.underlying kt = some (.int kk))
    (hj : H[j]? = some (.obj b (mapObjK kk l))) (hx : ev τ x = some (.map (some b))) (hy : ev τ y = some (.int kk n)) (hv : ev τ z = some v) :
    Act0 C ⟨none, .mapUpdate t x y z, ty, pos, aft, g⟩ τ F H (H.set j (.obj b (mapObjK kk (putKV l n v)))) := by
  intro a w ha hw
  have hb := (hw.own _ (List.mem_of_getElem? hj)).1
  obtain ⟨r, h1, h2, h3⟩ := findNow_K kk n v l 0 0
  have hg : (getObj b).run C.P w = .ok (.map (mapEntsK kk l 0).toArray l.length) w := Go.MapKept.run_getObj_map hb
  have hf : (Instr.findKey kt (.int kk n) (mapEntsK kk l 0).toArray.toList).run C.P w = .ok r w := Go.MapKept.run_findKey hk h1
  have hc := Go.MapKept.run_checkKey (P := C.P) (w := w) hk (k := .int kk n) rfl false 9999
  have hst := Go.MapKept.run_setObj_map (P := C.P) (mapObjK kk (putKV l n v)) hb
  refine ⟨{ w with heap := w.heap.setIfInBounds b (mapObjK kk (putKV l n v)) }, ?_, hw.setObj hj rfl rfl rfl (fun k hk => (Go.MapKept.heap_set hb).2 k hk) ⟨(Go.MapKept.heap_set hb).1, rfl⟩⟩
  cases r with
  | none =>
    have hno : lookKV l n = none := by rw [← h2]; rfl
    have hnew : mapObjK kk (putKV l n v) = .map ((mapEntsK kk l 0).toArray.push ⟨.int kk n, v, l.length⟩) (l.length + 1) := by
      rw [putKV_new l n v hno]
      have happ : ∀ (l : List (Int × Value)) (m : Nat), mapEntsK kk (l ++ [(n, v)]) m = mapEntsK kk l m ++ [⟨.int kk n, v, m + l.length⟩] := by
        intro l
        induction l with
        | nil => intro m; rfl
        | cons y r ih =>
          intro m
          simp only [List.cons_append, mapEntsK, ih, List.length_cons]
          congr 4
          omega
      unfold mapObjK
      rw [happ]
      simp
    simp only [execOp, ha.eval hx, ha.eval hy, ha.eval hv, Instr.mapUpdate, Sem.run_bind, run_underlying ht, Result.andThen_ok, hg, hc, hf, ← hnew, hst]
    rfl
  | some q =>
    obtain ⟨i, hi1, hi2, hi3⟩ := h3 q rfl
    have hin : lookKV l n ≠ none := by rw [← h2]; simp
    have hqi : q.1 = i := by omega
    have hnew : mapObjK kk (putKV l n v) = .map ((mapEntsK kk l 0).toArray.modify q.1 (fun e => { e with key := .int kk n, val := v })) l.length := by
      unfold mapObjK
      rw [putKV_old l n v hin, ← hi3, hqi]
      simp
    have hkey : (((mapEntsK kk l 0).toArray[q.1]?).map (·.key)).getD (.int kk n) = .int kk n := by
      rw [hqi]
      have : (mapEntsK kk l 0).toArray[i]? = (mapEntsK kk l 0)[i]? := by simp
      rw [this, hi2]
      rfl
    have hstay : ∀ w', (Instr.keyThatStays (.int kk n) (.int kk n)).run C.P w' = .ok (.int kk n) w' := fun w' => by
      unfold Instr.keyThatStays
      have : Instr.sameBits 10000 (.int kk n) (.int kk n) = true := by simp [Instr.sameBits]
      rw [if_pos this]
      rfl
    simp only [execOp, ha.eval hx, ha.eval hy, ha.eval hv, Instr.mapUpdate, Sem.run_bind, run_underlying ht, Result.andThen_ok, hg, hc, hf, hkey, hstay, ← hnew, hst]
    rfl
end
end Go.SX
namespace Go.SX
open Go Go.MapKept
def itObj (b n : Nat) (S : List Nat) : Obj := .mapIter (some b) n S.toArray n
section
variable {C : Cx} {k : List Item} {τ : Env} {F : Fz} {H : List Ent} {dst : Option Nat} {ty t u kt et : TypeId} {pos : String} {aft : Array Edge} {g : Option (Nat × Bool)} {x y z : Operand}
theorem a_range {kk : IntKind} {b : Nat} {l : List (Int × Value)} (ht : C.P.underlying t = some (.map kt et)) (hm : Ent.obj b (mapObjK kk l) ∈ H) (hx : ev τ x = some (.map (some b))) :
    Act1 C ⟨dst, .range t x, ty, pos, aft, g⟩ τ F H (fun v H' => ∃ it, v = ptrV it ∧ H' = .obj it (itObj b l.length []) :: H) := by
  intro a w ha hw
  have hb := (hw.own _ hm).1
  have hg : (getObj b).run C.P w = .ok (.map (mapEntsK kk l 0).toArray l.length) w := Go.MapKept.run_getObj_map hb
  refine ⟨ptrV w.heap.size, _, w.alloc (itObj b l.length []), ?_, ⟨_, rfl, rfl⟩, hw.new (o := itObj b l.length []) rfl rfl rfl rfl rfl ⟨by rw [heap_alloc_new], rfl⟩⟩
  simp only [execOp, ha.eval hx, Instr.range, Sem.run_bind, run_underlying ht, Result.andThen_ok, hg, Sem.run_pure]
  rfl
theorem a_next (j : Nat) {kk : IntKind} {it b : Nat} {l : List (Int × Value)} {S : List Nat} (hj : H[j]? = some (.obj it (itObj b l.length S))) (hm : Ent.obj b (mapObjK kk l) ∈ H) (hx : ev τ x = some (ptrV it)) :
    Act1 C ⟨dst, .next x false, ty, pos, aft, g⟩ τ F H (fun v H' => (v = .tuple #[.bool false] ∧ (∀ i < l.length, i ∈ S) ∧ H' = H) ∨
      ∃ (i : Nat) (hi : i < l.length), i ∉ S ∧ v = .tuple #[.bool true, .int kk l[i].1, l[i].2] ∧ H' = H.set j (.obj it (itObj b l.length (S ++ [i])))) := by
  intro a w ha hw
  have hb := (hw.own _ hm).1
  have hio := (hw.own _ (List.mem_of_getElem? hj)).1
  have hg : (getObj b).run C.P w = .ok (.map (mapEntsK kk l 0).toArray l.length) w := Go.MapKept.run_getObj_map hb
  have hgi : (getObj it).run C.P w = .ok (itObj b l.length S) w := by simp only [getObj, Sem.run, hio]; rfl
  obtain ⟨es, hes⟩ : ∃ es : Array MapEntry, es = (mapEntsK kk l 0).toArray := ⟨_, rfl⟩
  have hborn : ∀ e ∈ es, e.born < l.length := fun e he => by
    rw [hes] at he
    obtain ⟨i, hi, rfl⟩ := mapEntsK_mem (by simpa using he)
    simpa using hi
  have hcond : (!S.toArray.isEmpty && !es.isEmpty && es.all (fun e => decide (e.born ≥ l.length))) = false := by
    cases hq : es.isEmpty with
    | true => simp
    | false =>
      have : ∃ e, e ∈ es := by
        have h0 : 0 < es.size := by
          rcases Nat.eq_zero_or_pos es.size with h | h
          · rw [Array.isEmpty_iff_size_eq_zero.2 h] at hq; cases hq
          · exact h
        exact ⟨es[0], Array.getElem_mem h0⟩
      obtain ⟨e, he⟩ := this
      have hall : es.all (fun e => decide (e.born ≥ l.length)) = false := by
        rw [Bool.eq_false_iff]
        intro hall
        have h1 := Array.all_eq_true'.1 hall e he
        have h2 := hborn e he
        simp at h1
        omega
      simp [hall]
  obtain ⟨left, hleft⟩ : ∃ left, left = es.filter fun e => !S.toArray.contains e.born := ⟨_, rfl⟩
  have hlb : ∀ e ∈ left, e.born < l.length := fun e he => by
    rw [hleft] at he
    exact hborn e (Array.mem_filter.1 he).1
  have hold : left.filter (fun e => decide (e.born < l.length)) = left := by
    rw [Array.filter_eq_self]
    exact fun e he => decide_eq_true (hlb e he)
  have hnew : left.filter (fun e => decide (e.born ≥ l.length)) = #[] := by
    rw [Array.filter_eq_empty_iff]
    exact fun e he => by have := hlb e he; simp; omega
  obtain ⟨cand, hcand⟩ : ∃ cand : Array (Option MapEntry), cand = (if left.isEmpty then #[none] else #[]) ++ (left ++ #[]).map some := ⟨_, rfl⟩
  have hcs : 0 < cand.size := by
    rw [hcand]
    cases hq : left.isEmpty with
    | true => simp; omega
    | false =>
      have h0 : 0 < left.size := by
        rcases Nat.eq_zero_or_pos left.size with h | h
        · rw [Array.isEmpty_iff_size_eq_zero.2 h] at hq; cases hq
        · exact h
      simp [h0]
  -- the place that is drawn, and the world then
  obtain ⟨d, w2, hch, hd, hst2⟩ : ∃ d w2, (choose (.mapNext cand.size)).run C.P w = .ok d w2 ∧ d < cand.size ∧ St C.O F H w2 ∧ w2.heap = w.heap := by
    rw [run_choose]
    by_cases hf : (Question.mapNext cand.size).forced = true
    · exact ⟨0, w, by rw [if_pos hf], hcs, hw, rfl⟩
    · exact ⟨w.tape w.drawn (.mapNext cand.size) % cand.size, { w with drawn := w.drawn + 1 }, by rw [if_neg hf]; rfl, Nat.mod_lt _ hcs, hw.drew _, rfl⟩
  obtain ⟨hst2, hh2⟩ := hst2
  have hstep : (Instr.next (ptrV it) false ty).run C.P w = ((match cand[d]? with
      | some (some e) => (do setObj it (.mapIter (some b) l.length (S.toArray.push e.born) l.length); pure (.tuple #[.bool true, e.key, e.val]) : Sem Value)
      | some none => pure (.tuple #[.bool false])
      | none => stuck "Next: no such candidate") : Sem Value).run C.P w2 := by
    unfold Instr.next
    simp only [ptrV, Sem.run_bind, hgi, Result.andThen_ok, itObj, hg, ← hes]
    rw [hcond]
    simp only [Bool.false_eq_true, if_false, ← hleft, hold, hnew, ← hcand, Sem.run_bind, hch, Result.andThen_ok]
    rfl
  obtain ⟨c, hcc⟩ : ∃ c, c = cand[d] := ⟨_, rfl⟩
  have hcd : cand[d]? = some c := by rw [hcc]; exact Array.getElem?_eq_getElem hd
  have hlmem : ∀ e, e ∈ left ↔ ∃ (i : Nat) (hi : i < l.length), i ∉ S ∧ e = ⟨.int kk l[i].1, l[i].2, i⟩ := fun e => by
    rw [hleft, Array.mem_filter, hes]
    constructor
    · rintro ⟨h1, h2⟩
      obtain ⟨i, hi, rfl⟩ := mapEntsK_mem (by simpa using h1)
      simp only [Nat.zero_add] at h2 ⊢
      exact ⟨i, hi, by simpa using h2, rfl⟩
    · rintro ⟨i, hi, h1, rfl⟩
      refine ⟨?_, by simpa using h1⟩
      have := mapEntsK_get kk l 0 i hi
      rw [Nat.zero_add] at this
      simpa using List.mem_of_getElem? this
  have hcm : c ∈ cand := by rw [hcc]; exact Array.getElem_mem hd
  rw [hcand] at hcm
  clear hcc
  rcases Array.mem_append.1 hcm with h1 | h1
  · -- none are left
    have hle : left.isEmpty = true := by
      cases hq : left.isEmpty with
      | true => rfl
      | false => rw [hq] at h1; simp at h1
    have hn : c = none := by rw [hle] at h1; simpa using h1
    refine ⟨.tuple #[.bool false], H, w2, ?_, .inl ⟨rfl, fun i hi => ?_, rfl⟩, hst2⟩
    · simp only [execOp, ha.eval hx, Sem.run_bind, hstep, hcd, hn, Sem.run_pure, Result.andThen_ok]
    · refine Classical.byContradiction fun hni => ?_
      have : (⟨.int kk l[i].1, l[i].2, i⟩ : MapEntry) ∈ left := (hlmem _).2 ⟨i, hi, hni, rfl⟩
      rw [Array.isEmpty_iff.1 hle] at this
      simp at this
  · rw [Array.append_empty] at h1
    obtain ⟨e, he, hce⟩ := Array.mem_map.1 h1
    obtain ⟨i, hi, hni, rfl⟩ := (hlmem e).1 he
    have hit2 : w2.heap[it]? = some (itObj b l.length S) := by rw [hh2]; exact hio
    have hset : (setObj it (itObj b l.length (S ++ [i]))).run C.P w2 = .ok () { w2 with heap := w2.heap.setIfInBounds it (itObj b l.length (S ++ [i])) } := by
      simp only [setObj, Sem.run, hit2]
      rfl
    refine ⟨.tuple #[.bool true, .int kk l[i].1, l[i].2], _, { w2 with heap := w2.heap.setIfInBounds it (itObj b l.length (S ++ [i])) }, ?_, .inr ⟨i, hi, hni, rfl, rfl⟩,
      hst2.setObj hj rfl rfl rfl (fun k hk => (Go.MapKept.heap_set hit2).2 k hk) ⟨(Go.MapKept.heap_set hit2).1, rfl⟩⟩
    have hpush : S.toArray.push i = (S ++ [i]).toArray := by simp
    have hset2 : (setObj it (.mapIter (some b) l.length (S.toArray.push i) l.length)).run C.P w2 = .ok () { w2 with heap := w2.heap.setIfInBounds it (itObj b l.length (S ++ [i])) } := by
      rw [hpush]
      exact hset
    simp only [execOp, ha.eval hx, Sem.run_bind, hstep, hcd, ← hce, hset2, Sem.run_pure, Result.andThen_ok]
theorem v_entry {kk : IntKind} {it b : Nat} {l : List (Int × Value)} {S : List Nat} {i : Nat} (hi : i < l.length) (hj : Ent.obj it (itObj b l.length (S ++ [i])) ∈ H) (hm : Ent.obj b (mapObjK kk l) ∈ H) (hx : ev τ x = some (ptrV it)) :
    Val C ⟨dst, .entry x, ty, pos, aft, g⟩ τ F H (.tuple #[.int kk l[i].1, l[i].2]) := fun a w ha hw => by
  have hb := (hw.2 _ hm).1
  have hio := (hw.2 _ hj).1
  have hg : (getObj b).run C.P w = .ok (.map (mapEntsK kk l 0).toArray l.length) w := Go.MapKept.run_getObj_map hb
  have hgi : (getObj it).run C.P w = .ok (itObj b l.length (S ++ [i])) w := by simp only [getObj, Sem.run, hio]; rfl
  have hback : (S ++ [i]).toArray.back? = some i := by simp
  have hfind : (mapEntsK kk l 0).toArray.find? (fun e => e.born == i) = some ⟨.int kk l[i].1, l[i].2, i⟩ := by
    have key : ∀ (l : List (Int × Value)) (n i : Nat) (h : i < l.length), (mapEntsK kk l n).find? (fun e => e.born == n + i) = some ⟨.int kk l[i].1, l[i].2, n + i⟩ := by
      intro l
      induction l with
      | nil => intro n i h; cases h
      | cons y r ih =>
        intro n i h
        cases i with
        | zero => simp [mapEntsK]
        | succ i =>
          have h2 := ih (n + 1) i (by simpa using h)
          have e1 : n + 1 + i = n + (i + 1) := by omega
          rw [e1] at h2
          simp only [mapEntsK, List.find?_cons, List.getElem_cons_succ]
          have : (n == n + (i + 1)) = false := by simp
          rw [this]
          exact h2
    have := key l 0 i hi
    simp only [Nat.zero_add] at this
    simpa using this
  simp only [execOp, ha.eval hx, ptrV, Instr.entry, Sem.run_bind, hgi, Result.andThen_ok, itObj, hback, hg, bne_self_eq_false, Bool.false_eq_true, if_false, hfind, Sem.run_pure]
end
end Go.SX
namespace Go.SX
open Go Go.Proofs
set_option maxRecDepth 4000
def lookN {α : Type} : List (Nat × α) → Nat → Option α
  | [], _ => none
  | x :: r, k => if x.1 = k then some x.2 else lookN r k
def putN {α : Type} : List (Nat × α) → Nat → α → List (Nat × α)
  | [], k, v => [(k, v)]
  | x :: r, k, v => if x.1 = k then (k, v) :: r else x :: putN r k v
theorem lookN_map {α β : Type} (f : α → β) : ∀ (l : List (Nat × α)) (k : Nat), lookN (l.map fun q => (q.1, f q.2)) k = (lookN l k).map f
  | [], _ => rfl
  | x :: r, k => by
    simp only [List.map_cons, lookN]
    by_cases h : x.1 = k
    · rw [if_pos h, if_pos h]; rfl
    · rw [if_neg h, if_neg h, lookN_map f r k]
theorem putN_map {α β : Type} (f : α → β) : ∀ (l : List (Nat × α)) (k : Nat) (v : α), (putN l k v).map (fun q => (q.1, f q.2)) = putN (l.map fun q => (q.1, f q.2)) k (f v)
  | [], _, _ => rfl
  | x :: r, k, v => by
    simp only [List.map_cons, putN]
    by_cases h : x.1 = k
    · rw [if_pos h, if_pos h]; rfl
    · rw [if_neg h, if_neg h, List.map_cons, putN_map f r k v]
theorem lookN_mem {α : Type} : ∀ (l : List (Nat × α)) (k : Nat) (v : α), lookN l k = some v → (k, v) ∈ l
  | [], _, _, h => by cases h
  | x :: r, k, v, h => by
    simp only [lookN] at h
    by_cases e : x.1 = k
    · rw [if_pos e] at h
      cases h
      rw [← e]
      exact List.mem_cons_self ..
    · rw [if_neg e] at h
      exact List.mem_cons_of_mem _ (lookN_mem r k v h)
theorem putN_mem {α : Type} : ∀ (l : List (Nat × α)) (k : Nat) (v : α) (q : Nat × α), q ∈ putN l k v → q = (k, v) ∨ q ∈ l
  | [], _, _, q, h => .inl (List.mem_singleton.1 h)
  | x :: r, k, v, q, h => by
    simp only [putN] at h
    by_cases e : x.1 = k
    · rw [if_pos e] at h
      rcases List.mem_cons.1 h with h | h
      · exact .inl h
      · exact .inr (List.mem_cons_of_mem _ h)
    · rw [if_neg e] at h
      rcases List.mem_cons.1 h with h | h
      · exact .inr (by rw [h]; exact List.mem_cons_self ..)
      · rcases putN_mem r k v q h with h | h
        · exact .inl h
        · exact .inr (List.mem_cons_of_mem _ h)
def kvN {α : Type} (f : α → Value) (l : List (Nat × α)) : List (Int × Value) := l.map fun q => ((q.1 : Int), f q.2)
@[simp] theorem kvN_len {α : Type} (f : α → Value) (l : List (Nat × α)) : (kvN f l).length = l.length := by simp [kvN]
theorem kvN_look {α : Type} (f : α → Value) : ∀ (l : List (Nat × α)) (k : Nat), lookKV (kvN f l) (k : Int) = (lookN l k).map f
  | [], _ => rfl
  | x :: r, k => by
    have ih := kvN_look f r k
    simp only [kvN, List.map_cons, lookKV, lookN] at ih ⊢
    by_cases h : x.1 = k
    · rw [if_pos (by omega), if_pos h]; rfl
    · rw [if_neg (by omega), if_neg h, ih]
theorem kvN_put {α : Type} (f : α → Value) : ∀ (l : List (Nat × α)) (k : Nat) (v : α), putKV (kvN f l) (k : Int) (f v) = kvN f (putN l k v)
  | [], _, _ => rfl
  | x :: r, k, v => by
    have ih := kvN_put f r k v
    simp only [kvN, List.map_cons, putKV, putN] at ih ⊢
    by_cases h : x.1 = k
    · rw [if_pos (by omega), if_pos h]; rfl
    · rw [if_neg (by omega), if_neg h, List.map_cons, ih]
theorem kvN_get {α : Type} (f : α → Value) (l : List (Nat × α)) (i : Nat) (h : i < (kvN f l).length) : (kvN f l)[i] = (((l[i]'(by simpa using h)).1 : Int), f (l[i]'(by simpa using h)).2) := by simp [kvN]
def PE.same (a b : PE) : Bool := decide (a.ix = b.ix) && decide (a.tm = b.tm) && decide (a.kd = b.kd) && decide (a.data = b.data)
def PE.z : PE := ⟨0, 0, 0, []⟩
def PR.settled (p : PR) : PR := { p with rs := false, chg := false, fresh := 0 }
def PR.disk (p : PR) (d : List UInt8 × Nat) : List UInt8 × Nat := if p.rs = true then (p.image.whole, p.image.whole.length) else if p.saves = true then (d.1 ++ saveB p.chg p.term p.vote p.saveE, d.2) else d
def PR.saveOk (p : PR) : Bool := (decide (p.fresh = 0) || decide (p.fresh ≤ p.last)) && decide (p.saveE.length ≤ 1000) && (!p.rs || decide (p.l.length ≤ 1000))
def topOf {α : Type} (l : List (Nat × α)) : Nat := l.foldl (fun t q => if t < q.1 then q.1 else t) 0
def leadB (i : Nat) (p : PR) (ld : List (Nat × Nat)) (bad : Bool) : Bool := bad || (match lookN ld p.term with | some k => decide (k ≠ i) | none => false) || decide (p.lead ≠ i)
def overB (p : PR) (ld : List (Nat × Nat)) (dn : List (Nat × PE)) (bad : Bool) : Bool := bad || (decide (topOf ld = p.term) && dn.any fun q => decide (p.last < q.1))
def PR.ent (p : PR) (k : Nat) : PE := (p.entry k).getD ⟨0, 0, 0, []⟩
def cmtB (p : PR) (k : Nat) (dn : List (Nat × PE)) (bad : Bool) : Bool := bad || !(p.entry k).isSome || decide ((p.ent k).ix ≠ k) || (match lookN dn k with | some w => !(p.ent k).same w | none => false)
def cmtF (p : PR) : Nat → Nat → List (Nat × PE) → Bool → List (Nat × PE) × Bool
  | 0, _, dn, bad => (dn, bad)
  | n + 1, k, dn, bad => cmtF p n (k + 1) (putN dn k (p.ent k)) (cmtB p k dn bad)
theorem topOf_le {α : Type} (l : List (Nat × α)) : ∀ t : Nat, t ≤ l.foldl (fun t q => if t < q.1 then q.1 else t) t ∧ ∀ q ∈ l, q.1 ≤ l.foldl (fun t q => if t < q.1 then q.1 else t) t := by
  induction l with
  | nil => exact fun t => ⟨Nat.le_refl _, by simp⟩
  | cons x r ih =>
    intro t
    simp only [List.foldl_cons]
    obtain ⟨h1, h2⟩ := ih (if t < x.1 then x.1 else t)
    have h3 : t ≤ (if t < x.1 then x.1 else t) ∧ x.1 ≤ (if t < x.1 then x.1 else t) := by split <;> omega
    refine ⟨by omega, fun q hq => ?_⟩
    rcases List.mem_cons.1 hq with rfl | hq
    · omega
    · exact h2 q hq
theorem topOf_in {α : Type} (l : List (Nat × α)) : ∀ t : Nat, l.foldl (fun t q => if t < q.1 then q.1 else t) t = t ∨ ∃ q ∈ l, q.1 = l.foldl (fun t q => if t < q.1 then q.1 else t) t := by
  induction l with
  | nil => exact fun t => .inl rfl
  | cons x r ih =>
    intro t
    simp only [List.foldl_cons]
    rcases ih (if t < x.1 then x.1 else t) with h | ⟨q, hq, h⟩
    · rw [h]
      split
      · exact .inr ⟨x, List.mem_cons_self .., rfl⟩
      · exact .inl rfl
    · exact .inr ⟨q, List.mem_cons_of_mem _ hq, h⟩
theorem topOf_is {α : Type} {l : List (Nat × α)} {t : Nat} (h1 : ∀ q ∈ l, q.1 ≤ t) (h2 : t = 0 ∨ ∃ q ∈ l, q.1 = t) : topOf l = t := by
  unfold topOf
  obtain ⟨h3, h4⟩ := topOf_le l 0
  have h5 := topOf_in l 0
  have h6 : t ≤ l.foldl (fun t q => if t < q.1 then q.1 else t) 0 := by
    rcases h2 with h | ⟨q, hq, h⟩
    · omega
    · have := h4 q hq; omega
  rcases h5 with h | ⟨q, hq, h⟩
  · omega
  · have := h1 q hq; omega
def leftN (n : Nat) (S : List Nat) : Nat := (List.range n).countP fun j => decide (j ∉ S)
theorem countP_le' {l : List Nat} {p q : Nat → Bool} (h : ∀ j ∈ l, q j = true → p j = true) : l.countP q ≤ l.countP p := by
  induction l with
  | nil => simp
  | cons x r ih =>
    have := ih fun j hj => h j (List.mem_cons_of_mem _ hj)
    have hx := h x (List.mem_cons_self ..)
    simp only [List.countP_cons]
    cases hq : q x with
    | true => rw [hx hq]; simp; omega
    | false => simp; omega
theorem leftN_lt {n i : Nat} {S : List Nat} (hi : i < n) (hS : i ∉ S) : leftN n (S ++ [i]) < leftN n S := by
  unfold leftN
  have hm : i ∈ List.range n := List.mem_range.2 hi
  generalize List.range n = l at hm
  induction l with
  | nil => simp at hm
  | cons x r ih =>
    simp only [List.countP_cons]
    have hle := countP_le' (l := r) (p := fun j => decide (j ∉ S)) (q := fun j => decide (j ∉ S ++ [i])) (fun j _ h => by simp at h ⊢; exact h.1)
    by_cases hx : x = i
    · subst hx
      simp [hS]
      simp at hle
      omega
    · have hr : i ∈ r := by
        rcases List.mem_cons.1 hm with h | h
        · exact absurd h.symm hx
        · exact h
      have := ih hr
      have hxx : decide (x ∉ S ++ [i]) = decide (x ∉ S) := by simp [hx]
      rw [hxx]
      omega
theorem g_same (O : World) (F : Fz) (a b : En) (Fr : List Ent) (ha : a.ok F) (hb : b.ok F) : Does Tryz.prog O 68 #[.agg a.cells.toArray, .agg b.cells.toArray] F Fr (fun v F' H' => v = .bool (a.pure.same b.pure) ∧ F' = F ∧ H' = Fr) := by
  refine does_of_run (args := [_, _]) Tryz.func68 rfl rfl ?_
  obtain ⟨res, hres⟩ : ∃ res, res = a.pure.same b.pure := ⟨_, rfl⟩
  rw [← hres]
  unfold PE.same at hres
  have e1 : a.pure.ix = a.ix := rfl
  have e2 : b.pure.ix = b.ix := rfl
  have e3 : a.pure.tm = a.tm := rfl
  have e4 : b.pure.tm = b.tm := rfl
  have e5 : a.pure.kd = a.kd := rfl
  have e6 : b.pure.kd = b.kd := rfl
  have e7 : a.pure.data = a.data := rfl
  have e8 : b.pure.data = b.data := rfl
  rw [e1, e2, e3, e4, e5, e6, e7, e8] at hres
  have hda := ha.dv
  have hdb := hb.dv
  have hca : ∀ F H x j c, Ent.mem x a.cells 4 ∈ H → a.cells[j]? = some c → Cell F H x (0 + j) c := fun F H x j c hm hc => by rw [Nat.zero_add]; exact cell_own hm hc
  have hcb : ∀ F H x j c, Ent.mem x b.cells 4 ∈ H → b.cells[j]? = some c → Cell F H x (0 + j) c := fun F H x j c hm hc => by rw [Nat.zero_add]; exact cell_own hm hc
  refine r_seq (r_region rfl (o_act rfl rfl rfl rfl (a_box rfl) ?_))
  rintro v' H' ⟨x, rfl, rfl⟩
  refine o_act rfl rfl rfl rfl (a_box rfl) ?_
  rintro v' H' ⟨y, rfl, rfl⟩
  refine j_heap (H' := .mem y b.cells 4 :: .mem x a.cells 4 :: Fr) rfl ?_
  refine o_vl rfl rfl (v_assign rfl) (o_end (r_seq (r_region rfl (o_vl rfl rfl (v_field (k := 0) rfl rfl rfl) (o_vl rfl rfl (v_load (v := .int .u64 a.ix) rfl rfl (hca _ _ _ 0 _ (by simp) rfl)) (o_vl rfl rfl (v_field (k := 0) rfl rfl rfl) (o_vl rfl rfl (v_load (v := .int .u64 b.ix) rfl rfl (hcb _ _ _ 0 _ (by simp) rfl)) (o_vl rfl rfl (v_eql rfl rfl) ?_))))))))
  refine j_prop 9 rfl (fun h1 => ?_) (fun h1 => ?_)
  · rw [decide_eq_true (show a.ix = b.ix by omega), Bool.true_and] at hres
    refine o_vl rfl rfl (v_move rfl) (o_vl rfl rfl (v_field (k := 1) rfl rfl rfl) (o_vl rfl rfl (v_load (v := .int .u64 a.tm) rfl rfl (hca _ _ _ 1 _ (by simp) rfl)) (o_vl rfl rfl (v_field (k := 1) rfl rfl rfl) (o_vl rfl rfl (v_load (v := .int .u64 b.tm) rfl rfl (hcb _ _ _ 1 _ (by simp) rfl)) (o_vl rfl rfl (v_eql rfl rfl) ?_)))))
    refine j_prop 15 rfl (fun h2 => ?_) (fun h2 => ?_)
    · rw [decide_eq_true (show a.tm = b.tm by omega), Bool.true_and] at hres
      refine o_vl rfl rfl (v_pick1 rfl rfl) (o_vl rfl rfl (v_move rfl) (o_vl rfl rfl (v_field (k := 2) rfl rfl rfl) (o_vl rfl rfl (v_load (v := .int .u8 a.kd) rfl rfl (hca _ _ _ 2 _ (by simp) rfl)) (o_vl rfl rfl (v_field (k := 2) rfl rfl rfl) (o_vl rfl rfl (v_load (v := .int .u8 b.kd) rfl rfl (hcb _ _ _ 2 _ (by simp) rfl)) (o_vl rfl rfl (v_eql rfl rfl) ?_))))))
      refine j_prop 22 rfl (fun h3 => ?_) (fun h3 => ?_)
      · rw [decide_eq_true (show a.kd = b.kd by omega), Bool.true_and] at hres
        refine o_vl rfl rfl (v_pick1 rfl rfl) (o_vl rfl rfl (v_move rfl) (o_vl rfl rfl (v_field (k := 3) rfl rfl rfl) (o_vl rfl rfl (v_load (v := a.dv) rfl rfl (hca _ _ _ 3 _ (by simp) rfl)) (o_vl rfl rfl (v_bytesString rfl rfl rfl rfl (l := a.data) (hda.frz (Fz.le_refl _))) (o_vl rfl rfl (v_field (k := 3) rfl rfl rfl) (o_vl rfl rfl (v_load (v := b.dv) rfl rfl (hcb _ _ _ 3 _ (by simp) rfl)) (o_vl rfl rfl (v_bytesString rfl rfl rfl rfl (l := b.data) (hdb.frz (Fz.le_refl _))) (o_vl rfl rfl (v_seql rfl rfl) (o_vl rfl rfl (v_pick1 rfl rfl) (o_vl rfl rfl (v_assign rfl) (o_end ?_)))))))))))
        refine j_drop (H' := Fr) ((List.sublist_cons_self _ _).trans (List.sublist_cons_self _ _)) ?_
        exact r_ret1 Tryz.func68 rfl rfl ⟨⟨by rw [hres], rfl, rfl⟩, Fz.le_refl _⟩
      · rw [decide_eq_false (show ¬ a.kd = b.kd by omega), Bool.false_and] at hres
        refine o_vl rfl rfl (v_pick1 rfl rfl) (o_vl rfl rfl (v_move rfl) (o_sk rfl rfl (o_sk rfl rfl (o_sk rfl rfl (o_sk rfl rfl (o_sk rfl rfl (o_sk rfl rfl (o_sk rfl rfl (o_vl rfl rfl (v_pick0 rfl rfl) (o_vl rfl rfl (v_assign rfl) (o_end ?_)))))))))))
        refine j_drop (H' := Fr) ((List.sublist_cons_self _ _).trans (List.sublist_cons_self _ _)) ?_
        exact r_ret1 Tryz.func68 rfl rfl ⟨⟨by rw [hres], rfl, rfl⟩, Fz.le_refl _⟩
    · rw [decide_eq_false (show ¬ a.tm = b.tm by omega), Bool.false_and, Bool.false_and] at hres
      refine o_vl rfl rfl (v_pick1 rfl rfl) (o_vl rfl rfl (v_move rfl) (o_sk rfl rfl (o_sk rfl rfl (o_sk rfl rfl (o_sk rfl rfl (o_sk rfl rfl (o_vl rfl rfl (v_pick0 rfl rfl) (o_vl rfl rfl (v_move rfl) (o_sk rfl rfl (o_sk rfl rfl (o_sk rfl rfl (o_sk rfl rfl (o_sk rfl rfl ?_)))))))))))))
      refine o_sk rfl rfl (o_sk rfl rfl (o_vl rfl rfl (v_pick0 rfl rfl) (o_vl rfl rfl (v_assign rfl) (o_end ?_))))
      refine j_drop (H' := Fr) ((List.sublist_cons_self _ _).trans (List.sublist_cons_self _ _)) ?_
      exact r_ret1 Tryz.func68 rfl rfl ⟨⟨by rw [hres], rfl, rfl⟩, Fz.le_refl _⟩
  · rw [decide_eq_false (show ¬ a.ix = b.ix by omega), Bool.false_and, Bool.false_and, Bool.false_and] at hres
    refine o_vl rfl rfl (v_move rfl) (o_sk rfl rfl (o_sk rfl rfl (o_sk rfl rfl (o_sk rfl rfl (o_sk rfl rfl (o_vl rfl rfl (v_pick0 rfl rfl) (o_vl rfl rfl (v_move rfl) (o_sk rfl rfl (o_sk rfl rfl (o_sk rfl rfl (o_sk rfl rfl (o_sk rfl rfl (o_vl rfl rfl (v_pick0 rfl rfl) ?_)))))))))))))
    refine o_vl rfl rfl (v_move rfl) (o_sk rfl rfl (o_sk rfl rfl (o_sk rfl rfl (o_sk rfl rfl (o_sk rfl rfl (o_sk rfl rfl (o_sk rfl rfl (o_vl rfl rfl (v_pick0 rfl rfl) (o_vl rfl rfl (v_assign rfl) (o_end ?_))))))))))
    refine j_drop (H' := Fr) ((List.sublist_cons_self _ _).trans (List.sublist_cons_self _ _)) ?_
    exact r_ret1 Tryz.func68 rfl rfl ⟨⟨by rw [hres], rfl, rfl⟩, Fz.le_refl _⟩
end Go.SX
namespace Go.SX
open Go Go.Proofs
set_option maxRecDepth 4000
structure Fx where
  ga : Nat
  lv : Value
  nv : Value
  lm : Nat
  dm : Nat
  ma : Nat
  ra : Nat
  da : Nat
def GE (x : Fx) (bad : Bool) : Ent := .mem x.ga [x.lv, x.nv, .map (some x.lm), .map (some x.dm), .bool bad] 5
def ME (x : Fx) : Ent := .mem x.ma [ptrV x.ra, ptrV x.da] 2
def lkV (k : Nat) : Value := .int .i64 k
def LE (x : Fx) (ld : List (Nat × Nat)) : Ent := .obj x.lm (mapObjK .u64 (kvN lkV ld))
def enA (e : En) : Value := .agg e.cells.toArray
def DE (x : Fx) (dn : List (Nat × En)) : Ent := .obj x.dm (mapObjK .u64 (kvN enA dn))
structure Dk where
  bf : Bf
  b : List UInt8
  sure : Nat
  ops : Nat
def Dk.E (x : Fx) (d : Dk) : Ent := DkE x.da d.bf d.b d.sure d.ops
def Dk.bs (d : Dk) : List Ent := d.bf.ents 1 (bytesV d.b)
def Dk.pure (d : Dk) : List UInt8 × Nat := (d.b, d.sure)
structure Dk.ok (k : Nat) (d : Dk) : Prop where
  bf : d.bf.ok d.b.length
  len : d.b.length ≤ 1100000000 * (k + 1)
  ops : d.ops ≤ 8 * (k + 1)
  sure : d.sure ≤ d.b.length
def FoH (x : Fx) (r : Rf) (bad : Bool) (ld : List (Nat × Nat)) (dn : List (Nat × En)) (d : Dk) (Fr : List Ent) : List Ent :=
  RfH x.ra r (ME x :: GE x bad :: LE x ld :: DE x dn :: d.E x :: (d.bs ++ Fr))
theorem gcell {F : Fz} {H : List Ent} {x : Fx} {bad : Bool} (j : Nat) {c : Value} (hm : GE x bad ∈ H) (hc : [x.lv, x.nv, Value.map (some x.lm), .map (some x.dm), .bool bad][j]? = some c) : Cell F H x.ga (0 + j) c := by
  rw [Nat.zero_add]
  exact cell_own hm hc
theorem mcell {F : Fz} {H : List Ent} {x : Fx} (j : Nat) {c : Value} (hm : ME x ∈ H) (hc : [ptrV x.ra, ptrV x.da][j]? = some c) : Cell F H x.ma (0 + j) c := by
  rw [Nat.zero_add]
  exact cell_own hm hc
theorem box_at (a : Nat) (r : Rf) (A : List Ent) (X : Ent) (Fr : List Ent) : (RfH a r (A ++ (X :: Fr))).Perm (X :: RfH a r (A ++ Fr)) := by
  rw [RfH_eq, RfH_eq, ← List.append_assoc, ← List.append_assoc]
  exact List.perm_middle
theorem dk_front (a : Nat) (r : Rf) (A : List Ent) (D : Ent) (B Fr : List Ent) : (RfH a r (A ++ (D :: (B ++ Fr)))).Perm (D :: (B ++ RfH a r (A ++ Fr))) := by
  refine (box_at a r A D (B ++ Fr)).trans (List.Perm.cons _ ?_)
  rw [RfH_eq, RfH_eq]
  have h : ((RfP a r ++ A) ++ B).Perm (B ++ (RfP a r ++ A)) := List.perm_append_comm
  simpa using h.append_right Fr
theorem saved_same {p : PR} (h : p.saves = false) : p.saved = p := by
  unfold PR.saves at h
  rw [Bool.or_eq_false_iff] at h
  obtain ⟨h1, h2⟩ := h
  have h3 : p.fresh = 0 := by simpa using h2
  cases p
  simp only [PR.saved, PR.mk.injEq, true_and, and_true]
  exact ⟨h1.symm, h3.symm⟩
theorem r_Save' (O : World) (F : Fz) (a : Nat) (r : Rf) (Fr : List Ent) (hr : r.ok F) (hf : 0 < r.p.fresh → r.p.fresh ≤ r.p.last) :
    Does Tryz.prog O 38 #[ptrV a] F (RfH a r Fr) (fun v F' H' => F.le F' ∧ H' = RfH a { r with p := r.p.saved } Fr) := by
  refine (r_Save O F a r Fr hr hf).mono ?_
  rintro v F' H' _ ⟨h1, h2, h3⟩
  refine ⟨h1, ?_⟩
  cases hs : r.p.saves with
  | false =>
    obtain ⟨_, h⟩ := h2 hs
    rw [h, saved_same hs]
  | true =>
    obtain ⟨_, _, _, _, _, _, h⟩ := h3 hs
    exact h
theorem r_Save2 (O : World) (F : Fz) (a : Nat) (r : Rf) (Fr : List Ent) (hr : r.ok F) (hf : 0 < r.p.fresh → r.p.fresh ≤ r.p.last) :
    Does Tryz.prog O 38 #[ptrV a] F (RfH a r Fr) (fun v F' H' => F.le F' ∧ (∃ (h : Bool) (t : Nat) (vo : Int) (es : List En) (ev : Value), v = .tuple #[.agg #[.bool h, .int .u64 t, .int .i64 vo, ev], .bool r.p.saves] ∧ Sl F' [] 4 ev es.length (enV es) ∧ (∀ e ∈ es, e ∈ r.l) ∧
      (r.p.saves = true → h = r.p.chg ∧ t = r.p.term ∧ vo = r.p.vote ∧ es.map En.pure = r.p.saveE)) ∧ H' = RfH a { r with p := r.p.saved } Fr) := by
  refine (r_Save O F a r Fr hr hf).mono ?_
  rintro v F' H' _ ⟨h1, h2, h3⟩
  cases hs : r.p.saves with
  | false =>
    obtain ⟨hv, h⟩ := h2 hs
    exact ⟨h1, ⟨false, 0, 0, [], .slice none 0 0, hv, Sl.nil _ _ _, by simp, fun h => by cases h⟩, by rw [h, saved_same hs]⟩
  | true =>
    obtain ⟨es, ev, hes, hesm, hev, hv, h⟩ := h3 hs
    exact ⟨h1, ⟨r.p.chg, r.p.term, r.p.vote, es, ev, hv, hev, hesm, fun _ => ⟨rfl, rfl, rfl, hes⟩⟩, h⟩
section
variable {C : Cx} {τ : Env} {F : Fz} {H : List Ent} {ty t u kt et : TypeId} {pos : String} {aft : Array Edge} {g : Option (Nat × Bool)} {o : Oper} {x y z : Operand}
theorem Act0.perm {H1 H1' H' : List Ent} (h : Act0 C o τ F H1 H1') (hp : H.Perm H1) (hq : H1'.Perm H') : Act0 C o τ F H H' := fun a w ha hw => by
  obtain ⟨w', h1, h2⟩ := h a w ha (hw.perm hp)
  exact ⟨w', h1, h2.perm hq⟩
theorem a_bad {f : Fx} {b b' : Bool} {a : Nat} {r : Rf} (A R : List Ent) (hs : (C.P.info? t).map (·.size) = some 1) (hx : ev τ x = some (.pointer (some ⟨f.ga, 4, none⟩))) (hy : ev τ y = some (.bool b')) :
    Act0 C ⟨none, .store t x y, ty, pos, aft, g⟩ τ F (RfH a r (A ++ (GE f b :: R))) (RfH a r (A ++ (GE f b' :: R))) :=
  Act0.perm (a_store1 (C := C) (F := F) (H := GE f b :: RfH a r (A ++ R)) (ty := ty) (pos := pos) (aft := aft) (g := g) 0 (b := f.ga) (n := 5) (cs := [f.lv, f.nv, .map (some f.lm), .map (some f.dm), .bool b]) rfl hs rfl hx hy (Nat.le_of_ble_eq_true rfl)) (box_at a r A _ R) (box_at a r A _ R).symm
theorem a_lput {f : Fx} {ld : List (Nat × Nat)} {k v : Nat} {a : Nat} {r : Rf} (A R : List Ent) (ht : C.P.underlying t = some (.map kt et)) (hk : C.P.underlying kt = some (.int .u64)) (hx : ev τ x = some (.map (some f.lm))) (hy : ev τ y = some (.int .u64 k)) (hz : ev τ z = some (.int .i64 v)) :
    Act0 C ⟨none, .mapUpdate t x y z, ty, pos, aft, g⟩ τ F (RfH a r (A ++ (LE f ld :: R))) (RfH a r (A ++ (LE f (putN ld k v) :: R))) := by
  refine Act0.perm (a_mapPut (C := C) (F := F) (H := LE f ld :: RfH a r (A ++ R)) (ty := ty) (pos := pos) (aft := aft) (g := g) 0 (b := f.lm) (l := kvN lkV ld) (v := lkV v) ht hk rfl hx hy hz) (box_at a r A _ R) ?_
  rw [kvN_put]
  exact (box_at a r A (LE f (putN ld k v)) R).symm
theorem a_dput {f : Fx} {dn : List (Nat × En)} {k : Nat} {e : En} {a : Nat} {r : Rf} (A R : List Ent) (ht : C.P.underlying t = some (.map kt et)) (hk : C.P.underlying kt = some (.int .u64)) (hx : ev τ x = some (.map (some f.dm))) (hy : ev τ y = some (.int .u64 k)) (hz : ev τ z = some (enA e)) :
    Act0 C ⟨none, .mapUpdate t x y z, ty, pos, aft, g⟩ τ F (RfH a r (A ++ (DE f dn :: R))) (RfH a r (A ++ (DE f (putN dn k e) :: R))) := by
  refine Act0.perm (a_mapPut (C := C) (F := F) (H := DE f dn :: RfH a r (A ++ R)) (ty := ty) (pos := pos) (aft := aft) (g := g) 0 (b := f.dm) (l := kvN enA dn) (v := enA e) ht hk rfl hx hy hz) (box_at a r A _ R) ?_
  rw [kvN_put]
  exact (box_at a r A (DE f (putN dn k e)) R).symm
theorem v_lookL {dst : Option Nat} {f : Fx} {ld : List (Nat × Nat)} {k : Nat} {i : TypeInfo} (hm : LE f ld ∈ H) (ht : C.P.underlying t = some (.map kt et)) (hk : C.P.underlying kt = some (.int .u64)) (hi : C.P.info? et = some i) (hz : i.zero = some (.int .i64 0)) (hx : ev τ x = some (.map (some f.lm))) (hy : ev τ y = some (.int .u64 k)) :
    Val C ⟨dst, .lookup t x y true, ty, pos, aft, g⟩ τ F H (.tuple #[.int .i64 ((lookN ld k).getD 0 : Nat), .bool (lookN ld k).isSome]) :=
  v_lookupK (b := f.lm) (l := kvN lkV ld) ht hk hi hz hm hx hy (by rw [kvN_look]; cases lookN ld k <;> rfl) (by rw [kvN_look]; cases lookN ld k <;> rfl)
theorem v_lookD {dst : Option Nat} {f : Fx} {dn : List (Nat × En)} {k : Nat} {i : TypeInfo} (hm : DE f dn ∈ H) (ht : C.P.underlying t = some (.map kt et)) (hk : C.P.underlying kt = some (.int .u64)) (hi : C.P.info? et = some i) (hz : i.zero = some (enA En.z)) (hx : ev τ x = some (.map (some f.dm))) (hy : ev τ y = some (.int .u64 k)) :
    Val C ⟨dst, .lookup t x y true, ty, pos, aft, g⟩ τ F H (.tuple #[enA ((lookN dn k).getD En.z), .bool (lookN dn k).isSome]) :=
  v_lookupK (b := f.dm) (l := kvN enA dn) ht hk hi hz hm hx hy (by rw [kvN_look]; cases lookN dn k <;> rfl) (by rw [kvN_look]; cases lookN dn k <;> rfl)
end
theorem whole_le {F : Fz} {p : Im} (hp : p.ok F) (hn : p.l.length ≤ 1000) : p.pure.whole.length ≤ 1049800000 := by
  have hsl := saveB_le true p.term p.vote p.l hp.l hn
  have hsn : (snB p.ix p.tm p.vt p.data).length ≤ 1048700 := by
    have := hp.dl
    unfold snB; split <;> simp; omega
  show (snB p.ix p.tm p.vt p.data ++ saveB true p.term p.vote (p.l.map En.pure)).length ≤ _
  rw [List.length_append]
  omega
end Go.SX
namespace Go.SX
open Go Go.Proofs
set_option maxRecDepth 4000
def PR.setA (p : PR) : PR := if p.rs = true then ({ p with rs := false } : PR).saved else p
def PR.diskA (p : PR) (d : List UInt8 × Nat) : List UInt8 × Nat := if p.rs = true then (p.image.whole, p.image.whole.length) else d
theorem setA_saved (p : PR) : p.setA.saved = p.settled := by
  unfold PR.setA PR.saved PR.settled
  split
  · rfl
  · rename_i h
    have h : p.rs = false := by simpa using h
    rw [h]
theorem saved_ok {F : Fz} {r : Rf} (hr : r.ok F) : ({ r with p := r.p.saved } : Rf).ok F := hr.set _ { hr.B with fresh := Nat.zero_le _ } rfl rfl rfl rfl
theorem disk_eq (p : PR) (d : List UInt8 × Nat) : p.disk d = if p.setA.saves = true then ((p.diskA d).1 ++ saveB p.setA.chg p.setA.term p.setA.vote p.setA.saveE, (p.diskA d).2) else p.diskA d := by
  unfold PR.disk PR.setA PR.diskA
  cases h : p.rs with
  | true => rfl
  | false => rfl
def PR.leads (p : PR) (i : Nat) (ld : List (Nat × Nat)) (dn : List (Nat × PE)) (bad : Bool) : List (Nat × Nat) × Bool :=
  if p.role = 3 then (putN ld p.term i, overB p (putN ld p.term i) dn (leadB i p ld bad)) else (ld, bad)
def pureD (dn : List (Nat × En)) : List (Nat × PE) := dn.map fun q => (q.1, q.2.pure)
theorem pureD_put (dn : List (Nat × En)) (k : Nat) (e : En) : pureD (putN dn k e) = putN (pureD dn) k e.pure := putN_map _ _ _ _
theorem pureD_look (dn : List (Nat × En)) (k : Nat) : lookN (pureD dn) k = (lookN dn k).map En.pure := lookN_map _ _ _
set_option maxHeartbeats 4000000 in
theorem g_settle1 (O : World) (F : Fz) (x : Fx) (i k : Nat) (r : Rf) (bad : Bool) (ld : List (Nat × Nat)) (dn : List (Nat × En)) (d : Dk) (Fr : List Ent)
    (hr : r.ok F) (hdn : ∀ q ∈ dn, q.2.ok F) (hd : d.ok k) (hk : k ≤ 90000) (hs : r.p.saveOk = true) (hi : i < 7) {lb n N c : Nat} {cs : List Value} (hlv : x.lv = .slice (some ⟨lb, 0, none⟩) n c) (hin : i < n) (hcs : cs[i]? = some (ptrV x.ma)) (hmem : Ent.mem lb cs N ∈ Fr) :
    Does Tryz.prog O 40 #[ptrV x.ga, .int .i64 i] F (FoH x r bad ld dn d Fr) (fun v F' H' => v = noneV ∧ ∃ (r' : Rf) (d' : Dk) (bad' : Bool) (dn' : List (Nat × En)), r'.ok F' ∧ r'.p = r.p.settled ∧ d'.ok (k + 1) ∧ d'.pure = r.p.disk d.pure ∧ (∀ q ∈ dn', q.2.ok F') ∧
      (pureD dn', bad') = cmtF r.p (r.p.cm - r.p.lix) (r.p.lix + 1) (pureD dn) (r.p.leads i ld (pureD dn) bad).2 ∧ H' = FoH x r' bad' (r.p.leads i ld (pureD dn) bad).1 dn' d' Fr) := by
  refine does_of_run (args := [_, _]) Tryz.func40 rfl rfl ?_
  unfold PR.saveOk at hs
  rw [Bool.and_eq_true, Bool.and_eq_true, Bool.or_eq_true, decide_eq_true_eq, decide_eq_true_eq, decide_eq_true_eq, Bool.or_eq_true, decide_eq_true_eq] at hs
  obtain ⟨⟨hfr, hse⟩, hrl⟩ := hs
  unfold FoH
  refine r_seq (r_region rfl (o_vl rfl rfl (v_move rfl) (o_vl rfl rfl (v_nilCheck rfl) (o_vl rfl rfl (v_field (k := 0) rfl rfl rfl) (o_vl rfl rfl (v_load (v := .slice (some ⟨lb, 0, none⟩) n c) rfl rfl (by rw [← hlv]; exact gcell (x := x) (bad := bad) 0 (by simp [RfH_eq]) rfl)) (o_vl rfl rfl (v_move rfl) (o_vl rfl rfl (v_index1 rfl rfl rfl rfl hin) (o_vl rfl rfl (v_load (v := ptrV x.ma) rfl rfl (cell_own (cs := cs) (n := N) (by simp [RfH_eq, hmem]) (by rw [Nat.zero_add]; exact hcs))) (o_vl rfl rfl (v_assign rfl) (o_end (r_seq (r_region rfl (o_vl rfl rfl (v_move rfl) ?_)))))))))))))
  refine o_vl rfl rfl (v_nilCheck rfl) (o_vl rfl rfl (v_field (k := 0) rfl rfl rfl) (o_vl rfl rfl (v_load rfl rfl (mcell (x := x) 0 (by simp [FoH, RfH_eq]) rfl)) (o_call rfl rfl rfl rfl (c_call callable63 rfl) (r_Restore _ _ x.ra r _ hr) ?_)))
  rintro v' F H' ⟨rfl, ⟨c4, hc4, h14, rfl⟩, rfl⟩ _
  have hc4' : ∃ c1 c2 c3 c5, c4 = [c1, c2, c3, c5] := by
    match c4, hc4 with
    | [c1, c2, c3, c5], _ => exact ⟨_, _, _, _, rfl⟩
  obtain ⟨c1, c2, c3, c5, rfl⟩ := hc4'
  clear hc4
  refine o_vl rfl rfl (v_move rfl) (o_vl rfl rfl (v_extract rfl rfl) (o_vl rfl rfl (v_extract rfl rfl) (o_act rfl rfl rfl rfl (a_alloc rfl) ?_)))
  rintro v' H' ⟨y, rfl, rfl⟩
  refine o_act0 rfl rfl rfl (a_store (sz := 4) (v := .agg #[c1, c2, c3, c5]) 0 rfl rfl rfl h14 rfl rfl (Nat.le_of_ble_eq_true rfl)) ?_
  refine j_drop (List.sublist_cons_self _ _) ?_
  obtain ⟨r1, hr1⟩ : ∃ r1 : Rf, r1 = { r with p := { r.p with rs := false } } := ⟨_, rfl⟩
  have hr1ok : r1.ok F := by rw [hr1]; exact hr.set _ { hr.B with } rfl rfl rfl rfl
  rw [← hr1]
  refine o_vl rfl rfl (v_assign rfl) (o_end (r_seq ?_))
  refine r_join (fun g : Rf × Dk × Fz => F.le g.2.2 ∧ g.1.ok g.2.2 ∧ g.1.p = r.p.setA ∧ g.2.1.bf.ok g.2.1.b.length ∧ g.2.1.b.length ≤ 1100000000 * (k + 1) ∧ g.2.1.ops ≤ 8 * (k + 1) + 1 ∧ g.2.1.sure ≤ g.2.1.b.length ∧ g.2.1.pure = r.p.diskA d.pure) (fun _ => [(0, ptrV x.ga), (1, .int .i64 i), (4, ptrV x.ma)]) (fun g => g.2.2) (fun g => RfH x.ra g.1 (ME x :: GE x bad :: LE x ld :: DE x dn :: g.2.1.E x :: (g.2.1.bs ++ Fr))) ?_ ?_
  · intro J
    refine r_seq (r_region rfl (o_vl rfl rfl (v_move rfl) (o_end (r_cond rfl (fun h => ?_) (fun h => ?_)))))
    · rw [h] at hrl
      have hrl2 : r.p.l.length ≤ 1000 := by
        rcases hrl with h | h
        · cases h
        · exact h
      refine r_seq (r_region rfl (o_vl rfl rfl (v_move rfl) (o_vl rfl rfl (v_nilCheck rfl) (o_vl rfl rfl (v_field (k := 0) rfl rfl rfl) (o_vl rfl rfl (v_load rfl rfl (mcell (x := x) 0 (by simp [FoH, RfH_eq]) rfl)) (o_call rfl rfl rfl rfl (c_call callable38 rfl) (r_Save' _ _ x.ra r1 _ hr1ok (by rw [hr1]; show 0 < r.p.fresh → r.p.fresh ≤ r.p.last; omega)) ?_))))))
      rintro v' F2 H' ⟨hF2', rfl⟩ hF2
      obtain ⟨r2, hr2⟩ : ∃ r2 : Rf, r2 = { r1 with p := r1.p.saved } := ⟨_, rfl⟩
      have hr2ok : r2.ok F2 := by rw [hr2]; exact (saved_ok hr1ok).frz hF2
      rw [← hr2]
      refine o_end (d_region 1000000 rfl ([ME x]) ?_)
      refine d_tk (i := 0) rfl rfl (by simp [RfH_eq]) (v_move rfl) (d_tk (i := 1) rfl rfl (by simp [RfH_eq]) (v_nilCheck rfl) (d_tk (i := 2) rfl rfl (by simp [RfH_eq]) (v_field (k := 1) rfl rfl rfl) (d_tk (i := 3) rfl rfl (by simp [RfH_eq]) (v_load rfl rfl (mcell (x := x) 1 (by simp [FoH, RfH_eq]) rfl)) (d_tk (i := 4) rfl rfl (by simp [RfH_eq]) (v_move rfl) (d_tk (i := 5) rfl rfl (by simp [RfH_eq]) (v_nilCheck rfl) (d_tk (i := 6) rfl rfl (by simp [RfH_eq]) (v_field (k := 0) rfl rfl rfl) (d_tk (i := 7) rfl rfl (by simp [RfH_eq]) (v_load rfl rfl (mcell (x := x) 0 (by simp [FoH, RfH_eq]) rfl)) (d_one (i := 8) (by decide +kernel) (d1_call rfl rfl rfl rfl (c_call callable21 rfl) (r_Image _ _ x.ra r2 _ hr2ok) ?_)))))))))
      rintro v' F3 H' ⟨hF3', ⟨q, hq, hqp, rfl⟩, rfl⟩ hF3
      refine ⟨fun w hw => held_of hw (by first | exact Fz.le_refl _ | assumption) (by simp [RfH_eq]), ?_⟩
      have hqw : q.pure.whole = r.p.image.whole := by rw [hqp, hr2, hr1]; rfl
      have hql : q.l.length ≤ 1000 := by
        have h1 : (q.l.map En.pure).length = (r.p.from_ (r.p.lix + 1) r.p.l.length).length := by
          show q.pure.l.length = _
          rw [hqp, hr2, hr1]
          rfl
        rw [List.length_map] at h1
        have h2 : (r.p.from_ (r.p.lix + 1) r.p.l.length).length ≤ r.p.l.length := by
          unfold PR.from_
          split <;> simp
          try omega
        omega
      refine j_perm (dk_front x.ra r2 [ME x, GE x bad, LE x ld, DE x dn] (d.E x) d.bs Fr) ?_
      refine d_one (i := 9) (by decide +kernel) (d1_call rfl rfl rfl rfl (c_call callable28 rfl) (wal_Compact _ _ x.da d.bf d.b d.sure d.ops q _ (by have := hd.ops; omega) hq hql) ?_)
      rintro v' F3 H' ⟨rfl, rfl, bf', hok', rfl⟩ _
      refine ⟨fun w hw => held_of hw hF3 (by simp [RfH_eq]), ?_⟩
      have hwl := whole_le hq hql
      obtain ⟨d2, hd2⟩ : ∃ d2 : Dk, d2 = ⟨bf', q.pure.whole, q.pure.whole.length, d.ops + 1⟩ := ⟨_, rfl⟩
      refine j_heap (H' := d2.E x :: (d2.bs ++ RfH x.ra r2 ([ME x, GE x bad, LE x ld, DE x dn] ++ Fr))) (by rw [hd2]; rfl) ?_
      refine j_perm (dk_front x.ra r2 [ME x, GE x bad, LE x ld, DE x dn] (d2.E x) d2.bs Fr).symm ?_
      refine d_end (by decide +kernel) ?_
      refine j_keep ?_ (J (r2, d2, F3) ⟨Fz.le_trans hF2 hF3, hr2ok.frz hF3, ?_, ?_, ?_, ?_, ?_, ?_⟩)
      · exact ⟨rfl, rfl, rfl, trivial⟩
      · rw [hr2, hr1]; unfold PR.setA; rw [if_pos h]
      · rw [hd2]; exact hok'
      · rw [hd2]; dsimp only; omega
      · rw [hd2]; have := hd.ops; dsimp only; omega
      · rw [hd2]; exact Nat.le_refl _
      · rw [hd2]; unfold PR.diskA Dk.pure; rw [if_pos h, hqw]
    · have hrr : r1 = r := by rw [hr1, ← h]
      rw [hrr]
      refine r_skip ?_
      refine j_keep ?_ (J (r, d, F) ⟨Fz.le_refl _, hr, ?_, hd.bf, hd.len, ?_, hd.sure, ?_⟩)
      · exact ⟨rfl, rfl, rfl, trivial⟩
      · unfold PR.setA; rw [if_neg (by rw [h]; simp)]
      · have := hd.ops; dsimp only; omega
      · unfold PR.diskA; rw [if_neg (by rw [h]; simp)]
  · rintro ⟨q, d1, F1⟩ ⟨hF1, hq, hqp, hdbf, hdlen, hdops, hdsure, hdp⟩
    dsimp only at hF1 hq hqp hdbf hdlen hdops hdsure hdp ⊢
    have hqfr : 0 < q.p.fresh → q.p.fresh ≤ q.p.last := by
      rw [hqp]
      unfold PR.setA
      split
      · exact fun h => absurd h (Nat.lt_irrefl 0)
      · intro h
        omega
    have hqse : q.p.saveE.length ≤ 1000 := by
      rw [hqp]
      unfold PR.setA
      split
      · exact Nat.zero_le _
      · exact hse
    refine r_seq (r_region rfl (o_vl rfl rfl (v_move rfl) (o_vl rfl rfl (v_nilCheck rfl) (o_vl rfl rfl (v_field (k := 0) rfl rfl rfl) (o_vl rfl rfl (v_load rfl rfl (mcell (x := x) 0 (by simp [FoH, RfH_eq]) rfl)) (o_call rfl rfl rfl rfl (c_call callable38 rfl) (r_Save2 _ _ x.ra q _ hq hqfr) ?_))))))
    rintro v' F2 H' ⟨hF2', ⟨h, t, vo, es, ev, rfl, hev, hesm, hsv⟩, rfl⟩ hF2
    obtain ⟨ae, ce, rfl, _⟩ := Sl.shape hev
    have hpd : r.p.disk d.pure = if q.p.saves = true then (d1.b ++ saveB q.p.chg q.p.term q.p.vote q.p.saveE, d1.sure) else d1.pure := by
      rw [disk_eq, hqp, ← hdp]
      rfl
    have hvo1 := hq.B.v1
    have hvo2 := hq.B.v2
    have heso : ∀ e ∈ es, e.ok F2 := fun e he => (hq.lok e (hesm e he)).frz hF2
    obtain ⟨q2, hq2⟩ : ∃ q2 : Rf, q2 = { q with p := q.p.saved } := ⟨_, rfl⟩
    have hq2ok : q2.ok F2 := by rw [hq2]; exact (saved_ok hq).frz hF2
    have hq2p : q2.p = r.p.settled := by rw [hq2]; show q.p.saved = _; rw [hqp, setA_saved]
    rw [← hq2]
    refine o_vl rfl rfl (v_move rfl) (o_vl rfl rfl (v_extract rfl rfl) (o_vl rfl rfl (v_extract rfl rfl) (o_act rfl rfl rfl rfl (a_alloc rfl) ?_)))
    rintro v' H' ⟨y, rfl, rfl⟩
    refine o_act0 rfl rfl rfl (a_store (sz := 4) (v := .agg #[.bool h, .int .u64 t, .int .i64 vo, .slice ae es.length ce]) 0 rfl rfl rfl rfl rfl rfl (Nat.le_of_ble_eq_true rfl)) ?_
    obtain ⟨Yc, hYc⟩ : ∃ Yc : List Value, Yc = [.bool h, .int .u64 t, .int .i64 vo, .slice ae es.length ce] := ⟨_, rfl⟩
    refine j_heap (H' := .mem y Yc 4 :: RfH x.ra q2 (ME x :: GE x bad :: LE x ld :: DE x dn :: d1.E x :: (d1.bs ++ Fr))) (by rw [hYc]; rfl) ?_
    refine j_perm (box_in x.ra q2 _ _) ?_
    refine o_vl rfl rfl (v_assign rfl) (o_end (r_seq ?_))
    refine r_join (fun d2 : Dk => d2.ok (k + 1) ∧ d2.pure = r.p.disk d.pure) (fun _ => [(0, ptrV x.ga), (1, .int .i64 i), (4, ptrV x.ma)]) (fun _ => F2) (fun d2 => RfH x.ra q2 (ME x :: GE x bad :: LE x ld :: DE x dn :: d2.E x :: (d2.bs ++ Fr))) ?_ ?_
    · intro J
      refine r_seq (r_region rfl (o_vl rfl rfl (v_move rfl) (o_end (r_cond rfl (fun g => ?_) (fun g => ?_)))))
      · obtain ⟨rfl, rfl, rfl, hes⟩ := hsv g
        have hesl : es.length ≤ 1000 := by
          have : (es.map En.pure).length = q.p.saveE.length := by rw [hes]
          rw [List.length_map] at this
          omega
        have hsl := saveB_le q.p.chg q.p.term q.p.vote es heso hesl
        rw [if_pos g] at hpd
        refine d_region 1000000 rfl ([ME x, .mem y Yc 4]) ?_
        refine d_tk (i := 0) rfl rfl (by intro z hz; simp only [List.mem_cons, List.not_mem_nil, or_false] at hz; rcases hz with rfl | rfl <;> simp [RfH_eq]) (v_move rfl) (d_tk (i := 1) rfl rfl (by intro z hz; simp only [List.mem_cons, List.not_mem_nil, or_false] at hz; rcases hz with rfl | rfl <;> simp [RfH_eq]) (v_nilCheck rfl) (d_tk (i := 2) rfl rfl (by intro z hz; simp only [List.mem_cons, List.not_mem_nil, or_false] at hz; rcases hz with rfl | rfl <;> simp [RfH_eq]) (v_field (k := 1) rfl rfl rfl) (d_tk (i := 3) rfl rfl (by intro z hz; simp only [List.mem_cons, List.not_mem_nil, or_false] at hz; rcases hz with rfl | rfl <;> simp [RfH_eq]) (v_load rfl rfl (mcell (x := x) 1 (by simp [FoH, RfH_eq]) rfl)) (d_tk (i := 4) rfl rfl (by intro z hz; simp only [List.mem_cons, List.not_mem_nil, or_false] at hz; rcases hz with rfl | rfl <;> simp [RfH_eq]) (v_loadAgg (sz := 4) (cs := [.bool q.p.chg, .int .u64 q.p.term, .int .i64 q.p.vote, .slice ae es.length ce]) rfl rfl rfl rfl (fun j c hc => by rw [Nat.zero_add]; exact cell_own (cs := Yc) (n := 4) (by simp) (by rw [hYc]; exact hc))) ?_))))
        refine j_perm (dk_front x.ra q2 [.mem y Yc 4, ME x, GE x bad, LE x ld, DE x dn] (d1.E x) d1.bs Fr) ?_
        refine d_one (i := 5) (by decide +kernel) (d1_call rfl rfl rfl rfl (c_call callable64 rfl) (wal_Keep2 _ _ x.da d1.bf d1.b d1.sure d1.ops q.p.chg q.p.term q.p.vote (.slice ae es.length ce) es _ hdbf (by omega) (by omega) hev heso hesl hvo1 (by omega)) ?_)
        rintro v' F2 H' ⟨rfl, rfl, bf', hok', rfl⟩ _
        refine ⟨fun w hw => held_of hw (by first | exact Fz.le_refl _ | assumption) (by intro z hz; simp only [List.mem_cons, List.not_mem_nil, or_false] at hz; rcases hz with rfl | rfl <;> simp [RfH_eq]), ?_⟩
        rw [hes] at hok' hsl ⊢
        obtain ⟨d2, hd2⟩ : ∃ d2 : Dk, d2 = ⟨bf', d1.b ++ saveB q.p.chg q.p.term q.p.vote q.p.saveE, d1.sure, d1.ops + 1⟩ := ⟨_, rfl⟩
        refine j_heap (H' := d2.E x :: (d2.bs ++ RfH x.ra q2 ([.mem y Yc 4, ME x, GE x bad, LE x ld, DE x dn] ++ Fr))) (by rw [hd2]; rfl) ?_
        refine j_perm (dk_front x.ra q2 [.mem y Yc 4, ME x, GE x bad, LE x ld, DE x dn] (d2.E x) d2.bs Fr).symm ?_
        refine j_drop (box_out x.ra q2 (.mem y Yc 4) _) ?_
        refine d_end (by decide +kernel) ?_
        refine j_keep ?_ (J d2 ⟨⟨?_, ?_, ?_, ?_⟩, ?_⟩)
        · exact ⟨rfl, rfl, rfl, trivial⟩
        · rw [hd2]; exact hok'
        · rw [hd2]; dsimp only; rw [List.length_append]; omega
        · rw [hd2]; dsimp only; omega
        · rw [hd2]; dsimp only; rw [List.length_append]; omega
        · rw [hpd, hd2]; rfl
      · rw [if_neg (by rw [g]; simp)] at hpd
        refine j_drop (box_out x.ra q2 (.mem y Yc 4) _) ?_
        refine r_skip ?_
        refine j_keep ?_ (J d1 ⟨⟨hdbf, by omega, by omega, hdsure⟩, hpd.symm⟩)
        exact ⟨rfl, rfl, rfl, trivial⟩
    · rintro d2 ⟨hd2, hd2p⟩
      have hdn2 : ∀ e ∈ dn, e.2.ok F2 := fun e he => (hdn e he).frz (Fz.le_trans hF1 hF2)
      have hrole : q2.p.role = r.p.role := by rw [hq2p]; rfl
      have hterm : q2.p.term = r.p.term := by rw [hq2p]; rfl
      have hlead : q2.p.lead = r.p.lead := by rw [hq2p]; rfl
      have hlast : q2.p.last = r.p.last := by rw [hq2p]; rfl
      refine r_seq ?_
      refine r_join (fun _ : Unit => True) (fun _ => [(0, ptrV x.ga), (1, .int .i64 i), (4, ptrV x.ma)]) (fun _ => F2) (fun _ => RfH x.ra q2 (ME x :: GE x (r.p.leads i ld (pureD dn) bad).2 :: LE x (r.p.leads i ld (pureD dn) bad).1 :: DE x dn :: d2.E x :: (d2.bs ++ Fr))) ?_ ?_
      · intro J
        refine r_seq (r_region rfl (o_vl rfl rfl (v_move rfl) (o_vl rfl rfl (v_nilCheck rfl) (o_vl rfl rfl (v_field (k := 0) rfl rfl rfl) (o_vl rfl rfl (v_load rfl rfl (mcell (x := x) 0 (by simp [FoH, RfH_eq]) rfl)) (o_call rfl rfl rfl rfl (c_call callable26 rfl) (r_Leads _ _ x.ra q2 _) ?_))))))
        rintro v' F2 H' ⟨rfl, rfl, rfl⟩ _
        refine o_end (r_if rfl (fun hl => ?_) (fun hl => ?_))
        · have hl' : r.p.role = 3 := by rw [← hrole]; exact hl
          have hres : r.p.leads i ld (pureD dn) bad = (putN ld r.p.term i, overB r.p (putN ld r.p.term i) (pureD dn) (leadB i r.p ld bad)) := by
            unfold PR.leads
            rw [if_pos hl']
          have hq2b := hq2ok.B
          have htb := hq2b.term
          have hB : leadB i r.p ld bad = (bad || (match lookN ld q2.p.term with | some k => decide (k ≠ i) | none => false) || decide (q2.p.lead ≠ i)) := by rw [hterm, hlead]; rfl
          refine r_seq (d_region 1000000 rfl ([GE x bad, ME x, LE x ld]) ?_)
          refine d_tk (i := 0) rfl rfl (by intro z hz; simp only [List.mem_cons, List.not_mem_nil, or_false] at hz; rcases hz with rfl | rfl | rfl <;> simp [RfH_eq]) (v_move rfl) (d_tk (i := 1) rfl rfl (by intro z hz; simp only [List.mem_cons, List.not_mem_nil, or_false] at hz; rcases hz with rfl | rfl | rfl <;> simp [RfH_eq]) (v_nilCheck rfl) (d_tk (i := 2) rfl rfl (by intro z hz; simp only [List.mem_cons, List.not_mem_nil, or_false] at hz; rcases hz with rfl | rfl | rfl <;> simp [RfH_eq]) (v_field (k := 2) rfl rfl rfl) (d_tk (i := 3) rfl rfl (by intro z hz; simp only [List.mem_cons, List.not_mem_nil, or_false] at hz; rcases hz with rfl | rfl | rfl <;> simp [RfH_eq]) (v_load rfl rfl (gcell (x := x) (bad := bad) 2 (by simp [FoH, RfH_eq]) rfl)) (d_tk (i := 4) rfl rfl (by intro z hz; simp only [List.mem_cons, List.not_mem_nil, or_false] at hz; rcases hz with rfl | rfl | rfl <;> simp [RfH_eq]) (v_move rfl) (d_tk (i := 5) rfl rfl (by intro z hz; simp only [List.mem_cons, List.not_mem_nil, or_false] at hz; rcases hz with rfl | rfl | rfl <;> simp [RfH_eq]) (v_nilCheck rfl) (d_tk (i := 6) rfl rfl (by intro z hz; simp only [List.mem_cons, List.not_mem_nil, or_false] at hz; rcases hz with rfl | rfl | rfl <;> simp [RfH_eq]) (v_field (k := 0) rfl rfl rfl) (d_tk (i := 7) rfl rfl (by intro z hz; simp only [List.mem_cons, List.not_mem_nil, or_false] at hz; rcases hz with rfl | rfl | rfl <;> simp [RfH_eq]) (v_load rfl rfl (mcell (x := x) 0 (by simp [FoH, RfH_eq]) rfl)) (d_one (i := 8) (by decide +kernel) (d1_call rfl rfl rfl rfl (c_call callable14 rfl) (r_Term _ _ x.ra q2 _) ?_)))))))))
          rintro v' F2 H' ⟨rfl, rfl, rfl⟩ _
          refine ⟨fun w hw => held_of hw (by first | exact Fz.le_refl _ | assumption) (by intro z hz; simp only [List.mem_cons, List.not_mem_nil, or_false] at hz; rcases hz with rfl | rfl | rfl <;> simp [RfH_eq]), ?_⟩
          refine d_tk (i := 9) rfl rfl (by intro z hz; simp only [List.mem_cons, List.not_mem_nil, or_false] at hz; rcases hz with rfl | rfl | rfl <;> simp [RfH_eq]) (v_lookL (f := x) (ld := ld) (k := q2.p.term) (by simp) rfl rfl rfl rfl rfl rfl) (d_tk (i := 10) rfl rfl (by intro z hz; simp only [List.mem_cons, List.not_mem_nil, or_false] at hz; rcases hz with rfl | rfl | rfl <;> simp [RfH_eq]) (v_move rfl) (d_tk (i := 11) rfl rfl (by intro z hz; simp only [List.mem_cons, List.not_mem_nil, or_false] at hz; rcases hz with rfl | rfl | rfl <;> simp [RfH_eq]) (v_extract rfl rfl) (d_tk (i := 12) rfl rfl (by intro z hz; simp only [List.mem_cons, List.not_mem_nil, or_false] at hz; rcases hz with rfl | rfl | rfl <;> simp [RfH_eq]) (v_extract rfl rfl) (d_tk (i := 13) rfl rfl (by intro z hz; simp only [List.mem_cons, List.not_mem_nil, or_false] at hz; rcases hz with rfl | rfl | rfl <;> simp [RfH_eq]) (v_assign rfl) (d_tk (i := 14) rfl rfl (by intro z hz; simp only [List.mem_cons, List.not_mem_nil, or_false] at hz; rcases hz with rfl | rfl | rfl <;> simp [RfH_eq]) (v_assign rfl) (d_end (by decide +kernel) ?_))))))
          generalize hb1 : leadB i r.p ld bad = b1 at *
          refine r_seq ?_
          refine r_join (fun _ : Unit => True) (fun _ => [(0, ptrV x.ga), (1, .int .i64 i), (4, ptrV x.ma)]) (fun _ => F2) (fun _ => RfH x.ra q2 (ME x :: GE x b1 :: LE x ld :: DE x dn :: d2.E x :: (d2.bs ++ Fr))) ?_ ?_
          · intro K
            cases bad with
            | true =>
              refine r_region rfl (o_vl rfl rfl (v_move rfl) (o_vl rfl rfl (v_move rfl) (o_vl rfl rfl (v_nilCheck rfl) (o_vl rfl rfl (v_field (k := 4) rfl rfl rfl) (o_vl rfl rfl (v_load rfl rfl (gcell (x := x) (bad := true) 4 (by simp [FoH, RfH_eq]) rfl)) (o_vl rfl rfl (v_move rfl) (o_sk rfl rfl (o_sk rfl rfl (o_sk rfl rfl (o_sk rfl rfl (o_sk rfl rfl (o_sk rfl rfl (o_vl rfl rfl (v_pick1 rfl rfl) ?_)))))))))))))
              refine o_vl rfl rfl (v_move rfl) (o_sk rfl rfl (o_sk rfl rfl (o_sk rfl rfl (o_sk rfl rfl (o_sk rfl rfl (o_sk rfl rfl (o_sk rfl rfl (o_vl rfl rfl (v_pick1 rfl rfl) (o_vl rfl rfl (v_move rfl) (o_sk rfl rfl (o_sk rfl rfl (o_sk rfl rfl (o_sk rfl rfl ?_)))))))))))))
              refine o_sk rfl rfl (o_sk rfl rfl (o_vl rfl rfl (v_pick1 rfl rfl) (o_vl rfl rfl (v_nilCheck rfl) (o_vl rfl rfl (v_field (k := 4) rfl rfl rfl) (o_act0 rfl rfl rfl (a_bad (b' := b1) [ME x] _ rfl rfl (by rw [hB]; rfl)) ?_)))))
              refine o_end ?_
              refine j_keep ?_ (K () trivial)
              exact ⟨rfl, rfl, rfl, trivial⟩
            | false =>
              rw [Bool.false_or] at hB
              cases hw : lookN ld q2.p.term with
              | none =>
                rw [hw, Bool.false_or] at hB
                refine r_region rfl (o_vl rfl rfl (v_move rfl) (o_vl rfl rfl (v_move rfl) (o_vl rfl rfl (v_nilCheck rfl) (o_vl rfl rfl (v_field (k := 4) rfl rfl rfl) (o_vl rfl rfl (v_load rfl rfl (gcell (x := x) (bad := false) 4 (by simp [FoH, RfH_eq]) rfl)) (o_vl rfl rfl (v_move rfl) (o_vl rfl rfl (v_move rfl) (o_vl rfl rfl (v_move rfl) (o_sk rfl rfl (o_sk rfl rfl (o_sk rfl rfl (o_vl rfl rfl (v_pick0 rfl rfl) (o_vl rfl rfl (v_pick0 rfl rfl) ?_)))))))))))))
                refine o_vl rfl rfl (v_move rfl) (o_vl rfl rfl (v_move rfl) (o_vl rfl rfl (v_nilCheck rfl) (o_vl rfl rfl (v_field (k := 0) rfl rfl rfl) (o_vl rfl rfl (v_load rfl rfl (mcell (x := x) 0 (by simp [FoH, RfH_eq]) rfl)) (o_call rfl rfl rfl rfl (c_call callable13 rfl) (r_Leader _ _ x.ra q2 _) ?_)))))
                rintro v' F2 H' ⟨rfl, rfl, rfl⟩ _
                refine o_vl rfl rfl (v_move rfl) (o_vl rfl rfl (v_neq rfl rfl) ?_)
                refine j_prop 102 rfl (fun h3 => ?_) (fun h3 => ?_)
                · rw [decide_eq_true (show q2.p.lead ≠ i by omega)] at hB
                  refine o_vl rfl rfl (v_pick0 rfl rfl) (o_vl rfl rfl (v_move rfl) (o_sk rfl rfl (o_sk rfl rfl (o_sk rfl rfl (o_sk rfl rfl (o_sk rfl rfl (o_sk rfl rfl (o_vl rfl rfl (v_pick1 rfl rfl) (o_vl rfl rfl (v_nilCheck rfl) (o_vl rfl rfl (v_field (k := 4) rfl rfl rfl) (o_act0 rfl rfl rfl (a_bad (b' := b1) [ME x] _ rfl rfl (by rw [hB]; rfl)) ?_)))))))))))
                  refine o_end ?_
                  refine j_keep ?_ (K () trivial)
                  exact ⟨rfl, rfl, rfl, trivial⟩
                · rw [decide_eq_false (show ¬ q2.p.lead ≠ i by omega)] at hB
                  refine o_vl rfl rfl (v_pick0 rfl rfl) (o_vl rfl rfl (v_move rfl) (o_vl rfl rfl (v_move rfl) (o_vl rfl rfl (v_nilCheck rfl) (o_vl rfl rfl (v_field (k := 0) rfl rfl rfl) (o_vl rfl rfl (v_load rfl rfl (mcell (x := x) 0 (by simp [FoH, RfH_eq]) rfl)) (o_call rfl rfl rfl rfl (c_call callable25 rfl) (r_Role _ _ x.ra q2 _) ?_))))))
                  rintro v' F2 H' ⟨rfl, rfl, rfl⟩ _
                  refine o_vl rfl rfl (v_neq rfl rfl) ?_
                  refine j_slot 110 rfl (v' := .bool false) (by rw [hl]; rfl) ?_
                  refine o_vl rfl rfl (v_pick0 rfl rfl) (o_vl rfl rfl (v_nilCheck rfl) (o_vl rfl rfl (v_field (k := 4) rfl rfl rfl) (o_act0 rfl rfl rfl (a_bad (b' := b1) [ME x] _ rfl rfl (by rw [hB]; rfl)) ?_)))
                  refine o_end ?_
                  refine j_keep ?_ (K () trivial)
                  exact ⟨rfl, rfl, rfl, trivial⟩
              | some k0 =>
                rw [hw] at hB
                dsimp only at hB
                refine r_region rfl (o_vl rfl rfl (v_move rfl) (o_vl rfl rfl (v_move rfl) (o_vl rfl rfl (v_nilCheck rfl) (o_vl rfl rfl (v_field (k := 4) rfl rfl rfl) (o_vl rfl rfl (v_load rfl rfl (gcell (x := x) (bad := false) 4 (by simp [FoH, RfH_eq]) rfl)) (o_vl rfl rfl (v_move rfl) (o_vl rfl rfl (v_move rfl) (o_vl rfl rfl (v_move rfl) (o_vl rfl rfl (v_move rfl) (o_vl rfl rfl (v_move rfl) (o_vl rfl rfl (v_neq rfl rfl) ?_)))))))))))
                refine j_prop 92 rfl (fun h2 => ?_) (fun h2 => ?_)
                · have h2 : (k0 : Int) ≠ (i : Int) := h2
                  rw [decide_eq_true (show k0 ≠ i by omega), Bool.true_or] at hB
                  refine o_vl rfl rfl (v_pick1 rfl rfl) (o_vl rfl rfl (v_pick0 rfl rfl) (o_vl rfl rfl (v_move rfl) (o_sk rfl rfl (o_sk rfl rfl (o_sk rfl rfl (o_sk rfl rfl (o_sk rfl rfl (o_sk rfl rfl (o_sk rfl rfl (o_vl rfl rfl (v_pick1 rfl rfl) (o_vl rfl rfl (v_move rfl) (o_sk rfl rfl (o_sk rfl rfl ?_)))))))))))))
                  refine o_sk rfl rfl (o_sk rfl rfl (o_sk rfl rfl (o_sk rfl rfl (o_vl rfl rfl (v_pick1 rfl rfl) (o_vl rfl rfl (v_nilCheck rfl) (o_vl rfl rfl (v_field (k := 4) rfl rfl rfl) (o_act0 rfl rfl rfl (a_bad (b' := b1) [ME x] _ rfl rfl (by rw [hB]; rfl)) ?_)))))))
                  refine o_end ?_
                  refine j_keep ?_ (K () trivial)
                  exact ⟨rfl, rfl, rfl, trivial⟩
                · have h2 : ¬ (k0 : Int) ≠ (i : Int) := h2
                  rw [decide_eq_false (show ¬ k0 ≠ i by omega), Bool.false_or] at hB
                  refine o_vl rfl rfl (v_pick1 rfl rfl) (o_vl rfl rfl (v_pick0 rfl rfl) (o_vl rfl rfl (v_move rfl) (o_vl rfl rfl (v_move rfl) (o_vl rfl rfl (v_nilCheck rfl) (o_vl rfl rfl (v_field (k := 0) rfl rfl rfl) (o_vl rfl rfl (v_load rfl rfl (mcell (x := x) 0 (by simp [FoH, RfH_eq]) rfl)) (o_call rfl rfl rfl rfl (c_call callable13 rfl) (r_Leader _ _ x.ra q2 _) ?_)))))))
                  rintro v' F2 H' ⟨rfl, rfl, rfl⟩ _
                  refine o_vl rfl rfl (v_move rfl) (o_vl rfl rfl (v_neq rfl rfl) ?_)
                  refine j_prop 102 rfl (fun h3 => ?_) (fun h3 => ?_)
                  · rw [decide_eq_true (show q2.p.lead ≠ i by omega)] at hB
                    refine o_vl rfl rfl (v_pick0 rfl rfl) (o_vl rfl rfl (v_move rfl) (o_sk rfl rfl (o_sk rfl rfl (o_sk rfl rfl (o_sk rfl rfl (o_sk rfl rfl (o_sk rfl rfl (o_vl rfl rfl (v_pick1 rfl rfl) (o_vl rfl rfl (v_nilCheck rfl) (o_vl rfl rfl (v_field (k := 4) rfl rfl rfl) (o_act0 rfl rfl rfl (a_bad (b' := b1) [ME x] _ rfl rfl (by rw [hB]; rfl)) ?_)))))))))))
                    refine o_end ?_
                    refine j_keep ?_ (K () trivial)
                    exact ⟨rfl, rfl, rfl, trivial⟩
                  · rw [decide_eq_false (show ¬ q2.p.lead ≠ i by omega)] at hB
                    refine o_vl rfl rfl (v_pick0 rfl rfl) (o_vl rfl rfl (v_move rfl) (o_vl rfl rfl (v_move rfl) (o_vl rfl rfl (v_nilCheck rfl) (o_vl rfl rfl (v_field (k := 0) rfl rfl rfl) (o_vl rfl rfl (v_load rfl rfl (mcell (x := x) 0 (by simp [FoH, RfH_eq]) rfl)) (o_call rfl rfl rfl rfl (c_call callable25 rfl) (r_Role _ _ x.ra q2 _) ?_))))))
                    rintro v' F2 H' ⟨rfl, rfl, rfl⟩ _
                    refine o_vl rfl rfl (v_neq rfl rfl) ?_
                    refine j_slot 110 rfl (v' := .bool false) (by rw [hl]; rfl) ?_
                    refine o_vl rfl rfl (v_pick0 rfl rfl) (o_vl rfl rfl (v_nilCheck rfl) (o_vl rfl rfl (v_field (k := 4) rfl rfl rfl) (o_act0 rfl rfl rfl (a_bad (b' := b1) [ME x] _ rfl rfl (by rw [hB]; rfl)) ?_)))
                    refine o_end ?_
                    refine j_keep ?_ (K () trivial)
                    exact ⟨rfl, rfl, rfl, trivial⟩
          · rintro ⟨⟩ -
            refine r_seq (d_region 1000000 rfl ([GE x b1, ME x]) ?_)
            refine d_tk (i := 0) rfl rfl (by intro z hz; simp only [List.mem_cons, List.not_mem_nil, or_false] at hz; rcases hz with rfl | rfl <;> simp [RfH_eq]) (v_move rfl) (d_tk (i := 1) rfl rfl (by intro z hz; simp only [List.mem_cons, List.not_mem_nil, or_false] at hz; rcases hz with rfl | rfl <;> simp [RfH_eq]) (v_nilCheck rfl) (d_tk (i := 2) rfl rfl (by intro z hz; simp only [List.mem_cons, List.not_mem_nil, or_false] at hz; rcases hz with rfl | rfl <;> simp [RfH_eq]) (v_field (k := 2) rfl rfl rfl) (d_tk (i := 3) rfl rfl (by intro z hz; simp only [List.mem_cons, List.not_mem_nil, or_false] at hz; rcases hz with rfl | rfl <;> simp [RfH_eq]) (v_load rfl rfl (gcell (x := x) (bad := b1) 2 (by simp [FoH, RfH_eq]) rfl)) (d_tk (i := 4) rfl rfl (by intro z hz; simp only [List.mem_cons, List.not_mem_nil, or_false] at hz; rcases hz with rfl | rfl <;> simp [RfH_eq]) (v_move rfl) (d_tk (i := 5) rfl rfl (by intro z hz; simp only [List.mem_cons, List.not_mem_nil, or_false] at hz; rcases hz with rfl | rfl <;> simp [RfH_eq]) (v_nilCheck rfl) (d_tk (i := 6) rfl rfl (by intro z hz; simp only [List.mem_cons, List.not_mem_nil, or_false] at hz; rcases hz with rfl | rfl <;> simp [RfH_eq]) (v_field (k := 0) rfl rfl rfl) (d_tk (i := 7) rfl rfl (by intro z hz; simp only [List.mem_cons, List.not_mem_nil, or_false] at hz; rcases hz with rfl | rfl <;> simp [RfH_eq]) (v_load rfl rfl (mcell (x := x) 0 (by simp [FoH, RfH_eq]) rfl)) (d_tk (i := 9) rfl rfl (by intro z hz; simp only [List.mem_cons, List.not_mem_nil, or_false] at hz; rcases hz with rfl | rfl <;> simp [RfH_eq]) (v_move rfl) (d_one (i := 8) (by decide +kernel) (d1_call rfl rfl rfl rfl (c_call callable14 rfl) (r_Term _ _ x.ra q2 _) ?_))))))))))
            rintro v' F2 H' ⟨rfl, rfl, rfl⟩ _
            refine ⟨fun w hw => held_of hw (by first | exact Fz.le_refl _ | assumption) (by intro z hz; simp only [List.mem_cons, List.not_mem_nil, or_false] at hz; rcases hz with rfl | rfl <;> simp [RfH_eq]), ?_⟩
            refine d_one (i := 10) (by decide +kernel) ?_
            refine d1_act0 rfl rfl rfl (a_lput (f := x) (ld := ld) (k := q2.p.term) (v := i) [ME x, GE x b1] _ rfl rfl rfl rfl rfl) (fun w hw => held_of hw (Fz.le_refl _) (by intro z hz; simp only [List.mem_cons, List.not_mem_nil, or_false] at hz; rcases hz with rfl | rfl <;> simp [RfH_eq])) ?_
            obtain ⟨ld', hld'⟩ : ∃ ld', ld' = putN ld q2.p.term i := ⟨_, rfl⟩
            have hres2 : r.p.leads i ld (pureD dn) bad = (ld', overB q2.p ld' (pureD dn) b1) := by
              rw [hres, hld', hterm]
              unfold overB
              rw [hterm, hlast]
            refine j_heap (H' := RfH x.ra q2 (ME x :: GE x b1 :: LE x ld' :: DE x dn :: d2.E x :: (d2.bs ++ Fr))) (by rw [hld']; rfl) ?_
            have hLm : ∀ Y : List Ent, Ent.obj x.lm (mapObjK .u64 (kvN lkV ld')) ∈ Y ++ RfH x.ra q2 (ME x :: GE x b1 :: LE x ld' :: DE x dn :: d2.E x :: (d2.bs ++ Fr)) := fun Y => by
              show LE x ld' ∈ _
              simp [RfH_eq]
            refine d_end (by decide +kernel) (r_seq (r_region rfl (o_vl rfl rfl (v_assign rfl) (o_end (r_seq (r_seq (r_region rfl (o_vl rfl rfl (v_move rfl) (o_vl rfl rfl (v_nilCheck rfl) (o_vl rfl rfl (v_field (k := 2) rfl rfl rfl) (o_vl rfl rfl (v_load rfl rfl (gcell (x := x) (bad := b1) 2 (by simp [FoH, RfH_eq]) rfl)) (o_act rfl rfl rfl rfl (a_range (b := x.lm) (l := kvN lkV ld') rfl (hLm []) rfl) ?_))))))))))))
            rintro v' H' ⟨it, rfl, rfl⟩
            refine o_end (r_block ?_)
            obtain ⟨n1, hn1⟩ : ∃ n1, n1 = (kvN lkV ld').length := ⟨_, rfl⟩
            have hn1' : n1 = ld'.length := by rw [hn1, kvN_len]
            refine r_loop (fun s : List Nat × Nat => (∀ j (hj : j < ld'.length), j ∈ s.1 → ld'[j].1 ≤ s.2) ∧ (s.2 = 0 ∨ ∃ q ∈ ld', q.1 = s.2)) (fun s => [(0, ptrV x.ga), (1, .int .i64 i), (4, ptrV x.ma), (10, .int .u64 s.2), (128, ptrV it)]) (fun _ => F2) (fun s => .obj it (itObj x.lm (kvN lkV ld').length s.1) :: RfH x.ra q2 (ME x :: GE x b1 :: LE x ld' :: DE x dn :: d2.E x :: (d2.bs ++ Fr))) (fun s => leftN ld'.length s.1) ([], 0) ⟨by simp, .inl rfl⟩ ⟨rfl, rfl, rfl, rfl, rfl, trivial⟩ rfl rfl ?_
            rintro ⟨S, top⟩ ⟨hS, htop⟩ IH
            dsimp only at hS htop ⊢
            refine r_seq (r_region rfl (o_act rfl rfl rfl rfl (a_next (it := it) (b := x.lm) (l := kvN lkV ld') (S := S) 0 rfl (hLm [_]) rfl) ?_))
            rintro v' H' (⟨rfl, hall, rfl⟩ | ⟨j, hj, hjn, rfl, rfl⟩)
            · refine o_vl rfl rfl (v_extract rfl rfl) (o_end (r_seq (r_false rfl ?_)))
              clear IH
              have htp : topOf ld' = top := topOf_is (fun q hq => by
                obtain ⟨j, hj, rfl⟩ := List.getElem_of_mem hq
                exact hS j hj (hall j (by simpa using hj))) htop
              refine j_drop (List.sublist_cons_self _ _) ?_
              clear hLm
              have hdnP : ∀ (j : Nat) (hj : j < dn.length), ((pureD dn)[j]'(by simpa [pureD] using hj)).1 = dn[j].1 := fun j hj => by simp [pureD]
              have hDm : ∀ (Y : List Ent) (b : Bool), Ent.obj x.dm (mapObjK .u64 (kvN enA dn)) ∈ Y ++ RfH x.ra q2 (ME x :: GE x b :: LE x ld' :: DE x dn :: d2.E x :: (d2.bs ++ Fr)) := fun Y b => by
                show DE x dn ∈ _
                simp [RfH_eq]
              refine r_exit rfl (r_seq (r_region rfl (o_vl rfl rfl (v_move rfl) (o_vl rfl rfl (v_nilCheck rfl) (o_vl rfl rfl (v_field (k := 3) rfl rfl rfl) (o_vl rfl rfl (v_load rfl rfl (gcell (x := x) (bad := b1) 3 (by simp [FoH, RfH_eq]) rfl)) (o_act rfl rfl rfl rfl (a_range (b := x.dm) (l := kvN enA dn) rfl (hDm [] b1) rfl) ?_)))))))
              rintro v' H' ⟨it2, rfl, rfl⟩
              refine o_end (r_block ?_)
              refine r_loop (fun s : List Nat × Bool => (s.2 = true ↔ b1 = true ∨ ∃ (j : Nat) (hj : j < dn.length), j ∈ s.1 ∧ topOf ld' = q2.p.term ∧ q2.p.last < dn[j].1)) (fun s => [(0, ptrV x.ga), (1, .int .i64 i), (4, ptrV x.ma), (10, .int .u64 top), (141, ptrV it2)]) (fun _ => F2) (fun s => .obj it2 (itObj x.dm (kvN enA dn).length s.1) :: RfH x.ra q2 (ME x :: GE x s.2 :: LE x ld' :: DE x dn :: d2.E x :: (d2.bs ++ Fr))) (fun s => leftN dn.length s.1) ([], b1) (by simp) ⟨rfl, rfl, rfl, rfl, rfl, trivial⟩ rfl rfl ?_
              rintro ⟨S2, b⟩ hb IH
              dsimp only at hb ⊢
              refine r_seq (r_region rfl (o_act rfl rfl rfl rfl (a_next (it := it2) (b := x.dm) (l := kvN enA dn) (S := S2) 0 rfl (hDm [_] b) rfl) ?_))
              rintro v' H' (⟨rfl, hall2, rfl⟩ | ⟨j, hj, hjn, rfl, rfl⟩)
              · refine o_vl rfl rfl (v_extract rfl rfl) (o_end (r_seq (r_false rfl ?_)))
                clear IH
                refine j_drop (List.sublist_cons_self _ _) ?_
                have hov : overB q2.p ld' (pureD dn) b1 = b := by
                  unfold overB
                  rw [Bool.eq_iff_iff, hb, Bool.or_eq_true, Bool.and_eq_true, decide_eq_true_eq, List.any_eq_true]
                  constructor
                  · rintro (h | ⟨h1, q, hq, h2⟩)
                    · exact .inl h
                    · obtain ⟨j, hj, rfl⟩ := List.getElem_of_mem hq
                      have hj2 : j < dn.length := by simpa [pureD] using hj
                      rw [hdnP j hj2, decide_eq_true_eq] at h2
                      exact .inr ⟨j, hj2, hall2 j (by simpa using hj2), h1, h2⟩
                  · rintro (h | ⟨j, hj2, _, h1, h2⟩)
                    · exact .inl h
                    · exact .inr ⟨h1, _, List.getElem_mem (by simpa [pureD] using hj2 : j < (pureD dn).length), by rw [hdnP j hj2]; exact decide_eq_true h2⟩
                refine r_exit rfl ?_
                refine j_keep ?_ (j_heap (by rw [hres2, hov]) (J () trivial))
                exact ⟨rfl, rfl, rfl, trivial⟩
              · have hj2 : j < dn.length := by simpa using hj
                have hkey : (kvN enA dn)[j].1 = (dn[j].1 : Int) := by rw [kvN_get]
                have hlt := leftN_lt hj2 hjn
                refine o_vl rfl rfl (v_extract rfl rfl) (o_end (r_seq (r_true rfl (r_skip (r_block (r_seq (r_region rfl (o_vl rfl rfl (v_entry (it := it2) (b := x.dm) (l := kvN enA dn) (S := S2) (i := j) hj (List.mem_cons_self ..) (hDm [_] b) rfl) (o_vl rfl rfl (v_extract rfl rfl) (o_vl rfl rfl (v_assign rfl) (o_end ?_)))))))))))
                refine j_slot 12 rfl (v' := .int .u64 (dn[j].1 : Int)) (congrArg (Value.int .u64) hkey) ?_
                have hstep : ∀ b' : Bool, (b' = true ↔ b = true ∨ (topOf ld' = q2.p.term ∧ q2.p.last < dn[j].1)) → (b' = true ↔ b1 = true ∨ ∃ (j2 : Nat) (hj : j2 < dn.length), j2 ∈ S2 ++ [j] ∧ topOf ld' = q2.p.term ∧ q2.p.last < dn[j2].1) := fun b' h => by
                  rw [h, hb]
                  constructor
                  · rintro ((h | ⟨j2, h1, h2, h3⟩) | h)
                    · exact .inl h
                    · exact .inr ⟨j2, h1, List.mem_append_left _ h2, h3⟩
                    · exact .inr ⟨j, hj2, List.mem_append_right _ (List.mem_singleton.2 rfl), h⟩
                  · rintro (h | ⟨j2, h1, h2, h3⟩)
                    · exact .inl (.inl h)
                    · rcases List.mem_append.1 h2 with h2 | h2
                      · exact .inl (.inr ⟨j2, h1, h2, h3⟩)
                      · have hjj := List.mem_singleton.1 h2
                        subst hjj
                        exact .inr h3
                obtain ⟨I, hI⟩ : ∃ I : Ent, I = .obj it2 (itObj x.dm (kvN enA dn).length (S2 ++ [j])) := ⟨_, rfl⟩
                refine j_heap (H' := I :: RfH x.ra q2 (ME x :: GE x b :: LE x ld' :: DE x dn :: d2.E x :: (d2.bs ++ Fr))) (by rw [hI]; rfl) ?_
                refine j_perm (box_in x.ra q2 _ _) ?_
                cases b with
                | true =>
                  obtain ⟨b2, hb2e⟩ : ∃ b2, b2 = true := ⟨_, rfl⟩
                  have hb2 : b2 = true ↔ true = true ∨ (topOf ld' = q2.p.term ∧ q2.p.last < dn[j].1) := by simp [hb2e]
                  refine r_region rfl (o_vl rfl rfl (v_move rfl) (o_vl rfl rfl (v_move rfl) (o_vl rfl rfl (v_nilCheck rfl) (o_vl rfl rfl (v_field (k := 4) rfl rfl rfl) (o_vl rfl rfl (v_load rfl rfl (gcell (x := x) (bad := true) 4 (by simp [FoH, RfH_eq]) rfl)) (o_vl rfl rfl (v_move rfl) (o_sk rfl rfl (o_sk rfl rfl (o_sk rfl rfl (o_sk rfl rfl (o_sk rfl rfl (o_sk rfl rfl (o_sk rfl rfl ?_)))))))))))))
                  refine o_sk rfl rfl (o_sk rfl rfl (o_sk rfl rfl (o_sk rfl rfl (o_sk rfl rfl (o_sk rfl rfl (o_sk rfl rfl (o_sk rfl rfl (o_sk rfl rfl (o_vl rfl rfl (v_pick1 rfl rfl) (o_vl rfl rfl (v_nilCheck rfl) (o_vl rfl rfl (v_field (k := 4) rfl rfl rfl) ?_)))))))))))
                  refine j_slot 168 rfl (v' := .bool b2) (by rw [hb2e]) ?_
                  refine o_act0 rfl rfl rfl (a_bad (b' := b2) [I, ME x] _ rfl rfl rfl) ?_
                  refine j_perm (box_in x.ra q2 _ _).symm ?_
                  rw [hI]
                  refine o_end (r_inBlock ?_)
                  refine j_keep ?_ (IH (S2 ++ [j], b2) (hstep b2 hb2) hlt)
                  exact ⟨rfl, rfl, rfl, rfl, rfl, trivial⟩
                | false =>
                  refine r_region rfl (o_vl rfl rfl (v_move rfl) (o_vl rfl rfl (v_move rfl) (o_vl rfl rfl (v_nilCheck rfl) (o_vl rfl rfl (v_field (k := 4) rfl rfl rfl) (o_vl rfl rfl (v_load rfl rfl (gcell (x := x) (bad := false) 4 (by simp [FoH, RfH_eq]) rfl)) (o_vl rfl rfl (v_move rfl) (o_vl rfl rfl (v_move rfl) (o_vl rfl rfl (v_move rfl) (o_vl rfl rfl (v_nilCheck rfl) (o_vl rfl rfl (v_field (k := 0) rfl rfl rfl) (o_vl rfl rfl (v_load rfl rfl (mcell (x := x) 0 (by simp [FoH, RfH_eq]) rfl)) (o_call rfl rfl rfl rfl (c_call callable14 rfl) (r_Term _ _ x.ra q2 _) ?_))))))))))))
                  rintro v' F2 H' ⟨rfl, rfl, rfl⟩ _
                  refine o_vl rfl rfl (v_eql rfl rfl) ?_
                  refine j_prop 158 rfl (fun h3 => ?_) (fun h3 => ?_)
                  · have h3' : topOf ld' = q2.p.term := by omega
                    refine o_vl rfl rfl (v_move rfl) (o_vl rfl rfl (v_move rfl) (o_vl rfl rfl (v_move rfl) (o_vl rfl rfl (v_nilCheck rfl) (o_vl rfl rfl (v_field (k := 0) rfl rfl rfl) (o_vl rfl rfl (v_load rfl rfl (mcell (x := x) 0 (by simp [FoH, RfH_eq]) rfl)) (o_call rfl rfl rfl rfl (c_call callable65 rfl) (r_Last _ _ x.ra q2 _ hq2ok) ?_))))))
                    rintro v' F2 H' ⟨rfl, rfl, rfl⟩ _
                    obtain ⟨b2, hb2e⟩ : ∃ b2, b2 = decide (q2.p.last < dn[j].1) := ⟨_, rfl⟩
                    have hb2 : b2 = true ↔ false = true ∨ (topOf ld' = q2.p.term ∧ q2.p.last < dn[j].1) := by simp [hb2e, h3']
                    refine o_vl rfl rfl (v_gtr rfl rfl) ?_
                    refine j_slot 166 rfl (v' := .bool b2) (congrArg Value.bool ((decide_eq_decide.2 (by omega)).trans hb2e.symm)) ?_
                    refine o_vl rfl rfl (v_pick1 rfl rfl) (o_vl rfl rfl (v_pick0 rfl rfl) (o_vl rfl rfl (v_nilCheck rfl) (o_vl rfl rfl (v_field (k := 4) rfl rfl rfl) (o_act0 rfl rfl rfl (a_bad (b' := b2) [I, ME x] _ rfl rfl rfl) ?_))))
                    refine j_perm (box_in x.ra q2 _ _).symm ?_
                    rw [hI]
                    refine o_end (r_inBlock ?_)
                    refine j_keep ?_ (IH (S2 ++ [j], b2) (hstep b2 hb2) hlt)
                    exact ⟨rfl, rfl, rfl, rfl, rfl, trivial⟩
                  · have h3' : ¬ topOf ld' = q2.p.term := by omega
                    obtain ⟨b2, hb2e⟩ : ∃ b2, b2 = false := ⟨_, rfl⟩
                    have hb2 : b2 = true ↔ false = true ∨ (topOf ld' = q2.p.term ∧ q2.p.last < dn[j].1) := by simp [hb2e, h3']
                    refine o_vl rfl rfl (v_move rfl) (o_sk rfl rfl (o_sk rfl rfl (o_sk rfl rfl (o_sk rfl rfl (o_sk rfl rfl (o_sk rfl rfl (o_sk rfl rfl (o_vl rfl rfl (v_pick0 rfl rfl) (o_vl rfl rfl (v_pick0 rfl rfl) ?_)))))))))
                    refine j_slot 168 rfl (v' := .bool b2) (by rw [hb2e]) ?_
                    refine o_vl rfl rfl (v_nilCheck rfl) (o_vl rfl rfl (v_field (k := 4) rfl rfl rfl) (o_act0 rfl rfl rfl (a_bad (b' := b2) [I, ME x] _ rfl rfl rfl) ?_))
                    refine j_perm (box_in x.ra q2 _ _).symm ?_
                    rw [hI]
                    refine o_end (r_inBlock ?_)
                    refine j_keep ?_ (IH (S2 ++ [j], b2) (hstep b2 hb2) hlt)
                    exact ⟨rfl, rfl, rfl, rfl, rfl, trivial⟩
            · have hj2 : j < ld'.length := by simpa using hj
              have hkey : (kvN lkV ld')[j].1 = (ld'[j].1 : Int) := by rw [kvN_get]
              refine o_vl rfl rfl (v_extract rfl rfl) (o_end (r_seq (r_true rfl (r_skip (r_block (r_seq (r_region rfl (o_vl rfl rfl (v_entry (it := it) (b := x.lm) (l := kvN lkV ld') (S := S) (i := j) hj (List.mem_cons_self ..) (hLm [_]) rfl) (o_vl rfl rfl (v_extract rfl rfl) (o_vl rfl rfl (v_assign rfl) (o_end (r_seq (r_region rfl ?_)))))))))))))
              refine o_vl rfl rfl (v_move rfl) (o_vl rfl rfl (v_move rfl) ?_)
              refine j_slot 11 rfl (v' := .int .u64 (ld'[j].1 : Int)) (congrArg (Value.int .u64) hkey) ?_
              refine j_slot 133 rfl (v' := .int .u64 (ld'[j].1 : Int)) (congrArg (Value.int .u64) hkey) ?_
              have hlt := leftN_lt hj2 hjn
              refine o_vl rfl rfl (v_gtr rfl rfl) (o_end (r_if rfl (fun g => ?_) (fun g => ?_)))
              · refine r_region rfl (o_vl rfl rfl (v_move rfl) (o_vl rfl rfl (v_assign rfl) (o_end (r_inBlock ?_))))
                refine j_keep ?_ (IH (S ++ [j], ld'[j].1) ⟨fun j2 hj2' h => ?_, .inr ⟨_, List.getElem_mem hj2, rfl⟩⟩ hlt)
                · exact ⟨rfl, rfl, rfl, rfl, rfl, trivial⟩
                · dsimp only
                  rcases List.mem_append.1 h with h | h
                  · have := hS j2 hj2' h; omega
                  · have hjj := List.mem_singleton.1 h
                    subst hjj
                    exact Nat.le_refl _
              · refine r_skip (r_inBlock ?_)
                refine j_keep ?_ (IH (S ++ [j], top) ⟨fun j2 hj2' h => ?_, htop⟩ hlt)
                · exact ⟨rfl, rfl, rfl, rfl, rfl, trivial⟩
                · dsimp only
                  rcases List.mem_append.1 h with h | h
                  · exact hS j2 hj2' h
                  · have hjj := List.mem_singleton.1 h
                    subst hjj
                    omega
        · have hl' : ¬ r.p.role = 3 := by rw [← hrole]; exact hl
          have hres : r.p.leads i ld (pureD dn) bad = (ld, bad) := by
            unfold PR.leads
            rw [if_neg hl']
          refine r_skip ?_
          refine j_keep ?_ (j_heap (by rw [hres]) (J () trivial))
          exact ⟨rfl, rfl, rfl, trivial⟩
      · rintro ⟨⟩ -
        generalize (r.p.leads i ld (pureD dn) bad).2 = bad1
        generalize (r.p.leads i ld (pureD dn) bad).1 = ld1
        have hcm : q2.p.cm = r.p.cm := by rw [hq2p]; rfl
        have hlix : q2.p.lix = r.p.lix := by rw [hq2p]; rfl
        have hent : ∀ k, q2.p.entry k = r.p.entry k := fun k => by rw [hq2p]; rfl
        have hcb := hq2ok.B.cm
        have hlb := hq2ok.B.last
        rw [← hcm, ← hlix]
        refine r_seq (r_region rfl (o_vl rfl rfl (v_move rfl) (o_vl rfl rfl (v_nilCheck rfl) (o_vl rfl rfl (v_field (k := 0) rfl rfl rfl) (o_vl rfl rfl (v_load rfl rfl (mcell (x := x) 0 (by simp [FoH, RfH_eq]) rfl)) (o_call rfl rfl rfl rfl (c_call callable66 rfl) (r_Base _ _ x.ra q2 _) ?_))))))
        rintro v' F2 H' ⟨rfl, rfl, rfl⟩ _
        refine o_vl rfl rfl (v_add rfl rfl (r := ((q2.p.lix + 1 : Nat) : Int)) (wrap_u64 (by omega) (by omega))) (o_vl rfl rfl (v_assign rfl) (o_end (r_block ?_)))
        refine r_loop (fun s : Nat × Bool × List (Nat × En) => s.1 + (q2.p.cm + 1 - s.1) = (q2.p.lix + 1) + (q2.p.cm - q2.p.lix) ∧ (∀ e ∈ s.2.2, e.2.ok F2) ∧ cmtF r.p (q2.p.cm - q2.p.lix) (q2.p.lix + 1) (pureD dn) bad1 = cmtF r.p (q2.p.cm + 1 - s.1) s.1 (pureD s.2.2) s.2.1) (fun s => [(0, ptrV x.ga), (4, ptrV x.ma), (13, .int .u64 s.1)]) (fun _ => F2) (fun s => RfH x.ra q2 (ME x :: GE x s.2.1 :: LE x ld1 :: DE x s.2.2 :: d2.E x :: (d2.bs ++ Fr))) (fun s => q2.p.cm + 1 - s.1) (q2.p.lix + 1, bad1, dn) ⟨by dsimp only; omega, hdn2, by rw [show q2.p.cm + 1 - (q2.p.lix + 1) = q2.p.cm - q2.p.lix by omega]⟩ ⟨rfl, rfl, rfl, trivial⟩ rfl rfl ?_
        rintro ⟨kk, b, dm⟩ ⟨hkk, hdm, hcf⟩ IH
        dsimp only at hkk hdm hcf ⊢
        refine r_seq (r_seq (r_region rfl (o_vl rfl rfl (v_move rfl) (o_vl rfl rfl (v_move rfl) (o_vl rfl rfl (v_nilCheck rfl) (o_vl rfl rfl (v_field (k := 0) rfl rfl rfl) (o_vl rfl rfl (v_load rfl rfl (mcell (x := x) 0 (by simp [FoH, RfH_eq]) rfl)) (o_call rfl rfl rfl rfl (c_call callable15 rfl) (r_Commit _ _ x.ra q2 _) ?_))))))))
        rintro v' F2 H' ⟨rfl, rfl, rfl⟩ _
        refine o_vl rfl rfl (v_leq rfl rfl) (o_end (r_if rfl (fun h3 => ?_) (fun h3 => ?_)))
        · have hsub : q2.p.cm + 1 - kk = (q2.p.cm + 1 - (kk + 1)) + 1 := by omega
          rw [hsub] at hcf
          have hcf2 : cmtF r.p (q2.p.cm - q2.p.lix) (q2.p.lix + 1) (pureD dn) bad1 = cmtF r.p (q2.p.cm + 1 - (kk + 1)) (kk + 1) (putN (pureD dm) kk (r.p.ent kk)) (cmtB r.p kk (pureD dm) b) := hcf
          refine r_skip (r_seq (r_block (r_seq (r_region rfl (o_vl rfl rfl (v_move rfl) (o_vl rfl rfl (v_nilCheck rfl) (o_vl rfl rfl (v_field (k := 0) rfl rfl rfl) (o_vl rfl rfl (v_load rfl rfl (mcell (x := x) 0 (by simp [FoH, RfH_eq]) rfl)) (o_vl rfl rfl (v_move rfl) (o_call rfl rfl rfl rfl (c_call callable67 rfl) (r_Entry _ _ x.ra q2 kk _ hq2ok (by omega)) ?_))))))))))
          rintro v' F2 H' ⟨rfl, ⟨e, heok, hep, rfl⟩, rfl⟩ _
          rw [hent] at hep
          rw [hent]
          have hep : e.pure = r.p.ent kk := hep
          have heone := heok.one
          refine o_vl rfl rfl (v_move rfl) (o_vl rfl rfl (v_extract rfl rfl) (o_vl rfl rfl (v_extract rfl rfl) (o_act rfl rfl rfl rfl (a_alloc rfl) ?_)))
          rintro v' H' ⟨y1, rfl, rfl⟩
          refine o_act0 rfl rfl rfl (a_store (sz := 4) (v := .agg e.cells.toArray) 0 rfl rfl rfl heone rfl rfl (Nat.le_of_ble_eq_true rfl)) ?_
          refine j_heap (H' := .mem y1 e.cells 4 :: RfH x.ra q2 (ME x :: GE x b :: LE x ld1 :: DE x dm :: d2.E x :: (d2.bs ++ Fr))) rfl ?_
          refine j_perm (box_in x.ra q2 _ _) ?_
          obtain ⟨w, hw⟩ : ∃ w : En, w = (lookN dm kk).getD En.z := ⟨_, rfl⟩
          have hwok : w.ok F2 := by
            rw [hw]
            cases hl : lookN dm kk with
            | none => exact En.z_ok _
            | some w0 => exact hdm _ (lookN_mem dm kk w0 hl)
          have hwone := hwok.one
          refine o_vl rfl rfl (v_assign rfl) (o_end (r_seq (r_region rfl (o_vl rfl rfl (v_move rfl) (o_vl rfl rfl (v_nilCheck rfl) (o_vl rfl rfl (v_field (k := 3) rfl rfl rfl) (o_vl rfl rfl (v_load rfl rfl (gcell (x := x) (bad := b) 3 (by simp [FoH, RfH_eq]) rfl)) (o_vl rfl rfl (v_move rfl) (o_vl rfl rfl (v_lookD (f := x) (dn := dm) (k := kk) (by simp [RfH_eq]) rfl rfl rfl rfl rfl rfl) (o_vl rfl rfl (v_move rfl) (o_vl rfl rfl (v_extract rfl rfl) (o_vl rfl rfl (v_extract rfl rfl) ?_))))))))))))
          rw [← hw]
          refine o_act rfl rfl rfl rfl (a_alloc rfl) ?_
          rintro v' H' ⟨y2, rfl, rfl⟩
          refine o_act0 rfl rfl rfl (a_store (sz := 4) (v := .agg w.cells.toArray) 0 rfl rfl rfl hwone rfl rfl (Nat.le_of_ble_eq_true rfl)) ?_
          refine j_heap (H' := .mem y2 w.cells 4 :: RfH x.ra q2 (.mem y1 e.cells 4 :: ME x :: GE x b :: LE x ld1 :: DE x dm :: d2.E x :: (d2.bs ++ Fr))) rfl ?_
          refine j_perm (box_in x.ra q2 _ _) ?_
          have hB : cmtB r.p kk (pureD dm) b = (b || !(r.p.entry kk).isSome || decide (e.pure.ix ≠ kk) || (match (lookN dm kk).map En.pure with | some w => !e.pure.same w | none => false)) := by
            rw [hep, ← pureD_look]
            rfl
          have hpi : e.pure.ix = e.ix := rfl
          rw [hpi] at hB
          generalize hb1 : cmtB r.p kk (pureD dm) b = b1 at *
          obtain ⟨Y1, hY1⟩ : ∃ Y1 : Ent, Y1 = .mem y1 e.cells 4 := ⟨_, rfl⟩
          obtain ⟨Y2, hY2⟩ : ∃ Y2 : Ent, Y2 = .mem y2 w.cells 4 := ⟨_, rfl⟩
          rw [← hY1, ← hY2]
          have hc1 : ∀ F H j c, Y1 ∈ H → e.cells[j]? = some c → Cell F H y1 (0 + j) c := fun F H j c hm hc => by rw [Nat.zero_add]; rw [hY1] at hm; exact cell_own hm hc
          have hc2 : ∀ F H j c, Y2 ∈ H → w.cells[j]? = some c → Cell F H y2 (0 + j) c := fun F H j c hm hc => by rw [Nat.zero_add]; rw [hY2] at hm; exact cell_own hm hc
          refine o_vl rfl rfl (v_assign rfl) (o_end (r_seq ?_))
          refine r_join (fun _ : Unit => True) (fun _ => [(0, ptrV x.ga), (4, ptrV x.ma), (13, .int .u64 kk), (14, ptrV y1)]) (fun _ => F2) (fun _ => RfH x.ra q2 (Y2 :: Y1 :: ME x :: GE x b1 :: LE x ld1 :: DE x dm :: d2.E x :: (d2.bs ++ Fr))) ?_ ?_
          · intro K
            cases b with
            | true =>
              refine r_region rfl (o_vl rfl rfl (v_move rfl) (o_vl rfl rfl (v_move rfl) (o_vl rfl rfl (v_nilCheck rfl) (o_vl rfl rfl (v_field (k := 4) rfl rfl rfl) (o_vl rfl rfl (v_load rfl rfl (gcell (x := x) (bad := true) 4 (by simp [FoH, RfH_eq]) rfl)) (o_vl rfl rfl (v_move rfl) (o_sk rfl rfl (o_sk rfl rfl (o_vl rfl rfl (v_pick1 rfl rfl) (o_vl rfl rfl (v_move rfl) (o_sk rfl rfl (o_sk rfl rfl (o_sk rfl rfl ?_)))))))))))))
              refine o_sk rfl rfl (o_vl rfl rfl (v_pick1 rfl rfl) (o_vl rfl rfl (v_move rfl) (o_sk rfl rfl (o_sk rfl rfl (o_sk rfl rfl (o_sk rfl rfl (o_sk rfl rfl (o_sk rfl rfl (o_sk rfl rfl (o_vl rfl rfl (v_pick1 rfl rfl) (o_vl rfl rfl (v_nilCheck rfl) (o_vl rfl rfl (v_field (k := 4) rfl rfl rfl) (o_act0 rfl rfl rfl (a_bad (b' := b1) [Y2, Y1, ME x] _ rfl rfl (by rw [hB]; rfl)) ?_)))))))))))))
              refine o_end ?_
              refine j_keep ?_ (K () trivial)
              exact ⟨rfl, rfl, rfl, rfl, trivial⟩
            | false =>
              rw [Bool.false_or] at hB
              refine r_region rfl (o_vl rfl rfl (v_move rfl) (o_vl rfl rfl (v_move rfl) (o_vl rfl rfl (v_nilCheck rfl) (o_vl rfl rfl (v_field (k := 4) rfl rfl rfl) (o_vl rfl rfl (v_load rfl rfl (gcell (x := x) (bad := false) 4 (by simp [FoH, RfH_eq]) rfl)) (o_vl rfl rfl (v_move rfl) (o_vl rfl rfl (v_move rfl) ?_)))))))
              cases hen : (r.p.entry kk).isSome with
              | false =>
                rw [hen, Bool.not_false, Bool.true_or, Bool.true_or] at hB
                refine o_vl rfl rfl (v_not rfl) (o_vl rfl rfl (v_pick0 rfl rfl) (o_vl rfl rfl (v_move rfl) (o_sk rfl rfl (o_sk rfl rfl (o_sk rfl rfl (o_sk rfl rfl (o_vl rfl rfl (v_pick1 rfl rfl) (o_vl rfl rfl (v_move rfl) (o_sk rfl rfl (o_sk rfl rfl (o_sk rfl rfl (o_sk rfl rfl (o_sk rfl rfl ?_)))))))))))))
                refine o_sk rfl rfl (o_sk rfl rfl (o_vl rfl rfl (v_pick1 rfl rfl) (o_vl rfl rfl (v_nilCheck rfl) (o_vl rfl rfl (v_field (k := 4) rfl rfl rfl) (o_act0 rfl rfl rfl (a_bad (b' := b1) [Y2, Y1, ME x] _ rfl rfl (by rw [hB]; rfl)) ?_)))))
                refine o_end ?_
                refine j_keep ?_ (K () trivial)
                exact ⟨rfl, rfl, rfl, rfl, trivial⟩
              | true =>
                rw [hen, Bool.not_true, Bool.false_or] at hB
                refine o_vl rfl rfl (v_not rfl) (o_vl rfl rfl (v_pick0 rfl rfl) (o_vl rfl rfl (v_move rfl) (o_vl rfl rfl (v_field (k := 0) rfl rfl rfl) (o_vl rfl rfl (v_load (v := .int .u64 e.ix) rfl rfl (hc1 _ _ 0 _ (by simp [RfH_eq]) rfl)) (o_vl rfl rfl (v_move rfl) (o_vl rfl rfl (v_neq rfl rfl) ?_))))))
                refine j_prop 217 rfl (fun h5 => ?_) (fun h5 => ?_)
                · rw [decide_eq_true (show e.ix ≠ kk by omega), Bool.true_or] at hB
                  refine o_vl rfl rfl (v_pick0 rfl rfl) (o_vl rfl rfl (v_move rfl) (o_sk rfl rfl (o_sk rfl rfl (o_sk rfl rfl (o_sk rfl rfl (o_sk rfl rfl (o_sk rfl rfl (o_sk rfl rfl (o_vl rfl rfl (v_pick1 rfl rfl) (o_vl rfl rfl (v_nilCheck rfl) (o_vl rfl rfl (v_field (k := 4) rfl rfl rfl) (o_act0 rfl rfl rfl (a_bad (b' := b1) [Y2, Y1, ME x] _ rfl rfl (by rw [hB]; rfl)) ?_))))))))))))
                  refine o_end ?_
                  refine j_keep ?_ (K () trivial)
                  exact ⟨rfl, rfl, rfl, rfl, trivial⟩
                · rw [decide_eq_false (show ¬ e.ix ≠ kk by omega), Bool.false_or] at hB
                  refine o_vl rfl rfl (v_pick0 rfl rfl) (o_vl rfl rfl (v_move rfl) (o_vl rfl rfl (v_move rfl) ?_))
                  cases hl : lookN dm kk with
                  | none =>
                    rw [hl] at hB
                    refine o_vl rfl rfl (v_move rfl) (o_sk rfl rfl (o_sk rfl rfl (o_sk rfl rfl (o_sk rfl rfl (o_vl rfl rfl (v_pick0 rfl rfl) (o_vl rfl rfl (v_pick0 rfl rfl) (o_vl rfl rfl (v_nilCheck rfl) (o_vl rfl rfl (v_field (k := 4) rfl rfl rfl) (o_act0 rfl rfl rfl (a_bad (b' := b1) [Y2, Y1, ME x] _ rfl rfl (by rw [hB]; rfl)) ?_)))))))))
                    refine o_end ?_
                    refine j_keep ?_ (K () trivial)
                    exact ⟨rfl, rfl, rfl, rfl, trivial⟩
                  | some w0 =>
                    have hww : w0 = w := by rw [hw, hl]; rfl
                    rw [hl, hww] at hB
                    simp only [Option.map_some] at hB
                    refine o_vl rfl rfl (v_move rfl) (o_vl rfl rfl (v_loadAgg (sz := 4) (cs := e.cells) rfl rfl rfl rfl (fun j c hc => hc1 _ _ j c (by simp [RfH_eq]) hc)) (o_vl rfl rfl (v_loadAgg (sz := 4) (cs := w.cells) rfl rfl rfl rfl (fun j c hc => hc2 _ _ j c (by simp [RfH_eq]) hc)) (o_call rfl rfl rfl rfl (c_call callable68 rfl) (g_same _ _ e w _ heok hwok) ?_)))
                    rintro v' F2 H' ⟨rfl, rfl, rfl⟩ _
                    cases hsm : e.pure.same w.pure with
                    | false =>
                      rw [hsm] at hB
                      refine o_vl rfl rfl (v_not rfl) (o_vl rfl rfl (v_pick1 rfl rfl) (o_vl rfl rfl (v_pick0 rfl rfl) (o_vl rfl rfl (v_nilCheck rfl) (o_vl rfl rfl (v_field (k := 4) rfl rfl rfl) (o_act0 rfl rfl rfl (a_bad (b' := b1) [Y2, Y1, ME x] _ rfl rfl (by rw [hB]; rfl)) ?_)))))
                      refine o_end ?_
                      refine j_keep ?_ (K () trivial)
                      exact ⟨rfl, rfl, rfl, rfl, trivial⟩
                    | true =>
                      rw [hsm] at hB
                      refine o_vl rfl rfl (v_not rfl) (o_vl rfl rfl (v_pick1 rfl rfl) (o_vl rfl rfl (v_pick0 rfl rfl) (o_vl rfl rfl (v_nilCheck rfl) (o_vl rfl rfl (v_field (k := 4) rfl rfl rfl) (o_act0 rfl rfl rfl (a_bad (b' := b1) [Y2, Y1, ME x] _ rfl rfl (by rw [hB]; rfl)) ?_)))))
                      refine o_end ?_
                      refine j_keep ?_ (K () trivial)
                      exact ⟨rfl, rfl, rfl, rfl, trivial⟩
          · rintro ⟨⟩ -
            refine d_region 1000000 rfl ([GE x b1, Y1]) ?_
            refine d_tk (i := 0) rfl rfl (by intro z hz; simp only [List.mem_cons, List.not_mem_nil, or_false] at hz; rcases hz with rfl | rfl <;> simp [RfH_eq]) (v_move rfl) (d_tk (i := 1) rfl rfl (by intro z hz; simp only [List.mem_cons, List.not_mem_nil, or_false] at hz; rcases hz with rfl | rfl <;> simp [RfH_eq]) (v_nilCheck rfl) (d_tk (i := 2) rfl rfl (by intro z hz; simp only [List.mem_cons, List.not_mem_nil, or_false] at hz; rcases hz with rfl | rfl <;> simp [RfH_eq]) (v_field (k := 3) rfl rfl rfl) (d_tk (i := 3) rfl rfl (by intro z hz; simp only [List.mem_cons, List.not_mem_nil, or_false] at hz; rcases hz with rfl | rfl <;> simp [RfH_eq]) (v_load rfl rfl (gcell (x := x) (bad := b1) 3 (by simp [FoH, RfH_eq]) rfl)) (d_tk (i := 4) rfl rfl (by intro z hz; simp only [List.mem_cons, List.not_mem_nil, or_false] at hz; rcases hz with rfl | rfl <;> simp [RfH_eq]) (v_move rfl) (d_tk (i := 5) rfl rfl (by intro z hz; simp only [List.mem_cons, List.not_mem_nil, or_false] at hz; rcases hz with rfl | rfl <;> simp [RfH_eq]) (v_loadAgg (sz := 4) (cs := e.cells) rfl rfl rfl rfl (fun j c hc => hc1 _ _ j c (by simp) hc)) (d_one (i := 6) (by decide +kernel) ?_))))))
            refine d1_act0 rfl rfl rfl (a_dput (f := x) (dn := dm) (k := kk) (e := e) [Y2, Y1, ME x, GE x b1, LE x ld1] _ rfl rfl rfl rfl rfl) (fun w hw => held_of hw (Fz.le_refl _) (by intro z hz; simp only [List.mem_cons, List.not_mem_nil, or_false] at hz; rcases hz with rfl | rfl <;> simp [RfH_eq])) ?_
            refine j_heap (H' := RfH x.ra q2 (Y2 :: Y1 :: ME x :: GE x b1 :: LE x ld1 :: DE x (putN dm kk e) :: d2.E x :: (d2.bs ++ Fr))) rfl ?_
            refine j_drop (box_out x.ra q2 Y2 _) ?_
            refine j_drop (box_out x.ra q2 Y1 _) ?_
            refine d_end (by decide +kernel) (r_inBlock (r_region rfl (o_vl rfl rfl (v_move rfl) (o_vl rfl rfl (v_add rfl rfl (r := ((kk + 1 : Nat) : Int)) (wrap_u64 (by omega) (by omega))) (o_vl rfl rfl (v_assign rfl) (o_end ?_))))))
            refine j_keep ?_ (IH (kk + 1, b1, putN dm kk e) ⟨by dsimp only; omega, fun z hz => ?_, by rw [hcf2]; dsimp only; rw [pureD_put, hep]⟩ (by dsimp only; omega))
            · exact ⟨rfl, rfl, rfl, trivial⟩
            · rcases putN_mem dm kk e z hz with rfl | hz
              · exact heok
              · exact hdm z hz
        · have h0 : q2.p.cm + 1 - kk = 0 := by omega
          rw [h0] at hcf
          clear IH
          refine r_exit rfl ?_
          exact r_fall0 Tryz.func40 rfl ⟨⟨rfl, q2, d2, b, dm, hq2ok, hq2p, hd2, hd2p, hdm, hcf.symm, rfl⟩, by first | exact Fz.le_trans hF1 hF2 | assumption⟩
end Go.SX
namespace Go.SX
open Go Go.Proofs
set_option maxRecDepth 4000
structure PS where
  ms : List PR
  net : List PM
  ld : List (Nat × Nat)
  dn : List (Nat × PE)
  bad : Bool
  ds : List (List UInt8 × Nat)
  k : Nat
def frc {α : Type} (b : Bool) (f : Bool → α) : α := match b with
  | true => f true
  | false => f false
theorem frc_eq {α : Type} (b : Bool) (f : Bool → α) : frc b f = f b := by cases b <;> rfl
def PS.settleTo (s : PS) (i : Nat) (p : PR) (d : List UInt8 × Nat) (l : List (Nat × Nat)) (q : List (Nat × PE)) (b : Bool) : PS :=
  { s with ms := s.ms.set i p.settled, ld := l, dn := q, bad := b, ds := s.ds.set i (p.disk d), k := s.k + 1 }
def PS.settle (s : PS) (i : Nat) : Option PS :=
  match s.ms[i]?, s.ds[i]? with
  | some p, some d => if (p.saveOk && decide (s.k ≤ 90000)) = true then
      (let l := p.leads i s.ld s.dn s.bad
       let q := cmtF p (p.cm - p.lix) (p.lix + 1) s.dn l.2
       frc q.2 fun b => some (s.settleTo i p d l.1 q.1 b)) else none
  | _, _ => none
structure Mb where
  ma : Nat
  ra : Nat
  da : Nat
  r : Rf
  d : Dk
structure Gr where
  ga : Nat
  lm : Nat
  dm : Nat
  lb : Bf
  ms : List Mb
  wf : Wf
  net : List Mg
  bad : Bool
  ld : List (Nat × Nat)
  dn : List (Nat × En)
  k : Nat
abbrev Gr.lv (g : Gr) : Value := g.lb.val g.ms.length
abbrev Gr.nv (g : Gr) : Value := g.wf.val g.net.length
def Gr.fx (g : Gr) (m : Mb) : Fx := ⟨g.ga, g.lv, g.nv, g.lm, g.dm, m.ma, m.ra, m.da⟩
def Mb.E (m : Mb) : Ent := .mem m.ma [ptrV m.ra, ptrV m.da] 2
def Mb.D (m : Mb) : Ent := DkE m.da m.d.bf m.d.b m.d.sure m.d.ops
def Mb.H (m : Mb) : List Ent := RfP m.ra m.r ++ (m.E :: m.D :: m.d.bs)
def Gr.E (g : Gr) : Ent := .mem g.ga [g.lv, g.nv, .map (some g.lm), .map (some g.dm), .bool g.bad] 5
def Gr.L (g : Gr) : Ent := .obj g.lm (mapObjK .u64 (kvN lkV g.ld))
def Gr.D (g : Gr) : Ent := .obj g.dm (mapObjK .u64 (kvN enA g.dn))
def msV (l : List Mb) : List Value := l.map fun m => ptrV m.ma
def msH (l : List Mb) : List Ent := l.flatMap Mb.H
def Gr.H (g : Gr) (Fr : List Ent) : List Ent := g.E :: (g.lb.ents 1 (msV g.ms) ++ (g.wf.ents (mgV g.net) ++ (g.L :: g.D :: (msH g.ms ++ Fr))))
structure Gr.ok (F : Fz) (g : Gr) : Prop where
  len : g.ms.length ≤ 5
  lb : g.lb.ok g.ms.length
  wf : g.wf.ok 13 g.net.length
  net : ∀ m ∈ g.net, m.ok F
  nl : g.net.length ≤ 300
  ms : ∀ m ∈ g.ms, m.r.ok F ∧ m.d.ok g.k
  dn : ∀ q ∈ g.dn, q.2.ok F
def Gr.ps (g : Gr) : PS := ⟨g.ms.map fun m => m.r.p, g.net.map Mg.p, g.ld, pureD g.dn, g.bad, g.ms.map fun m => m.d.pure, g.k⟩
theorem Dk.ok.up {k k' : Nat} {d : Dk} (h : d.ok k) (hk : k ≤ k') : d.ok k' := ⟨h.bf, by have := h.len; omega, by have := h.ops; omega, h.sure⟩
theorem Gr.ok.frz {F F' : Fz} {g : Gr} (h : g.ok F) (hF : F.le F') : g.ok F' := ⟨h.len, h.lb, h.wf, fun m hm => (h.net m hm).frz hF, h.nl, fun m hm => ⟨(h.ms m hm).1.frz hF, (h.ms m hm).2⟩, fun q hq => (h.dn q hq).frz hF⟩
def Gr.side (g : Gr) (A B : List Mb) (Fr : List Ent) : List Ent := g.lb.ents 1 (msV g.ms) ++ (g.wf.ents (mgV g.net) ++ (msH A ++ (msH B ++ Fr)))
theorem Gr.focus (g : Gr) {A B : List Mb} {m : Mb} (h : g.ms = A ++ m :: B) (Fr : List Ent) : (g.H Fr).Perm (FoH (g.fx m) m.r g.bad g.ld g.dn m.d (g.side A B Fr)) := by
  have e1 : msH g.ms = msH A ++ (RfP m.ra m.r ++ ([m.E] ++ ([m.D] ++ (m.d.bs ++ msH B)))) := by rw [h]; simp [msH, Mb.H]
  have hp : (cat [[g.E], g.lb.ents 1 (msV g.ms), g.wf.ents (mgV g.net), [g.L], [g.D], msH A, RfP m.ra m.r, [m.E], [m.D], m.d.bs, msH B, Fr]).Perm (RfP m.ra m.r ++ (m.E :: g.E :: g.L :: g.D :: m.D :: (m.d.bs ++ (g.lb.ents 1 (msV g.ms) ++ (g.wf.ents (mgV g.net) ++ (msH A ++ (msH B ++ Fr))))))) :=
    selPerm [[g.E], g.lb.ents 1 (msV g.ms), g.wf.ents (mgV g.net), [g.L], [g.D], msH A, RfP m.ra m.r, [m.E], [m.D], m.d.bs, msH B, Fr] [6, 7, 0, 3, 4, 8, 9, 1, 2, 5, 10, 11] rfl rfl rfl rfl
  unfold Gr.H
  rw [e1]
  refine (List.Perm.of_eq ?_).trans (hp.trans (List.Perm.of_eq ?_))
  · simp [cat]
  · unfold FoH Gr.side
    rw [RfH_eq]
    rfl
theorem mid {α : Type} {l : List α} {i : Nat} (h : i < l.length) : l = l.take i ++ l[i] :: l.drop (i + 1) := by simp
theorem set_mid {α : Type} {l : List α} {i : Nat} (x : α) (h : i < l.length) : l.set i x = l.take i ++ x :: l.drop (i + 1) := by
  rw [List.set_eq_take_append_cons_drop, if_pos h]
def Gr.put (g : Gr) (i : Nat) (m : Mb) : Gr := { g with ms := g.ms.set i m }
theorem msV_set {l : List Mb} {i : Nat} {m m' : Mb} (h : l[i]? = some m) (hma : m'.ma = m.ma) : msV (l.set i m') = msV l := by
  unfold msV
  apply List.ext_getElem?
  intro j
  simp only [List.getElem?_map, List.getElem?_set]
  split
  · rename_i hij
    subst hij
    split
    · rw [h]; simp [hma]
    · rename_i hn
      rw [List.getElem?_eq_none (by omega)] at h
      cases h
  · rfl
theorem Gr.unfocus (g : Gr) {i : Nat} {m : Mb} (hil : i < g.ms.length) (hm : g.ms[i] = m) (m' : Mb) (hma : m'.ma = m.ma) (hra : m'.ra = m.ra) (hda : m'.da = m.da) (bad' : Bool) (ld' : List (Nat × Nat)) (dn' : List (Nat × En)) (k' : Nat) (Fr : List Ent) :
    (FoH (g.fx m) m'.r bad' ld' dn' m'.d (g.side (g.ms.take i) (g.ms.drop (i + 1)) Fr)).Perm (({ g with ms := g.ms.set i m', bad := bad', ld := ld', dn := dn', k := k' } : Gr).H Fr) := by
  obtain ⟨g', hg'⟩ : ∃ g' : Gr, g' = { g with ms := g.ms.set i m', bad := bad', ld := ld', dn := dn', k := k' } := ⟨_, rfl⟩
  rw [← hg']
  have hsp : g'.ms = g.ms.take i ++ m' :: g.ms.drop (i + 1) := by rw [hg']; exact set_mid m' hil
  have hv : msV g'.ms = msV g.ms := by rw [hg']; exact msV_set (by rw [List.getElem?_eq_getElem hil, hm]) hma
  have hl : g'.ms.length = g.ms.length := by rw [hg']; simp
  refine List.Perm.trans (List.Perm.of_eq ?_) (g'.focus hsp Fr).symm
  have h1 : g'.side (g.ms.take i) (g.ms.drop (i + 1)) Fr = g.side (g.ms.take i) (g.ms.drop (i + 1)) Fr := by
    unfold Gr.side
    rw [hv, hg']
  have h2 : g'.fx m' = g.fx m := by
    unfold Gr.fx Gr.lv Gr.nv
    rw [hl, hma, hra, hda, hg']
  rw [h1, h2, hg']
theorem Gr.ps_set (g : Gr) (i : Nat) (m' : Mb) (bad' : Bool) (ld' : List (Nat × Nat)) (dn' : List (Nat × En)) (k' : Nat) :
    ({ g with ms := g.ms.set i m', bad := bad', ld := ld', dn := dn', k := k' } : Gr).ps = { g.ps with ms := g.ps.ms.set i m'.r.p, ld := ld', dn := pureD dn', bad := bad', ds := g.ps.ds.set i m'.d.pure, k := k' } := by
  unfold Gr.ps
  simp only [List.map_set]
theorem g_settle (O : World) (F : Fz) (g : Gr) (i : Nat) (s' : PS) (Fr : List Ent) (hg : g.ok F) (h : g.ps.settle i = some s') :
    Does Tryz.prog O 40 #[ptrV g.ga, .int .i64 i] F (g.H Fr) (fun v F' H' => v = noneV ∧ ∃ g' : Gr, g'.ok F' ∧ g'.ps = s' ∧ g'.ga = g.ga ∧ H' = g'.H Fr) := by
  have hil : i < g.ms.length := by
    unfold PS.settle at h
    rcases Nat.lt_or_ge i g.ms.length with hl | hl
    · exact hl
    · have : g.ps.ms[i]? = none := List.getElem?_eq_none (by simpa [Gr.ps] using hl)
      rw [this] at h
      cases h
  have e1 : g.ps.ms[i]? = some g.ms[i].r.p := by simp [Gr.ps, hil]
  have e2 : g.ps.ds[i]? = some g.ms[i].d.pure := by simp [Gr.ps, hil]
  have hmi : g.ms[i] ∈ g.ms := List.getElem_mem hil
  obtain ⟨m, hm⟩ : ∃ m, m = g.ms[i] := ⟨_, rfl⟩
  rw [← hm] at e1 e2 hmi
  unfold PS.settle at h
  rw [e1, e2] at h
  dsimp only at h
  have hcnd : (m.r.p.saveOk && decide (g.ps.k ≤ 90000)) = true := by
    cases hc : (m.r.p.saveOk && decide (g.ps.k ≤ 90000)) with
    | true => rfl
    | false => rw [hc] at h; cases h
  rw [if_pos hcnd, frc_eq] at h
  rw [Bool.and_eq_true, decide_eq_true_eq] at hcnd
  obtain ⟨hso, hk⟩ := hcnd
  have hk : g.k ≤ 90000 := hk
  have hsp : g.ms = g.ms.take i ++ m :: g.ms.drop (i + 1) := by rw [hm]; exact mid hil
  obtain ⟨hmr, hmd⟩ := hg.ms m hmi
  have hlen := hg.len
  obtain ⟨lb, c, hlb⟩ : ∃ lb c, g.lb = .at lb c := by
    have := hg.lb
    cases hb : g.lb with
    | nil =>
      rw [hb] at this
      have h0 : g.ms.length = 0 := this
      omega
    | «at» b c => exact ⟨b, c, rfl⟩
  refine does_permB (g.focus hsp Fr) (g_settle1 O F (g.fx m) i g.k m.r g.bad g.ld g.dn m.d _ hmr hg.dn hmd hk hso (by omega) (lb := lb) (n := g.ms.length) (N := c * 1) (c := c) (cs := msV g.ms) ?_ hil ?_ ?_) ?_
  · show g.lv = _
    unfold Gr.lv
    rw [hlb]
    rfl
  · show (msV g.ms)[i]? = some (ptrV m.ma)
    rw [hm]
    simp [msV, hil]
  · unfold Gr.side
    rw [hlb]
    exact List.mem_append_left _ (List.mem_singleton.2 rfl)
  · rintro v F' H' hle ⟨rfl, r', d', bad', dn', hr', hrp, hd', hdp, hdn', hcf, rfl⟩
    obtain ⟨m', hm'⟩ : ∃ m' : Mb, m' = ⟨m.ma, m.ra, m.da, r', d'⟩ := ⟨_, rfl⟩
    have hp := g.unfocus hil hm.symm m' (by rw [hm']) (by rw [hm']) (by rw [hm']) bad' (m.r.p.leads i g.ld (pureD g.dn) g.bad).1 dn' (g.k + 1) Fr
    obtain ⟨g', hg'⟩ : ∃ g' : Gr, g' = { g with ms := g.ms.set i m', bad := bad', ld := (m.r.p.leads i g.ld (pureD g.dn) g.bad).1, dn := dn', k := g.k + 1 } := ⟨_, rfl⟩
    have hp2 : (FoH (g.fx m) r' bad' (m.r.p.leads i g.ld (pureD g.dn) g.bad).1 dn' d' (g.side (g.ms.take i) (g.ms.drop (i + 1)) Fr)).Perm (g'.H Fr) := by
      rw [← hg', hm'] at hp
      exact hp
    refine ⟨g'.H Fr, hp2, rfl, g', ?_, ?_, by rw [hg'], rfl⟩
    · rw [hg']
      refine ⟨?_, ?_, hg.wf, fun q hq => (hg.net q hq).frz hle, hg.nl, ?_, hdn'⟩
      · simpa using hg.len
      · simpa using hg.lb
      · intro z hz
        rcases List.mem_or_eq_of_mem_set hz with hz | rfl
        · exact ⟨(hg.ms z hz).1.frz hle, (hg.ms z hz).2.up (Nat.le_succ _)⟩
        · rw [hm']
          exact ⟨hr', hd'⟩
    · rw [hg', Gr.ps_set]
      have h := Option.some.inj h
      rw [← h, hm']
      unfold PS.settleTo
      have hcf1 : pureD dn' = (cmtF m.r.p (m.r.p.cm - m.r.p.lix) (m.r.p.lix + 1) (pureD g.dn) (m.r.p.leads i g.ld (pureD g.dn) g.bad).2).1 := congrArg Prod.fst hcf
      have hcf2 : bad' = (cmtF m.r.p (m.r.p.cm - m.r.p.lix) (m.r.p.lix + 1) (pureD g.dn) (m.r.p.leads i g.ld (pureD g.dn) g.bad).2).2 := congrArg Prod.snd hcf
      dsimp only
      rw [hrp, hdp, hcf1, hcf2]
      rfl
end Go.SX
namespace Go.SX
open Go Go.Proofs
set_option maxRecDepth 4000
def PS.flushTo (s : PS) (i : Nat) (p : PR) (d : List UInt8 × Nat) : PS :=
  { s with ms := s.ms.set i p.stable, ds := s.ds.set i (d.1, d.1.length), net := (s.net ++ p.stable1.out).drop ((s.net ++ p.stable1.out).length - 300), k := s.k + 1 }
def PS.flush (s : PS) (i : Nat) : Option PS :=
  match s.ms[i]?, s.ds[i]? with
  | some p, some d => if s.k ≤ 100000 then some (s.flushTo i p d) else none
  | _, _ => none
def PS.sync (s : PS) (i : Nat) : Option PS := (s.settle i).bind fun s1 => (s1.flush i).bind fun s2 => s2.settle i
theorem gcell0 {F : Fz} {H : List Ent} {g : Gr} (j : Nat) {c : Value} (hm : g.E ∈ H) (hc : [g.lv, g.nv, Value.map (some g.lm), .map (some g.dm), .bool g.bad][j]? = some c) : Cell F H g.ga (0 + j) c := by
  rw [Nat.zero_add]
  exact cell_own hm hc
theorem Gr.lbv {F : Fz} {g : Gr} (hg : g.ok F) {i : Nat} (hi : i < g.ms.length) : ∃ lb c N, g.lv = .slice (some ⟨lb, 0, none⟩) g.ms.length c ∧ ∀ cs, g.lb.ents 1 cs = [.mem lb cs N] := by
  have := hg.lb
  unfold Gr.lv
  cases hb : g.lb with
  | nil =>
    rw [hb] at this
    have h0 : g.ms.length = 0 := this
    omega
  | «at» b c => exact ⟨b, c, c * 1, rfl, fun _ => rfl⟩
theorem msV_get {l : List Mb} {i : Nat} {m : Mb} (h : l[i]? = some m) : (msV l)[0 + i]? = some (ptrV m.ma) := by
  rw [Nat.zero_add]
  simp [msV, h]
theorem wf_drop {wf : Wf} {n sz k : Nat} {x xs : List Value} (hok : wf.ok sz n) (hk : k < n) (hx : x.length = k * sz) : ∃ wf' : Wf, wf'.ok sz (n - k) ∧ Go.sliced wf.addr k n wf.cp sz = wf'.val (n - k) ∧ wf.ents (x ++ xs) = wf'.ents xs := by
  cases wf with
  | nil =>
    have : n = 0 := hok
    omega
  | «at» b off cp N pre =>
    obtain ⟨h1, h2, h3⟩ := hok
    have hc : ¬ cp = k := by omega
    refine ⟨.at b (off + k * sz) (cp - k) N (pre ++ x), ⟨by omega, ?_, by simp [h3, hx]⟩, ?_, by simp [Wf.ents]⟩
    · have : cp * sz = k * sz + (cp - k) * sz := by rw [← Nat.add_mul]; congr 1; omega
      omega
    · have hadd : (⟨b, off, none⟩ : Addr).add (k * sz) = ⟨b, off + k * sz, none⟩ := by
        unfold Addr.add
        split
        · rename_i h0
          rw [h0]
          rfl
        · simp
      show Value.slice (if cp = k then some ⟨b, off, none⟩ else (some (⟨b, off, none⟩ : Addr)).map (·.add (k * sz))) (n - k) (cp - k) = .slice (some ⟨b, off + k * sz, none⟩) (n - k) (cp - k)
      rw [if_neg hc, Option.map_some, hadd]
theorem adv_out (p : PR) : ∀ n, (p.adv n).out = p.out
  | 0 => rfl
  | n + 1 => by
    unfold PR.adv
    split
    · rfl
    · split
      · rfl
      · split
        · unfold PR.commitAt
          split
          · rfl
          · split <;> rfl
        · exact adv_out p n
theorem stable1_out (p : PR) : p.stable1.out = p.out := by
  unfold PR.stable1
  split
  · exact adv_out _ _
  · rfl
section
variable {C : Cx} {τ : Env} {F : Fz} {H : List Ent} {ty t u kt et : TypeId} {pos : String} {aft : Array Edge} {g : Option (Nat × Bool)} {o : Oper} {x y z : Operand}
theorem a_net {f : Fx} {b : Bool} {a : Nat} {r : Rf} (v : Value) (A R : List Ent) (hs : (C.P.info? t).map (·.size) = some 1) (hv : oneCellB v = true) (hx : ev τ x = some (.pointer (some ⟨f.ga, 1, none⟩))) (hy : ev τ y = some v) :
    Act0 C ⟨none, .store t x y, ty, pos, aft, g⟩ τ F (RfH a r (A ++ (GE f b :: R))) (RfH a r (A ++ (GE { f with nv := v } b :: R))) :=
  Act0.perm (a_store1 (C := C) (F := F) (H := GE f b :: RfH a r (A ++ R)) (ty := ty) (pos := pos) (aft := aft) (g := g) 0 (b := f.ga) (n := 5) (cs := [f.lv, f.nv, .map (some f.lm), .map (some f.dm), .bool b]) rfl hs hv hx hy (Nat.le_of_ble_eq_true rfl)) (box_at a r A _ R) (box_at a r A (GE { f with nv := v } b) R).symm
end
set_option maxHeartbeats 2000000 in
theorem g_sync (O : World) (F : Fz) (g : Gr) (i : Nat) (s' : PS) (Fr : List Ent) (hg : g.ok F) (h : g.ps.sync i = some s') :
    Does Tryz.prog O 20 #[ptrV g.ga, .int .i64 i] F (g.H Fr) (fun v F' H' => v = noneV ∧ ∃ g' : Gr, g'.ok F' ∧ g'.ps = s' ∧ g'.ga = g.ga ∧ H' = g'.H Fr) := by
  refine does_of_run (args := [_, _]) Tryz.func20 rfl rfl ?_
  unfold PS.sync at h
  obtain ⟨s1, h1, h⟩ := Option.bind_eq_some_iff.1 h
  obtain ⟨s2, h2, h⟩ := Option.bind_eq_some_iff.1 h
  refine r_seq (r_region rfl (o_vl rfl rfl (v_move rfl) (o_vl rfl rfl (v_move rfl) (o_call rfl rfl rfl rfl (c_call callable40 rfl) (g_settle _ _ g i s1 Fr hg h1) ?_))))
  rintro v' F1 H' ⟨rfl, g1, hg1, hps1, hga1, rfl⟩ hF1
  rw [← hga1]
  have hil : i < g1.ms.length := by
    unfold PS.flush at h2
    rcases Nat.lt_or_ge i g1.ms.length with hl | hl
    · exact hl
    · have : s1.ms[i]? = none := by rw [← hps1]; exact List.getElem?_eq_none (by simpa [Gr.ps] using hl)
      rw [this] at h2
      cases h2
  have hmi : g1.ms[i] ∈ g1.ms := List.getElem_mem hil
  have hsp := mid hil
  have hget : g1.ms[i]? = some g1.ms[i] := List.getElem?_eq_getElem hil
  have e1 : g1.ps.ms[i]? = some g1.ms[i].r.p := by simp [Gr.ps, hil]
  have e2 : g1.ps.ds[i]? = some g1.ms[i].d.pure := by simp [Gr.ps, hil]
  generalize hm : g1.ms[i] = m at *
  obtain ⟨hmr, hmd⟩ := hg1.ms m hmi
  obtain ⟨lb, c, N, hlv0, hlb⟩ := g1.lbv hg1 hil
  unfold PS.flush at h2
  rw [← hps1, e1, e2] at h2
  dsimp only at h2
  have hk1 : g1.k ≤ 100000 := by
    rcases Nat.lt_or_ge 100000 g1.k with h | h
    · rw [if_neg (show ¬ g1.ps.k ≤ 100000 from (by show ¬ g1.k ≤ 100000; omega))] at h2; cases h2
    · exact h
  rw [if_pos (show g1.ps.k ≤ 100000 from hk1)] at h2
  have h2 := Option.some.inj h2
  have hlm : ∀ A B, Ent.mem lb (msV g1.ms) N ∈ g1.side A B Fr := fun A B => by
    unfold Gr.side
    rw [hlb]
    exact List.mem_append_left _ (List.mem_singleton.2 rfl)
  have hlv : (g1.fx m).lv = .slice (some ⟨lb, 0, none⟩) g1.ms.length c := hlv0
  refine j_perm (g1.focus hsp Fr) ?_
  unfold FoH
  refine o_end (r_seq (r_region rfl (o_vl rfl rfl (v_move rfl) (o_vl rfl rfl (v_nilCheck rfl) (o_vl rfl rfl (v_field (k := 0) rfl rfl rfl) (o_vl rfl rfl (v_load (v := .slice (some ⟨lb, 0, none⟩) g1.ms.length c) rfl rfl (by rw [← hlv]; exact gcell (x := g1.fx m) (bad := g1.bad) 0 (by simp [RfH_eq]) rfl)) (o_vl rfl rfl (v_move rfl) (o_vl rfl rfl (v_index1 rfl rfl rfl rfl hil) (o_vl rfl rfl (v_load (v := ptrV m.ma) rfl rfl (cell_own (cs := msV g1.ms) (n := N) (by simp [RfH_eq, hlm]) (msV_get hget))) (o_vl rfl rfl (v_nilCheck rfl) (o_vl rfl rfl (v_field (k := 1) rfl rfl rfl) (o_vl rfl rfl (v_load rfl rfl (mcell (x := (g1.fx m)) 1 (by simp [FoH, RfH_eq]) rfl)) ?_))))))))))))
  refine j_perm (box_at _ _ [ME (g1.fx m), GE (g1.fx m) g1.bad, LE (g1.fx m) g1.ld, DE (g1.fx m) g1.dn] (m.d.E (g1.fx m)) _) ?_
  refine o_call rfl rfl rfl rfl (c_call callable41 rfl) (dk_Sync _ _ m.da m.d.bf m.d.b m.d.sure m.d.ops _ (by have := hmd.ops; omega)) ?_
  rintro v' F1 H' ⟨rfl, rfl, rfl⟩ _
  obtain ⟨d2, hd2⟩ : ∃ d2 : Dk, d2 = ⟨m.d.bf, m.d.b, m.d.b.length, m.d.ops + 1⟩ := ⟨_, rfl⟩
  have hd2ok : d2.ok (g1.k + 1) := by
    rw [hd2]
    exact ⟨hmd.bf, by have := hmd.len; dsimp only; omega, by have := hmd.ops; dsimp only; omega, Nat.le_refl _⟩
  refine j_heap (H' := d2.E (g1.fx m) :: RfH (g1.fx m).ra m.r ([ME (g1.fx m), GE (g1.fx m) g1.bad, LE (g1.fx m) g1.ld, DE (g1.fx m) g1.dn] ++ (d2.bs ++ g1.side (g1.ms.take i) (g1.ms.drop (i + 1)) Fr))) (by rw [hd2]; rfl) ?_
  refine j_perm (box_at _ _ [ME (g1.fx m), GE (g1.fx m) g1.bad, LE (g1.fx m) g1.ld, DE (g1.fx m) g1.dn] (d2.E (g1.fx m)) _).symm ?_
  refine j_heap (H' := RfH m.ra m.r (ME (g1.fx m) :: GE (g1.fx m) g1.bad :: LE (g1.fx m) g1.ld :: DE (g1.fx m) g1.dn :: d2.E (g1.fx m) :: (d2.bs ++ g1.side (g1.ms.take i) (g1.ms.drop (i + 1)) Fr))) rfl ?_
  refine o_end (r_seq (d_region 19 rfl ([GE (g1.fx m) g1.bad, ME (g1.fx m), .mem lb (msV g1.ms) N]) ?_))
  refine d_tk (i := 0) rfl rfl (by intro z hz; simp only [List.mem_cons, List.not_mem_nil, or_false] at hz; rcases hz with rfl | rfl | rfl <;> simp [RfH_eq, hlm]) (v_move rfl) (d_tk (i := 1) rfl rfl (by intro z hz; simp only [List.mem_cons, List.not_mem_nil, or_false] at hz; rcases hz with rfl | rfl | rfl <;> simp [RfH_eq, hlm]) (v_move rfl) (d_tk (i := 2) rfl rfl (by intro z hz; simp only [List.mem_cons, List.not_mem_nil, or_false] at hz; rcases hz with rfl | rfl | rfl <;> simp [RfH_eq, hlm]) (v_nilCheck rfl) (d_tk (i := 3) rfl rfl (by intro z hz; simp only [List.mem_cons, List.not_mem_nil, or_false] at hz; rcases hz with rfl | rfl | rfl <;> simp [RfH_eq, hlm]) (v_field (k := 1) rfl rfl rfl) (d_tk (i := 4) rfl rfl (by intro z hz; simp only [List.mem_cons, List.not_mem_nil, or_false] at hz; rcases hz with rfl | rfl | rfl <;> simp [RfH_eq, hlm]) (v_load rfl rfl (gcell (x := (g1.fx m)) (bad := g1.bad) 1 (by simp [FoH, RfH_eq]) rfl)) (d_tk (i := 5) rfl rfl (by intro z hz; simp only [List.mem_cons, List.not_mem_nil, or_false] at hz; rcases hz with rfl | rfl | rfl <;> simp [RfH_eq, hlm]) (v_move rfl) (d_tk (i := 6) rfl rfl (by intro z hz; simp only [List.mem_cons, List.not_mem_nil, or_false] at hz; rcases hz with rfl | rfl | rfl <;> simp [RfH_eq, hlm]) (v_nilCheck rfl) (d_tk (i := 7) rfl rfl (by intro z hz; simp only [List.mem_cons, List.not_mem_nil, or_false] at hz; rcases hz with rfl | rfl | rfl <;> simp [RfH_eq, hlm]) (v_field (k := 0) rfl rfl rfl) (d_tk (i := 8) rfl rfl (by intro z hz; simp only [List.mem_cons, List.not_mem_nil, or_false] at hz; rcases hz with rfl | rfl | rfl <;> simp [RfH_eq, hlm]) (v_load (v := .slice (some ⟨lb, 0, none⟩) g1.ms.length c) rfl rfl (by rw [← hlv]; exact gcell (x := g1.fx m) (bad := g1.bad) 0 (by simp) rfl)) (d_tk (i := 9) rfl rfl (by intro z hz; simp only [List.mem_cons, List.not_mem_nil, or_false] at hz; rcases hz with rfl | rfl | rfl <;> simp [RfH_eq, hlm]) (v_move rfl) (d_tk (i := 10) rfl rfl (by intro z hz; simp only [List.mem_cons, List.not_mem_nil, or_false] at hz; rcases hz with rfl | rfl | rfl <;> simp [RfH_eq, hlm]) (v_index1 rfl rfl rfl rfl hil) (d_tk (i := 11) rfl rfl (by intro z hz; simp only [List.mem_cons, List.not_mem_nil, or_false] at hz; rcases hz with rfl | rfl | rfl <;> simp [RfH_eq, hlm]) (v_load (v := ptrV m.ma) rfl rfl (cell_own (cs := msV g1.ms) (n := N) (by simp) (msV_get hget))) (d_tk (i := 12) rfl rfl (by intro z hz; simp only [List.mem_cons, List.not_mem_nil, or_false] at hz; rcases hz with rfl | rfl | rfl <;> simp [RfH_eq, hlm]) (v_nilCheck rfl) (d_tk (i := 13) rfl rfl (by intro z hz; simp only [List.mem_cons, List.not_mem_nil, or_false] at hz; rcases hz with rfl | rfl | rfl <;> simp [RfH_eq, hlm]) (v_field (k := 0) rfl rfl rfl) ?_)))))))))))))
  refine d_tk (i := 14) rfl rfl (by intro z hz; simp only [List.mem_cons, List.not_mem_nil, or_false] at hz; rcases hz with rfl | rfl | rfl <;> simp [RfH_eq, hlm]) (v_load rfl rfl (mcell (x := (g1.fx m)) 0 (by simp [FoH, RfH_eq]) rfl)) (d_one (i := 15) (by decide +kernel) (d1_call rfl rfl rfl rfl (c_call callable42 rfl) (r_Stable _ _ m.ra m.r _ hmr) ?_))
  rintro v' F3 H' ⟨q, ms, hq, hqp, hmsp, hmok, hsl, rfl⟩ hF3
  refine ⟨fun w hw => held_of hw (by first | exact Fz.le_refl _ | assumption) (by intro z hz; simp only [List.mem_cons, List.not_mem_nil, or_false] at hz; rcases hz with rfl | rfl | rfl <;> simp [RfH_eq, hlm]), ?_⟩
  obtain ⟨av, cv, rfl, _⟩ := Sl.shape hsl
  have hmsl : ms.length ≤ 300000 := by
    have h1 : (ms.map Mg.p).length = m.r.p.stable1.out.length := by rw [hmsp]
    rw [List.length_map, stable1_out] at h1
    have := hmr.B.ol
    omega
  have hnl := hg1.nl
  have hall : (mgV ms).all oneCellB = true := by
    rw [List.all_eq_true]
    intro z hz
    obtain ⟨y, hy, hz⟩ := List.mem_flatMap.1 hz
    exact List.all_eq_true.1 (hmok y hy).one z hz
  obtain ⟨Pre, hPre⟩ : ∃ Pre : List Ent, Pre = RfP m.ra q ++ (ME (g1.fx m) :: GE (g1.fx m) g1.bad :: LE (g1.fx m) g1.ld :: DE (g1.fx m) g1.dn :: d2.E (g1.fx m) :: (d2.bs ++ [.mem lb (msV g1.ms) N])) := ⟨_, rfl⟩
  obtain ⟨R1, hR1⟩ : ∃ R1, R1 = msH (g1.ms.take i) ++ (msH (g1.ms.drop (i + 1)) ++ Fr) := ⟨_, rfl⟩
  have hform : ∀ w : List Ent, RfH m.ra q (ME (g1.fx m) :: GE (g1.fx m) g1.bad :: LE (g1.fx m) g1.ld :: DE (g1.fx m) g1.dn :: d2.E (g1.fx m) :: (d2.bs ++ ([.mem lb (msV g1.ms) N] ++ (w ++ R1)))) = Pre ++ (w ++ R1) := fun w => by
    rw [RfH_eq, hPre]
    simp
  have hside : g1.side (g1.ms.take i) (g1.ms.drop (i + 1)) Fr = [.mem lb (msV g1.ms) N] ++ (g1.wf.ents (mgV g1.net) ++ R1) := by
    unfold Gr.side
    rw [hlb, hR1]
  rw [hside]
  refine j_heap (hform _) ?_
  refine d_one (i := 16) (by decide +kernel) (d1_act rfl rfl rfl rfl (a_appendW Pre (wf := g1.wf) (n := g1.net.length) (m := ms.length) (sz := 13) (bytes := 136) (xs := mgV g1.net) (ys := mgV ms) ⟨⟨_, _, _, rfl, rfl, rfl, rfl, rfl, rfl⟩, by decide⟩ rfl hg1.wf (vec_len Mg.cl g1.net) rfl rfl (hsl.frz (Fz.le_refl _)) hall (by unfold maxLen; omega) (by omega)) ?_)
  rintro v' H' ⟨wf2, rfl, hok2, rfl⟩
  refine ⟨fun w hw => held_of hw hF3 (by intro z hz; simp only [List.mem_cons, List.not_mem_nil, or_false] at hz; rcases hz with rfl | rfl | rfl <;> simp [hPre]), ?_⟩
  have hap : mgV g1.net ++ mgV ms = mgV (g1.net ++ ms) := by simp [mgV]
  have hln : g1.net.length + ms.length = (g1.net ++ ms).length := by simp
  rw [hap]
  rw [hln] at hok2 ⊢
  refine j_heap (hform _).symm ?_
  refine d_tk (i := 17) rfl rfl (by intro z hz; simp only [List.mem_cons, List.not_mem_nil, or_false] at hz; rcases hz with rfl | rfl | rfl <;> simp [RfH_eq]) (hF := hF3) (v_nilCheck rfl) (d_tk (i := 18) rfl rfl (by intro z hz; simp only [List.mem_cons, List.not_mem_nil, or_false] at hz; rcases hz with rfl | rfl | rfl <;> simp [RfH_eq]) (hF := hF3) (v_field (k := 1) rfl rfl rfl) (d_one (i := 19) (by decide +kernel) ?_))
  refine d1_last 1000000 ([]) rfl rfl rfl (a_net (f := g1.fx m) (wf2.val (g1.net ++ ms).length) [ME (g1.fx m)] _ rfl rfl rfl rfl) ?_
  obtain ⟨m', hm'⟩ : ∃ m' : Mb, m' = ⟨m.ma, m.ra, m.da, q, d2⟩ := ⟨_, rfl⟩
  obtain ⟨g2, hg2⟩ : ∃ g2 : Gr, g2 = { g1 with ms := g1.ms.set i m', wf := wf2, net := g1.net ++ ms, k := g1.k + 1 } := ⟨_, rfl⟩
  have hl2 : (g1.ms.set i m').length = g1.ms.length := by simp
  have hv2 : msV g2.ms = msV g1.ms := by rw [hg2]; exact msV_set hget (by rw [hm'])
  have hsp2 : g2.ms = g1.ms.take i ++ m' :: g1.ms.drop (i + 1) := by rw [hg2]; exact set_mid m' hil
  have hfx : g2.fx m' = { g1.fx m with nv := wf2.val (g1.net ++ ms).length } := by
    rw [hg2, hm']
    unfold Gr.fx Gr.lv Gr.nv
    dsimp only
    rw [List.length_set]
  refine j_heap (H' := FoH (g2.fx m') m'.r g2.bad g2.ld g2.dn m'.d (g2.side (g1.ms.take i) (g1.ms.drop (i + 1)) Fr)) ?_ ?_
  · rw [hfx]
    unfold FoH Gr.side
    rw [hv2, hg2, hm']
    dsimp only
    rw [hlb, hR1]
    rfl
  refine j_perm (g2.focus hsp2 Fr).symm ?_
  have hga2 : g2.ga = g1.ga := by rw [hg2]
  have hps2 : g2.ps = { g1.ps with ms := g1.ps.ms.set i m'.r.p, ds := g1.ps.ds.set i m'.d.pure, net := g1.ps.net ++ ms.map Mg.p, k := g1.k + 1 } := by
    rw [hg2]
    unfold Gr.ps
    simp only [List.map_set, List.map_append]
  have hmp : m'.r.p = m.r.p.stable := by rw [hm']; exact hqp
  have hdp : m'.d.pure = (m.d.pure.1, m.d.pure.1.length) := by rw [hm', hd2]; rfl
  rw [hmp, hdp, hmsp] at hps2
  have h2ms : ∀ z ∈ g2.ms, z.r.ok F3 ∧ z.d.ok g2.k := by
    intro z hz
    rw [hg2] at hz ⊢
    rcases List.mem_or_eq_of_mem_set hz with hz | rfl
    · exact ⟨(hg1.ms z hz).1.frz hF3, (hg1.ms z hz).2.up (Nat.le_succ _)⟩
    · rw [hm']
      exact ⟨hq, hd2ok⟩
  have h2net : ∀ z ∈ g2.net, z.ok F3 := by
    intro z hz
    rw [hg2] at hz
    rcases List.mem_append.1 hz with hz | hz
    · exact (hg1.net z hz).frz hF3
    · exact hmok z hz
  have h2dn : ∀ z ∈ g2.dn, z.2.ok F3 := by
    intro z hz
    rw [hg2] at hz
    exact (hg1.dn z hz).frz hF3
  have h2wf : g2.wf.ok 13 g2.net.length := by rw [hg2]; exact hok2
  have h2lb : g2.lb.ok g2.ms.length := by rw [hg2]; simpa using hg1.lb
  have h2len : g2.ms.length ≤ 5 := by rw [hg2]; simpa using hg1.len
  have h2nl : g2.net.length ≤ 300300 := by rw [hg2]; show (g1.net ++ ms).length ≤ _; rw [← hln]; omega
  rw [← hga2]
  clear hg2 hfx hsp2 hv2
  refine d_end (by decide +kernel) (r_seq ?_)
  refine r_join (fun g3 : Gr => g3.ok F3 ∧ g3.ps = s2 ∧ g3.ga = g2.ga) (fun g3 => [(0, ptrV g3.ga), (1, .int .i64 i)]) (fun _ => F3) (fun g3 => g3.H Fr) ?_ ?_
  · intro J
    have hnl2 : g2.ps.net.length = g2.net.length := by simp [Gr.ps]
    have hnet : g2.ps.net = g1.ps.net ++ m.r.p.stable1.out := by rw [hps2]
    refine r_seq (r_region rfl (o_vl rfl rfl (v_move rfl) (o_vl rfl rfl (v_nilCheck rfl) (o_vl rfl rfl (v_field (k := 1) rfl rfl rfl) (o_vl rfl rfl (v_load rfl rfl (gcell0 (g := g2) 1 (by simp [Gr.H]) rfl)) (o_vl rfl rfl (v_len rfl rfl) (o_vl rfl rfl (v_gtr rfl rfl) (o_end (r_if rfl (fun h5 => ?_) (fun h5 => ?_))))))))))
    · obtain ⟨n, hn⟩ : ∃ n, n = g2.net.length - 300 := ⟨_, rfl⟩
      have hmt : mgV (g2.net.take n) ++ mgV (g2.net.drop n) = mgV g2.net := by
        unfold mgV
        rw [← List.flatMap_append, List.take_append_drop]
      obtain ⟨wf3, hok3, hsl3, hents3⟩ := wf_drop (k := n) (x := mgV (g2.net.take n)) (xs := mgV (g2.net.drop n)) h2wf (by omega) (by rw [vec_len Mg.cl, List.length_take, Nat.min_eq_left (by omega)])
      rw [hmt] at hents3
      have hdl : (g2.net.drop n).length = g2.net.length - n := by simp
      obtain ⟨g3, hg3⟩ : ∃ g3 : Gr, g3 = { g2 with wf := wf3, net := g2.net.drop n } := ⟨_, rfl⟩
      refine d_region 14 rfl ([g2.E]) ?_
      refine d_tk (i := 0) rfl rfl (by simp [Gr.H]) (v_move rfl) (d_tk (i := 1) rfl rfl (by simp [Gr.H]) (v_move rfl) (d_tk (i := 2) rfl rfl (by simp [Gr.H]) (v_nilCheck rfl) (d_tk (i := 3) rfl rfl (by simp [Gr.H]) (v_field (k := 1) rfl rfl rfl) (d_tk (i := 4) rfl rfl (by simp [Gr.H]) (v_load rfl rfl (gcell0 (g := g2) 1 (by simp [Gr.H]) rfl)) (d_tk (i := 5) rfl rfl (by simp [Gr.H]) (v_move rfl) (d_tk (i := 6) rfl rfl (by simp [Gr.H]) (v_nilCheck rfl) (d_tk (i := 7) rfl rfl (by simp [Gr.H]) (v_field (k := 1) rfl rfl rfl) (d_tk (i := 8) rfl rfl (by simp [Gr.H]) (v_load rfl rfl (gcell0 (g := g2) 1 (by simp [Gr.H]) rfl)) (d_tk (i := 9) rfl rfl (by simp [Gr.H]) (v_len rfl rfl) (d_tk (i := 10) rfl rfl (by simp [Gr.H]) (v_sub rfl rfl (r := ((n : Nat) : Int)) ((wrap_i64 (by omega) (by omega)).trans (by omega))) (d_tk (i := 11) rfl rfl (by simp [Gr.H]) (v_sliceL (sz := 13) (l := n) rfl rfl rfl rfl rfl (by omega)) (d_tk (i := 12) rfl rfl (by simp [Gr.H]) (v_nilCheck rfl) (d_tk (i := 13) rfl rfl (by simp [Gr.H]) (v_field (k := 1) rfl rfl rfl) ?_)))))))))))))
      rw [hsl3]
      refine d_one (i := 14) (by decide +kernel) ?_
      refine d1_last 1000000 ([]) rfl rfl rfl (a_store1 0 (b := g2.ga) (n := 5) (cs := [g2.lv, g2.nv, .map (some g2.lm), .map (some g2.dm), .bool g2.bad]) rfl rfl rfl rfl rfl (Nat.le_of_ble_eq_true rfl)) ?_
      refine j_heap (H' := g3.H Fr) ?_ ?_
      · rw [← hdl]
        show Ent.mem g2.ga [g2.lv, wf3.val (g2.net.drop n).length, .map (some g2.lm), .map (some g2.dm), .bool g2.bad] 5 :: (g2.lb.ents 1 (msV g2.ms) ++ (g2.wf.ents (mgV g2.net) ++ (g2.L :: g2.D :: (msH g2.ms ++ Fr)))) = _
        rw [hents3, hg3]
        rfl
      have hga3 : g3.ga = g2.ga := by rw [hg3]
      refine d_end (by decide +kernel) ?_
      refine j_keep ?_ (J g3 ⟨?_, ?_, hga3⟩)
      · exact ⟨by rw [hga3]; rfl, rfl, trivial⟩
      · rw [hg3]
        exact ⟨h2len, h2lb, by rw [hdl]; exact hok3, fun z hz => h2net z (List.mem_of_mem_drop hz), by rw [hdl]; omega, h2ms, h2dn⟩
      · rw [← h2]
        unfold PS.flushTo
        rw [← hnet, hnl2, ← hn]
        have : g3.ps = { g2.ps with net := g2.ps.net.drop n } := by rw [hg3]; unfold Gr.ps; simp only [List.map_drop]
        rw [this, hnet, hps2]
        rfl
    · refine r_skip ?_
      refine j_keep ?_ (J g2 ⟨⟨h2len, h2lb, h2wf, h2net, by omega, h2ms, h2dn⟩, ?_, rfl⟩)
      · exact ⟨rfl, rfl, trivial⟩
      · rw [← h2]
        unfold PS.flushTo
        rw [hps2, ← hnet, hnl2, show g2.net.length - 300 = 0 by omega, List.drop_zero]
        rfl
  · rintro g3 ⟨hg3, hps3, hga3⟩
    rw [← hga3]
    refine r_region rfl (o_vl rfl rfl (v_move rfl) (o_vl rfl rfl (v_move rfl) (o_call rfl rfl rfl rfl (c_call callable40 rfl) (g_settle _ _ g3 i s' Fr hg3 (by rw [hps3]; exact h)) ?_)))
    rintro v' F4 H' ⟨rfl, g4, hg4, hps4, hga4, rfl⟩ hF4
    refine o_end ?_
    exact r_fall0 Tryz.func20 rfl ⟨⟨rfl, g4, hg4, hps4, hga4, rfl⟩, Fz.le_trans hF1 (Fz.le_trans hF3 hF4)⟩
end Go.SX
namespace Go.SX
open Go Go.Proofs
set_option maxRecDepth 4000
def PR.leadOk (p : PR) : Bool := decide (p.role ≠ 3) || (List.range 7).all fun i => decide (1 ≤ p.nx.getD i 0)
def PR.stepOk (p : PR) (m : PM) : Bool := decide (p.out.length + 14 ≤ 300000) && (decide (p.term < 300000) && (decide (p.lix + p.l.length < 300000) && (p.leadOk && (m.es.all (fun e => decide (e.ix + 16 ≤ 300000)) && decide (m.ix + 16 ≤ 300000)))))
def PS.comeTo (s : PS) (m : PM) : Option PS :=
  match s.ms[m.to]? with
  | none => some s
  | some p => if p.stepOk m = true then ({ s with ms := s.ms.set m.to (p.step m) } : PS).settle m.to else none
def PS.come (s : PS) (k : Nat) (dbl : Bool) : Option PS :=
  if s.net.length = 0 then some s else
  match s.net[k % s.net.length]? with
  | none => none
  | some m => (if dbl = true then s else { s with net := s.net.take (k % s.net.length) ++ s.net.drop (k % s.net.length + 1) } : PS).comeTo m
theorem leadOk_is {p : PR} (h : p.leadOk = true) : p.role = 3 → ∀ i < 7, 1 ≤ p.nx.getD i 0 := by
  intro hr i hi
  unfold PR.leadOk at h
  rw [hr] at h
  rw [decide_eq_false (by simp), Bool.false_or, List.all_eq_true] at h
  exact of_decide_eq_true (h i (List.mem_range.2 hi))
theorem gbox_in (g : Gr) (X : Ent) (Fr : List Ent) : (X :: g.H Fr).Perm (g.H (X :: Fr)) := by
  have h : g.H (X :: Fr) = (g.E :: (g.lb.ents 1 (msV g.ms) ++ (g.wf.ents (mgV g.net) ++ (g.L :: g.D :: msH g.ms)))) ++ (X :: Fr) := by simp [Gr.H]
  have h2 : X :: g.H Fr = X :: ((g.E :: (g.lb.ents 1 (msV g.ms) ++ (g.wf.ents (mgV g.net) ++ (g.L :: g.D :: msH g.ms)))) ++ Fr) := by simp [Gr.H]
  rw [h, h2]
  exact List.perm_middle.symm
theorem gbox_out (g : Gr) (X : Ent) (Fr : List Ent) : (g.H Fr).Sublist (g.H (X :: Fr)) := by
  have h : ∀ Fr, g.H Fr = (g.E :: (g.lb.ents 1 (msV g.ms) ++ (g.wf.ents (mgV g.net) ++ (g.L :: g.D :: msH g.ms)))) ++ Fr := fun Fr => by simp [Gr.H]
  rw [h, h]
  exact List.Sublist.append_left (List.sublist_cons_self _ _) _
set_option maxHeartbeats 2000000 in
theorem g_come (O : World) (F : Fz) (g : Gr) (k : Nat) (dbl : Bool) (s' : PS) (Fr : List Ent) (hg : g.ok F) (hk : k < 1000000) (h : g.ps.come k dbl = some s') :
    Does Tryz.prog O 30 #[ptrV g.ga, .int .i64 k, .bool dbl] F (g.H Fr) (fun v F' H' => v = noneV ∧ ∃ g' : Gr, g'.ok F' ∧ g'.ps = s' ∧ g'.ga = g.ga ∧ H' = g'.H Fr) := by
  refine does_of_run (args := [_, _, _]) Tryz.func30 rfl rfl ?_
  have hnl := hg.nl
  have hpl : g.ps.net.length = g.net.length := by simp [Gr.ps]
  unfold PS.come at h
  rw [hpl] at h
  refine r_seq (r_seq (r_region rfl (o_vl rfl rfl (v_move rfl) (o_vl rfl rfl (v_nilCheck rfl) (o_vl rfl rfl (v_field (k := 1) rfl rfl rfl) (o_vl rfl rfl (v_load rfl rfl (gcell0 (g := g) 1 (by simp [Gr.H]) rfl)) (o_vl rfl rfl (v_len rfl rfl) (o_vl rfl rfl (v_eql rfl rfl) (o_end (r_if rfl (fun h0 => ?_) (fun h0 => ?_)))))))))))
  · rw [if_pos (by omega)] at h
    have h := Option.some.inj h
    exact r_ret0 Tryz.func30 rfl ⟨⟨rfl, g, hg, h, rfl, rfl⟩, Fz.le_refl _⟩
  · rw [if_neg (by omega)] at h
    obtain ⟨j, hj⟩ : ∃ j, j = k % g.net.length := ⟨_, rfl⟩
    rw [← hj] at h
    have hjl : j < g.net.length := by rw [hj]; exact Nat.mod_lt _ (by omega)
    have hrem : Int.tmod (k : Int) (g.net.length : Int) = (j : Int) := by rw [hj]; rfl
    have hget : g.ps.net[j]? = some g.net[j].p := by simp [Gr.ps, hjl]
    rw [hget] at h
    dsimp only at h
    obtain ⟨m, hm⟩ : ∃ m, m = g.net[j] := ⟨_, rfl⟩
    rw [← hm] at h
    have hmok : m.ok F := by rw [hm]; exact hg.net _ (List.getElem_mem hjl)
    have hone := hmok.one
    obtain ⟨b, off, cp, N, pre, hwf⟩ : ∃ b off cp N pre, g.wf = .at b off cp N pre := by
      have hw := hg.wf
      cases hb : g.wf with
      | nil =>
        rw [hb] at hw
        have : g.net.length = 0 := hw
        omega
      | «at» b off cp N pre => exact ⟨_, _, _, _, _, rfl⟩
    have hnv : g.nv = .slice (some ⟨b, off, none⟩) g.net.length cp := by unfold Gr.nv; rw [hwf]; rfl
    have hwok := hg.wf
    rw [hwf] at hwok
    obtain ⟨hw1, hw2, hw3⟩ := hwok
    have hreads : ∀ F H, g.wf.ents (mgV g.net) ⊆ H → Sl F H 13 (.slice (some ⟨b, off, none⟩) g.net.length cp) g.net.length (mgV g.net) := fun F H hH => by
      rw [← hnv]
      exact Wf.reads hg.wf (vec_len Mg.cl g.net) hH
    have hmcell : ∀ F H, g.wf.ents (mgV g.net) ⊆ H → ∀ i c, m.cells[i]? = some c → Cell F H b (off + j * 13 + i) c := fun F H hH i c hc => by
      have hi : i < 13 := by
        rcases Nat.lt_or_ge i 13 with h | h
        · exact h
        · rw [List.getElem?_eq_none (by rw [Mg.cl]; exact h)] at hc; cases hc
      refine cell_own (cs := pre ++ mgV g.net) (n := N) (hH (by rw [hwf]; exact List.mem_singleton.2 rfl)) ?_
      rw [List.getElem?_append_right (by omega), hw3, show off + j * 13 + i - off = j * 13 + i by omega, vec_get (c := Mg.cells) Mg.cl g.net j hjl i hi, ← hm]
      exact hc
    have hwsub : ∀ Fr, g.wf.ents (mgV g.net) ⊆ g.H Fr := fun Fr z hz => by simp [Gr.H, hz]
    have hload : ∀ F H, g.E ∈ H → Cell F H g.ga (0 + 1) (.slice (some ⟨b, off, none⟩) g.net.length cp) := fun F H hH => by rw [← hnv]; exact gcell0 (g := g) 1 hH rfl
    refine r_skip (r_seq (r_region rfl (o_vl rfl rfl (v_move rfl) (o_vl rfl rfl (v_move rfl) (o_vl rfl rfl (v_nilCheck rfl) (o_vl rfl rfl (v_field (k := 1) rfl rfl rfl) (o_vl rfl rfl (v_load rfl rfl (gcell0 (g := g) 1 (by simp [Gr.H]) rfl)) (o_vl rfl rfl (v_len rfl rfl) (o_vl rfl rfl (v_rem rfl rfl (by omega) hrem) (o_vl rfl rfl (v_assign rfl) (o_end (r_seq (r_region rfl ?_)))))))))))))
    refine o_vl rfl rfl (v_move rfl) (o_vl rfl rfl (v_nilCheck rfl) (o_vl rfl rfl (v_field (k := 1) rfl rfl rfl) (o_vl rfl rfl (v_load (v := .slice (some ⟨b, off, none⟩) g.net.length cp) rfl rfl (hload _ _ (by simp [Gr.H]))) (o_vl rfl rfl (v_move rfl) (o_vl rfl rfl (v_indexN (sz := 13) rfl rfl rfl rfl hjl) (o_vl rfl rfl (v_loadAgg (sz := 13) (cs := m.cells) rfl rfl rfl rfl (hmcell _ _ (hwsub _))) (o_act rfl rfl rfl rfl (a_alloc rfl) ?_)))))))
    rintro v' H' ⟨y, rfl, rfl⟩
    refine o_act0 rfl rfl rfl (a_store (sz := 13) (v := .agg m.cells.toArray) 0 rfl rfl rfl hone rfl rfl (Nat.le_of_ble_eq_true rfl)) ?_
    obtain ⟨Y, hYe⟩ : ∃ Y : Ent, Y = .mem y m.cells 13 := ⟨_, rfl⟩
    have hY : ∀ F H j c, Y ∈ H → m.cells[j]? = some c → Cell F H y (0 + j) c := fun F H j c hm hc => by rw [Nat.zero_add]; rw [hYe] at hm; exact cell_own hm hc
    refine j_heap (H' := Y :: g.H Fr) (by rw [hYe]; rfl) ?_
    refine j_perm (gbox_in g Y Fr) ?_
    refine o_end (r_seq ?_)
    refine r_join (fun g1 : Gr => g1.ok F ∧ g1.ga = g.ga ∧ g1.ps.comeTo m.p = some s') (fun g1 => [(0, ptrV g1.ga), (6, ptrV y)]) (fun _ => F) (fun g1 => g1.H (Y :: Fr)) ?_ ?_
    · intro J
      cases dbl with
      | true =>
        refine r_seq (r_region rfl (o_vl rfl rfl (v_move rfl) (o_vl rfl rfl (v_not rfl) (o_end (r_false rfl (r_skip ?_))))))
        refine j_keep ?_ (J g ⟨hg, rfl, h⟩)
        exact ⟨rfl, rfl, trivial⟩
      | false =>
        refine r_seq (r_region rfl (o_vl rfl rfl (v_move rfl) (o_vl rfl rfl (v_not rfl) (o_end (r_true rfl (r_seq (r_region rfl (o_vl rfl rfl (v_assign rfl) (o_end (r_seq (r_region rfl (o_vl rfl rfl (v_move rfl) (o_vl rfl rfl (v_move rfl) ?_)))))))))))))
        refine o_vl rfl rfl (v_nilCheck rfl) (o_vl rfl rfl (v_field (k := 1) rfl rfl rfl) (o_vl rfl rfl (v_load (v := .slice (some ⟨b, off, none⟩) g.net.length cp) rfl rfl (hload _ _ (by simp [Gr.H]))) (o_vl rfl rfl (v_move rfl) (o_vl rfl rfl (v_sliceH (sz := 13) (h := j) rfl rfl rfl rfl rfl (by omega)) ?_))))
        have hs1 := (hreads F (g.H (Y :: Fr)) (hwsub _)).sliced (l := 0) (h := j) (by omega) (by omega)
        rw [Nat.zero_mul, List.drop_zero, Nat.sub_zero, vec_take Mg.cl _ _ (by omega)] at hs1
        obtain ⟨wz, hwz⟩ : ∃ wz : Value, wz = Go.sliced (some ⟨b, off, none⟩) 0 j cp 13 := ⟨_, rfl⟩
        rw [← hwz] at hs1 ⊢
        have hones : ∀ l : List Mg, (∀ z ∈ l, z ∈ g.net) → (mgV l).all oneCellB = true := fun l hl => by
          rw [List.all_eq_true]
          intro z hz
          obtain ⟨y, hy, hz⟩ := List.mem_flatMap.1 hz
          exact List.all_eq_true.1 (hg.net y (hl y hy)).one z hz
        refine o_act rfl rfl rfl rfl (a_appendW [] (wf := .nil) (n := 0) (m := j) (sz := 13) (bytes := 136) (xs := []) (ys := mgV (g.net.take j)) (H1 := g.H (Y :: Fr)) ⟨⟨_, _, _, rfl, rfl, rfl, rfl, rfl, rfl⟩, by decide⟩ rfl rfl rfl rfl rfl hs1 (hones _ fun z hz => List.mem_of_mem_take hz) (by unfold maxLen; omega) (by omega)) ?_
        rintro v' H' ⟨wf1, rfl, hok1, rfl⟩
        rw [List.nil_append, Nat.zero_add] at *
        have hs2 := (hreads F (wf1.ents (mgV (g.net.take j)) ++ g.H (Y :: Fr)) (fun z hz => List.mem_append_right _ (hwsub _ hz))).sliced (l := j + 1) (h := g.net.length) (by omega) (by omega)
        have hdt : ((mgV g.net).drop ((j + 1) * 13)).take ((g.net.length - (j + 1)) * 13) = mgV (g.net.drop (j + 1)) := by
          rw [vec_drop Mg.cl _ _ (by omega), List.take_of_length_le]
          rw [vec_len Mg.cl, List.length_drop]
          exact Nat.le_refl _
        rw [hdt] at hs2
        obtain ⟨wz2, hwz2⟩ : ∃ wz : Value, wz = Go.sliced (some ⟨b, off, none⟩) (j + 1) g.net.length cp 13 := ⟨_, rfl⟩
        rw [← hwz2] at hs2
        refine j_heap (H' := wf1.ents (mgV (g.net.take j)) ++ g.H (Y :: Fr)) (by simp) ?_
        refine o_vl rfl rfl (v_assign rfl) (o_end (r_region rfl (o_vl rfl rfl (v_move rfl) (o_vl rfl rfl (v_move rfl) (o_vl rfl rfl (v_move rfl) (o_vl rfl rfl (v_nilCheck rfl) (o_vl rfl rfl (v_field (k := 1) rfl rfl rfl) (o_vl rfl rfl (v_load (v := .slice (some ⟨b, off, none⟩) g.net.length cp) rfl rfl (hload _ _ (by simp [Gr.H]))) (o_vl rfl rfl (v_move rfl) (o_vl rfl rfl (v_add rfl rfl (r := ((j + 1 : Nat) : Int)) (wrap_i64 (by omega) (by omega))) (o_vl rfl rfl (v_sliceL (sz := 13) (l := j + 1) rfl rfl rfl rfl rfl (by omega)) ?_)))))))))))
        rw [← hwz2]
        have htl : (g.net.take j).length = j := by simp; omega
        have hdl : (g.net.drop (j + 1)).length = g.net.length - (j + 1) := by simp
        obtain ⟨net', hnet'⟩ : ∃ net', net' = g.net.take j ++ g.net.drop (j + 1) := ⟨_, rfl⟩
        have hnl' : j + (g.net.length - (j + 1)) = net'.length := by rw [hnet', List.length_append, htl, hdl]
        have hnl2 : net'.length ≤ 300 := by omega
        have hap : mgV (g.net.take j) ++ mgV (g.net.drop (j + 1)) = mgV net' := by rw [hnet']; simp [mgV]
        refine o_act rfl rfl rfl rfl (a_appendW [] (wf := wf1) (n := j) (m := g.net.length - (j + 1)) (sz := 13) (bytes := 136) (xs := mgV (g.net.take j)) (ys := mgV (g.net.drop (j + 1))) (H1 := g.H (Y :: Fr)) ⟨⟨_, _, _, rfl, rfl, rfl, rfl, rfl, rfl⟩, by decide⟩ rfl hok1 (by rw [vec_len Mg.cl, htl]) rfl rfl hs2 (hones _ fun z hz => List.mem_of_mem_drop hz) (by unfold maxLen; omega) (by omega)) ?_
        rintro v' H' ⟨wf2, rfl, hok2, rfl⟩
        rw [hap, hnl'] at *
        refine j_heap (H' := cat [wf2.ents (mgV net'), [g.E], g.lb.ents 1 (msV g.ms), g.wf.ents (mgV g.net), g.L :: g.D :: (msH g.ms ++ (Y :: Fr))]) (by simp [Gr.H, cat]) ?_
        refine j_sel (H' := g.E :: (g.lb.ents 1 (msV g.ms) ++ (wf2.ents (mgV net') ++ (g.L :: g.D :: (msH g.ms ++ (Y :: Fr)))))) [wf2.ents (mgV net'), [g.E], g.lb.ents 1 (msV g.ms), g.wf.ents (mgV g.net), g.L :: g.D :: (msH g.ms ++ (Y :: Fr))] [1, 2, 0, 4] rfl rfl rfl ?_
        refine o_vl rfl rfl (v_nilCheck rfl) (o_vl rfl rfl (v_field (k := 1) rfl rfl rfl) (o_act0 rfl rfl rfl (a_store1 0 (b := g.ga) (n := 5) (cs := [g.lv, g.nv, .map (some g.lm), .map (some g.dm), .bool g.bad]) rfl rfl rfl rfl rfl (Nat.le_of_ble_eq_true rfl)) ?_))
        obtain ⟨g1, hg1⟩ : ∃ g1 : Gr, g1 = { g with wf := wf2, net := net' } := ⟨_, rfl⟩
        refine j_heap (H' := g1.H (Y :: Fr)) (by rw [hg1]; rfl) ?_
        refine o_end ?_
        refine j_keep ?_ (J g1 ⟨?_, by rw [hg1], ?_⟩)
        · exact ⟨by rw [hg1]; rfl, rfl, trivial⟩
        · rw [hg1]
          exact ⟨hg.len, hg.lb, hok2, fun z hz => by rw [hnet'] at hz; rcases List.mem_append.1 hz with hz | hz; exact hg.net z (List.mem_of_mem_take hz); exact hg.net z (List.mem_of_mem_drop hz), hnl2, hg.ms, hg.dn⟩
        · rw [← h]
          have : g1.ps = { g.ps with net := g.ps.net.take j ++ g.ps.net.drop (j + 1) } := by
            rw [hg1, hnet']
            unfold Gr.ps
            simp only [List.map_append, List.map_take, List.map_drop]
          rw [this]
          rfl
    · rintro g1 ⟨hg1, hga1, h1⟩
      unfold PS.comeTo at h1
      have hlen1 := hg1.len
      refine r_seq (d_region 1000000 rfl ([Y, g1.E]) ?_)
      refine d_tk (i := 0) rfl rfl (by intro z hz; simp only [List.mem_cons, List.not_mem_nil, or_false] at hz; rcases hz with rfl | rfl <;> simp [Gr.H]) (v_field (k := 2) rfl rfl rfl) (d_tk (i := 1) rfl rfl (by intro z hz; simp only [List.mem_cons, List.not_mem_nil, or_false] at hz; rcases hz with rfl | rfl <;> simp [Gr.H]) (v_load (v := .int .i64 m.p.to) rfl rfl (hY _ _ 2 _ (by simp) rfl)) (d_tk (i := 2) rfl rfl (by intro z hz; simp only [List.mem_cons, List.not_mem_nil, or_false] at hz; rcases hz with rfl | rfl <;> simp [Gr.H]) (v_geq rfl rfl) ?_))
      refine j_slot 52 rfl (v' := .bool true) (congrArg Value.bool (decide_eq_true (by omega))) ?_
      refine d_tk (i := 3) rfl rfl (by intro z hz; simp only [List.mem_cons, List.not_mem_nil, or_false] at hz; rcases hz with rfl | rfl <;> simp [Gr.H]) (v_move rfl) (d_tk (i := 4) rfl rfl (by intro z hz; simp only [List.mem_cons, List.not_mem_nil, or_false] at hz; rcases hz with rfl | rfl <;> simp [Gr.H]) (v_field (k := 2) rfl rfl rfl) (d_tk (i := 5) rfl rfl (by intro z hz; simp only [List.mem_cons, List.not_mem_nil, or_false] at hz; rcases hz with rfl | rfl <;> simp [Gr.H]) (v_load (v := .int .i64 m.p.to) rfl rfl (hY _ _ 2 _ (by simp) rfl)) (d_tk (i := 6) rfl rfl (by intro z hz; simp only [List.mem_cons, List.not_mem_nil, or_false] at hz; rcases hz with rfl | rfl <;> simp [Gr.H]) (v_move rfl) (d_tk (i := 7) rfl rfl (by intro z hz; simp only [List.mem_cons, List.not_mem_nil, or_false] at hz; rcases hz with rfl | rfl <;> simp [Gr.H]) (v_nilCheck rfl) (d_tk (i := 8) rfl rfl (by intro z hz; simp only [List.mem_cons, List.not_mem_nil, or_false] at hz; rcases hz with rfl | rfl <;> simp [Gr.H]) (v_field (k := 0) rfl rfl rfl) (d_tk (i := 9) rfl rfl (by intro z hz; simp only [List.mem_cons, List.not_mem_nil, or_false] at hz; rcases hz with rfl | rfl <;> simp [Gr.H]) (v_load rfl rfl (gcell0 (g := g1) 0 (by simp [Gr.H]) rfl)) (d_tk (i := 10) rfl rfl (by intro z hz; simp only [List.mem_cons, List.not_mem_nil, or_false] at hz; rcases hz with rfl | rfl <;> simp [Gr.H]) (v_len rfl rfl) (d_tk (i := 11) rfl rfl (by intro z hz; simp only [List.mem_cons, List.not_mem_nil, or_false] at hz; rcases hz with rfl | rfl <;> simp [Gr.H]) (v_lss rfl rfl) (d_tk (i := 12) rfl rfl (by intro z hz; simp only [List.mem_cons, List.not_mem_nil, or_false] at hz; rcases hz with rfl | rfl <;> simp [Gr.H]) (v_pick1 rfl rfl) (d_end (by decide +kernel) (r_if rfl (fun h5 => ?_) (fun h5 => ?_))))))))))))
      · obtain ⟨i, hi⟩ : ∃ i, i = m.p.to := ⟨_, rfl⟩
        rw [← hi] at h1 h5 ⊢
        have hil : i < g1.ms.length := by omega
        have e1 : g1.ps.ms[i]? = some g1.ms[i].r.p := by simp [Gr.ps, hil]
        rw [e1] at h1
        dsimp only at h1
        have hmi : g1.ms[i] ∈ g1.ms := List.getElem_mem hil
        have hsp := mid hil
        have hget : g1.ms[i]? = some g1.ms[i] := List.getElem?_eq_getElem hil
        generalize hm1 : g1.ms[i] = mb at *
        obtain ⟨hmr, hmd⟩ := hg1.ms mb hmi
        have hok : mb.r.p.stepOk m.p = true := by
          cases hc : mb.r.p.stepOk m.p with
          | true => rfl
          | false => rw [hc] at h1; cases h1
        rw [if_pos hok] at h1
        unfold PR.stepOk at hok
        simp only [Bool.and_eq_true, decide_eq_true_eq, List.all_eq_true] at hok
        obtain ⟨o1, o2, o3, o4, o5, o6⟩ := hok
        obtain ⟨lb, c, N1, hlv0, hlb⟩ := g1.lbv hg1 hil
        have hlm : ∀ A B, Ent.mem lb (msV g1.ms) N1 ∈ g1.side A B (Y :: Fr) := fun A B => by
          unfold Gr.side
          rw [hlb]
          exact List.mem_append_left _ (List.mem_singleton.2 rfl)
        have hlv : (g1.fx mb).lv = .slice (some ⟨lb, 0, none⟩) g1.ms.length c := hlv0
        refine j_perm (g1.focus hsp (Y :: Fr)) ?_
        unfold FoH
        refine r_seq (d_region 1000000 rfl ([GE (g1.fx mb) g1.bad, ME (g1.fx mb), .mem lb (msV g1.ms) N1, Y]) ?_)
        refine d_tk (i := 0) rfl rfl (by intro z hz; simp only [List.mem_cons, List.not_mem_nil, or_false] at hz; rcases hz with rfl | rfl | rfl | rfl <;> first | (simp [RfH_eq, hlm]; done) | simp [RfH_eq, Gr.side]) (v_move rfl) (d_tk (i := 1) rfl rfl (by intro z hz; simp only [List.mem_cons, List.not_mem_nil, or_false] at hz; rcases hz with rfl | rfl | rfl | rfl <;> first | (simp [RfH_eq, hlm]; done) | simp [RfH_eq, Gr.side]) (v_nilCheck rfl) (d_tk (i := 2) rfl rfl (by intro z hz; simp only [List.mem_cons, List.not_mem_nil, or_false] at hz; rcases hz with rfl | rfl | rfl | rfl <;> first | (simp [RfH_eq, hlm]; done) | simp [RfH_eq, Gr.side]) (v_field (k := 0) rfl rfl rfl) (d_tk (i := 3) rfl rfl (by intro z hz; simp only [List.mem_cons, List.not_mem_nil, or_false] at hz; rcases hz with rfl | rfl | rfl | rfl <;> first | (simp [RfH_eq, hlm]; done) | simp [RfH_eq, Gr.side]) (v_load (v := .slice (some ⟨lb, 0, none⟩) g1.ms.length c) rfl rfl (by rw [← hlv]; exact gcell (x := g1.fx mb) (bad := g1.bad) 0 (by simp) rfl)) (d_tk (i := 4) rfl rfl (by intro z hz; simp only [List.mem_cons, List.not_mem_nil, or_false] at hz; rcases hz with rfl | rfl | rfl | rfl <;> first | (simp [RfH_eq, hlm]; done) | simp [RfH_eq, Gr.side]) (v_field (k := 2) rfl rfl rfl) (d_tk (i := 5) rfl rfl (by intro z hz; simp only [List.mem_cons, List.not_mem_nil, or_false] at hz; rcases hz with rfl | rfl | rfl | rfl <;> first | (simp [RfH_eq, hlm]; done) | simp [RfH_eq, Gr.side]) (v_load (v := .int .i64 i) rfl rfl (by rw [hi]; exact hY _ _ 2 _ (by simp) rfl)) (d_tk (i := 6) rfl rfl (by intro z hz; simp only [List.mem_cons, List.not_mem_nil, or_false] at hz; rcases hz with rfl | rfl | rfl | rfl <;> first | (simp [RfH_eq, hlm]; done) | simp [RfH_eq, Gr.side]) (v_index1 rfl rfl rfl rfl hil) (d_tk (i := 7) rfl rfl (by intro z hz; simp only [List.mem_cons, List.not_mem_nil, or_false] at hz; rcases hz with rfl | rfl | rfl | rfl <;> first | (simp [RfH_eq, hlm]; done) | simp [RfH_eq, Gr.side]) (v_load (v := ptrV mb.ma) rfl rfl (cell_own (cs := msV g1.ms) (n := N1) (by simp) (msV_get hget))) (d_tk (i := 11) rfl rfl (by intro z hz; simp only [List.mem_cons, List.not_mem_nil, or_false] at hz; rcases hz with rfl | rfl | rfl | rfl <;> first | (simp [RfH_eq, hlm]; done) | simp [RfH_eq, Gr.side]) (v_loadAgg (sz := 13) (cs := m.cells) rfl rfl rfl rfl (fun j c hc => hY _ _ j c (by simp) hc)) (d_tk (i := 8) rfl rfl (by intro z hz; simp only [List.mem_cons, List.not_mem_nil, or_false] at hz; rcases hz with rfl | rfl | rfl | rfl <;> first | (simp [RfH_eq, hlm]; done) | simp [RfH_eq, Gr.side]) (v_nilCheck rfl) (d_tk (i := 9) rfl rfl (by intro z hz; simp only [List.mem_cons, List.not_mem_nil, or_false] at hz; rcases hz with rfl | rfl | rfl | rfl <;> first | (simp [RfH_eq, hlm]; done) | simp [RfH_eq, Gr.side]) (v_field (k := 0) rfl rfl rfl) (d_tk (i := 10) rfl rfl (by intro z hz; simp only [List.mem_cons, List.not_mem_nil, or_false] at hz; rcases hz with rfl | rfl | rfl | rfl <;> first | (simp [RfH_eq, hlm]; done) | simp [RfH_eq, Gr.side]) (v_load rfl rfl (mcell (x := (g1.fx mb)) 0 (by simp [FoH, RfH_eq]) rfl)) (d_one (i := 12) (by decide +kernel) (d1_call rfl rfl rfl rfl (c_call callable54 rfl) (r_Step _ _ mb.ra mb.r m _ hmr hmok o1 o2 o3 (leadOk_is o4) o5 o6) ?_)))))))))))))
        rintro v' F2 H' ⟨⟨ev, rfl⟩, q, hq, hqp, rfl⟩ hF2
        refine ⟨fun w hw => held_of hw (by first | exact Fz.le_refl _ | assumption) (by intro z hz; simp only [List.mem_cons, List.not_mem_nil, or_false] at hz; rcases hz with rfl | rfl | rfl | rfl <;> first | (simp [RfH_eq, hlm]; done) | simp [RfH_eq, Gr.side]), ?_⟩
        obtain ⟨m', hm'⟩ : ∃ m' : Mb, m' = ⟨mb.ma, mb.ra, mb.da, q, mb.d⟩ := ⟨_, rfl⟩
        have hp := g1.unfocus hil hm1 m' (by rw [hm']) (by rw [hm']) (by rw [hm']) g1.bad g1.ld g1.dn g1.k (Y :: Fr)
        obtain ⟨g2, hg2⟩ : ∃ g2 : Gr, g2 = { g1 with ms := g1.ms.set i m' } := ⟨_, rfl⟩
        have hp2 : (FoH (g1.fx mb) q g1.bad g1.ld g1.dn mb.d (g1.side (g1.ms.take i) (g1.ms.drop (i + 1)) (Y :: Fr))).Perm (g2.H (Y :: Fr)) := by
          rw [hm'] at hp
          rw [hg2, hm']
          exact hp
        refine j_perm hp2 ?_
        have hga2 : g2.ga = g1.ga := by rw [hg2]
        have hg2ok : g2.ok F2 := by
          rw [hg2]
          refine ⟨?_, ?_, hg1.wf, fun z hz => (hg1.net z hz).frz hF2, hg1.nl, fun z hz => ?_, fun z hz => (hg1.dn z hz).frz hF2⟩
          · simpa using hg1.len
          · simpa using hg1.lb
          · rcases List.mem_or_eq_of_mem_set hz with hz | rfl
            · exact ⟨(hg1.ms z hz).1.frz hF2, (hg1.ms z hz).2⟩
            · rw [hm']
              exact ⟨hq, hmd⟩
        have hps2 : g2.ps.settle i = some s' := by
          have e2 : g1.ps.ds.set i mb.d.pure = g1.ps.ds := by
            apply List.ext_getElem?
            intro j
            rw [List.getElem?_set]
            split
            · rename_i hij
              subst hij
              have : g1.ps.ds[i]? = some mb.d.pure := by simp [Gr.ps, hget]
              rw [this]
              split
              · rfl
              · rename_i hn
                exact absurd (by simpa [Gr.ps] using hil) hn
            · rfl
          have : g2.ps = { g1.ps with ms := g1.ps.ms.set i (mb.r.p.step m.p) } := by
            have h3 := g1.ps_set i m' g1.bad g1.ld g1.dn g1.k
            rw [hg2, h3, hm']
            dsimp only
            rw [e2, hqp]
            rfl
          rw [this]
          exact h1
        clear hg2
        rw [← hga2] at hga1 ⊢
        refine d_end (by decide +kernel) (r_region rfl (o_vl rfl rfl (v_move rfl) (o_vl rfl rfl (v_field (k := 2) rfl rfl rfl) (o_vl rfl rfl (v_load (v := .int .i64 i) rfl rfl (by rw [hi]; exact hY _ _ 2 _ (by simp [Gr.H]) rfl)) (o_call rfl rfl rfl rfl (c_call callable40 rfl) (g_settle _ _ g2 i s' _ hg2ok hps2) ?_)))))
        rintro v' F3 H' ⟨rfl, g3, hg3, hps3, hga3, rfl⟩ hF3
        refine j_drop (gbox_out g3 Y Fr) ?_
        refine o_end ?_
        exact r_fall0 Tryz.func30 rfl ⟨⟨rfl, g3, hg3, hps3, hga3.trans hga1, rfl⟩, Fz.le_trans hF2 hF3⟩
      · have e1 : g1.ps.ms[m.p.to]? = none := List.getElem?_eq_none (by simp [Gr.ps]; omega)
        rw [e1] at h1
        have h1 := Option.some.inj h1
        refine j_drop (gbox_out g1 Y Fr) ?_
        refine r_skip ?_
        exact r_fall0 Tryz.func30 rfl ⟨⟨rfl, g1, hg1, h1, hga1, rfl⟩, Fz.le_refl _⟩
end Go.SX
namespace Go.SX
open Go Go.Proofs
set_option maxRecDepth 4000
def PR.tickOk (p : PR) : Bool := decide (p.ticks < 300000) && (p.leadOk && (decide (p.term < 300000) && (decide (p.lix + p.l.length < 300000) && decide (p.out.length + 21 ≤ 300000))))
def PS.tickAt (s : PS) (i : Nat) : Option PS :=
  match s.ms[i]? with
  | some p => if p.tickOk = true then some { s with ms := s.ms.set i p.tick } else none
  | none => none
def PS.ticks : Nat → Nat → PS → Option PS
  | 0, _, s => some s
  | n + 1, i, s => (s.tickAt i).bind fun s1 => (s1.sync i).bind (PS.ticks n (i + 1))
def PS.syncs : Nat → Nat → PS → Option PS
  | 0, _, s => some s
  | n + 1, i, s => (s.sync i).bind (PS.syncs n (i + 1))
def PS.deliver (off : Int) : Nat → PS → Option PS
  | 0, s => some s
  | n + 1, s => match s.net with
    | [] => none
    | m :: r => (if (m.fr : Int) = off ∨ (m.to : Int) = off then some { s with net := r } else s.come 0 false).bind (PS.deliver off n)
def PS.round (s : PS) (off : Int) : Option PS := (PS.ticks s.ms.length 0 s).bind fun s1 => (PS.deliver off s1.net.length s1).bind fun s2 => PS.syncs s2.ms.length 0 s2
theorem settle_is {s s' : PS} {i : Nat} (h : s.settle i = some s') : ∃ p d, s.ms[i]? = some p ∧ s.ds[i]? = some d ∧ p.saveOk = true ∧ s.k ≤ 90000 ∧ s' = s.settleTo i p d (p.leads i s.ld s.dn s.bad).1 (cmtF p (p.cm - p.lix) (p.lix + 1) s.dn (p.leads i s.ld s.dn s.bad).2).1 (cmtF p (p.cm - p.lix) (p.lix + 1) s.dn (p.leads i s.ld s.dn s.bad).2).2 := by
  unfold PS.settle at h
  cases h1 : s.ms[i]? with
  | none => rw [h1] at h; cases h
  | some p =>
    cases h2 : s.ds[i]? with
    | none => rw [h1, h2] at h; cases h
    | some d =>
      rw [h1, h2] at h
      dsimp only at h
      cases hc : (p.saveOk && decide (s.k ≤ 90000)) with
      | false => rw [hc] at h; cases h
      | true =>
        rw [hc, if_pos rfl, frc_eq] at h
        rw [Bool.and_eq_true, decide_eq_true_eq] at hc
        exact ⟨p, d, rfl, rfl, hc.1, hc.2, (Option.some.inj h).symm⟩
theorem settle_n {s s' : PS} {i : Nat} (h : s.settle i = some s') : s'.ms.length = s.ms.length ∧ s'.net = s.net := by
  obtain ⟨p, d, _, _, _, _, rfl⟩ := settle_is h
  exact ⟨by simp [PS.settleTo], rfl⟩
theorem flush_n {s s' : PS} {i : Nat} (h : s.flush i = some s') : s'.ms.length = s.ms.length := by
  unfold PS.flush at h
  split at h
  · split at h
    · rw [← Option.some.inj h]; simp [PS.flushTo]
    · cases h
  · cases h
theorem sync_n {s s' : PS} {i : Nat} (h : s.sync i = some s') : s'.ms.length = s.ms.length := by
  unfold PS.sync at h
  obtain ⟨s1, h1, h⟩ := Option.bind_eq_some_iff.1 h
  obtain ⟨s2, h2, h⟩ := Option.bind_eq_some_iff.1 h
  rw [(settle_n h).1, flush_n h2, (settle_n h1).1]
theorem comeTo_n {s s' : PS} {m : PM} (h : s.comeTo m = some s') : s'.ms.length = s.ms.length ∧ s'.net = s.net := by
  unfold PS.comeTo at h
  split at h
  · rw [← Option.some.inj h]; exact ⟨rfl, rfl⟩
  · split at h
    · obtain ⟨h1, h2⟩ := settle_n h
      exact ⟨by rw [h1]; simp, h2⟩
    · cases h
theorem come0 {s s' : PS} {m : PM} {r : List PM} (hn : s.net = m :: r) (h : s.come 0 false = some s') : s'.ms.length = s.ms.length ∧ s'.net = r := by
  unfold PS.come at h
  rw [hn, if_neg (by simp), Nat.zero_mod] at h
  obtain ⟨h1, h2⟩ := comeTo_n (s := { s with net := r }) h
  exact ⟨h1, h2⟩
theorem g_rd {O : World} {F : Fz} {f : FuncId} {args : Array Value} {v : Value} {g : Gr} {i : Nat} {m : Mb} {Fr : List Ent} (hi : g.ms[i]? = some m) (hc : ∀ X, Does Tryz.prog O f args F (RfH m.ra m.r X) (fun r F' H' => r = v ∧ F' = F ∧ H' = RfH m.ra m.r X)) :
    Does Tryz.prog O f args F (g.H Fr) (fun r F' H' => r = v ∧ F' = F ∧ H' = g.H Fr) := by
  have hil : i < g.ms.length := by
    rcases Nat.lt_or_ge i g.ms.length with h | h
    · exact h
    · rw [List.getElem?_eq_none h] at hi; cases hi
  have hsp := mid hil
  rw [List.getElem?_eq_getElem hil] at hi
  rw [Option.some.inj hi] at hsp
  exact does_same (g.focus hsp Fr) (hc _)
theorem mE_in {g : Gr} {m : Mb} (h : m ∈ g.ms) (Fr : List Ent) : m.E ∈ g.H Fr := by
  have : m.E ∈ msH g.ms := List.mem_flatMap.2 ⟨m, h, by simp [Mb.H]⟩
  simp [Gr.H, this]
theorem j_dropW {C : Cx} {τ : Env} {F : Fz} {X : Act → World → Prop} (Pre : List Ent) {wf : Wf} {n sz k : Nat} {x xs : List Value} {Fr : List Ent} (hok : wf.ok sz n) (hk : k ≤ n) (hx : x.length = k * sz) (hn : k < n ∨ xs = [])
    (h : ∀ wf' : Wf, wf'.ok sz (n - k) → Go.sliced wf.addr k n wf.cp sz = wf'.val (n - k) → Jd C τ F (Pre ++ (wf'.ents xs ++ Fr)) X) : Jd C τ F (Pre ++ (wf.ents (x ++ xs) ++ Fr)) X := by
  by_cases hkn : k < n
  · obtain ⟨wf', h1, h2, h3⟩ := wf_drop (xs := xs) hok hkn hx
    rw [h3]
    exact h wf' h1 h2
  · obtain rfl : k = n := by omega
    have hxs : xs = [] := by
      rcases hn with h | h
      · omega
      · exact h
    subst hxs
    rw [Nat.sub_self] at h
    cases wf with
    | nil =>
      have h0 : k = 0 := hok
      subst h0
      exact h .nil rfl rfl
    | «at» b off cp N pre =>
      obtain ⟨h1, h2, h3⟩ := hok
      have hadd : (⟨b, off, none⟩ : Addr).add (k * sz) = ⟨b, off + k * sz, none⟩ := by
        unfold Addr.add
        split
        · rename_i h0
          rw [h0]
          rfl
        · simp
      by_cases hc : cp = k
      · subst hc
        refine j_cut (C := C) Pre.length off (b := b) (n := N) (cs := pre ++ (x ++ [])) ?_ ?_
        · rw [List.getElem?_append_right (Nat.le_refl _), Nat.sub_self]; rfl
        · have h4 := h (.at b off 0 N pre) ⟨by omega, by omega, h3⟩ (by simp [Go.sliced, Wf.addr, Wf.cp])
          rw [List.set_append_right _ _ (Nat.le_refl _), Nat.sub_self]
          show Jd C τ F (Pre ++ (.mem b ((pre ++ (x ++ [])).take off) N :: Fr)) X
          rw [← h3, List.take_left]
          have e : (Wf.at b off 0 N pre).ents [] ++ Fr = .mem b pre N :: Fr := by simp [Wf.ents]
          rw [← e]
          exact h4
      · have h4 := h (.at b (off + k * sz) (cp - k) N (pre ++ x)) ⟨by omega, ?_, by simp [h3, hx]⟩ ?_
        · have e : (Wf.at b (off + k * sz) (cp - k) N (pre ++ x)).ents [] ++ Fr = (Wf.at b off cp N pre).ents (x ++ []) ++ Fr := by simp [Wf.ents]
          rw [e] at h4
          exact h4
        · have : cp * sz = k * sz + (cp - k) * sz := by rw [← Nat.add_mul]; congr 1; omega
          omega
        · show Value.slice (if cp = k then some ⟨b, off, none⟩ else (some (⟨b, off, none⟩ : Addr)).map (·.add (k * sz))) (k - k) (cp - k) = .slice (some ⟨b, off + k * sz, none⟩) 0 (cp - k)
          rw [if_neg hc, Option.map_some, hadd, Nat.sub_self]
theorem ds_same {g : Gr} {i : Nat} {m : Mb} (h : g.ms[i]? = some m) : g.ps.ds.set i m.d.pure = g.ps.ds := by
  apply List.ext_getElem?
  intro j
  rw [List.getElem?_set]
  split
  · rename_i hij
    subst hij
    have : g.ps.ds[i]? = some m.d.pure := by simp [Gr.ps, h]
    rw [this]
    split
    · rfl
    · rename_i hn
      rw [List.getElem?_eq_none (by simpa [Gr.ps] using hn)] at h
      cases h
  · rfl
theorem g_at {O : World} {F : Fz} {f : FuncId} {args : Array Value} {P : Value → Prop} {g : Gr} {i : Nat} {m : Mb} {p' : PR} {Fr : List Ent} (hg : g.ok F) (hi : g.ms[i]? = some m)
    (hc : ∀ X, Does Tryz.prog O f args F (RfH m.ra m.r X) (fun r F' H' => P r ∧ ∃ q : Rf, q.ok F' ∧ q.p = p' ∧ H' = RfH m.ra q X)) :
    Does Tryz.prog O f args F (g.H Fr) (fun r F' H' => P r ∧ ∃ g' : Gr, g'.ok F' ∧ g'.ps = { g.ps with ms := g.ps.ms.set i p' } ∧ g'.ga = g.ga ∧ H' = g'.H Fr) := by
  have hil : i < g.ms.length := by
    rcases Nat.lt_or_ge i g.ms.length with h | h
    · exact h
    · rw [List.getElem?_eq_none h] at hi; cases hi
  have hsp := mid hil
  have hi2 := hi
  rw [List.getElem?_eq_getElem hil] at hi2
  have hm1 := Option.some.inj hi2
  rw [hm1] at hsp
  have hmi : m ∈ g.ms := List.mem_of_getElem? hi
  refine does_permB (g.focus hsp Fr) (hc _) ?_
  rintro v F' H' hle ⟨hP, q, hq, hqp, rfl⟩
  obtain ⟨m', hm'⟩ : ∃ m' : Mb, m' = ⟨m.ma, m.ra, m.da, q, m.d⟩ := ⟨_, rfl⟩
  have hp := g.unfocus hil hm1 m' (by rw [hm']) (by rw [hm']) (by rw [hm']) g.bad g.ld g.dn g.k Fr
  obtain ⟨g2, hg2⟩ : ∃ g2 : Gr, g2 = { g with ms := g.ms.set i m' } := ⟨_, rfl⟩
  refine ⟨g2.H Fr, ?_, hP, g2, ?_, ?_, by rw [hg2], rfl⟩
  · rw [hm'] at hp
    rw [hg2, hm']
    exact hp
  · rw [hg2]
    refine ⟨?_, ?_, hg.wf, fun z hz => (hg.net z hz).frz hle, hg.nl, fun z hz => ?_, fun z hz => (hg.dn z hz).frz hle⟩
    · simpa using hg.len
    · simpa using hg.lb
    · rcases List.mem_or_eq_of_mem_set hz with hz | rfl
      · exact ⟨(hg.ms z hz).1.frz hle, (hg.ms z hz).2⟩
      · rw [hm']
        exact ⟨hq, (hg.ms m hmi).2⟩
  · have h3 := g.ps_set i m' g.bad g.ld g.dn g.k
    rw [hg2, h3, hm']
    dsimp only
    rw [ds_same hi, hqp]
    rfl
theorem ecell {F : Fz} {H : List Ent} {m : Mb} (j : Nat) {c : Value} (hm : m.E ∈ H) (hc : [ptrV m.ra, ptrV m.da][j]? = some c) : Cell F H m.ma (0 + j) c := by
  rw [Nat.zero_add]
  exact cell_own hm hc
theorem Gr.lbH {F : Fz} {g : Gr} (hg : g.ok F) {i : Nat} (hi : i < g.ms.length) : ∃ lb c N, g.lv = .slice (some ⟨lb, 0, none⟩) g.ms.length c ∧ ∀ Fr, Ent.mem lb (msV g.ms) N ∈ g.H Fr := by
  obtain ⟨lb, c, N, h1, h2⟩ := g.lbv hg hi
  exact ⟨lb, c, N, h1, fun Fr => by unfold Gr.H; rw [h2]; simp⟩
set_option maxHeartbeats 2000000 in
theorem g_round (O : World) (F : Fz) (g : Gr) (off : Int) (s' : PS) (Fr : List Ent) (hg : g.ok F) (h : g.ps.round off = some s') :
    Does Tryz.prog O 10 #[ptrV g.ga, .int .i64 off] F (g.H Fr) (fun v F' H' => v = noneV ∧ ∃ g' : Gr, g'.ok F' ∧ g'.ps = s' ∧ g'.ga = g.ga ∧ H' = g'.H Fr) := by
  refine does_of_run (args := [_, _]) Tryz.func10 rfl rfl ?_
  unfold PS.round at h
  obtain ⟨s1, h1, h⟩ := Option.bind_eq_some_iff.1 h
  obtain ⟨s2, h2, h3⟩ := Option.bind_eq_some_iff.1 h
  obtain ⟨ga, hga⟩ : ∃ ga, ga = g.ga := ⟨_, rfl⟩
  obtain ⟨n, hn⟩ : ∃ n, n = g.ms.length := ⟨_, rfl⟩
  have hpn : ∀ g : Gr, g.ps.ms.length = g.ms.length := fun g => by simp [Gr.ps]
  have hpnet : ∀ g : Gr, g.ps.net.length = g.net.length := fun g => by simp [Gr.ps]
  rw [hpn, ← hn] at h1
  have hn5 := hg.len
  obtain ⟨gb, hgb⟩ : ∃ gb, gb = g.ga := ⟨_, rfl⟩
  rw [← hgb]
  refine j_slot 0 rfl (v' := ptrV ga) (by rw [hga, hgb]) ?_
  refine r_seq ?_
  refine r_join (fun q : Gr × Fz => F.le q.2 ∧ q.1.ok q.2 ∧ q.1.ga = ga ∧ q.1.ms.length = n ∧ q.1.ps = s1) (fun q => [(0, ptrV ga), (1, .int .i64 off)]) (fun q => q.2) (fun q => q.1.H Fr) ?_ ?_
  · intro J
    refine r_seq (r_region rfl (o_vl rfl rfl (v_assign rfl) (o_end (r_block ?_))))
    refine r_loop (fun q : Gr × Fz × Nat => F.le q.2.1 ∧ q.1.ok q.2.1 ∧ q.1.ga = ga ∧ q.1.ms.length = n ∧ q.2.2 ≤ n ∧ PS.ticks (n - q.2.2) q.2.2 q.1.ps = some s1) (fun q => [(0, ptrV ga), (1, .int .i64 off), (4, .int .i64 q.2.2)]) (fun q => q.2.1) (fun q => q.1.H Fr) (fun q => n - q.2.2) (g, F, 0) ⟨Fz.le_refl _, hg, hga.symm, hn.symm, Nat.zero_le _, h1⟩ ⟨rfl, rfl, rfl, trivial⟩ rfl rfl ?_
    rintro ⟨g1, F1, i⟩ ⟨hF1, hg1, hga1, hn1, hin, ht⟩ IH
    dsimp only at hF1 hg1 hga1 hn1 hin ht ⊢
    rw [← hga1]
    refine r_seq (r_seq (r_region rfl (o_vl rfl rfl (v_move rfl) (o_vl rfl rfl (v_move rfl) (o_vl rfl rfl (v_nilCheck rfl) (o_vl rfl rfl (v_field (k := 0) rfl rfl rfl) (o_vl rfl rfl (v_load rfl rfl (gcell0 (g := g1) 0 (by simp [Gr.H]) rfl)) (o_vl rfl rfl (v_len rfl rfl) (o_vl rfl rfl (v_lss rfl rfl) (o_end (r_if rfl (fun h5 => ?_) (fun h5 => ?_))))))))))))
    · have hil : i < g1.ms.length := by omega
      rw [show n - i = (n - (i + 1)) + 1 by omega] at ht
      unfold PS.ticks at ht
      obtain ⟨t1, ht1, ht⟩ := Option.bind_eq_some_iff.1 ht
      obtain ⟨t2, ht2, ht⟩ := Option.bind_eq_some_iff.1 ht
      obtain ⟨m, hm⟩ : ∃ m, m = g1.ms[i] := ⟨_, rfl⟩
      have hget : g1.ms[i]? = some m := by rw [hm]; exact List.getElem?_eq_getElem hil
      have hmi : m ∈ g1.ms := List.mem_of_getElem? hget
      have hmr := (hg1.ms m hmi).1
      obtain ⟨lb, c, N, hlv, hlm⟩ := g1.lbH hg1 hil
      have e1 : g1.ps.ms[i]? = some m.r.p := by simp [Gr.ps, hget]
      unfold PS.tickAt at ht1
      rw [e1] at ht1
      dsimp only at ht1
      have hok : m.r.p.tickOk = true := by
        cases hc : m.r.p.tickOk with
        | true => rfl
        | false => rw [hc] at ht1; cases ht1
      rw [if_pos hok] at ht1
      have ht1 := Option.some.inj ht1
      unfold PR.tickOk at hok
      simp only [Bool.and_eq_true, decide_eq_true_eq] at hok
      obtain ⟨o1, o2, o3, o4, o5⟩ := hok
      refine r_skip (r_seq (r_block (r_seq (r_region rfl (o_vl rfl rfl (v_move rfl) (o_vl rfl rfl (v_nilCheck rfl) (o_vl rfl rfl (v_field (k := 0) rfl rfl rfl) (o_vl rfl rfl (v_load (v := .slice (some ⟨lb, 0, none⟩) g1.ms.length c) rfl rfl (by rw [← hlv]; exact gcell0 (g := g1) 0 (by simp [Gr.H]) rfl)) (o_vl rfl rfl (v_move rfl) (o_vl rfl rfl (v_index1 rfl rfl rfl rfl hil) (o_vl rfl rfl (v_load (v := ptrV m.ma) rfl rfl (cell_own (cs := msV g1.ms) (n := N) (hlm _) (msV_get hget))) (o_vl rfl rfl (v_nilCheck rfl) (o_vl rfl rfl (v_field (k := 0) rfl rfl rfl) ?_)))))))))))))
      refine o_vl rfl rfl (v_load rfl rfl (ecell (m := m) 0 (by first | exact mE_in hmi _ | simp) rfl)) (o_call rfl rfl rfl rfl (c_call callable29 rfl) (g_at (P := fun v => v = noneV) (p' := m.r.p.tick) hg1 hget (fun X => r_Tick _ _ m.ra m.r X hmr o1 (leadOk_is o2) o3 o4 o5)) ?_)
      rintro v' F2 H' ⟨rfl, g2, hg2, hps2, hga2, rfl⟩ hF2
      rw [ht1] at hps2
      rw [← hga2]
      refine o_end (r_region rfl (o_vl rfl rfl (v_move rfl) (o_vl rfl rfl (v_move rfl) (o_call rfl rfl rfl rfl (c_call callable20 rfl) (g_sync _ _ g2 i t2 Fr hg2 (by rw [hps2]; exact ht2)) ?_))))
      rintro v' F3 H' ⟨rfl, g3, hg3, hps3, hga3, rfl⟩ hF3
      have hn3 : g3.ms.length = n := by
        rw [← hpn, hps3, sync_n ht2, ← hps2, hpn]
        have : g2.ps.ms.length = g1.ps.ms.length := by rw [hps2, ← ht1]; simp
        rw [hpn, hpn] at this
        omega
      refine o_end (r_inBlock (r_region rfl (o_vl rfl rfl (v_move rfl) (o_vl rfl rfl (v_add rfl rfl (r := ((i + 1 : Nat) : Int)) (wrap_i64 (by omega) (by omega))) (o_vl rfl rfl (v_assign rfl) (o_end ?_))))))
      refine j_keep ?_ (IH (g3, F3, i + 1) ⟨Fz.le_trans hF1 (Fz.le_trans hF2 hF3), hg3, by dsimp only; rw [hga3, hga2, hga1], hn3, by dsimp only; omega, by dsimp only; rw [hps3]; exact ht⟩ (by dsimp only; omega))
      exact ⟨by rw [← hga1, ← hga2]; rfl, rfl, rfl, trivial⟩
    · obtain rfl : i = n := by omega
      rw [Nat.sub_self] at ht
      have ht : g1.ps = s1 := Option.some.inj ht
      refine r_exit rfl ?_
      refine j_keep ?_ (J (g1, F1) ⟨hF1, hg1, hga1, hn1, ht⟩)
      exact ⟨by rw [← hga1]; rfl, rfl, trivial⟩
  · rintro ⟨g1, F1⟩ ⟨hF1, hg1, hga1, hn1, hp1⟩
    dsimp only at hF1 hg1 hga1 hn1 hp1 ⊢
    rw [← hp1] at h2 h
    rw [hpnet] at h2
    rw [← hga1]
    refine r_seq (r_region rfl (o_vl rfl rfl (v_move rfl) (o_vl rfl rfl (v_nilCheck rfl) (o_vl rfl rfl (v_field (k := 1) rfl rfl rfl) (o_vl rfl rfl (v_load rfl rfl (gcell0 (g := g1) 1 (by simp [Gr.H]) rfl)) (o_vl rfl rfl (v_len rfl rfl) (o_vl rfl rfl (v_assign rfl) (o_end ?_))))))))
    refine j_slot 0 rfl (v' := ptrV ga) (by rw [hga1]) ?_
    refine r_seq ?_
    refine r_join (fun q : Gr × Fz => F.le q.2 ∧ q.1.ok q.2 ∧ q.1.ga = ga ∧ q.1.ps = s2) (fun q => [(0, ptrV ga)]) (fun q => q.2) (fun q => q.1.H Fr) ?_ ?_
    · intro J
      refine r_seq (r_region rfl (o_vl rfl rfl (v_assign rfl) (o_end (r_block ?_))))
      refine r_loop (fun q : Gr × Fz × Nat => F.le q.2.1 ∧ q.1.ok q.2.1 ∧ q.1.ga = ga ∧ q.1.net.length = g1.net.length - q.2.2 ∧ q.2.2 ≤ g1.net.length ∧ PS.deliver off (g1.net.length - q.2.2) q.1.ps = some s2) (fun q => [(0, ptrV ga), (1, .int .i64 off), (5, .int .i64 g1.net.length), (6, .int .i64 q.2.2)]) (fun q => q.2.1) (fun q => q.1.H Fr) (fun q => g1.net.length - q.2.2) (g1, F1, 0) ⟨hF1, hg1, hga1, rfl, Nat.zero_le _, h2⟩ ⟨rfl, rfl, rfl, rfl, trivial⟩ rfl rfl ?_
      rintro ⟨g2, F2, i⟩ ⟨hF2, hg2, hga2, hn2, hin, ht⟩ IH
      dsimp only at hF2 hg2 hga2 hn2 hin ht ⊢
      rw [← hga2]
      refine r_seq (r_seq (r_region rfl (o_vl rfl rfl (v_move rfl) (o_vl rfl rfl (v_move rfl) (o_vl rfl rfl (v_lss rfl rfl) (o_end (r_if rfl (fun h5 => ?_) (fun h5 => ?_))))))))
      · have hnl := hg1.nl
        have hil : i < g1.net.length := by omega
        rw [show g1.net.length - i = (g1.net.length - (i + 1)) + 1 by omega] at ht
        obtain ⟨m, rest, hmr⟩ : ∃ m rest, g2.net = m :: rest := by
          cases hc : g2.net with
          | nil => rw [hc] at hn2; simp at hn2; omega
          | cons m r => exact ⟨m, r, rfl⟩
        have hpr : g2.ps.net = m.p :: rest.map Mg.p := by simp [Gr.ps, hmr]
        unfold PS.deliver at ht
        rw [hpr] at ht
        dsimp only at ht
        obtain ⟨t1, ht1, ht⟩ := Option.bind_eq_some_iff.1 ht
        have hmok : m.ok F2 := hg2.net m (by rw [hmr]; exact List.mem_cons_self ..)
        have hone := hmok.one
        have hl0 : 0 < g2.net.length := by omega
        obtain ⟨b, off1, cp, N, pre, hwf⟩ : ∃ b off cp N pre, g2.wf = .at b off cp N pre := by
          have hw := hg2.wf
          cases hb : g2.wf with
          | nil =>
            rw [hb] at hw
            have : g2.net.length = 0 := hw
            omega
          | «at» b off cp N pre => exact ⟨_, _, _, _, _, rfl⟩
        have hnv : g2.nv = .slice (some ⟨b, off1, none⟩) g2.net.length cp := by unfold Gr.nv; rw [hwf]; rfl
        have hwok := hg2.wf
        rw [hwf] at hwok
        obtain ⟨hw1, hw2, hw3⟩ := hwok
        have hmcell : ∀ F H, g2.wf.ents (mgV g2.net) ⊆ H → ∀ i c, m.cells[i]? = some c → Cell F H b (off1 + 0 * 13 + i) c := fun F H hH i c hc => by
          have hi : i < 13 := by
            rcases Nat.lt_or_ge i 13 with h | h
            · exact h
            · rw [List.getElem?_eq_none (by rw [Mg.cl]; exact h)] at hc; cases hc
          refine cell_own (cs := pre ++ mgV g2.net) (n := N) (hH (by rw [hwf]; exact List.mem_singleton.2 rfl)) ?_
          rw [List.getElem?_append_right (by omega), hw3, show off1 + 0 * 13 + i - off1 = 0 * 13 + i by omega, vec_get (c := Mg.cells) Mg.cl g2.net 0 hl0 i hi]
          simp only [hmr, List.getElem_cons_zero]
          exact hc
        have hwsub : ∀ Fr, g2.wf.ents (mgV g2.net) ⊆ g2.H Fr := fun Fr z hz => by simp [Gr.H, hz]
        have hload : ∀ F H, g2.E ∈ H → Cell F H g2.ga (0 + 1) (.slice (some ⟨b, off1, none⟩) g2.net.length cp) := fun F H hH => by rw [← hnv]; exact gcell0 (g := g2) 1 hH rfl
        refine r_skip (r_seq (r_block (r_seq (r_region rfl (o_vl rfl rfl (v_move rfl) (o_vl rfl rfl (v_nilCheck rfl) (o_vl rfl rfl (v_field (k := 1) rfl rfl rfl) (o_vl rfl rfl (v_load (v := .slice (some ⟨b, off1, none⟩) g2.net.length cp) rfl rfl (hload _ _ (by simp [Gr.H]))) (o_vl rfl rfl (v_indexN (i := 0) (sz := 13) rfl rfl rfl rfl hl0) (o_vl rfl rfl (v_loadAgg (sz := 13) (cs := m.cells) rfl rfl rfl rfl (hmcell _ _ (hwsub _))) (o_act rfl rfl rfl rfl (a_alloc rfl) ?_)))))))))))
        rintro v' H' ⟨y, rfl, rfl⟩
        refine o_act0 rfl rfl rfl (a_store (sz := 13) (v := .agg m.cells.toArray) 0 rfl rfl rfl hone rfl rfl (Nat.le_of_ble_eq_true rfl)) ?_
        obtain ⟨Y, hYe⟩ : ∃ Y : Ent, Y = .mem y m.cells 13 := ⟨_, rfl⟩
        have hY : ∀ F H j c, Y ∈ H → m.cells[j]? = some c → Cell F H y (0 + j) c := fun F H j c hm hc => by rw [Nat.zero_add]; rw [hYe] at hm; exact cell_own hm hc
        refine j_heap (H' := Y :: g2.H Fr) (by rw [hYe]; rfl) ?_
        refine o_end (r_seq (r_region rfl (o_vl rfl rfl (v_field (k := 1) rfl rfl rfl) (o_vl rfl rfl (v_load (v := .int .i64 m.p.fr) rfl rfl (hY _ _ 1 _ (by simp) rfl)) (o_vl rfl rfl (v_move rfl) (o_vl rfl rfl (v_eql rfl rfl) ?_))))))
        refine j_prop 51 rfl (fun h6 => ?_) (fun h6 => ?_)
        · have hc0 : (m.p.fr : Int) = off ∨ (m.p.to : Int) = off := .inl h6
          refine o_vl rfl rfl (v_move rfl) (o_sk rfl rfl (o_sk rfl rfl (o_sk rfl rfl (o_sk rfl rfl (o_vl rfl rfl (v_pick1 rfl rfl) (o_end (r_true rfl ?_)))))))
          have hcond : (m.p.fr : Int) = off ∨ (m.p.to : Int) = off := hc0
          rw [if_pos hcond] at ht1
          have ht1 := Option.some.inj ht1
          refine j_drop (List.sublist_cons_self _ _) ?_
          have hmt : m.cells ++ mgV rest = mgV g2.net := by rw [hmr]; rfl
          refine j_heap (H' := (g2.E :: g2.lb.ents 1 (msV g2.ms)) ++ (g2.wf.ents (m.cells ++ mgV rest) ++ (g2.L :: g2.D :: (msH g2.ms ++ Fr)))) (by rw [hmt]; simp [Gr.H]) ?_
          refine j_dropW (sz := 13) (k := 1) (n := g2.net.length) _ hg2.wf (by omega) (by rw [Mg.cl]) (by rcases rest with _ | ⟨z, r⟩; exact .inr rfl; exact .inl (by rw [hmr]; simp)) fun wf3 hok3 hsl3 => ?_
          have hsl3 : Go.sliced (some ⟨b, off1, none⟩) 1 g2.net.length cp 13 = wf3.val (g2.net.length - 1) := by rw [hwf] at hsl3; exact hsl3
          have hrl : g2.net.length - 1 = rest.length := by rw [hmr]; simp
          rw [hrl] at hsl3 hok3
          refine r_region rfl (o_vl rfl rfl (v_move rfl) (o_vl rfl rfl (v_move rfl) (o_vl rfl rfl (v_nilCheck rfl) (o_vl rfl rfl (v_field (k := 1) rfl rfl rfl) (o_vl rfl rfl (v_load (v := .slice (some ⟨b, off1, none⟩) g2.net.length cp) rfl rfl (hload _ _ (by simp))) (o_vl rfl rfl (v_sliceL (sz := 13) (l := 1) rfl rfl rfl rfl rfl (by omega)) (o_vl rfl rfl (v_nilCheck rfl) (o_vl rfl rfl (v_field (k := 1) rfl rfl rfl) ?_))))))))
          rw [hsl3]
          refine o_act0 rfl rfl rfl (a_store1 0 (b := g2.ga) (n := 5) (cs := [g2.lv, g2.nv, .map (some g2.lm), .map (some g2.dm), .bool g2.bad]) rfl rfl rfl rfl rfl (Nat.le_of_ble_eq_true rfl)) ?_
          obtain ⟨g3, hg3⟩ : ∃ g3 : Gr, g3 = { g2 with wf := wf3, net := rest } := ⟨_, rfl⟩
          refine j_heap (H' := g3.H Fr) (by rw [hg3]; rfl) ?_
          have hga3 : g3.ga = g2.ga := by rw [hg3]
          have hnl2 := hg2.nl
          have hg3ok : g3.ok F2 := by
            rw [hg3]
            exact ⟨hg2.len, hg2.lb, hok3, fun z hz => hg2.net z (by rw [hmr]; exact List.mem_cons_of_mem _ hz), by show rest.length ≤ 300; omega, hg2.ms, hg2.dn⟩
          have hps3 : g3.ps = t1 := by
            rw [← ht1, hg3]
            rfl
          refine o_end (r_inBlock (r_region rfl (o_vl rfl rfl (v_move rfl) (o_vl rfl rfl (v_add rfl rfl (r := ((i + 1 : Nat) : Int)) (wrap_i64 (by omega) (by omega))) (o_vl rfl rfl (v_assign rfl) (o_end ?_))))))
          refine j_keep ?_ (IH (g3, F2, i + 1) ⟨hF2, hg3ok, by dsimp only; rw [hga3, hga2], by rw [hg3]; show rest.length = g1.net.length - (i + 1); omega, by dsimp only; omega, by dsimp only; rw [hps3]; exact ht⟩ (by dsimp only; omega))
          exact ⟨by rw [← hga2]; rfl, rfl, rfl, rfl, trivial⟩
        · refine o_vl rfl rfl (v_move rfl) (o_vl rfl rfl (v_field (k := 2) rfl rfl rfl) (o_vl rfl rfl (v_load (v := .int .i64 m.p.to) rfl rfl (hY _ _ 2 _ (by simp) rfl)) (o_vl rfl rfl (v_move rfl) (o_vl rfl rfl (v_eql rfl rfl) ?_))))
          refine j_prop 56 rfl (fun h7 => ?_) (fun h7 => ?_)
          · have hc0 : (m.p.fr : Int) = off ∨ (m.p.to : Int) = off := .inr h7
            refine o_vl rfl rfl (v_pick0 rfl rfl) (o_end (r_true rfl ?_))
            have hcond : (m.p.fr : Int) = off ∨ (m.p.to : Int) = off := hc0
            rw [if_pos hcond] at ht1
            have ht1 := Option.some.inj ht1
            refine j_drop (List.sublist_cons_self _ _) ?_
            have hmt : m.cells ++ mgV rest = mgV g2.net := by rw [hmr]; rfl
            refine j_heap (H' := (g2.E :: g2.lb.ents 1 (msV g2.ms)) ++ (g2.wf.ents (m.cells ++ mgV rest) ++ (g2.L :: g2.D :: (msH g2.ms ++ Fr)))) (by rw [hmt]; simp [Gr.H]) ?_
            refine j_dropW (sz := 13) (k := 1) (n := g2.net.length) _ hg2.wf (by omega) (by rw [Mg.cl]) (by rcases rest with _ | ⟨z, r⟩; exact .inr rfl; exact .inl (by rw [hmr]; simp)) fun wf3 hok3 hsl3 => ?_
            have hsl3 : Go.sliced (some ⟨b, off1, none⟩) 1 g2.net.length cp 13 = wf3.val (g2.net.length - 1) := by rw [hwf] at hsl3; exact hsl3
            have hrl : g2.net.length - 1 = rest.length := by rw [hmr]; simp
            rw [hrl] at hsl3 hok3
            refine r_region rfl (o_vl rfl rfl (v_move rfl) (o_vl rfl rfl (v_move rfl) (o_vl rfl rfl (v_nilCheck rfl) (o_vl rfl rfl (v_field (k := 1) rfl rfl rfl) (o_vl rfl rfl (v_load (v := .slice (some ⟨b, off1, none⟩) g2.net.length cp) rfl rfl (hload _ _ (by simp))) (o_vl rfl rfl (v_sliceL (sz := 13) (l := 1) rfl rfl rfl rfl rfl (by omega)) (o_vl rfl rfl (v_nilCheck rfl) (o_vl rfl rfl (v_field (k := 1) rfl rfl rfl) ?_))))))))
            rw [hsl3]
            refine o_act0 rfl rfl rfl (a_store1 0 (b := g2.ga) (n := 5) (cs := [g2.lv, g2.nv, .map (some g2.lm), .map (some g2.dm), .bool g2.bad]) rfl rfl rfl rfl rfl (Nat.le_of_ble_eq_true rfl)) ?_
            obtain ⟨g3, hg3⟩ : ∃ g3 : Gr, g3 = { g2 with wf := wf3, net := rest } := ⟨_, rfl⟩
            refine j_heap (H' := g3.H Fr) (by rw [hg3]; rfl) ?_
            have hga3 : g3.ga = g2.ga := by rw [hg3]
            have hnl2 := hg2.nl
            have hg3ok : g3.ok F2 := by
              rw [hg3]
              exact ⟨hg2.len, hg2.lb, hok3, fun z hz => hg2.net z (by rw [hmr]; exact List.mem_cons_of_mem _ hz), by show rest.length ≤ 300; omega, hg2.ms, hg2.dn⟩
            have hps3 : g3.ps = t1 := by
              rw [← ht1, hg3]
              rfl
            refine o_end (r_inBlock (r_region rfl (o_vl rfl rfl (v_move rfl) (o_vl rfl rfl (v_add rfl rfl (r := ((i + 1 : Nat) : Int)) (wrap_i64 (by omega) (by omega))) (o_vl rfl rfl (v_assign rfl) (o_end ?_))))))
            refine j_keep ?_ (IH (g3, F2, i + 1) ⟨hF2, hg3ok, by dsimp only; rw [hga3, hga2], by rw [hg3]; show rest.length = g1.net.length - (i + 1); omega, by dsimp only; omega, by dsimp only; rw [hps3]; exact ht⟩ (by dsimp only; omega))
            exact ⟨by rw [← hga2]; rfl, rfl, rfl, rfl, trivial⟩
          · have hc0 : ¬ ((m.p.fr : Int) = off ∨ (m.p.to : Int) = off) := by
              rintro (h | h)
              · exact h6 h
              · exact h7 h
            refine o_vl rfl rfl (v_pick0 rfl rfl) (o_end (r_false rfl ?_))
            have hcond : ¬ ((m.p.fr : Int) = off ∨ (m.p.to : Int) = off) := hc0
            rw [if_neg hcond] at ht1
            refine j_drop (List.sublist_cons_self _ _) ?_
            refine r_region rfl (o_vl rfl rfl (v_move rfl) (o_call rfl rfl rfl rfl (c_call callable30 rfl) (g_come _ _ g2 0 false t1 Fr hg2 (by omega) ht1) ?_))
            rintro v' F3 H' ⟨rfl, g3, hg3, hps3, hga3, rfl⟩ hF3
            have hn3 : g3.net.length = g1.net.length - (i + 1) := by
              have h9 := (come0 hpr ht1).2
              rw [← hpnet, hps3, h9, List.length_map]
              rw [hmr] at hn2
              simp at hn2
              omega
            refine o_end (r_inBlock (r_region rfl (o_vl rfl rfl (v_move rfl) (o_vl rfl rfl (v_add rfl rfl (r := ((i + 1 : Nat) : Int)) (wrap_i64 (by omega) (by omega))) (o_vl rfl rfl (v_assign rfl) (o_end ?_))))))
            refine j_keep ?_ (IH (g3, F3, i + 1) ⟨Fz.le_trans hF2 hF3, hg3, by dsimp only; rw [hga3, hga2], hn3, by dsimp only; omega, by dsimp only; rw [hps3]; exact ht⟩ (by dsimp only; omega))
            exact ⟨by rw [← hga2]; rfl, rfl, rfl, rfl, trivial⟩
      · have hin2 : g1.net.length - i = 0 := by omega
        rw [hin2] at ht
        have ht : g2.ps = s2 := Option.some.inj ht
        refine r_exit rfl ?_
        refine j_keep ?_ (J (g2, F2) ⟨hF2, hg2, hga2, ht⟩)
        exact ⟨by rw [← hga2]; rfl, trivial⟩
    · rintro ⟨g2, F2⟩ ⟨hF2, hg2, hga2, hp2⟩
      dsimp only at hF2 hg2 hga2 hp2 ⊢
      rw [← hp2] at h3
      obtain ⟨n2, hn2⟩ : ∃ n2, n2 = g2.ms.length := ⟨_, rfl⟩
      rw [hpn, ← hn2] at h3
      have hn25 := hg2.len
      refine r_seq (r_region rfl (o_vl rfl rfl (v_assign rfl) (o_end (r_block ?_))))
      refine r_loop (fun q : Gr × Fz × Nat => F.le q.2.1 ∧ q.1.ok q.2.1 ∧ q.1.ga = ga ∧ q.1.ms.length = n2 ∧ q.2.2 ≤ n2 ∧ PS.syncs (n2 - q.2.2) q.2.2 q.1.ps = some s') (fun q => [(0, ptrV ga), (8, .int .i64 q.2.2)]) (fun q => q.2.1) (fun q => q.1.H Fr) (fun q => n2 - q.2.2) (g2, F2, 0) ⟨hF2, hg2, hga2, hn2.symm, Nat.zero_le _, h3⟩ ⟨rfl, rfl, trivial⟩ rfl rfl ?_
      rintro ⟨g3, F3, i⟩ ⟨hF3, hg3, hga3, hn3, hin, ht⟩ IH
      dsimp only at hF3 hg3 hga3 hn3 hin ht ⊢
      rw [← hga3]
      refine r_seq (r_seq (r_region rfl (o_vl rfl rfl (v_move rfl) (o_vl rfl rfl (v_move rfl) (o_vl rfl rfl (v_nilCheck rfl) (o_vl rfl rfl (v_field (k := 0) rfl rfl rfl) (o_vl rfl rfl (v_load rfl rfl (gcell0 (g := g3) 0 (by simp [Gr.H]) rfl)) (o_vl rfl rfl (v_len rfl rfl) (o_vl rfl rfl (v_lss rfl rfl) (o_end (r_if rfl (fun h5 => ?_) (fun h5 => ?_))))))))))))
      · rw [show n2 - i = (n2 - (i + 1)) + 1 by omega] at ht
        unfold PS.syncs at ht
        obtain ⟨t1, ht1, ht⟩ := Option.bind_eq_some_iff.1 ht
        refine r_skip (r_seq (r_block (r_region rfl (o_vl rfl rfl (v_move rfl) (o_vl rfl rfl (v_move rfl) (o_call rfl rfl rfl rfl (c_call callable20 rfl) (g_sync _ _ g3 i t1 Fr hg3 ht1) ?_))))))
        rintro v' F4 H' ⟨rfl, g4, hg4, hps4, hga4, rfl⟩ hF4
        have hn4 : g4.ms.length = n2 := by rw [← hpn, hps4, sync_n ht1, hpn, hn3]
        refine o_end (r_inBlock (r_region rfl (o_vl rfl rfl (v_move rfl) (o_vl rfl rfl (v_add rfl rfl (r := ((i + 1 : Nat) : Int)) (wrap_i64 (by omega) (by omega))) (o_vl rfl rfl (v_assign rfl) (o_end ?_))))))
        refine j_keep ?_ (IH (g4, F4, i + 1) ⟨Fz.le_trans hF3 hF4, hg4, by dsimp only; rw [hga4, hga3], hn4, by dsimp only; omega, by dsimp only; rw [hps4]; exact ht⟩ (by dsimp only; omega))
        exact ⟨by rw [← hga3]; rfl, rfl, trivial⟩
      · obtain rfl : i = n2 := by omega
        rw [Nat.sub_self] at ht
        have ht : g3.ps = s' := Option.some.inj ht
        refine r_exit rfl ?_
        exact r_fall0 Tryz.func10 rfl ⟨⟨rfl, g3, hg3, ht, by rw [hga3, hga, hgb], rfl⟩, hF3⟩
end Go.SX
namespace Go.SX
open Go Go.Proofs
set_option maxRecDepth 4000
structure PE.fit (e : PE) : Prop where
  ix : e.ix < 18446744073709551616
  tm : e.tm < 18446744073709551616
  kd : e.kd < 256
  data : e.data.length ≤ 1048000
theorem Reaches.ents {q : PI} : ∀ (r pre : List PE) {b : List UInt8}, Reaches b { q with l := pre } → (∀ e ∈ r, e.fit) → (∀ (i : Nat) (h : i < r.length), r[i].ix = q.ix + pre.length + i + 1) → Reaches (b ++ entsB r) { q with l := pre ++ r }
  | [], pre, b, h, _, _ => by simpa using h
  | e :: r, pre, b, h, hf, hc => by
    have he := hf e (List.mem_cons_self ..)
    have h0 := hc 0 (by simp)
    simp only [List.getElem_cons_zero, Nat.add_zero] at h0
    have had : addP { q with l := pre } 2 (entP e.ix e.tm e.kd e.data) = some { q with l := pre ++ [e] } := by
      rw [addP, if_neg (by decide), if_pos rfl, entR_entP he.ix he.tm he.kd (by have := he.data; omega)]
      show addE _ e = _
      unfold addE
      dsimp only
      rw [if_neg (by omega)]
      have : e.ix - q.ix - 1 = pre.length := by omega
      rw [this, List.take_length]
    have h1 := h.more (by simp; have := he.data; omega) (by decide) had
    have h2 := Reaches.ents r (pre ++ [e]) h1 (fun x hx => hf x (List.mem_cons_of_mem _ hx)) (fun i hi => by
      have := hc (i + 1) (by simpa using hi)
      simp only [List.getElem_cons_succ] at this
      rw [this]
      simp
      omega)
    have e1 : b ++ entsB (e :: r) = b ++ recB 2 (entP e.ix e.tm e.kd e.data) ++ entsB r := by simp [PE.bs, entsB]
    have e2 : pre ++ (e :: r) = pre ++ [e] ++ r := by simp
    rw [e1, e2]
    exact h2
theorem whole_reaches (p : PI) (h1 : 0 < p.ix ∨ p.vt ≠ 0) (t : p.term < 18446744073709551616) (v1 : -1 ≤ p.vote) (v2 : p.vote < 65535) (i1 : p.ix < 18446744073709551616) (i2 : p.tm < 18446744073709551616) (i3 : p.vt < 18446744073709551616) (d : p.data.length ≤ 1048000) (hf : ∀ e ∈ p.l, e.fit) (hc : ∀ (i : Nat) (h : i < p.l.length), p.l[i].ix = p.ix + i + 1) : Reaches p.whole p := by
  have a1 : addP nilI 3 (snapP p.ix p.tm p.vt p.data) = some ⟨0, -1, p.ix, p.tm, p.vt, p.data, []⟩ := by
    rw [addP, if_neg (by decide), if_neg (by decide), if_pos rfl, snapR_snapP i1 i2 i3 (by omega)]
    rfl
  have a2 : addP ⟨0, -1, p.ix, p.tm, p.vt, p.data, []⟩ 1 (hardP p.term (p.vote + 1).toNat) = some ⟨p.term, p.vote, p.ix, p.tm, p.vt, p.data, []⟩ := by
    have : (((p.vote + 1).toNat : Nat) : Int) - 1 = p.vote := by omega
    rw [addP, if_pos rfl, hardR_hardP t (by omega), this]
    rfl
  have r1 := (Reaches.nil.more (by simp; omega) (by decide) a1).more (by simp) (by decide) a2
  have r2 := Reaches.ents (q := p) p.l [] (b := [] ++ recB 3 (snapP p.ix p.tm p.vt p.data) ++ recB 1 (hardP p.term (p.vote + 1).toNat)) r1 hf (fun i hi => by rw [hc i hi]; simp)
  have e1 : p.whole = [] ++ recB 3 (snapP p.ix p.tm p.vt p.data) ++ recB 1 (hardP p.term (p.vote + 1).toNat) ++ entsB p.l := by
    unfold PI.whole snB saveB hdrB
    rw [if_pos h1, if_pos rfl]
    simp
  rw [e1]
  exact r2
end Go.SX
namespace Go.SX
open Go Go.Proofs
set_option maxRecDepth 4000
def FE (x : Fx) (bad : Bool) : Ent := GE x bad
theorem g5cell {F : Fz} {H : List Ent} {x : Fx} {bad : Bool} (j : Nat) {c : Value} (hm : FE x bad ∈ H) (hc : [x.lv, x.nv, Value.map (some x.lm), .map (some x.dm), .bool bad][j]? = some c) : Cell F H x.ga (0 + j) c := gcell (x := x) (bad := bad) j hm hc
def VE (x : Fx) (rv : Value) : Ent := .mem x.ma [rv, ptrV x.da] 2
theorem vcell {F : Fz} {H : List Ent} {x : Fx} {rv : Value} (j : Nat) {c : Value} (hm : VE x rv ∈ H) (hc : [rv, ptrV x.da][j]? = some c) : Cell F H x.ma (0 + j) c := by
  rw [Nat.zero_add]
  exact cell_own hm hc
def lgNewP (ix tm : Nat) (l : List PE) : Prop := ∀ (i : Nat) (h : i < l.length), l[i].ix = ix + i + 1 ∧ (if i = 0 then tm else ((l[i - 1]?).map PE.tm).getD 0) ≤ l[i].tm
theorem lgNew_of {ix tm : Nat} {l : List En} (h : lgNewP ix tm (l.map En.pure)) : lgNew ix tm l := by
  intro i hi
  obtain ⟨h1, h2⟩ := h i (by simpa using hi)
  simp only [List.getElem_map] at h1 h2
  refine ⟨h1, Nat.le_trans (Nat.le_of_eq ?_) h2⟩
  unfold lgLastTerm lgTerm
  have hl : (l.take i).length = i := by simp; omega
  rw [hl]
  rw [if_neg (by omega)]
  split
  · rw [if_pos (by omega)]
  · rw [if_neg (by omega)]
    rw [List.getElem?_map, show ix + i - ix - 1 = i - 1 by omega, List.getElem?_take, if_pos (by omega)]
    cases l[i - 1]? <;> rfl
set_option maxHeartbeats 1000000 in
theorem g_boot1 (O : World) (F : Fz) (x : Fx) (rv : Value) (i : Nat) (bad : Bool) (d : Dk) (X : List Ent) (hbf : d.bf.ok d.b.length) (hlen : d.b.length ≤ 10000000000) (hops : d.ops ≤ 8000000) (hi : i < 7)
    (hn : lgNewP (scanP nilI d.b).1.ix (scanP nilI d.b).1.tm (scanP nilI d.b).1.l) (hB : (PI.new i (scanP nilI d.b).1).B) {lb n N c : Nat} {cs : List Value} (hlv : x.lv = .slice (some ⟨lb, 0, none⟩) n c) (hin : i < n) (hcs : cs[i]? = some (ptrV x.ma)) (hmem : Ent.mem lb cs N ∈ X) (hrv : oneCellB rv = true) :
    Does Tryz.prog O 23 #[ptrV x.ga, .int .i64 i] F (VE x rv :: FE x bad :: d.E x :: (d.bs ++ X)) (fun v F' H' => v = noneV ∧ ∃ (a : Nat) (r : Rf) (d' : Dk), r.ok F' ∧ r.p = (PI.new i (scanP nilI d.b).1).rest ∧ d'.bf.ok d'.b.length ∧ d'.b = d.b.take (scanP nilI d.b).2 ∧
      ((d'.sure = d.sure ∧ (scanP nilI d.b).2 = d.b.length) ∨ d'.sure = (scanP nilI d.b).2) ∧ d'.ops ≤ d.ops + 1 ∧ H' = RfH a r (VE x (ptrV a) :: FE x bad :: d'.E x :: (d'.bs ++ X))) := by
  refine does_of_run (args := [_, _]) Tryz.func23 rfl rfl ?_
  refine r_seq (r_region rfl (o_vl rfl rfl (v_move rfl) (o_vl rfl rfl (v_nilCheck rfl) (o_vl rfl rfl (v_field (k := 0) rfl rfl rfl) (o_vl rfl rfl (v_load (v := .slice (some ⟨lb, 0, none⟩) n c) rfl rfl (by rw [← hlv]; exact g5cell (x := x) (bad := bad) 0 (by simp) rfl)) (o_vl rfl rfl (v_move rfl) (o_vl rfl rfl (v_index1 rfl rfl rfl rfl hin) (o_vl rfl rfl (v_load (v := ptrV x.ma) rfl rfl (cell_own (cs := cs) (n := N) (by simp [hmem]) (by rw [Nat.zero_add]; exact hcs))) (o_vl rfl rfl (v_nilCheck rfl) (o_vl rfl rfl (v_field (k := 1) rfl rfl rfl) (o_vl rfl rfl (v_load rfl rfl (vcell (x := x) (rv := rv) 1 (by simp [RfH_eq]) rfl)) ?_)))))))))))
  refine j_heap (H' := cat [[VE x rv], [FE x bad], [d.E x], d.bs, X]) rfl ?_
  refine j_sel (H' := d.E x :: (d.bs ++ (VE x rv :: (FE x bad :: (X))))) [[VE x rv], [FE x bad], [d.E x], d.bs, X] [2, 3, 0, 1, 4] rfl rfl rfl ?_
  refine o_call rfl rfl rfl rfl (c_call callable46 rfl) (wal_Open2 _ _ x.da d.bf d.b d.sure d.ops _ hbf hlen (by omega)) ?_
  rintro v' F1 H' ⟨_, p, bf2, sure2, ops2, hp, hpl, hpp, rfl, hbf2, hsu, hop2, rfl⟩ hF1
  obtain ⟨d', hd'⟩ : ∃ d' : Dk, d' = ⟨bf2, d.b.take (scanP nilI d.b).2, sure2, ops2⟩ := ⟨_, rfl⟩
  refine j_heap (H' := cat [[d'.E x], d'.bs, [VE x rv], [FE x bad], X]) (by rw [hd']; rfl) ?_
  refine j_sel (H' := VE x rv :: (FE x bad :: (d'.E x :: (d'.bs ++ (X))))) [[d'.E x], d'.bs, [VE x rv], [FE x bad], X] [2, 3, 0, 1, 4] rfl rfl rfl ?_
  have hone := hp.one
  refine o_vl rfl rfl (v_move rfl) (o_vl rfl rfl (v_extract rfl rfl) (o_vl rfl rfl (v_extract rfl rfl) (o_act rfl rfl rfl rfl (a_alloc rfl) ?_)))
  rintro v' H' ⟨y, rfl, rfl⟩
  refine o_act0 rfl rfl rfl (a_store (sz := 7) (v := .agg p.cells.toArray) 0 rfl rfl rfl hone rfl rfl (Nat.le_of_ble_eq_true rfl)) ?_
  refine j_heap (H' := .mem y p.cells 7 :: (VE x rv :: FE x bad :: d'.E x :: (d'.bs ++ X))) rfl ?_
  refine o_vl rfl rfl (v_assign rfl) (o_end (r_seq (r_region rfl (o_vl rfl rfl (v_move rfl) (o_vl rfl rfl (v_loadAgg (sz := 7) (cs := p.cells) rfl rfl rfl rfl (fun j c hc => by rw [Nat.zero_add]; exact cell_own (cs := p.cells) (n := 7) (List.mem_cons_self ..) hc)) ?_)))))
  refine j_drop (List.sublist_cons_self _ _) ?_
  rw [← hpp] at hn hB
  refine o_call rfl rfl rfl rfl (c_call callable47 rfl) (r_New _ _ i p _ hp (lgNew_of hn) hB) ?_
  rintro v' F1 H' ⟨rfl, a, r, hr, hrp, rfl, rfl⟩ _
  rcases (show bad = true ∨ bad = false by cases bad <;> simp) with hb | hb
  · skip
    refine o_vl rfl rfl (v_move rfl) (o_vl rfl rfl (v_extract rfl rfl) (o_vl rfl rfl (v_extract rfl rfl) (o_vl rfl rfl (v_assign rfl) (o_vl rfl rfl (v_assign rfl) (o_end (r_seq (r_region rfl (o_vl rfl rfl (v_move rfl) (o_vl rfl rfl (v_move rfl) (o_vl rfl rfl (v_nilCheck rfl) (o_vl rfl rfl (v_field (k := 4) rfl rfl rfl) (o_vl rfl rfl (v_load (v := .bool true) rfl rfl (by rw [← hb]; exact g5cell (x := x) (bad := bad) 4 (by simp [RfH_eq]) rfl)) (o_vl rfl rfl (v_move rfl) ?_)))))))))))))
    refine o_sk rfl rfl (o_sk rfl rfl (o_vl rfl rfl (v_pick1 rfl rfl) (o_vl rfl rfl (v_nilCheck rfl) (o_vl rfl rfl (v_field (k := 4) rfl rfl rfl) ?_))))
    refine j_heap (H' := RfH a r ([VE x rv] ++ (FE x bad :: (d'.E x :: (d'.bs ++ X))))) rfl ?_
    refine o_act0 rfl rfl rfl (a_bad (f := x) (b' := bad) [VE x rv] _ rfl rfl (by rw [hb]; rfl)) ?_
    refine j_heap (H' := RfH a r (VE x rv :: FE x bad :: d'.E x :: (d'.bs ++ X))) rfl ?_
    refine o_end (r_region rfl (o_vl rfl rfl (v_move rfl) (o_vl rfl rfl (v_nilCheck rfl) (o_vl rfl rfl (v_field (k := 0) rfl rfl rfl) (o_vl rfl rfl (v_load (v := .slice (some ⟨lb, 0, none⟩) n c) rfl rfl (by rw [← hlv]; exact g5cell (x := x) (bad := bad) 0 (by simp [RfH_eq]) rfl)) (o_vl rfl rfl (v_move rfl) (o_vl rfl rfl (v_index1 rfl rfl rfl rfl hin) (o_vl rfl rfl (v_load (v := ptrV x.ma) rfl rfl (cell_own (cs := cs) (n := N) (by simp [RfH_eq, hmem]) (by rw [Nat.zero_add]; exact hcs))) (o_vl rfl rfl (v_move rfl) (o_vl rfl rfl (v_nilCheck rfl) (o_vl rfl rfl (v_field (k := 0) rfl rfl rfl) ?_)))))))))))
    refine j_perm (box_in a r (VE x rv) _).symm ?_
    refine o_act0 rfl rfl rfl (a_store1 0 (b := x.ma) (n := 2) (cs := [rv, ptrV x.da]) rfl rfl rfl rfl rfl (Nat.le_of_ble_eq_true rfl)) ?_
    refine j_heap (H' := VE x (ptrV a) :: RfH a r (FE x bad :: d'.E x :: (d'.bs ++ X))) rfl ?_
    refine j_perm (box_in a r (VE x (ptrV a)) _) ?_
    refine o_end ?_
    exact r_fall0 Tryz.func23 rfl ⟨⟨rfl, a, r, d', hr, by rw [hrp, hpp], by rw [hd']; exact hbf2, by rw [hd'], by rw [hd']; exact hsu, by rw [hd']; exact hop2, rfl⟩, hF1⟩
  · skip
    refine o_vl rfl rfl (v_move rfl) (o_vl rfl rfl (v_extract rfl rfl) (o_vl rfl rfl (v_extract rfl rfl) (o_vl rfl rfl (v_assign rfl) (o_vl rfl rfl (v_assign rfl) (o_end (r_seq (r_region rfl (o_vl rfl rfl (v_move rfl) (o_vl rfl rfl (v_move rfl) (o_vl rfl rfl (v_nilCheck rfl) (o_vl rfl rfl (v_field (k := 4) rfl rfl rfl) (o_vl rfl rfl (v_load (v := .bool false) rfl rfl (by rw [← hb]; exact g5cell (x := x) (bad := bad) 4 (by simp [RfH_eq]) rfl)) (o_vl rfl rfl (v_move rfl) ?_)))))))))))))
    refine o_vl rfl rfl (v_move rfl) (o_vl rfl rfl (v_neq rfl rfl) ?_)
    refine j_slot 35 rfl (v' := .bool false) rfl ?_
    refine o_vl rfl rfl (v_pick0 rfl rfl) (o_vl rfl rfl (v_nilCheck rfl) (o_vl rfl rfl (v_field (k := 4) rfl rfl rfl) ?_))
    refine j_heap (H' := RfH a r ([VE x rv] ++ (FE x bad :: (d'.E x :: (d'.bs ++ X))))) rfl ?_
    refine o_act0 rfl rfl rfl (a_bad (f := x) (b' := bad) [VE x rv] _ rfl rfl (by rw [hb]; rfl)) ?_
    refine j_heap (H' := RfH a r (VE x rv :: FE x bad :: d'.E x :: (d'.bs ++ X))) rfl ?_
    refine o_end (r_region rfl (o_vl rfl rfl (v_move rfl) (o_vl rfl rfl (v_nilCheck rfl) (o_vl rfl rfl (v_field (k := 0) rfl rfl rfl) (o_vl rfl rfl (v_load (v := .slice (some ⟨lb, 0, none⟩) n c) rfl rfl (by rw [← hlv]; exact g5cell (x := x) (bad := bad) 0 (by simp [RfH_eq]) rfl)) (o_vl rfl rfl (v_move rfl) (o_vl rfl rfl (v_index1 rfl rfl rfl rfl hin) (o_vl rfl rfl (v_load (v := ptrV x.ma) rfl rfl (cell_own (cs := cs) (n := N) (by simp [RfH_eq, hmem]) (by rw [Nat.zero_add]; exact hcs))) (o_vl rfl rfl (v_move rfl) (o_vl rfl rfl (v_nilCheck rfl) (o_vl rfl rfl (v_field (k := 0) rfl rfl rfl) ?_)))))))))))
    refine j_perm (box_in a r (VE x rv) _).symm ?_
    refine o_act0 rfl rfl rfl (a_store1 0 (b := x.ma) (n := 2) (cs := [rv, ptrV x.da]) rfl rfl rfl rfl rfl (Nat.le_of_ble_eq_true rfl)) ?_
    refine j_heap (H' := VE x (ptrV a) :: RfH a r (FE x bad :: d'.E x :: (d'.bs ++ X))) rfl ?_
    refine j_perm (box_in a r (VE x (ptrV a)) _) ?_
    refine o_end ?_
    exact r_fall0 Tryz.func23 rfl ⟨⟨rfl, a, r, d', hr, by rw [hrp, hpp], by rw [hd']; exact hbf2, by rw [hd'], by rw [hd']; exact hsu, by rw [hd']; exact hop2, rfl⟩, hF1⟩
def img (n : Nat) : PI := ⟨0, -1, 0, 0, 2 ^ n - 1, [], []⟩
def PR.first (n i : Nat) : PR := (PI.new i (img n)).rest
def PS.new (n : Nat) : PS := ⟨(List.range n).map (PR.first n), [], [], [], false, List.replicate n ((img n).whole, (img n).whole.length), 0⟩
theorem vt_lt : ∀ n, n ≤ 5 → 1 ≤ n → 2 ^ n - 1 < 128 ∧ 2 ^ n - 1 ≠ 0 := by decide
theorem img_B (n i : Nat) (hn : n ≤ 5) (h1 : 1 ≤ n) (hi : i < 7) : (PI.new i (img n)).B := by
  have hd : ownD i ≤ 3 := (own_dr hi).1
  have hv := (vt_lt n hn h1).1
  exact ⟨hi, hd, by simp [PI.new, img], by simp [PI.new, img], by simp [PI.new, img], by simp [PI.new, img], by simp [PI.new, img], by simp [PI.new, img], by simp [PI.new, img], by simp [PI.new, img], hv, by simp [PI.new, img], by simp [PI.new, img], by simp [PI.new, img], by simp [PI.new, img], by simp [PI.new, img], by simp [PI.new, img], rfl, rfl,
    fun j => by simp only [PI.new, List.getD_eq_getElem?_getD, List.getElem?_replicate]; split <;> simp, fun j => by simp only [PI.new, List.getD_eq_getElem?_getD, List.getElem?_replicate]; split <;> simp, by simp [PI.new], by simp [PI.new], by simp [PI.new], by simp [PI.new, img], by simp [PI.new, img], hv, by simp [PI.new, img]⟩
theorem img_scan (n : Nat) (hn : n ≤ 5) (h1 : 1 ≤ n) : scanP nilI (img n).whole = (img n, (img n).whole.length) := by
  obtain ⟨hv, hv0⟩ := vt_lt n hn h1
  have h := whole_reaches (img n) (.inr hv0) (by simp [img]) (by simp [img]) (by simp [img]) (by simp [img]) (by simp [img]) (by show 2 ^ n - 1 < _; omega) (by simp [img]) (by simp [img]) (by simp [img]) []
  rw [List.append_nil, scanP_none (b := []) rfl] at h
  exact h
theorem img_len (n : Nat) : (img n).whole.length ≤ 100 := by
  have hsn : (snB 0 0 (2 ^ n - 1) []).length ≤ 50 := by
    unfold snB
    split <;> simp
  have h2 := hdrB_le true 0 (-1)
  show (snB 0 0 (2 ^ n - 1) [] ++ (hdrB true 0 (-1) ++ entsB [])).length ≤ 100
  simp only [List.length_append, entsB, List.flatMap_nil, List.length_nil]
  omega
set_option maxHeartbeats 2000000 in
theorem g_new (O : World) (F : Fz) (n : Nat) (Fr : List Ent) (hn : n ≤ 5) (h1 : 1 ≤ n) :
    Does Tryz.prog O 9 #[.int .i64 n] F Fr (fun v F' H' => ∃ g : Gr, g.ok F' ∧ g.ps = PS.new n ∧ v = ptrV g.ga ∧ H' = g.H Fr) := by
  refine does_of_run (args := [_]) Tryz.func9 rfl rfl ?_
  have hil := img_len n
  obtain ⟨hv, hv0⟩ := vt_lt n hn h1
  refine r_seq (r_region rfl (o_vl rfl rfl (v_assign rfl) (o_end (r_seq (r_region rfl (o_act rfl rfl rfl rfl (a_makeMapK .u64) ?_))))))
  rintro v' H' ⟨lm, rfl, rfl⟩
  refine o_act rfl rfl rfl rfl (a_makeMapK .u64) ?_
  rintro v' H' ⟨dm, rfl, rfl⟩
  refine o_vl rfl rfl (v_build rfl rfl) (o_act rfl rfl rfl rfl (a_box rfl) ?_)
  rintro v' H' ⟨ga, rfl, rfl⟩
  refine o_vl rfl rfl (v_assign rfl) (o_end (r_seq (r_seq (r_region rfl (o_vl rfl rfl (v_assign rfl) (o_end (r_block ?_)))))))
  obtain ⟨g0, hg0⟩ : ∃ g0 : Gr, g0 = ⟨ga, lm, dm, .nil, [], .nil, [], false, [], [], 0⟩ := ⟨_, rfl⟩
  refine j_heap (H' := g0.E :: g0.D :: g0.L :: Fr) (by rw [hg0]; rfl) ?_
  refine j_sel (H' := g0.E :: (g0.L :: (g0.D :: (Fr)))) [[g0.E], [g0.D], [g0.L], Fr] [0, 2, 1, 3] rfl rfl rfl ?_
  refine j_heap (H' := g0.H Fr) (by rw [hg0]; rfl) ?_
  refine r_loop (fun q : Gr × Fz × Nat => F.le q.2.1 ∧ q.1.ok q.2.1 ∧ q.1.ga = ga ∧ q.2.2 ≤ n ∧ q.1.ms.length = q.2.2 ∧ q.1.ps = ⟨(List.range q.2.2).map (PR.first n), [], [], [], false, List.replicate q.2.2 ((img n).whole, (img n).whole.length), 0⟩) (fun q => [(0, .int .i64 n), (3, ptrV ga), (4, .int .i64 q.2.2)]) (fun q => q.2.1) (fun q => q.1.H Fr) (fun q => n - q.2.2) (g0, F, 0) ⟨Fz.le_refl _, ?_, by rw [hg0], Nat.zero_le _, by rw [hg0]; rfl, by rw [hg0]; rfl⟩ ⟨rfl, rfl, rfl, trivial⟩ rfl rfl ?_
  · rw [hg0]
    exact ⟨Nat.zero_le _, rfl, rfl, by simp, Nat.zero_le _, by simp, by simp⟩
  rintro ⟨g, F1, i⟩ ⟨hF1, hg, hga, hin, hlen, hps⟩ IH
  dsimp only at hF1 hg hga hin hlen hps ⊢
  rw [← hga]
  refine r_seq (r_seq (r_region rfl (o_vl rfl rfl (v_move rfl) (o_vl rfl rfl (v_move rfl) (o_vl rfl rfl (v_lss rfl rfl) (o_end (r_if rfl (fun h5 => ?_) (fun h5 => ?_))))))))
  · have hil2 : i < n := by omega
    refine r_skip (r_seq (r_block (r_seq (r_region rfl (o_call rfl rfl rfl rfl (c_call callable27 rfl) (dk_New _ _ _) ?_)))))
    rintro v' F1 H' ⟨rfl, da, rfl, rfl⟩ _
    obtain ⟨q, hq⟩ : ∃ q : Im, q = ⟨0, -1, 0, 0, 2 ^ n - 1, .slice none 0 0, [], .slice none 0 0, []⟩ := ⟨_, rfl⟩
    have hqok : q.ok F1 := by
      rw [hq]
      exact ⟨by simp, by simp, by simp, by simp, by simp, by dsimp only; omega, Sl.nil _ _ _, by simp, Sl.nil _ _ _, by simp⟩
    have hqp : q.pure = img n := by rw [hq]; rfl
    have hpow : ((2 ^ n - 1 : Nat) : Int) = ((2 ^ n : Nat) : Int) - 1 := by have := Nat.two_pow_pos n; omega
    refine o_vl rfl rfl (v_assign rfl) (o_end (r_seq (r_region rfl (o_vl rfl rfl (v_move rfl) (o_vl rfl rfl (v_buildZ (z := [.int .u64 0, .int .i64 0]) (places := [(0, 1), (1, 1)]) (cs := [.int .u64 0, .int .i64 (-1)]) rfl rfl (by kernel_rfl) (by kernel_rfl) (by kernel_rfl)) (o_vl rfl rfl (v_move rfl) (o_vl rfl rfl (v_shl (m := 1) rfl rfl (by omega) (shl1 n (by omega))) (o_vl rfl rfl (v_sub rfl rfl (r := ((2 ^ n - 1 : Nat) : Int)) (by rw [hpow]; exact wrap_u64 (by omega) (by omega))) (o_vl rfl rfl (v_build rfl rfl) (o_vl rfl rfl (v_build rfl rfl) ?_))))))))))
    refine j_slot 21 rfl (v' := .agg #[.int .u64 0, .int .u64 0, .int .u64 ((2 ^ n - 1 : Nat) : Int), .slice none 0 0]) rfl ?_
    refine j_slot 22 rfl (v' := .agg q.cells.toArray) (by rw [hq]; rfl) ?_
    refine j_heap (H' := DkE da .nil [] 0 0 :: (Bf.nil.ents 1 (bytesV []) ++ g.H Fr)) rfl ?_
    refine o_call rfl rfl rfl rfl (c_call callable28 rfl) (wal_Compact _ _ da .nil [] 0 0 q _ (by omega) hqok (by rw [hq]; simp)) ?_
    rintro v' F1 H' ⟨rfl, rfl, bf', hok', rfl⟩ _
    rw [hqp] at hok' ⊢
    obtain ⟨d, hd⟩ : ∃ d : Dk, d = ⟨bf', (img n).whole, (img n).whole.length, 1⟩ := ⟨_, rfl⟩
    obtain ⟨D, hD⟩ : ∃ D : Ent, D = DkE da d.bf d.b d.sure d.ops := ⟨_, rfl⟩
    refine j_heap (H' := D :: (d.bs ++ g.H Fr)) (by rw [hD, hd]; rfl) ?_
    refine o_end (r_seq (r_region rfl (o_vl rfl rfl (v_move rfl) (o_vl rfl rfl (v_move rfl) (o_vl rfl rfl (v_nilCheck rfl) (o_vl rfl rfl (v_field (k := 0) rfl rfl rfl) (o_vl rfl rfl (v_load rfl rfl (gcell0 (g := g) 0 (by simp [Gr.H]) rfl)) (o_vl rfl rfl (v_move rfl) (o_vl rfl rfl (v_build rfl rfl) (o_act rfl rfl rfl rfl (a_box rfl) ?_))))))))))
    rintro v' H' ⟨ma, rfl, rfl⟩
    refine j_heap (H' := .mem ma [nilP, ptrV da] 2 :: D :: (d.bs ++ g.H Fr)) rfl ?_
    refine o_act rfl rfl rfl rfl (a_buildS (sz := 1) (cs := [ptrV ma]) [.tmp 31] rfl rfl rfl rfl rfl rfl rfl rfl rfl rfl) ?_
    rintro v' H' ⟨y, rfl, rfl⟩
    obtain ⟨R1, hR1⟩ : ∃ R1, R1 = g.wf.ents (mgV g.net) ++ (g.L :: g.D :: (msH g.ms ++ Fr)) := ⟨_, rfl⟩
    refine j_heap (H' := (.mem y [ptrV ma] 1 :: .mem ma [nilP, ptrV da] 2 :: D :: (d.bs ++ [g.E])) ++ (g.lb.ents 1 (msV g.ms) ++ R1)) (by rw [hR1]; simp [Gr.H]) ?_
    have hml : (msV g.ms).length = g.ms.length * 1 := by simp [msV]
    have hsy : ∀ F H, Ent.mem y [ptrV ma] 1 ∈ H → Sl F H 1 (.slice (some ⟨y, 0, none⟩) 1 1) 1 [ptrV ma] := fun F H hm => ⟨_, 1, rfl, rfl, Nat.le_refl _, by simp, fun j c hj => ⟨y, 0, rfl, by rw [Nat.zero_add]; exact cell_own (cs := [ptrV ma]) (n := 1) hm hj⟩⟩
    refine o_act rfl rfl rfl rfl (a_appendP (bf := g.lb) (n := g.ms.length) (m := 1) (sz := 1) (bytes := 8) (xs := msV g.ms) (ys := [ptrV ma]) _ ⟨⟨_, _, _, rfl, rfl, rfl, rfl, rfl, rfl⟩, by decide⟩ rfl hg.lb hml rfl rfl (hsy _ _ (by simp)) rfl (by unfold maxLen; omega) (by omega)) ?_
    rintro v' H' ⟨bf2, rfl, hok2, rfl⟩
    rw [hlen] at hok2 ⊢
    refine j_heap (H' := cat [[.mem y [ptrV ma] 1], [.mem ma [nilP, ptrV da] 2], [D], d.bs, [g.E], bf2.ents 1 (msV g.ms ++ [ptrV ma]), R1]) (by simp [cat]) ?_
    refine j_sel (H' := g.E :: (.mem ma [nilP, ptrV da] 2 :: (D :: (d.bs ++ (bf2.ents 1 (msV g.ms ++ [ptrV ma]) ++ (R1)))))) [[.mem y [ptrV ma] 1], [.mem ma [nilP, ptrV da] 2], [D], d.bs, [g.E], bf2.ents 1 (msV g.ms ++ [ptrV ma]), R1] [4, 1, 2, 3, 5, 6] rfl rfl rfl ?_
    refine o_vl rfl rfl (v_nilCheck rfl) (o_vl rfl rfl (v_field (k := 0) rfl rfl rfl) (o_act0 rfl rfl rfl (a_store1 0 (b := g.ga) (n := 5) (cs := [g.lv, g.nv, .map (some g.lm), .map (some g.dm), .bool g.bad]) rfl rfl rfl rfl rfl (Nat.le_of_ble_eq_true rfl)) ?_))
    obtain ⟨lb, c, hbf2⟩ : ∃ lb c, bf2 = .at lb c := by
      cases hb : bf2 with
      | nil =>
        rw [hb] at hok2
        have : i + 1 = 0 := hok2
        omega
      | «at» b c => exact ⟨b, c, rfl⟩
    obtain ⟨x, hx⟩ : ∃ x : Fx, x = ⟨g.ga, bf2.val (i + 1), g.nv, g.lm, g.dm, ma, 0, da⟩ := ⟨_, rfl⟩
    refine j_heap (H' := cat [[FE x g.bad], [VE x nilP], [d.E x], d.bs, bf2.ents 1 (msV g.ms ++ [ptrV ma]), R1]) (by rw [hx, hD]; rfl) ?_
    refine j_sel (H' := VE x nilP :: (FE x g.bad :: (d.E x :: (d.bs ++ (bf2.ents 1 (msV g.ms ++ [ptrV ma]) ++ (R1)))))) [[FE x g.bad], [VE x nilP], [d.E x], d.bs, bf2.ents 1 (msV g.ms ++ [ptrV ma]), R1] [1, 0, 2, 3, 4, 5] rfl rfl rfl ?_
    have hxg : x.ga = g.ga := by rw [hx]
    rw [← hxg]
    refine o_end (r_region rfl (o_vl rfl rfl (v_move rfl) (o_vl rfl rfl (v_move rfl) ?_)))
    have hdb : d.b = (img n).whole := by rw [hd]
    have hds : d.sure = (img n).whole.length := by rw [hd]
    have hdo : d.ops = 1 := by rw [hd]
    have hscan := img_scan n hn h1
    refine o_call rfl rfl rfl rfl (c_call callable23 rfl) (g_boot1 _ _ x nilP i g.bad d _ (by rw [hd]; exact hok') (by rw [hdb]; omega) (by omega) (by omega) (by rw [hdb, hscan]; intro i hi; simp [img] at hi) (by rw [hdb, hscan]; exact img_B n i hn h1 (by omega)) (lb := lb) (n := i + 1) (N := c * 1) (c := c) (cs := msV g.ms ++ [ptrV ma]) (by rw [hx, hbf2]; rfl) (by omega) (by rw [hx, List.getElem?_append_right (by rw [hml]; omega), hml]; simp [hlen]) (by rw [hbf2]; exact List.mem_append_left _ (List.mem_singleton.2 rfl)) rfl) ?_
    rintro v' F2 H' ⟨rfl, a, r, d2, hr, hrp, hbf3, hd2b, hd2s, hd2o, rfl⟩ hF2
    rw [hdb, hscan] at hrp hd2b hd2s
    dsimp only at hrp hd2b hd2s
    rw [List.take_length] at hd2b
    have hd2s : d2.sure = (img n).whole.length := by rcases hd2s with ⟨h, _⟩ | h; rw [h, hds]; exact h
    obtain ⟨mb, hmb⟩ : ∃ mb : Mb, mb = ⟨ma, a, da, r, d2⟩ := ⟨_, rfl⟩
    obtain ⟨g2, hg2⟩ : ∃ g2 : Gr, g2 = { g with lb := bf2, ms := g.ms ++ [mb] } := ⟨_, rfl⟩
    have hms2 : msV (g.ms ++ [mb]) = msV g.ms ++ [ptrV ma] := by rw [hmb]; simp [msV]
    have hml2 : (g.ms ++ [mb]).length = i + 1 := by simp [hlen]
    rw [hR1]
    have hperm : (RfH a r (VE x (ptrV a) :: FE x g.bad :: d2.E x :: (d2.bs ++ (bf2.ents 1 (msV g.ms ++ [ptrV ma]) ++ (g.wf.ents (mgV g.net) ++ (g.L :: g.D :: (msH g.ms ++ Fr))))))).Perm (g2.H Fr) := by
      have hp : (cat [RfP a r, [VE x (ptrV a)], [FE x g.bad], [d2.E x], d2.bs, bf2.ents 1 (msV g.ms ++ [ptrV ma]), g.wf.ents (mgV g.net), [g.L], [g.D], msH g.ms, Fr]).Perm _ := selPerm [RfP a r, [VE x (ptrV a)], [FE x g.bad], [d2.E x], d2.bs, bf2.ents 1 (msV g.ms ++ [ptrV ma]), g.wf.ents (mgV g.net), [g.L], [g.D], msH g.ms, Fr] [2, 5, 6, 7, 8, 9, 0, 1, 3, 4, 10] rfl rfl rfl rfl
      refine (List.Perm.of_eq ?_).trans (hp.trans (List.Perm.of_eq ?_))
      · rw [RfH_eq]; simp [cat]
      · have e1 : g2.E = FE x g.bad := by
          rw [hg2, hx]
          unfold Gr.E Gr.lv FE GE
          dsimp only
          rw [hml2]
        have e2 : msH g2.ms = msH g.ms ++ (RfP a r ++ (VE x (ptrV a) :: d2.E x :: d2.bs)) := by
          rw [hg2, hmb, hx]
          simp [msH, Mb.H]
          exact ⟨rfl, rfl⟩
        unfold Gr.H
        rw [e1, e2]
        have e3 : msV g2.ms = msV g.ms ++ [ptrV ma] := by rw [hg2]; exact hms2
        rw [e3, hg2]
        simp [cat, pick1]
        exact ⟨rfl, rfl⟩
    refine j_perm hperm ?_
    refine o_end (r_inBlock (r_region rfl (o_vl rfl rfl (v_move rfl) (o_vl rfl rfl (v_add rfl rfl (r := ((i + 1 : Nat) : Int)) (wrap_i64 (by omega) (by omega))) (o_vl rfl rfl (v_assign rfl) (o_end ?_))))))
    refine j_keep ?_ (IH (g2, F2, i + 1) ⟨Fz.le_trans hF1 hF2, ?_, ?_, by dsimp only; omega, ?_, ?_⟩ (by dsimp only; omega))
    · exact ⟨rfl, by rw [← hga, hxg]; rfl, rfl, trivial⟩
    · rw [hg2]
      refine ⟨by rw [hml2]; omega, by rw [hml2]; exact hok2, hg.wf, fun z hz => (hg.net z hz).frz hF2, hg.nl, ?_, fun z hz => (hg.dn z hz).frz hF2⟩
      intro z hz
      rcases List.mem_append.1 hz with hz | hz
      · exact ⟨(hg.ms z hz).1.frz hF2, (hg.ms z hz).2⟩
      · rw [List.mem_singleton.1 hz, hmb]
        exact ⟨hr, ⟨hbf3, by dsimp only; rw [hd2b]; omega, by dsimp only; omega, by dsimp only; rw [hd2b, hd2s]; exact Nat.le_refl _⟩⟩
    · rw [hg2]; exact hga
    · rw [hg2]; exact hml2
    · have : g2.ps = { g.ps with ms := g.ps.ms ++ [r.p], ds := g.ps.ds ++ [d2.pure] } := by
        rw [hg2, hmb]
        unfold Gr.ps
        simp
      rw [this, hps]
      dsimp only
      rw [List.range_succ, List.map_append, hrp, show d2.pure = ((img n).whole, (img n).whole.length) by unfold Dk.pure; rw [hd2b, hd2s], List.replicate_succ']
      rfl
  · obtain rfl : i = n := by omega
    refine r_exit rfl (r_seq (r_region rfl (o_vl rfl rfl (v_move rfl) (o_vl rfl rfl (v_assign rfl) (o_end ?_)))))
    exact r_ret1 Tryz.func9 rfl rfl ⟨⟨g, hg, hps, rfl, rfl⟩, hF1⟩
end Go.SX
namespace Go.SX
open Go Go.Proofs
set_option maxRecDepth 4000
theorem g_dk {O : World} {F : Fz} {f : FuncId} {args : Array Value} {P : Value → Prop} {g : Gr} {i : Nat} {m : Mb} {d' : List UInt8 × Nat} {k' : Nat} {Fr : List Ent} (hg : g.ok F) (hi : g.ms[i]? = some m) (hk' : g.k ≤ k')
    (hc : ∀ X, Does Tryz.prog O f args F (DkE m.da m.d.bf m.d.b m.d.sure m.d.ops :: (m.d.bf.ents 1 (bytesV m.d.b) ++ X)) (fun r F' H' => P r ∧ ∃ d2 : Dk, d2.ok k' ∧ d2.pure = d' ∧ H' = DkE m.da d2.bf d2.b d2.sure d2.ops :: (d2.bf.ents 1 (bytesV d2.b) ++ X))) :
    Does Tryz.prog O f args F (g.H Fr) (fun r F' H' => P r ∧ ∃ g' : Gr, g'.ok F' ∧ g'.ps = { g.ps with ds := g.ps.ds.set i d', k := k' } ∧ g'.ga = g.ga ∧ H' = g'.H Fr) := by
  have hil : i < g.ms.length := by
    rcases Nat.lt_or_ge i g.ms.length with h | h
    · exact h
    · rw [List.getElem?_eq_none h] at hi; cases hi
  have hsp := mid hil
  have hi2 := hi
  rw [List.getElem?_eq_getElem hil] at hi2
  have hm1 := Option.some.inj hi2
  rw [hm1] at hsp
  have hmi : m ∈ g.ms := List.mem_of_getElem? hi
  obtain ⟨S, hS⟩ : ∃ S, S = g.side (g.ms.take i) (g.ms.drop (i + 1)) Fr := ⟨_, rfl⟩
  have hfront := fun (d : Dk) => dk_front m.ra m.r [ME (g.fx m), GE (g.fx m) g.bad, LE (g.fx m) g.ld, DE (g.fx m) g.dn] (d.E (g.fx m)) d.bs S
  have hperm : (g.H Fr).Perm (DkE m.da m.d.bf m.d.b m.d.sure m.d.ops :: (m.d.bf.ents 1 (bytesV m.d.b) ++ RfH m.ra m.r ([ME (g.fx m), GE (g.fx m) g.bad, LE (g.fx m) g.ld, DE (g.fx m) g.dn] ++ S))) := by
    have h1 := g.focus hsp Fr
    rw [← hS] at h1
    exact h1.trans (hfront m.d)
  refine does_permB hperm (hc _) ?_
  rintro v F' H' hle ⟨hP, d2, hd2, hdp, rfl⟩
  obtain ⟨m', hm'⟩ : ∃ m' : Mb, m' = ⟨m.ma, m.ra, m.da, m.r, d2⟩ := ⟨_, rfl⟩
  have hp := g.unfocus hil hm1 m' (by rw [hm']) (by rw [hm']) (by rw [hm']) g.bad g.ld g.dn k' Fr
  obtain ⟨g2, hg2⟩ : ∃ g2 : Gr, g2 = { g with ms := g.ms.set i m', k := k' } := ⟨_, rfl⟩
  refine ⟨g2.H Fr, ?_, hP, g2, ?_, ?_, by rw [hg2], rfl⟩
  · refine List.Perm.trans (hfront d2).symm ?_
    rw [hg2]
    rw [← hS, hm'] at hp
    rw [hm']
    exact hp
  · rw [hg2]
    refine ⟨?_, ?_, hg.wf, fun z hz => (hg.net z hz).frz hle, hg.nl, fun z hz => ?_, fun z hz => (hg.dn z hz).frz hle⟩
    · simpa using hg.len
    · simpa using hg.lb
    · rcases List.mem_or_eq_of_mem_set hz with hz | rfl
      · exact ⟨(hg.ms z hz).1.frz hle, (hg.ms z hz).2.up hk'⟩
      · rw [hm']
        exact ⟨(hg.ms m hmi).1.frz hle, hd2⟩
  · have h3 := g.ps_set i m' g.bad g.ld g.dn k'
    rw [hg2, h3, hm']
    dsimp only
    rw [hdp]
    have hms : g.ps.ms.set i m.r.p = g.ps.ms := by
      apply List.ext_getElem?
      intro j
      rw [List.getElem?_set]
      split
      · rename_i hij
        subst hij
        have : g.ps.ms[i]? = some m.r.p := by simp [Gr.ps, hi]
        rw [this]
        split
        · rfl
        · rename_i hn
          exfalso
          apply hn
          simpa [Gr.ps] using hil
      · rfl
    rw [hms]
    rfl
theorem g_at2 {O : World} {F : Fz} {f : FuncId} {args : Array Value} {P : Value → Prop} {g : Gr} {i : Nat} {m : Mb} {p' : PR} {Fr : List Ent} (hg : g.ok F) (hi : g.ms[i]? = some m)
    (hc : ∀ X, Does Tryz.prog O f args F (RfH m.ra m.r X) (fun r F' H' => P r ∧ ∃ q : Rf, q.ok F' ∧ q.p = p' ∧ H' = RfH m.ra q X)) :
    Does Tryz.prog O f args F (g.H Fr) (fun r F' H' => P r ∧ ∃ (g' : Gr) (m' : Mb), g'.ok F' ∧ g'.ps = { g.ps with ms := g.ps.ms.set i p' } ∧ g'.ga = g.ga ∧ g'.ms[i]? = some m' ∧ m'.ma = m.ma ∧ m'.ra = m.ra ∧ m'.da = m.da ∧ m'.d = m.d ∧ m'.r.p = p' ∧ g'.k = g.k ∧ H' = g'.H Fr) := by
  have hil : i < g.ms.length := by
    rcases Nat.lt_or_ge i g.ms.length with h | h
    · exact h
    · rw [List.getElem?_eq_none h] at hi; cases hi
  have hsp := mid hil
  have hi2 := hi
  rw [List.getElem?_eq_getElem hil] at hi2
  have hm1 := Option.some.inj hi2
  rw [hm1] at hsp
  have hmi : m ∈ g.ms := List.mem_of_getElem? hi
  refine does_permB (g.focus hsp Fr) (hc _) ?_
  rintro v F' H' hle ⟨hP, q, hq, hqp, rfl⟩
  obtain ⟨m', hm'⟩ : ∃ m' : Mb, m' = ⟨m.ma, m.ra, m.da, q, m.d⟩ := ⟨_, rfl⟩
  have hp := g.unfocus hil hm1 m' (by rw [hm']) (by rw [hm']) (by rw [hm']) g.bad g.ld g.dn g.k Fr
  obtain ⟨g2, hg2⟩ : ∃ g2 : Gr, g2 = { g with ms := g.ms.set i m' } := ⟨_, rfl⟩
  refine ⟨g2.H Fr, ?_, hP, g2, m', ?_, ?_, by rw [hg2], ?_, by rw [hm'], by rw [hm'], by rw [hm'], by rw [hm'], by rw [hm']; exact hqp, by rw [hg2], rfl⟩
  · rw [hm'] at hp
    rw [hg2, hm']
    exact hp
  · rw [hg2]
    refine ⟨?_, ?_, hg.wf, fun z hz => (hg.net z hz).frz hle, hg.nl, fun z hz => ?_, fun z hz => (hg.dn z hz).frz hle⟩
    · simpa using hg.len
    · simpa using hg.lb
    · rcases List.mem_or_eq_of_mem_set hz with hz | rfl
      · exact ⟨(hg.ms z hz).1.frz hle, (hg.ms z hz).2⟩
      · rw [hm']
        exact ⟨hq, (hg.ms m hmi).2⟩
  · have h3 := g.ps_set i m' g.bad g.ld g.dn g.k
    rw [hg2, h3, hm']
    dsimp only
    rw [ds_same hi, hqp]
    rfl
  · rw [hg2]
    show (g.ms.set i m')[i]? = some m'
    rw [List.getElem?_set, if_pos rfl, if_pos hil]
theorem g_rdF {O : World} {F : Fz} {f : FuncId} {args : Array Value} {R : Value → Fz → Prop} {g : Gr} {i : Nat} {m : Mb} {Fr : List Ent} (hi : g.ms[i]? = some m) (hc : ∀ X, Does Tryz.prog O f args F (RfH m.ra m.r X) (fun r F' H' => R r F' ∧ H' = RfH m.ra m.r X)) :
    Does Tryz.prog O f args F (g.H Fr) (fun r F' H' => R r F' ∧ H' = g.H Fr) := by
  have hil : i < g.ms.length := by
    rcases Nat.lt_or_ge i g.ms.length with h | h
    · exact h
    · rw [List.getElem?_eq_none h] at hi; cases hi
  have hsp := mid hil
  rw [List.getElem?_eq_getElem hil] at hi
  rw [Option.some.inj hi] at hsp
  refine does_permB (g.focus hsp Fr) (hc _) ?_
  rintro v F' H' hle ⟨hR, rfl⟩
  exact ⟨g.H Fr, (g.focus hsp Fr).symm, hR, rfl⟩
theorem g_crash (O : World) (F : Fz) (g : Gr) (i : Nat) (m : Mb) (k : Nat) (Fr : List Ent) (hg : g.ok F) (hi : g.ms[i]? = some m) (hk : k < 256) (hgk : g.k ≤ 100000) :
    Does Tryz.prog O 22 #[ptrV m.da, .int .i64 k] F (g.H Fr) (fun r F' H' => r = noneV ∧ ∃ g' : Gr, g'.ok F' ∧ g'.ps = { g.ps with ds := g.ps.ds.set i (m.d.b.take (m.d.sure + min k (m.d.b.length - m.d.sure)), m.d.sure + min k (m.d.b.length - m.d.sure)), k := g.k } ∧ g'.ga = g.ga ∧ H' = g'.H Fr) := by
  have hmi : m ∈ g.ms := List.mem_of_getElem? hi
  have hd := (hg.ms m hmi).2
  have hlen := hd.len
  have hops := hd.ops
  have hsure := hd.sure
  refine g_dk (P := fun r => r = noneV) hg hi (Nat.le_refl _) fun X => ?_
  refine (dk_Crash O F m.da m.d.bf m.d.b m.d.sure m.d.ops k X hd.bf (by omega) hd.sure (by omega) (by omega)).mono ?_
  rintro v F' H' _ ⟨rfl, rfl, rfl⟩
  rw [Int.toNat_natCast]
  have hl : (m.d.b.take (m.d.sure + min k (m.d.b.length - m.d.sure))).length = m.d.sure + min k (m.d.b.length - m.d.sure) := by
    rw [List.length_take]
    omega
  exact ⟨rfl, ⟨m.d.bf, m.d.b.take (m.d.sure + min k (m.d.b.length - m.d.sure)), m.d.sure + min k (m.d.b.length - m.d.sure), m.d.ops⟩, ⟨Bf.ok_le hd.bf (by rw [List.length_take]; omega), by dsimp only; rw [hl]; omega, by dsimp only; omega, by dsimp only; omega⟩, rfl, rfl⟩
theorem g_boot (O : World) (F : Fz) (g : Gr) (i : Nat) (m : Mb) (Fr : List Ent) (hg : g.ok F) (hi : g.ms[i]? = some m) (hlen : m.d.b.length ≤ 10000000000) (hgk : g.k ≤ 100000) (hn : lgNewP (scanP nilI m.d.b).1.ix (scanP nilI m.d.b).1.tm (scanP nilI m.d.b).1.l) (hB : (PI.new i (scanP nilI m.d.b).1).B) (hle2 : (scanP nilI m.d.b).2 ≤ m.d.b.length) :
    Does Tryz.prog O 23 #[ptrV g.ga, .int .i64 i] F (g.H Fr) (fun v F' H' => v = noneV ∧ ∃ (g' : Gr) (su : Nat), g'.ok F' ∧ ((su = m.d.sure ∧ (scanP nilI m.d.b).2 = m.d.b.length) ∨ su = (scanP nilI m.d.b).2) ∧ g'.ps = { g.ps with ms := g.ps.ms.set i (PI.new i (scanP nilI m.d.b).1).rest, ds := g.ps.ds.set i (m.d.b.take (scanP nilI m.d.b).2, su), k := g.ps.k + 1 } ∧ g'.ga = g.ga ∧ H' = g'.H Fr) := by
  have hil : i < g.ms.length := by
    rcases Nat.lt_or_ge i g.ms.length with h | h
    · exact h
    · rw [List.getElem?_eq_none h] at hi; cases hi
  have hsp := mid hil
  have hi2 := hi
  rw [List.getElem?_eq_getElem hil] at hi2
  have hm1 := Option.some.inj hi2
  rw [hm1] at hsp
  have hmi : m ∈ g.ms := List.mem_of_getElem? hi
  obtain ⟨hmr, hmd⟩ := hg.ms m hmi
  have hops := hmd.ops
  have hsu := hmd.sure
  have hgl := hg.len
  obtain ⟨lb, c, N, hlv0, hlb⟩ := g.lbv hg hil
  obtain ⟨S, hS⟩ : ∃ S, S = g.side (g.ms.take i) (g.ms.drop (i + 1)) Fr := ⟨_, rfl⟩
  obtain ⟨x, hx⟩ : ∃ x, x = g.fx m := ⟨_, rfl⟩
  have hlm : Ent.mem lb (msV g.ms) N ∈ S := by
    rw [hS]
    unfold Gr.side
    rw [hlb]
    exact List.mem_append_left _ (List.mem_singleton.2 rfl)
  -- what it was is forgotten
  have hp1 : (g.H Fr).Perm (RfP m.ra m.r ++ (VE x (ptrV m.ra) :: FE x g.bad :: m.d.E x :: (m.d.bs ++ (LE x g.ld :: DE x g.dn :: S)))) := by
    have h1 := g.focus hsp Fr
    rw [← hS, ← hx] at h1
    have h2 : FoH x m.r g.bad g.ld g.dn m.d S = cat [RfP m.ra m.r, [VE x (ptrV m.ra)], [FE x g.bad], [LE x g.ld], [DE x g.dn], [m.d.E x], m.d.bs, S] := by
      unfold FoH
      rw [RfH_eq, hx]
      simp [cat]
      rfl
    rw [h2] at h1
    refine h1.trans ((selPerm [RfP m.ra m.r, [VE x (ptrV m.ra)], [FE x g.bad], [LE x g.ld], [DE x g.dn], [m.d.E x], m.d.bs, S] [0, 1, 2, 5, 6, 3, 4, 7] rfl rfl rfl rfl).trans (List.Perm.of_eq ?_))
    simp [cat, pick1]
  have hga : x.ga = g.ga := by rw [hx]; rfl
  rw [← hga]
  have hcs : (msV g.ms)[i]? = some (ptrV x.ma) := by
    rw [hx]
    show (msV g.ms)[i]? = some (ptrV m.ma)
    simp [msV, hi]
  refine does_permB hp1 (does_drop (List.sublist_append_right _ _) (g_boot1 O F x (ptrV m.ra) i g.bad m.d (LE x g.ld :: DE x g.dn :: S) hmd.bf hlen (by omega) (by omega) hn hB (lb := lb) (n := g.ms.length) (N := N) (c := c) (cs := msV g.ms) (by rw [hx]; exact hlv0) hil hcs (List.mem_cons_of_mem _ (List.mem_cons_of_mem _ hlm)) rfl)) ?_
  rintro v F' H' hle ⟨rfl, a, r, d', hr, hrp, hbf, hdb, hds, hdo, rfl⟩
  obtain ⟨m', hm'⟩ : ∃ m' : Mb, m' = ⟨m.ma, a, m.da, r, d'⟩ := ⟨_, rfl⟩
  obtain ⟨g2, hg2⟩ : ∃ g2 : Gr, g2 = { g with ms := g.ms.set i m', k := g.k + 1 } := ⟨_, rfl⟩
  have hv2 : msV g2.ms = msV g.ms := by rw [hg2]; exact msV_set hi (by rw [hm'])
  have hsp2 : g2.ms = g.ms.take i ++ m' :: g.ms.drop (i + 1) := by rw [hg2]; exact set_mid m' hil
  have hfx : g2.fx m' = { x with ra := a } := by
    rw [hg2, hm', hx]
    unfold Gr.fx Gr.lv Gr.nv
    dsimp only
    rw [List.length_set]
  have hside : g2.side (g.ms.take i) (g.ms.drop (i + 1)) Fr = S := by
    rw [hS]
    unfold Gr.side
    rw [hv2, hg2]
  have hfin : (RfH a r (VE x (ptrV a) :: FE x g.bad :: d'.E x :: (d'.bs ++ (LE x g.ld :: DE x g.dn :: S)))).Perm (g2.H Fr) := by
    have h1 := g2.focus hsp2 Fr
    rw [hside, hfx] at h1
    have h2 : FoH { x with ra := a } m'.r g2.bad g2.ld g2.dn m'.d S = cat [RfP a r, [VE x (ptrV a)], [FE x g.bad], [LE x g.ld], [DE x g.dn], [d'.E x], d'.bs, S] := by
      unfold FoH
      rw [RfH_eq, hm', hg2]
      simp [cat]
      exact ⟨rfl, rfl, rfl, rfl, rfl⟩
    rw [h2] at h1
    refine List.Perm.trans (List.Perm.of_eq ?_) ((selPerm [RfP a r, [VE x (ptrV a)], [FE x g.bad], [LE x g.ld], [DE x g.dn], [d'.E x], d'.bs, S] [0, 1, 2, 5, 6, 3, 4, 7] rfl rfl rfl rfl).symm.trans h1.symm)
    rw [RfH_eq]
    simp [cat, pick1]
  have hdl : d'.b.length ≤ m.d.b.length := by rw [hdb, List.length_take]; omega
  have hdl2 : d'.b.length = (scanP nilI m.d.b).2 := by rw [hdb, List.length_take]; omega
  have hml := hmd.len
  refine ⟨g2.H Fr, hfin, rfl, g2, d'.sure, ?_, hds, ?_, by rw [hg2, hga], rfl⟩
  · rw [hg2]
    refine ⟨?_, ?_, hg.wf, fun z hz => (hg.net z hz).frz hle, hg.nl, fun z hz => ?_, fun z hz => (hg.dn z hz).frz hle⟩
    · simpa using hg.len
    · simpa using hg.lb
    · rcases List.mem_or_eq_of_mem_set hz with hz | rfl
      · exact ⟨(hg.ms z hz).1.frz hle, (hg.ms z hz).2.up (Nat.le_succ _)⟩
      · rw [hm']
        exact ⟨hr, ⟨hbf, by dsimp only; omega, by dsimp only; omega, by dsimp only; rcases hds with ⟨h1, h2⟩ | h1 <;> omega⟩⟩
  · have h3 := g.ps_set i m' g.bad g.ld g.dn (g.k + 1)
    rw [hg2, h3, hm']
    dsimp only
    rw [hrp]
    have hdp : d'.pure = (m.d.b.take (scanP nilI m.d.b).2, d'.sure) := by unfold Dk.pure; rw [hdb]
    rw [hdp]
    rfl
end Go.SX
namespace Go.SX
open Go Go.Proofs
set_option maxRecDepth 4000
def Own (L : List PE) (T k : Nat) : Prop := 1 ≤ k ∧ ∃ e, L[k - 1]? = some e ∧ e.tm = T
theorem Own.le {L : List PE} {T k : Nat} (h : Own L T k) : 1 ≤ k ∧ k ≤ L.length := by
  obtain ⟨h1, e, h2, _⟩ := h
  have : k - 1 < L.length := by
    rcases Nat.lt_or_ge (k - 1) L.length with h | h
    · exact h
    · rw [List.getElem?_eq_none h] at h2; cases h2
  omega
theorem pre_get {a b : List PE} (h : a <+: b) {k : Nat} {e : PE} (hk : a[k]? = some e) : b[k]? = some e := by
  obtain ⟨t, rfl⟩ := h
  have : k < a.length := by
    rcases Nat.lt_or_ge k a.length with h | h
    · exact h
    · rw [List.getElem?_eq_none h] at hk; cases hk
  rw [List.getElem?_append_left this]
  exact hk
theorem pre_get' {a b : List PE} (h : a <+: b) {k : Nat} (hk : k < a.length) : b[k]? = a[k]? := by
  obtain ⟨t, rfl⟩ := h
  rw [List.getElem?_append_left hk]
theorem pre_take {a b : List PE} (h : a <+: b) {k : Nat} (hk : k ≤ a.length) : b.take k = a.take k := by
  obtain ⟨t, rfl⟩ := h
  rw [List.take_append_of_le_length hk]
theorem take_pre {a b : List PE} {k : Nat} (h : a.take k <+: b) (hk : k ≤ a.length) : b.take k = a.take k := by
  have := pre_take h (k := k) (by rw [List.length_take]; omega)
  rw [this, List.take_take, Nat.min_self]
theorem take_le_pre {a : List PE} {j k : Nat} (h : j ≤ k) : a.take j <+: a.take k := List.take_prefix_take_left h
theorem Own.pre {L L' : List PE} {T k : Nat} (h : Own L T k) (hp : L <+: L') : Own L' T k := by
  obtain ⟨h1, e, h2, h3⟩ := h
  exact ⟨h1, e, pre_get hp h2, h3⟩
theorem Own.back {L L' : List PE} {T k : Nat} (h : Own L' T k) (hp : L <+: L') (hk : k ≤ L.length) : Own L T k := by
  obtain ⟨h1, e, h2, h3⟩ := h
  exact ⟨h1, e, by rw [← h2]; exact (pre_get' hp (by omega)).symm, h3⟩
theorem prefix_total {a b c : List PE} (h1 : a <+: c) (h2 : b <+: c) (h : a.length ≤ b.length) : a <+: b := List.prefix_of_prefix_length_le h1 h2 h
def Good (LL : Nat → Option (Nat × List PE)) (l : List PE) : Prop := ∀ k e, l[k]? = some e → ∃ c L, LL e.tm = some (c, L) ∧ l.take (k + 1) <+: L
def LLle (LL LL' : Nat → Option (Nat × List PE)) : Prop := ∀ T c L, LL T = some (c, L) → ∃ L', LL' T = some (c, L') ∧ L <+: L'
theorem LLle.refl (LL : Nat → Option (Nat × List PE)) : LLle LL LL := fun T c L h => ⟨L, h, List.prefix_refl _⟩
theorem Good.mono {LL LL' : Nat → Option (Nat × List PE)} {l : List PE} (h : Good LL l) (hl : LLle LL LL') : Good LL' l := by
  intro k e he
  obtain ⟨c, L, h1, h2⟩ := h k e he
  obtain ⟨L', h3, h4⟩ := hl _ _ _ h1
  exact ⟨c, L', h3, h2.trans h4⟩
theorem Good.pre {LL : Nat → Option (Nat × List PE)} {a b : List PE} (h : Good LL b) (hp : a <+: b) : Good LL a := by
  intro k e he
  obtain ⟨c, L, h1, h2⟩ := h k e (pre_get hp he)
  refine ⟨c, L, h1, ?_⟩
  have hk : k < a.length := by
    rcases Nat.lt_or_ge k a.length with h | h
    · exact h
    · rw [List.getElem?_eq_none h] at he; cases he
  rw [pre_take hp (by omega)] at h2
  exact h2
theorem Good.nil (LL : Nat → Option (Nat × List PE)) : Good LL [] := by
  intro k e he
  simp at he
theorem Good.same {LL : Nat → Option (Nat × List PE)} {a b : List PE} (ha : Good LL a) (hb : Good LL b) {k : Nat} {e e' : PE} (h1 : a[k]? = some e) (h2 : b[k]? = some e') (ht : e.tm = e'.tm) : a.take (k + 1) = b.take (k + 1) := by
  obtain ⟨c, L, h3, h4⟩ := ha k e h1
  obtain ⟨c', L', h5, h6⟩ := hb k e' h2
  rw [← ht, h3] at h5
  have := (Prod.mk.inj (Option.some.inj h5)).2
  subst this
  have l1 : k < a.length := by
    rcases Nat.lt_or_ge k a.length with h | h
    · exact h
    · rw [List.getElem?_eq_none h] at h1; cases h1
  have l2 : k < b.length := by
    rcases Nat.lt_or_ge k b.length with h | h
    · exact h
    · rw [List.getElem?_eq_none h] at h2; cases h2
  have h7 := prefix_total h4 h6 (by rw [List.length_take, List.length_take]; omega)
  exact h7.eq_of_length (by rw [List.length_take, List.length_take]; omega)
def tmK (l : List PE) : Nat → Nat
  | 0 => 0
  | k + 1 => ((l[k]?).map PE.tm).getD 0
def lastTm (l : List PE) : Nat := tmK l l.length
def Maj (n Q : Nat) : Prop := popc (2 ^ n - 1) < 2 * popc (Q &&& (2 ^ n - 1))
theorem maj_meet2 : ∀ a < 4, ∀ b < 4, popc 3 < 2 * popc a → popc 3 < 2 * popc b → ∃ j, j < 2 ∧ a.testBit j = true ∧ b.testBit j = true := by decide
theorem maj_meet3 : ∀ a < 8, ∀ b < 8, popc 7 < 2 * popc a → popc 7 < 2 * popc b → ∃ j, j < 3 ∧ a.testBit j = true ∧ b.testBit j = true := by decide
theorem maj_meet {n Q Q' : Nat} (hn : n = 2 ∨ n = 3) (h : Maj n Q) (h' : Maj n Q') : ∃ j, j < n ∧ Q.testBit j = true ∧ Q'.testBit j = true := by
  unfold Maj at h h'
  rcases hn with rfl | rfl
  · obtain ⟨j, h1, h2, h3⟩ := maj_meet2 (Q &&& 3) (Nat.and_lt_two_pow (n := 2) _ (by decide)) (Q' &&& 3) (Nat.and_lt_two_pow (n := 2) _ (by decide)) h h'
    rw [Nat.testBit_and, Bool.and_eq_true] at h2 h3
    exact ⟨j, h1, h2.1, h3.1⟩
  · obtain ⟨j, h1, h2, h3⟩ := maj_meet3 (Q &&& 7) (Nat.and_lt_two_pow (n := 3) _ (by decide)) (Q' &&& 7) (Nat.and_lt_two_pow (n := 3) _ (by decide)) h h'
    rw [Nat.testBit_and, Bool.and_eq_true] at h2 h3
    exact ⟨j, h1, h2.1, h3.1⟩
theorem maj_other2 : ∀ a < 4, ∀ i < 2, popc 3 < 2 * popc a → ∃ j, j < 2 ∧ j ≠ i ∧ a.testBit j = true := by decide
theorem maj_other3 : ∀ a < 8, ∀ i < 3, popc 7 < 2 * popc a → ∃ j, j < 3 ∧ j ≠ i ∧ a.testBit j = true := by decide
theorem maj_other {n Q i : Nat} (hn : n = 2 ∨ n = 3) (hi : i < n) (h : Maj n Q) : ∃ j, j < n ∧ j ≠ i ∧ Q.testBit j = true := by
  unfold Maj at h
  rcases hn with rfl | rfl
  · obtain ⟨j, h1, h2, h3⟩ := maj_other2 (Q &&& 3) (Nat.and_lt_two_pow (n := 2) _ (by decide)) i hi h
    rw [Nat.testBit_and, Bool.and_eq_true] at h3
    exact ⟨j, h1, h2, h3.1⟩
  · obtain ⟨j, h1, h2, h3⟩ := maj_other3 (Q &&& 7) (Nat.and_lt_two_pow (n := 3) _ (by decide)) i hi h
    rw [Nat.testBit_and, Bool.and_eq_true] at h3
    exact ⟨j, h1, h2, h3.1⟩
structure Vw where
  term : Nat
  vote : Int
  fl : List PE
  base : Nat
  sd : List UInt8
structure Fa where
  LL : Nat → Option (Nat × List PE)
  acc : Nat → Nat → Nat
  vot : Nat → Nat → Nat → Prop
  pv : Nat → Nat → Option Nat
  asks : Nat → Nat → Option (List PE)
  vw : Nat → Vw → Prop
def Fa.Chb (G : Fa) (n T k : Nat) : Prop := ∃ Q, Maj n Q ∧ ∀ j < n, Q.testBit j = true → k ≤ G.acc j T ∨ ∃ v, G.vw j v ∧ v.term ≤ T
def Fa.Chn (G : Fa) (n T k : Nat) : Prop := ∃ Q, Maj n Q ∧ ∀ j < n, Q.testBit j = true → k ≤ G.acc j T
theorem Fa.Chn.chb {G : Fa} {n T k : Nat} (h : G.Chn n T k) : G.Chb n T k := by
  obtain ⟨Q, h1, h2⟩ := h
  exact ⟨Q, h1, fun j hj hb => .inl (h2 j hj hb)⟩
def Fixd (f : List PE) : Prop := ∀ k e, f[k]? = some e → e.ix = k + 1 ∧ e.kd = 0
structure CI (n : Nat) (G : Fa) : Prop where
  fixL : ∀ T c L, G.LL T = some (c, L) → Fixd L
  askG : ∀ c T l, G.asks c T = some l → Good G.LL l ∧ ∀ e ∈ l, e.tm < T
  ne : ∀ j, j < n → ∃ v, G.vw j v
  vot0 : ∀ j T c, j < n → G.vot j T c → G.pv j T = some c
  vot1 : ∀ j T c v, j < n → G.vot j T c → G.vw j v → T < v.term ∨ (T = v.term ∧ v.vote = (c : Int))
  acc1 : ∀ j T v, j < n → 0 < G.acc j T → G.vw j v → T ≤ v.term
  accB : ∀ j T, j < n → 0 < G.acc j T → ∃ c L, G.LL T = some (c, L) ∧ G.acc j T ≤ L.length
  vot2 : ∀ j T c, j < n → G.vot j T c → c < n ∧ G.vot c T c ∧ ∃ l, G.asks c T = some l
  votS : ∀ j T c l T0 c0 L k, j < n → G.vot j T c → G.asks c T = some l → T0 < T → G.LL T0 = some (c0, L) → Own L T0 k → k ≤ G.acc j T0 → G.Chb n T0 k → L.take k <+: l
  led : ∀ T c L, G.LL T = some (c, L) → c < n ∧ (∃ Q, Maj n Q ∧ ∀ j < n, Q.testBit j = true → G.vot j T c) ∧ Good G.LL L ∧ ∀ e ∈ L, e.tm ≤ T
  vwG : ∀ j v, j < n → G.vw j v → Good G.LL v.fl ∧ ∀ e ∈ v.fl, e.tm ≤ v.term
  S : ∀ j v T c L k, j < n → G.vw j v → G.LL T = some (c, L) → Own L T k → k ≤ G.acc j T → G.Chb n T k → L.take k <+: v.fl
  P : ∀ T T' c L c' L' k, T < T' → G.LL T = some (c, L) → G.LL T' = some (c', L') → Own L T k → G.Chb n T k → L.take k <+: L'
theorem Good.mon {n : Nat} {G : Fa} (h : CI n G) {l : List PE} (hl : Good G.LL l) {j k : Nat} {e e' : PE} (hj : l[j]? = some e) (hk : l[k]? = some e') (hjk : j ≤ k) : e.tm ≤ e'.tm := by
  obtain ⟨c, L, h1, h2⟩ := hl k e' hk
  refine (h.led _ _ _ h1).2.2.2 e (List.mem_of_getElem? (pre_get h2 (k := j) ?_))
  rw [List.getElem?_take, if_pos (by omega)]
  exact hj
theorem CI.past {n : Nat} {G : Fa} (h : CI n G) {j T c T0 : Nat} (hj : j < n) (hv : G.vot j T c) (ht : T0 < T) : ¬ ∃ v, G.vw j v ∧ v.term ≤ T0 := by
  rintro ⟨v, h1, h2⟩
  rcases h.vot1 j T c v hj hv h1 with h3 | ⟨h3, _⟩ <;> omega
theorem CI.notChb {n : Nat} (hn : n = 2 ∨ n = 3) {G : Fa} (h : CI n G) {T T' c' k : Nat} {L' : List PE} (ht : T < T') (hl : G.LL T' = some (c', L')) (ha : ∀ j < n, G.acc j T < k) : ¬ G.Chb n T k := by
  rintro ⟨Q, h1, h2⟩
  obtain ⟨_, ⟨Q', h3, h4⟩, _⟩ := h.led T' c' L' hl
  obtain ⟨j, hj, hb, hb'⟩ := maj_meet hn h1 h3
  rcases h2 j hj hb with h5 | h5
  · have := ha j hj
    omega
  · exact h.past hj (h4 j hj hb') ht h5
theorem CI.one {n : Nat} (hn : n = 2 ∨ n = 3) {G : Fa} (h : CI n G) {T c c' Q : Nat} {L : List PE} (hl : G.LL T = some (c, L)) (hQ : Maj n Q) (hv : ∀ j < n, Q.testBit j = true → G.vot j T c') : c = c' := by
  obtain ⟨_, ⟨Q', h3, h4⟩, _⟩ := h.led T c L hl
  obtain ⟨j, hj, hb, hb'⟩ := maj_meet hn hQ h3
  have h1 := h.vot0 j T c' hj (hv j hj hb)
  have h2 := h.vot0 j T c hj (h4 j hj hb')
  rw [h1] at h2
  exact (Option.some.inj h2).symm
end Go.SX
