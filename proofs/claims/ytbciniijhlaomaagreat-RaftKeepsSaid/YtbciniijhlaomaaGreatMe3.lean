/- Contracts and plain laws, laid together. -/
import Derived.Calls
import Derived.Orders
import Derived.OrdersHeld
import Derived.Tactics
import Derived.OwnWalk
import Derived.Laws.Small
import Derived.Laws.Strings
import Derived.Laws.Pointers
import Derived.Laws.CopyRow
import Derived.Laws.Append
import Derived.Laws.AppendOwn
import Derived.Laws.BytesArg
import Derived.Laws.Slices
import Derived.Laws.MakeOwn
import Derived.Laws.Tables
import Derived.Great.BuildSlice
import Derived.Laws.Cover3
import Derived.Laws.Concat
import Derived.Test.YtbciniijhlaomaaGreatProg
import Derived.Below
import Derived.SizedLaws
import Derived.ChangeSlices
import Derived.ChangeOld
import Derived.Laws.StructEq
import Derived.Deep.Matrix
import Derived.Deep.SlicePairs
import Derived.Deep.Grids
import Derived.MapKept
import Derived.Carry
import Derived.WideLaws
import Derived.Laws.Externs
import Derived.Laws.FloatArith
import Derived.Test.YtbciniijhlaomaaGreatMe2
namespace Go.SX
open Go Go.Proofs
set_option maxRecDepth 4000
theorem sl_GrowE (O : World) (F : Fz) (n : Nat) (Fr : List Ent) (hn : n ≤ 1000000) :
    Does Tryz.prog O 128 #[.slice none 0 0, .int .i64 n] F Fr (fun r F' H' => F' = F ∧ ∃ bf : Bf, bf.ok 0 ∧ r = bf.val 0 ∧ H' = bf.ents 4 [] ++ Fr) := by
  refine does_of_run (args := [_, _]) Tryz.func128 rfl rfl ?_
  refine r_seq (r_region rfl (o_vl rfl rfl (v_assign rfl) (o_end (r_seq (r_seq (r_region rfl (o_vl rfl rfl (v_move rfl) (o_vl rfl rfl (v_lss rfl rfl) (o_end (r_if rfl (fun h => ?_) (fun h => ?_)))))))))))
  · omega
  · refine r_skip (r_seq (r_seq (r_region rfl (o_vl rfl rfl (v_move rfl) (o_vl rfl rfl (v_move rfl) (o_vl rfl rfl (v_cap rfl rfl) (o_vl rfl rfl (v_move rfl) (o_vl rfl rfl (v_len rfl rfl) (o_vl rfl rfl (v_sub rfl rfl (wrap_i64 (by omega) (by omega))) (o_vl rfl rfl (v_sub rfl rfl (wrap_i64 (by omega) (by omega))) (o_vl rfl rfl (v_assign rfl) (o_end (r_seq ?_)))))))))))))
    refine r_region rfl (o_vl rfl rfl (v_move rfl) (o_vl rfl rfl (v_gtr rfl rfl) (o_end (r_if rfl (fun h2 => ?_) (fun h2 => ?_)))))
    · refine r_region rfl (o_vl rfl rfl (v_move rfl) (o_vl rfl rfl (v_move rfl) (o_vl rfl rfl (v_cap rfl rfl) (o_vl rfl rfl (v_sliceH (sz := 4) rfl rfl rfl rfl rfl (Nat.le_refl _)) (o_vl rfl rfl (v_move rfl) ?_)))))
      refine j_heap (H' := [] ++ (Bf.nil.ents 4 [] ++ Fr)) rfl ?_
      refine o_act rfl rfl rfl rfl (a_appendZ [] (bf := .nil) (n := 0) (m := n) (zc := [.int .u64 0, .int .u64 0, .int .u8 0, .slice none 0 0]) (bytes := 48) (xs := []) ⟨⟨_, _, _, rfl, rfl, rfl, rfl, rfl, rfl⟩, by decide⟩ rfl rfl rfl rfl rfl rfl (by simp) rfl (by omega) (by omega)) ?_
      rintro v' H' ⟨bf, rfl, hok, rfl⟩
      rw [Nat.zero_add] at hok ⊢
      refine o_vl rfl rfl (v_move rfl) (o_vl rfl rfl (v_len rfl rfl) (o_vl rfl rfl (v_sliceH (sz := 4) rfl rfl rfl rfl rfl (Nat.zero_le _)) (o_vl rfl rfl (v_assign rfl) (o_end (r_seq (r_region rfl (o_vl rfl rfl (v_move rfl) (o_vl rfl rfl (v_assign rfl) (o_end ?_)))))))))
      rw [Bf.cut]
      refine j_cutBf [] 0 ?_
      rw [List.take_zero]
      exact r_ret1 Tryz.func128 rfl rfl ⟨⟨rfl, bf, bf.ok_le hok (Nat.zero_le _), rfl, rfl⟩, Fz.le_refl _⟩
    · refine r_skip (r_seq (r_region rfl (o_vl rfl rfl (v_move rfl) (o_vl rfl rfl (v_assign rfl) (o_end ?_)))))
      exact r_ret1 Tryz.func128 rfl rfl ⟨⟨rfl, .nil, rfl, rfl, rfl⟩, Fz.le_refl _⟩
def lens (rs : List (Value × List En)) : Nat := (rs.map fun r => r.2.length).sum
theorem lens_take (rs : List (Value × List En)) (k : Nat) (hk : k < rs.length) : lens (rs.take (k + 1)) = lens (rs.take k) + rs[k].2.length := by
  unfold lens
  rw [List.take_succ_eq_append_getElem hk]
  simp only [List.map_append, List.map_cons, List.map_nil, List.sum_append, List.sum_cons, List.sum_nil, Nat.add_zero]
theorem lens_le (rs : List (Value × List En)) (k : Nat) : lens (rs.take k) ≤ lens rs := by
  have : lens rs = lens (rs.take k) + lens (rs.drop k) := by
    unfold lens
    rw [← List.sum_append, ← List.map_append, List.take_append_drop]
  omega
theorem lens_flat (rs : List (Value × List En)) : (rs.flatMap fun r => r.2).length = lens rs := by
  unfold lens
  induction rs with
  | nil => rfl
  | cons r q ih => simp [ih]
theorem sl_ConcatE (O : World) (F : Fz) (v : Value) (rs : List (Value × List En)) (Fr : List Ent) (hv : Sl F Fr 1 v rs.length (rs.map (·.1))) (hr : ∀ r ∈ rs, Sl F Fr 4 r.1 r.2.length (enV r.2)) (hok : ∀ r ∈ rs, ∀ e ∈ r.2, e.ok F) (hn : lens rs ≤ 1000000) (hl : rs.length ≤ 1000000) :
    Does Tryz.prog O 122 #[v] F Fr (fun r F' H' => F' = F ∧ ∃ bf : Bf, bf.ok (rs.flatMap fun r => r.2).length ∧ r = bf.val (rs.flatMap fun r => r.2).length ∧ H' = bf.ents 4 (enV (rs.flatMap fun r => r.2)) ++ Fr) := by
  obtain ⟨a0, cap, rfl, hcap⟩ := Sl.shape hv
  have hsl : ∀ r ∈ rs, ∃ a c, r.1 = .slice a r.2.length c := fun r hm => by
    obtain ⟨a, c, h, _⟩ := Sl.shape (hr r hm)
    exact ⟨a, c, h⟩
  refine does_of_run (args := [_]) Tryz.func122 rfl rfl ?_
  refine r_seq (r_region rfl (o_vl rfl rfl (v_assign rfl) (o_end (r_seq (r_region rfl (o_vl rfl rfl (v_assign rfl) (o_end (r_seq (r_seq (r_region rfl (o_vl rfl rfl (v_move rfl) (o_vl rfl rfl (v_len rfl rfl) (o_vl rfl rfl (v_move rfl) ?_)))))))))))))
  refine o_end (r_block ?_)
  refine r_loop (fun k : Nat => k ≤ rs.length) (fun k => [(0, .slice a0 rs.length cap), (3, .int .i64 (lens (rs.take k))), (9, .slice a0 rs.length cap), (10, .int .i64 rs.length), (11, .int .i64 k)]) (fun _ => F) (fun _ => Fr) (fun k => rs.length - k) 0 (Nat.zero_le _) ⟨rfl, rfl, rfl, rfl, rfl, trivial⟩ rfl rfl ?_
  intro k hk IH
  refine r_seq (r_region rfl (o_vl rfl rfl (v_lss rfl rfl) (o_end (r_seq (r_if rfl (fun h => ?_) (fun h => ?_))))))
  · have hkl : k < rs.length := by omega
    obtain ⟨b0, off0, c0, hab, _, hc0⟩ := Sl.view hv (by omega)
    simp only [Value.slice.injEq] at hab
    obtain ⟨rfl, _, rfl⟩ := hab
    have hcell := hc0 k rs[k].1 (by rw [List.getElem?_map, List.getElem?_eq_getElem hkl]; rfl)
    obtain ⟨a1, c1, he⟩ := hsl rs[k] (List.getElem_mem _)
    have hlt := lens_take rs k hkl
    have hle := lens_le rs (k + 1)
    have IH' := IH (k + 1) hkl (by omega)
    rw [hlt] at IH'
    rw [he] at hcell
    refine r_skip (r_seq (r_block (r_seq (r_region rfl (o_vl rfl rfl (v_index1 rfl rfl rfl rfl hkl) (o_vl rfl rfl (v_load rfl rfl hcell) (o_vl rfl rfl (v_assign rfl) (o_end (r_seq (r_region rfl (o_vl rfl rfl (v_move rfl) (o_vl rfl rfl (v_move rfl) (o_vl rfl rfl (v_len rfl rfl) ?_)))))))))))))
    refine o_vl rfl rfl (v_add rfl rfl (r := ((lens (rs.take k) + rs[k].2.length : Nat) : Int)) (wrap_i64 (by omega) (by omega))) (o_vl rfl rfl (v_assign rfl) (o_end (r_seq (r_region rfl (o_vl rfl rfl (v_move rfl) (o_vl rfl rfl (v_lss rfl rfl) (o_end (r_if rfl (fun h2 => ?_) (fun h2 => ?_)))))))))
    · omega
    · refine r_skip (r_inBlock (r_region rfl (o_vl rfl rfl (v_add rfl rfl (wrap_i64 (by omega) (by omega))) (o_vl rfl rfl (v_move rfl) (o_end ?_)))))
      refine j_keep ?_ IH'
      exact ⟨rfl, rfl, rfl, rfl, rfl, trivial⟩
  · obtain rfl : k = rs.length := by omega
    rw [List.take_length]
    clear IH
    refine r_exit rfl (r_seq (r_region rfl (o_vl rfl rfl (v_move rfl) (o_call rfl rfl rfl rfl (c_call callable128 rfl) (sl_GrowE _ _ _ _ hn) ?_))))
    rintro v' F H' ⟨rfl, bf0, hok0, rfl, rfl⟩ _
    refine o_vl rfl rfl (v_assign rfl) (o_end (r_seq (r_seq (r_region rfl (o_vl rfl rfl (v_move rfl) (o_vl rfl rfl (v_len rfl rfl) (o_vl rfl rfl (v_move rfl) (o_end (r_block ?_)))))))))
    refine r_loop (fun g : Nat × Bf => g.1 ≤ rs.length ∧ g.2.ok (lens (rs.take g.1))) (fun g => [(6, g.2.val (lens (rs.take g.1))), (25, .slice a0 rs.length cap), (26, .int .i64 rs.length), (27, .int .i64 g.1)]) (fun _ => F) (fun g => g.2.ents 4 (enV ((rs.take g.1).flatMap fun r => r.2)) ++ Fr) (fun g => rs.length - g.1) (0, bf0) ⟨Nat.zero_le _, hok0⟩ ⟨rfl, rfl, rfl, rfl, trivial⟩ rfl rfl ?_
    rintro ⟨i, bf⟩ ⟨hi, hokb⟩ IH
    dsimp only at hi hokb ⊢
    refine r_seq (r_region rfl (o_vl rfl rfl (v_lss rfl rfl) (o_end (r_seq (r_if rfl (fun h3 => ?_) (fun h3 => ?_))))))
    · have hkl : i < rs.length := by omega
      obtain ⟨b0, off0, c0, hab, _, hc0⟩ := Sl.view hv (by omega)
      simp only [Value.slice.injEq] at hab
      obtain ⟨rfl, _, rfl⟩ := hab
      have hcell := hc0 i rs[i].1 (by rw [List.getElem?_map, List.getElem?_eq_getElem hkl]; rfl)
      have hlt := lens_take rs i hkl
      have hle := lens_le rs (i + 1)
      have hri := hr rs[i] (List.getElem_mem _)
      have hoi := hok rs[i] (List.getElem_mem _)
      obtain ⟨a1, c1, he⟩ := hsl rs[i] (List.getElem_mem _)
      rw [he] at hcell hri
      have hfl : (rs.take (i + 1)).flatMap (fun r => r.2) = (rs.take i).flatMap (fun r => r.2) ++ rs[i].2 := by
        rw [List.take_succ_eq_append_getElem hkl]; simp only [List.flatMap_append, List.flatMap_cons, List.flatMap_nil, List.append_nil]
      refine r_skip (r_seq (r_block (r_seq (r_region rfl (o_vl rfl rfl (v_index1 rfl rfl rfl rfl hkl) (o_vl rfl rfl (v_load rfl rfl (hcell.mono (Fz.le_refl _) (by simp))) (o_vl rfl rfl (v_assign rfl) (o_end (r_region rfl (o_vl rfl rfl (v_move rfl) (o_vl rfl rfl (v_move rfl) (o_act rfl rfl rfl rfl (a_append (bf := bf) (n := lens (rs.take i)) (sz := 4) (bytes := 48) ⟨⟨_, _, _, rfl, rfl, rfl, rfl, rfl, rfl⟩, by decide⟩ rfl hokb (by rw [enV_length, lens_flat]) rfl rfl (hri.mono (Fz.le_refl _) (by simp)) (enV_one hoi) (by unfold maxLen; omega) (by omega)) ?_))))))))))))
      rintro v' H' ⟨bf2, rfl, hok2, rfl⟩
      rw [← enV_append, ← hfl]
      have IH' := IH (i + 1, bf2) ⟨hkl, by dsimp only; rw [hlt]; exact hok2⟩ (by dsimp only; omega)
      dsimp only at IH'
      rw [hlt] at IH'
      refine o_vl rfl rfl (v_assign rfl) (o_end (r_inBlock (r_region rfl (o_vl rfl rfl (v_add rfl rfl (wrap_i64 (by omega) (by omega))) (o_vl rfl rfl (v_move rfl) (o_end ?_))))))
      refine j_keep ?_ IH'
      exact ⟨rfl, rfl, rfl, rfl, trivial⟩
    · obtain rfl : i = rs.length := by omega
      rw [List.take_length] at hokb ⊢
      rw [← lens_flat] at hokb ⊢
      refine r_exit rfl (r_seq (r_region rfl (o_vl rfl rfl (v_move rfl) (o_vl rfl rfl (v_assign rfl) (o_end ?_)))))
      exact r_ret1 Tryz.func122 rfl rfl ⟨⟨rfl, bf, hokb, rfl, rfl⟩, Fz.le_refl _⟩
def mg (ix tm : Nat) (l : List En) : List En → Nat × List En
  | [] => (0, l)
  | x :: r => if x.ix ≤ ix then mg ix tm l r else if lgTerm ix tm l x.ix = (x.tm, true) then mg ix tm l r else if ix + l.length + 1 < x.ix then (0, l) else (x.ix, l.take (x.ix - ix - 1) ++ (x :: r))
set_option maxHeartbeats 1000000 in
theorem lg_Merge (O : World) (F : Fz) (a ix tm vt : Nat) (bf : Bf) (l m : List En) (v : Value) (Fr : List Ent) (hb : ix + l.length + 1 < 18446744073709551616) (hok : bf.ok l.length) (hl : ∀ e ∈ l, e.ok F) (hm : ∀ e ∈ m, e.ok F) (hn : l.length ≤ 400000) (hnm : m.length ≤ 400000)
    (hv : Sl F [] 4 v m.length (enV m)) :
    Does Tryz.prog O 107 #[ptrV a, v] F (LgH a ix tm vt bf l Fr)
      (fun r F' H' => r = .int .u64 (mg ix tm l m).1 ∧ F' = F ∧ ∃ bf' : Bf, bf'.ok (mg ix tm l m).2.length ∧ H' = LgH a ix tm vt bf' (mg ix tm l m).2 Fr) := by
  obtain ⟨a0, cap, rfl, hcap⟩ := Sl.shape hv
  refine does_of_run (args := [_, _]) Tryz.func107 rfl rfl ?_
  refine r_seq (r_region rfl (o_vl rfl rfl (v_assign rfl) (o_end (r_seq (r_seq (r_region rfl (o_vl rfl rfl (v_move rfl) (o_vl rfl rfl (v_peqnil rfl rfl rfl) (o_end (r_false rfl (r_skip (r_seq (r_seq ?_)))))))))))))
  refine r_region rfl (o_vl rfl rfl (v_move rfl) (o_vl rfl rfl (v_len rfl rfl) (o_vl rfl rfl (v_move rfl) (o_end (r_block ?_)))))
  refine r_loop (fun k : Nat => k ≤ m.length ∧ mg ix tm l m = mg ix tm l (m.drop k)) (fun k => [(0, ptrV a), (1, .slice a0 m.length cap), (11, .slice a0 m.length cap), (12, .int .i64 m.length), (13, .int .i64 k)]) (fun _ => F) (fun _ => LgH a ix tm vt bf l Fr) (fun k => m.length - k) 0 ⟨Nat.zero_le _, rfl⟩ ⟨rfl, rfl, rfl, rfl, rfl, trivial⟩ rfl rfl ?_
  rintro k ⟨hk, hmg⟩ IH
  refine r_seq (r_region rfl (o_vl rfl rfl (v_lss rfl rfl) (o_end (r_seq (r_if rfl (fun h => ?_) (fun h => ?_))))))
  · have hkl : k < m.length := by omega
    obtain ⟨b0, off0, c0, hab, hc0⟩ := sl_cells (hv.frz (H := LgH a ix tm vt bf l Fr) (Fz.le_refl _)) hkl
    simp only [Value.slice.injEq] at hab
    obtain ⟨rfl, _, rfl⟩ := hab
    have he := hm m[k] (List.getElem_mem _)
    have hd : m.drop k = m[k] :: m.drop (k + 1) := List.drop_eq_getElem_cons hkl
    have hsr := Sl.sliced (l := k) (h := m.length) (hv.frz (H := []) (Fz.le_refl F)) hk (Nat.le_refl _)
    rw [enV_drop, List.take_of_length_le (by rw [enV_length, List.length_drop]; omega), ← List.length_drop] at hsr
    have hdl : ∀ e ∈ m.drop k, e ∈ m := fun e he => List.mem_of_mem_drop he
    have hdn : (m.drop k).length ≤ 400000 := by simp; omega
    have IH' : mg ix tm l m = mg ix tm l (m.drop (k + 1)) → _ := fun hq => IH (k + 1) ⟨hkl, hq⟩ (by omega)
    rw [hd] at hmg
    rw [hd] at hsr hdl hdn
    clear hd
    generalize m.drop (k + 1) = m' at *
    generalize m[k] = e at *
    refine r_skip (r_seq (r_block (r_seq (r_region rfl (o_vl rfl rfl (v_move rfl) (o_vl rfl rfl (v_indexN (sz := 4) rfl rfl rfl rfl hkl) (o_vl rfl rfl (v_loadAgg (sz := 4) (cs := e.cells) rfl rfl rfl rfl hc0) (o_act rfl rfl rfl rfl (a_alloc rfl) ?_))))))))
    rintro v' H' ⟨x, rfl, rfl⟩
    refine o_vl rfl rfl (v_assign rfl) (o_act0 rfl rfl rfl (a_store (sz := 4) 0 rfl rfl rfl (by simpa [Value.cells] using he.one) rfl rfl (Nat.le_of_ble_eq_true rfl)) ?_)
    refine j_heap (H' := .mem x e.cells 4 :: LgE a ix tm vt bf l.length :: (bf.ents 4 (enV l) ++ Fr)) rfl ?_
    refine j_sel (H' := LgE a ix tm vt bf l.length :: (bf.ents 4 (enV l) ++ (.mem x e.cells 4 :: (Fr)))) [[.mem x e.cells 4], [LgE a ix tm vt bf l.length], bf.ents 4 (enV l), Fr] [1, 2, 0, 3] rfl rfl rfl ?_
    refine j_heap (H' := LgH a ix tm vt bf l (.mem x e.cells 4 :: Fr)) rfl ?_
    have hcx : ∀ F H j c, Ent.mem x e.cells 4 ∈ H → e.cells[j]? = some c → Cell F H x (0 + j) c := fun F H j c hm hc => by
      rw [Nat.zero_add]
      exact cell_own hm hc
    have hback : (LgH a ix tm vt bf l Fr).Sublist (LgH a ix tm vt bf l (.mem x e.cells 4 :: Fr)) := drop_in _ _ _ _
    refine o_end (r_seq (r_seq (d_region 1000000 rfl ([.mem x e.cells 4, LgE a ix tm vt bf l.length]) ?_)))
    refine d_tk (i := 0) rfl rfl (by intro q hq; simp only [List.mem_cons, List.not_mem_nil, or_false] at hq; rcases hq with rfl | rfl <;> simp [LgH]) (v_field (k := 0) rfl rfl rfl) (d_tk (i := 1) rfl rfl (by intro q hq; simp only [List.mem_cons, List.not_mem_nil, or_false] at hq; rcases hq with rfl | rfl <;> simp [LgH]) (v_load (v := .int .u64 e.ix) rfl rfl (hcx _ _ 0 _ (by simp) rfl)) (d_tk (i := 2) rfl rfl (by intro q hq; simp only [List.mem_cons, List.not_mem_nil, or_false] at hq; rcases hq with rfl | rfl <;> simp [LgH]) (v_move rfl) (d_tk (i := 3) rfl rfl (by intro q hq; simp only [List.mem_cons, List.not_mem_nil, or_false] at hq; rcases hq with rfl | rfl <;> simp [LgH]) (v_nilCheck rfl) (d_tk (i := 4) rfl rfl (by intro q hq; simp only [List.mem_cons, List.not_mem_nil, or_false] at hq; rcases hq with rfl | rfl <;> simp [LgH]) (v_field (k := 0) rfl rfl rfl) (d_tk (i := 5) rfl rfl (by intro q hq; simp only [List.mem_cons, List.not_mem_nil, or_false] at hq; rcases hq with rfl | rfl <;> simp [LgH]) (v_load rfl rfl (cell_at (j := 1) rfl rfl)) (d_tk (i := 6) rfl rfl (by intro q hq; simp only [List.mem_cons, List.not_mem_nil, or_false] at hq; rcases hq with rfl | rfl <;> simp [LgH]) (v_leq rfl rfl) (d_end (by decide +kernel) (r_if rfl (fun h2 => ?_) (fun h2 => ?_)))))))))
    · refine j_drop hback ?_
      have hq : mg ix tm l (e :: m') = mg ix tm l m' := by rw [mg, if_pos (by omega)]
      refine r_exit rfl (r_region rfl (o_vl rfl rfl (v_add rfl rfl (wrap_i64 (by omega) (by omega))) (o_vl rfl rfl (v_move rfl) (o_end ?_))))
      refine j_keep ?_ (IH' (hmg.trans hq))
      exact ⟨rfl, rfl, rfl, rfl, rfl, trivial⟩
    · refine r_skip (r_seq ?_)
      refine r_join (fun _ : Unit => ¬ lgTerm ix tm l e.ix = (e.tm, true)) (fun _ => [(0, ptrV a), (1, .slice (some ⟨b0, off0, none⟩) m.length cap), (5, .int .i64 k), (6, ptrV x), (11, .slice (some ⟨b0, off0, none⟩) m.length cap), (12, .int .i64 m.length), (13, .int .i64 k)]) (fun _ => F) (fun _ => LgH a ix tm vt bf l (.mem x e.cells 4 :: Fr)) ?_ ?_
      · intro J
        refine r_seq (r_region rfl (o_vl rfl rfl (v_move rfl) (o_vl rfl rfl (v_field (k := 0) rfl rfl rfl) (o_vl rfl rfl (v_load (v := .int .u64 e.ix) rfl rfl (hcx _ _ 0 _ (by simp [LgH]) rfl)) (o_call rfl rfl rfl rfl (c_call callable31 rfl) (lg_Term _ _ a ix tm vt bf l e.ix _ (by omega) hok he.ix) ?_)))))
        rintro v' F H' ⟨rfl, rfl, rfl⟩ _
        rcases hT : lgTerm ix tm l e.ix with ⟨T, ok⟩
        rw [hT] at J
        cases ok with
        | false =>
          refine o_vl rfl rfl (v_move rfl) (o_vl rfl rfl (v_extract rfl rfl) (o_vl rfl rfl (v_extract rfl rfl) (o_vl rfl rfl (v_assign rfl) (o_vl rfl rfl (v_assign rfl) (o_end (r_seq (r_region rfl (o_vl rfl rfl (v_move rfl) (o_vl rfl rfl (v_move rfl) (o_sk rfl rfl (o_sk rfl rfl (o_sk rfl rfl (o_sk rfl rfl ?_)))))))))))))
          refine o_vl rfl rfl (v_pick0 rfl rfl) (o_end (r_false rfl (r_skip ?_)))
          refine j_keep ?_ (J () (by simp))
          exact ⟨rfl, rfl, rfl, rfl, rfl, rfl, rfl, trivial⟩
        | true =>
          refine o_vl rfl rfl (v_move rfl) (o_vl rfl rfl (v_extract rfl rfl) (o_vl rfl rfl (v_extract rfl rfl) (o_vl rfl rfl (v_assign rfl) (o_vl rfl rfl (v_assign rfl) (o_end (r_seq (r_region rfl (o_vl rfl rfl (v_move rfl) (o_vl rfl rfl (v_move rfl) (o_vl rfl rfl (v_move rfl) (o_vl rfl rfl (v_field (k := 1) rfl rfl rfl) (o_vl rfl rfl (v_load (v := .int .u64 e.tm) rfl rfl (hcx _ _ 1 _ (by simp [LgH]) rfl)) (o_vl rfl rfl (v_eql rfl rfl) ?_)))))))))))))
          refine o_vl rfl rfl (v_pick1 rfl rfl) (o_end (r_if rfl (fun h3 => ?_) (fun h3 => ?_)))
          · refine j_drop hback ?_
            have hq : mg ix tm l (e :: m') = mg ix tm l m' := by rw [mg, if_neg (by omega), if_pos (by rw [hT]; simp; omega)]
            refine r_exit rfl (r_region rfl (o_vl rfl rfl (v_add rfl rfl (wrap_i64 (by omega) (by omega))) (o_vl rfl rfl (v_move rfl) (o_end ?_))))
            refine j_keep ?_ (IH' (hmg.trans hq))
            exact ⟨rfl, rfl, rfl, rfl, rfl, trivial⟩
          · refine r_skip ?_
            refine j_keep ?_ (J () (by simp; omega))
            exact ⟨rfl, rfl, rfl, rfl, rfl, rfl, rfl, trivial⟩
      · rintro _ hne
        refine r_seq (r_seq (d_region 1000000 rfl ([.mem x e.cells 4]) ?_))
        refine d_tk (i := 0) rfl rfl (by simp [LgH]) (v_field (k := 0) rfl rfl rfl) (d_tk (i := 1) rfl rfl (by simp [LgH]) (v_load (v := .int .u64 e.ix) rfl rfl (hcx _ _ 0 _ (by simp) rfl)) (d_tk (i := 2) rfl rfl (by simp [LgH]) (v_move rfl) (d_one (i := 3) (by decide +kernel) (d1_call rfl rfl rfl rfl (c_call callable45 rfl) (lg_Last _ _ a ix tm vt bf l.length _ (by omega)) ?_))))
        rintro v' F H' ⟨rfl, rfl, rfl⟩ _
        refine ⟨fun w hw => held_of hw (by first | exact Fz.le_refl _ | assumption) (by simp [LgH]), ?_⟩
        refine d_tk (i := 4) rfl rfl (by simp [LgH]) (v_add rfl rfl (r := ((ix + l.length + 1 : Nat) : Int)) (wrap_u64 (by omega) (by omega))) (d_tk (i := 5) rfl rfl (by simp [LgH]) (v_gtr rfl rfl) (d_end (by decide +kernel) (r_if rfl (fun h4 => ?_) (fun h4 => ?_))))
        · refine j_drop hback ?_
          have hq : mg ix tm l (e :: m') = (0, l) := by rw [mg, if_neg (by omega), if_neg hne, if_pos (by omega)]
          rw [hmg.trans hq]
          refine r_seq (r_region rfl (o_vl rfl rfl (v_assign rfl) (o_end ?_)))
          exact r_ret1 Tryz.func107 rfl rfl ⟨⟨rfl, rfl, bf, hok, rfl⟩, Fz.le_refl _⟩
        · have hq : mg ix tm l (e :: m') = (e.ix, l.take (e.ix - ix - 1) ++ (e :: m')) := by rw [mg, if_neg (by omega), if_neg hne, if_neg (by omega)]
          rw [hmg.trans hq]
          have hhl : e.ix - ix - 1 ≤ l.length := by omega
          have hcp := Bf.ok_cp hok
          have hst : ∀ H, bf.ents 4 (enV l) ⊆ H → Sl F H 4 (bf.val (e.ix - ix - 1)) (l.take (e.ix - ix - 1)).length (enV (l.take (e.ix - ix - 1))) := fun H hH => by
            have := Sl.sliced (l := 0) (h := e.ix - ix - 1) (Bf.reads (bf := bf) (sz := 4) (n := l.length) (F := F) (H := H) hok (by rw [enV_length]) hH) (Nat.zero_le _) hhl
            rw [Bf.cut, Nat.sub_zero, Nat.zero_mul, List.drop_zero] at this
            have h9 : (enV l).take ((e.ix - ix - 1) * 4) = enV (l.take (e.ix - ix - 1)) := by
              have e1 : enV l = enV (l.take (e.ix - ix - 1)) ++ enV (l.drop (e.ix - ix - 1)) := by rw [← enV_append, List.take_append_drop]
              rw [e1]
              exact List.take_left' (by rw [enV_length, List.length_take, Nat.min_eq_left hhl])
            rw [h9] at this
            rw [List.length_take, Nat.min_eq_left hhl]
            exact this
          obtain ⟨h, hh⟩ : ∃ h, h = e.ix - ix - 1 := ⟨_, rfl⟩
          rw [← hh] at hhl hst ⊢
          refine r_skip (r_seq (d_region 21 rfl ([.mem x e.cells 4, LgE a ix tm vt bf l.length]) ?_))
          refine d_tk (i := 0) rfl rfl (by intro q hq; simp only [List.mem_cons, List.not_mem_nil, or_false] at hq; rcases hq with rfl | rfl <;> simp [LgH]) (v_move rfl) (d_tk (i := 1) rfl rfl (by intro q hq; simp only [List.mem_cons, List.not_mem_nil, or_false] at hq; rcases hq with rfl | rfl <;> simp [LgH]) (v_move rfl) (d_tk (i := 2) rfl rfl (by intro q hq; simp only [List.mem_cons, List.not_mem_nil, or_false] at hq; rcases hq with rfl | rfl <;> simp [LgH]) (v_nilCheck rfl) (d_tk (i := 3) rfl rfl (by intro q hq; simp only [List.mem_cons, List.not_mem_nil, or_false] at hq; rcases hq with rfl | rfl <;> simp [LgH]) (v_field (k := 3) rfl rfl rfl) (d_tk (i := 4) rfl rfl (by intro q hq; simp only [List.mem_cons, List.not_mem_nil, or_false] at hq; rcases hq with rfl | rfl <;> simp [LgH]) (v_load rfl rfl (cell_at (j := 1) rfl rfl)) (d_tk (i := 5) rfl rfl (by intro q hq; simp only [List.mem_cons, List.not_mem_nil, or_false] at hq; rcases hq with rfl | rfl <;> simp [LgH]) (v_field (k := 0) rfl rfl rfl) (d_tk (i := 6) rfl rfl (by intro q hq; simp only [List.mem_cons, List.not_mem_nil, or_false] at hq; rcases hq with rfl | rfl <;> simp [LgH]) (v_load (v := .int .u64 e.ix) rfl rfl (hcx _ _ 0 _ (by simp) rfl)) (d_tk (i := 7) rfl rfl (by intro q hq; simp only [List.mem_cons, List.not_mem_nil, or_false] at hq; rcases hq with rfl | rfl <;> simp [LgH]) (v_move rfl) (d_tk (i := 8) rfl rfl (by intro q hq; simp only [List.mem_cons, List.not_mem_nil, or_false] at hq; rcases hq with rfl | rfl <;> simp [LgH]) (v_nilCheck rfl) (d_tk (i := 9) rfl rfl (by intro q hq; simp only [List.mem_cons, List.not_mem_nil, or_false] at hq; rcases hq with rfl | rfl <;> simp [LgH]) (v_field (k := 0) rfl rfl rfl) (d_tk (i := 10) rfl rfl (by intro q hq; simp only [List.mem_cons, List.not_mem_nil, or_false] at hq; rcases hq with rfl | rfl <;> simp [LgH]) (v_load rfl rfl (cell_at (j := 1) rfl rfl)) (d_tk (i := 11) rfl rfl (by intro q hq; simp only [List.mem_cons, List.not_mem_nil, or_false] at hq; rcases hq with rfl | rfl <;> simp [LgH]) (v_sub rfl rfl (r := ((e.ix - ix : Nat) : Int)) ((wrap_u64 (by omega) (by omega)).trans (by omega))) (d_tk (i := 12) rfl rfl (by intro q hq; simp only [List.mem_cons, List.not_mem_nil, or_false] at hq; rcases hq with rfl | rfl <;> simp [LgH]) (v_sub rfl rfl (r := (h : Int)) ((wrap_u64 (by omega) (by omega)).trans (by omega))) (d_tk (i := 13) rfl rfl (by intro q hq; simp only [List.mem_cons, List.not_mem_nil, or_false] at hq; rcases hq with rfl | rfl <;> simp [LgH]) (v_sliceH (sz := 4) rfl rfl rfl rfl rfl (by omega)) ?_)))))))))))))
          refine d_tk (i := 14) rfl rfl (by intro q hq; simp only [List.mem_cons, List.not_mem_nil, or_false] at hq; rcases hq with rfl | rfl <;> simp [LgH]) (v_move rfl) (d_tk (i := 15) rfl rfl (by intro q hq; simp only [List.mem_cons, List.not_mem_nil, or_false] at hq; rcases hq with rfl | rfl <;> simp [LgH]) (v_move rfl) (d_tk (i := 16) rfl rfl (by intro q hq; simp only [List.mem_cons, List.not_mem_nil, or_false] at hq; rcases hq with rfl | rfl <;> simp [LgH]) (v_sliceL (sz := 4) rfl rfl rfl rfl rfl (by omega)) ?_))
          rw [Bf.cut]
          refine d_one (i := 17) (by decide +kernel) (d1_act rfl rfl rfl rfl (a_buildS (sz := 1) (cs := [bf.val h, Go.sliced (some ⟨b0, off0, none⟩) k m.length cap 4]) [.tmp 58, .tmp 61] rfl rfl rfl rfl rfl rfl rfl rfl rfl rfl) ?_)
          rintro v' H' ⟨y, rfl, rfl⟩
          refine ⟨fun w hw => held_of hw (by first | exact Fz.le_refl _ | assumption) (by intro q hq; simp only [List.mem_cons, List.not_mem_nil, or_false] at hq; rcases hq with rfl | rfl <;> simp [LgH]), ?_⟩
          have hrows : ([(bf.val h, l.take h), (Go.sliced (some ⟨b0, off0, none⟩) k m.length cap 4, e :: m')] : List (Value × List En)).flatMap (fun r => r.2) = l.take h ++ (e :: m') := by simp
          refine d_one (i := 18) (by decide +kernel) (d1_call rfl rfl rfl rfl (c_call callable122 rfl) (sl_ConcatE _ _ _ [(bf.val h, l.take h), (Go.sliced (some ⟨b0, off0, none⟩) k m.length cap 4, e :: m')] _ (Bf.reads (bf := .at y 2) (sz := 1) (n := 2) (Nat.le_refl _) rfl (by intro q hq; exact List.mem_append_left _ hq)) (by intro r hr; simp only [List.mem_cons, List.not_mem_nil, or_false] at hr; rcases hr with rfl | rfl; exact hst _ (by intro q hq; simp [LgH, hq]); exact hsr.frz (Fz.le_refl _)) (by intro r hr; simp only [List.mem_cons, List.not_mem_nil, or_false] at hr; rcases hr with rfl | rfl; exact fun e he => hl e (List.mem_of_mem_take he); exact fun e he => hm e (hdl e he)) (by simp [lens]; simp at hdn; omega) (by simp)) ?_)
          rintro v' F H' ⟨rfl, bf2, hok2, rfl, rfl⟩ _
          refine ⟨fun w hw => held_of hw (by first | exact Fz.le_refl _ | assumption) (by intro q hq; simp only [List.mem_cons, List.not_mem_nil, or_false] at hq; rcases hq with rfl | rfl <;> simp [LgH]), ?_⟩
          rw [hrows] at hok2 ⊢
          refine j_sel (H' := LgE a ix tm vt bf l.length :: (bf2.ents 4 (enV (l.take h ++ (e :: m'))) ++ (.mem x e.cells 4 :: (Fr)))) [bf2.ents 4 (enV (l.take h ++ (e :: m'))), [.mem y [bf.val h, Go.sliced (some ⟨b0, off0, none⟩) k m.length cap 4] 2], [LgE a ix tm vt bf l.length], bf.ents 4 (enV l), [.mem x e.cells 4], Fr] [2, 0, 4, 5] rfl rfl rfl ?_
          refine d_tk (i := 19) rfl rfl (by intro q hq; simp only [List.mem_cons, List.not_mem_nil, or_false] at hq; rcases hq with rfl | rfl <;> simp [LgH]) (v_nilCheck rfl) (d_tk (i := 20) rfl rfl (by intro q hq; simp only [List.mem_cons, List.not_mem_nil, or_false] at hq; rcases hq with rfl | rfl <;> simp [LgH]) (v_field (k := 3) rfl rfl rfl) (d_one (i := 21) (by decide +kernel) ?_))
          refine d1_last 1000000 ([]) rfl rfl rfl (a_store1 0 rfl rfl rfl rfl rfl (Nat.le_of_ble_eq_true rfl)) ?_
          refine j_heap (H' := LgH a ix tm vt bf2 (l.take h ++ (e :: m')) (.mem x e.cells 4 :: Fr)) rfl ?_
          refine d_end (by decide +kernel) (r_seq (r_region rfl (o_vl rfl rfl (v_field (k := 0) rfl rfl rfl) (o_vl rfl rfl (v_load (v := .int .u64 e.ix) rfl rfl (hcx _ _ 0 _ (by simp [LgH]) rfl)) (o_vl rfl rfl (v_assign rfl) (o_end ?_))))))
          refine j_drop (drop_in _ _ _ _) ?_
          exact r_ret1 Tryz.func107 rfl rfl ⟨⟨rfl, rfl, bf2, hok2, rfl⟩, Fz.le_refl _⟩
  · obtain rfl : k = m.length := by omega
    rw [List.drop_length] at hmg
    rw [hmg]
    refine r_exit rfl (r_seq (r_region rfl (o_vl rfl rfl (v_assign rfl) (o_end ?_))))
    exact r_ret1 Tryz.func107 rfl rfl ⟨⟨rfl, rfl, bf, hok, rfl⟩, Fz.le_refl _⟩
end Go.SX
namespace Go.SX
open Go Go.MapKept
def lookKV : List (Int × Value) → Int → Option Value
  | [], _ => none
  | x :: r, k => if x.1 = k then some x.2 else lookKV r k
theorem St.setObj {O : World} {F : Fz} {H : List Ent} {w : World} (h : St O F H w) {j b : Nat} {o o' : Obj} (hj : H[j]? = some (.obj b o)) {w' : World}
    (hos : w'.os = w.os) (htape : w'.tape = w.tape) (hout : w'.output = w.output) (hot : ∀ k, k ≠ b → w'.heap[k]? = w.heap[k]?) (hh : (Ent.obj b o').holds w') : St O F (H.set j (.obj b o')) w' := by
  have hm : Ent.obj b o ∈ H := List.mem_of_getElem? hj
  have hjl : j < H.length := by
    rcases Nat.lt_or_ge j H.length with h | h
    · exact h
    · simp [List.getElem?_eq_none h] at hj
  have hmap : (H.set j (.obj b o')).map Ent.b = H.map Ent.b := by
    apply List.ext_getElem?
    intro i
    simp only [List.getElem?_map, List.getElem?_set]
    by_cases hi : j = i
    · subst hi; rw [hj]; simp [hjl, Ent.b]
    · simp [hi]
  have hmem : ∀ e ∈ H.set j (.obj b o'), e = .obj b o' ∨ (e ∈ H ∧ e.b ≠ b) := by
    intro e he
    obtain ⟨i, hi⟩ := List.mem_iff_getElem?.1 he
    rw [List.getElem?_set] at hi
    by_cases hij : j = i
    · subst hij; simp [hjl] at hi; exact .inl hi.symm
    · simp only [hij, if_false] at hi
      refine .inr ⟨List.mem_of_getElem? hi, fun hb => ?_⟩
      have h1 : (H.map Ent.b)[i]? = some b := by simp [hi, hb]
      have h2 : (H.map Ent.b)[j]? = some b := by simp [hj, Ent.b]
      exact hij (nodup_inj h.nd h2 h1)
  refine ⟨hos.trans h.os, htape.trans h.tape, hout.trans h.output, fun k o hk => ?_, fun e he => ?_, by rw [hmap]; exact h.nd, fun e he => ?_⟩
  · have hne : k ≠ b := by
      rintro rfl
      have := h.ap _ hm
      simp only [Ent.b] at this
      rw [this] at hk; cases hk
    rw [hot k hne]; exact h.frz k o hk
  · rcases hmem e he with rfl | ⟨h1, h2⟩
    · exact hh
    · exact Ent.holds_of (h.own e h1) (hot _ h2)
  · rcases hmem e he with rfl | ⟨h1, _⟩
    · have := h.ap _ hm
      exact this
    · exact h.ap e h1
section
variable {C : Cx} {k : List Item} {τ : Env} {F : Fz} {H : List Ent} {dst : Option Nat} {ty t u kt et : TypeId} {pos : String} {aft : Array Edge} {g : Option (Nat × Bool)} {x y z : Operand}
end
end Go.SX
namespace Go.SX
open Go Go.Proofs
set_option maxRecDepth 4000
structure PM where
  kd : Nat
  fr : Nat
  to : Nat
  tm : Nat
  ix : Nat
  lt : Nat
  cm : Nat
  ok : Bool
  es : List PE
  six : Nat
  stm : Nat
  svt : Nat
  sd : List UInt8
structure PR where
  me : Nat
  dr : Nat
  term : Nat
  vote : Int
  role : Nat
  lead : Int
  lix : Nat
  ltm : Nat
  lvt : Nat
  l : List PE
  cm : Nat
  st : Nat
  ticks : Nat
  lim : Nat
  yes : Nat
  nx : List Nat
  mt : List Nat
  out : List PM
  chg : Bool
  fresh : Nat
  six : Nat
  stm : Nat
  svt : Nat
  sd : List UInt8
  rs : Bool
structure PE.B (e : PE) : Prop where
  tm : e.tm ≤ 300000
  ix : e.ix ≤ 300000
  kd : e.kd < 256
  dl : e.data.length ≤ 524288
  vm : e.kd = 1 → maskB e.data < 128
structure PM.B (m : PM) : Prop where
  kd : m.kd < 256
  fr : m.fr < 7
  to : m.to < 7
  tm : m.tm ≤ 300000
  ix : m.ix ≤ 300000
  lt : m.lt ≤ 300000
  cm : m.cm ≤ 300000
  es : ∀ e ∈ m.es, e.B
  el : m.es.length ≤ 16
  six : m.six ≤ 300000
  stm : m.stm ≤ 300000
  svt : m.svt < 128
  sd : m.sd.length ≤ 524288
structure PR.B (p : PR) : Prop where
  me : p.me < 7
  dr : p.dr ≤ 3
  term : p.term ≤ 300000
  v1 : -1 ≤ p.vote
  v2 : p.vote < 7
  role : p.role ≤ 3
  l1 : -1 ≤ p.lead
  l2 : p.lead < 7
  last : p.lix + p.l.length ≤ 300000
  ltm : p.ltm ≤ 300000
  lvt : p.lvt < 128
  l : ∀ e ∈ p.l, e.B
  cm : p.cm ≤ 300000
  st : p.st ≤ 300000
  ticks : p.ticks ≤ 300000
  lim : p.lim ≤ 7
  yes : p.yes < 128
  nx : p.nx.length = 7
  mt : p.mt.length = 7
  nxb : ∀ i, p.nx.getD i 0 ≤ 300000 + 1
  mtb : ∀ i, p.mt.getD i 0 ≤ 300000
  out : ∀ m ∈ p.out, m.B
  ol : p.out.length ≤ 300000
  fresh : p.fresh ≤ 300000
  six : p.six ≤ 300000
  stm : p.stm ≤ 300000
  svt : p.svt < 128
  sd : p.sd.length ≤ 524288
structure Mg where
  p : PM
  ev : Value
  es : List En
  sdv : Value
def Mg.cells (m : Mg) : List Value := [.int .u8 m.p.kd, .int .i64 m.p.fr, .int .i64 m.p.to, .int .u64 m.p.tm, .int .u64 m.p.ix, .int .u64 m.p.lt, .int .u64 m.p.cm, .bool m.p.ok, m.ev, .int .u64 m.p.six, .int .u64 m.p.stm, .int .u64 m.p.svt, m.sdv]
theorem Mg.cl (m : Mg) : m.cells.length = 13 := rfl
abbrev mgV (l : List Mg) : List Value := l.flatMap Mg.cells
structure Mg.ok (F : Fz) (m : Mg) : Prop where
  B : m.p.B
  es : m.es.map En.pure = m.p.es
  ev : Sl F [] 4 m.ev m.es.length (enV m.es)
  eok : ∀ e ∈ m.es, e.ok F
  sd : SlB F [] m.sdv m.p.sd
theorem Mg.ok.frz {F F' : Fz} {m : Mg} (h : m.ok F) (hle : F.le F') : m.ok F' := ⟨h.B, h.es, h.ev.frz hle, fun e he => (h.eok e he).frz hle, h.sd.frz hle⟩
theorem Mg.ok.one {F : Fz} {m : Mg} (h : m.ok F) : m.cells.all oneCellB = true := by
  obtain ⟨a, c, h1, _⟩ := Sl.shape h.ev
  obtain ⟨a2, c2, h2, _⟩ := Sl.shape h.sd
  simp [Mg.cells, h1, h2, oneCellB]
def DrOk (fb d : Nat) : Prop := d ≤ 3 ∧ ∀ (O : World) (F : Fz) (Fr : List Ent), Does Tryz.prog O 78 #[.float .f64 fb, .int .i64 4] F Fr (fun r F' H' => r = .int .i64 d ∧ F' = F ∧ H' = Fr)
structure Rf where
  p : PR
  lg : Nat
  lbf : Bf
  obf : Bf
  l : List En
  out : List Mg
  sdv : Value
  fb : Nat
def Rf.cells (r : Rf) : List Value :=
  [.int .i64 r.p.me, .int .i64 2, .int .i64 4, .float .f64 r.fb, .int .u64 r.p.term, .int .i64 r.p.vote, .int .u8 r.p.role, .int .i64 r.p.lead, ptrV r.lg, .int .u64 r.p.cm, .int .u64 r.p.st, .int .i64 r.p.ticks, .int .i64 r.p.lim, .int .u64 r.p.yes,
    .int .u64 (r.p.nx.getD 0 0), .int .u64 (r.p.nx.getD 1 0), .int .u64 (r.p.nx.getD 2 0), .int .u64 (r.p.nx.getD 3 0), .int .u64 (r.p.nx.getD 4 0), .int .u64 (r.p.nx.getD 5 0), .int .u64 (r.p.nx.getD 6 0),
    .int .u64 (r.p.mt.getD 0 0), .int .u64 (r.p.mt.getD 1 0), .int .u64 (r.p.mt.getD 2 0), .int .u64 (r.p.mt.getD 3 0), .int .u64 (r.p.mt.getD 4 0), .int .u64 (r.p.mt.getD 5 0), .int .u64 (r.p.mt.getD 6 0),
    r.obf.val r.out.length, .bool r.p.chg, .int .u64 r.p.fresh, .int .u64 r.p.six, .int .u64 r.p.stm, .int .u64 r.p.svt, r.sdv, .bool r.p.rs]
theorem Rf.cl (r : Rf) : r.cells.length = 36 := rfl
def RfE (a : Nat) (r : Rf) : Ent := .mem a r.cells 36
def RfT (r : Rf) (Fr : List Ent) : List Ent := LgH r.lg r.p.lix r.p.ltm r.p.lvt r.lbf r.l (r.obf.ents 13 (mgV r.out) ++ Fr)
def RfH (a : Nat) (r : Rf) (Fr : List Ent) : List Ent := RfE a r :: RfT r Fr
def RfL (r : Rf) : List Ent := LgE r.lg r.p.lix r.p.ltm r.p.lvt r.lbf r.l.length :: r.lbf.ents 4 (enV r.l)
def RfP (a : Nat) (r : Rf) : List Ent := RfE a r :: (RfL r ++ r.obf.ents 13 (mgV r.out))
theorem RfH_eq (a : Nat) (r : Rf) (Fr : List Ent) : RfH a r Fr = RfP a r ++ Fr := by simp [RfH, RfT, RfP, RfL, LgH]
structure Rf.ok (F : Fz) (r : Rf) : Prop where
  B : r.p.B
  l : r.l.map En.pure = r.p.l
  lok : ∀ e ∈ r.l, e.ok F
  lbf : r.lbf.ok r.l.length
  out : r.out.map Mg.p = r.p.out
  outok : ∀ m ∈ r.out, m.ok F
  obf : r.obf.ok r.out.length
  sd : SlB F [] r.sdv r.p.sd
  dr : DrOk r.fb r.p.dr
theorem Rf.ok.frz {F F' : Fz} {r : Rf} (h : r.ok F) (hle : F.le F') : r.ok F' :=
  ⟨h.B, h.l, fun e he => (h.lok e he).frz hle, h.lbf, h.out, fun m hm => (h.outok m hm).frz hle, h.obf, h.sd.frz hle, h.dr⟩
theorem Rf.ok.len {F : Fz} {r : Rf} (h : r.ok F) : r.l.length = r.p.l.length := by rw [← h.l, List.length_map]
theorem Rf.ok.bnd {F : Fz} {r : Rf} (h : r.ok F) : r.p.lix + r.l.length ≤ 300000 := by rw [h.len]; exact h.B.last
theorem Rf.ok.dl {F : Fz} {r : Rf} (h : r.ok F) : ∀ e ∈ r.l, e.data.length ≤ 524288 := fun e he => (h.B.l e.pure (by rw [← h.l]; exact List.mem_map.2 ⟨e, he, rfl⟩)).dl
theorem rfc {a : Nat} {r : Rf} {F : Fz} {H : List Ent} (j : Nat) {c : Value} (hm : RfE a r ∈ H) (hc : r.cells[j]? = some c) : Cell F H a (0 + j) c := by
  rw [Nat.zero_add]
  exact cell_own (cs := r.cells) (n := 36) hm hc
section
variable {C : Cx} {τ : Env} {F : Fz} {H : List Ent} {ty t : TypeId} {pos : String} {aft : Array Edge} {g : Option (Nat × Bool)} {x y : Operand}
theorem a_rf {a : Nat} {r : Rf} (r' : Rf) {off : Nat} {v : Value} (hs : (C.P.info? t).map (·.size) = some 1) (h1 : oneCellB v = true) (hx : ev τ x = some (.pointer (some ⟨a, off, none⟩))) (hy : ev τ y = some v) (hfit : off < 36) (hc : r'.cells = r.cells.set off v) :
    Act0 C ⟨none, .store t x y, ty, pos, aft, g⟩ τ F (RfE a r :: H) (RfE a r' :: H) := by
  have := a_store1 (C := C) (F := F) (H := RfE a r :: H) (ty := ty) (pos := pos) (aft := aft) (g := g) 0 (b := a) (n := 36) (cs := r.cells) rfl hs h1 hx hy hfit
  unfold RfE
  rw [hc]
  exact this
end
section
variable {C : Cx} {τ : Env} {F : Fz} {H : List Ent} {dst : Option Nat} {ty t u : TypeId} {pos : String} {aft : Array Edge} {g : Option (Nat × Bool)} {x y : Operand}
theorem v_minN {k k' : IntKind} {m n r : Nat} {ats : Array TypeId} (hx : ev τ x = some (.int k m)) (hy : ev τ y = some (.int k' n)) (hr : min m n = r) : Val C ⟨dst, .call { callee := .builtin .min, args := #[x, y], argTypes := ats }, ty, pos, aft, g⟩ τ F H (.int k r) := by
  have h := v_min (C := C) (F := F) (H := H) (dst := dst) (ty := ty) (pos := pos) (aft := aft) (g := g) (ats := ats) hx hy
  have e : (if (n : Int) < m then (n : Int) else m) = (r : Int) := by
    subst hr
    split <;> omega
  rw [e] at h
  exact h
theorem v_maxN {k k' : IntKind} {m n r : Nat} {ats : Array TypeId} (hx : ev τ x = some (.int k m)) (hy : ev τ y = some (.int k' n)) (hr : max m n = r) : Val C ⟨dst, .call { callee := .builtin .max, args := #[x, y], argTypes := ats }, ty, pos, aft, g⟩ τ F H (.int k r) := by
  have h := v_max (C := C) (F := F) (H := H) (dst := dst) (ty := ty) (pos := pos) (aft := aft) (g := g) (ats := ats) hx hy
  have e : (if (n : Int) > m then (n : Int) else m) = (r : Int) := by
    subst hr
    split <;> omega
  rw [e] at h
  exact h
theorem a_rf2 {a : Nat} {r : Rf} (r' : Rf) {off : Nat} {v w : Value} (hs : (C.P.info? t).map (·.size) = some 2) (h1 : oneCellB v = true) (h2 : oneCellB w = true) (hx : ev τ x = some (.pointer (some ⟨a, off, none⟩))) (hy : ev τ y = some (.agg #[v, w])) (hfit : off + 2 ≤ 36) (hc : r'.cells = putAt r.cells off [v, w]) :
    Act0 C ⟨none, .store t x y, ty, pos, aft, g⟩ τ F (RfE a r :: H) (RfE a r' :: H) := by
  have := a_store (C := C) (F := F) (H := RfE a r :: H) (ty := ty) (pos := pos) (aft := aft) (g := g) (sz := 2) (v := .agg #[v, w]) 0 (b := a) (n := 36) (cs := r.cells) rfl hs rfl (by show [v, w].all oneCellB = true; simp [h1, h2]) hx hy hfit
  unfold RfE
  rw [hc]
  exact this
end
def PR.last (p : PR) : Nat := p.lix + p.l.length
def PR.termAt (p : PR) (i : Nat) : Nat × Bool := if i < p.lix ∨ p.lix + p.l.length < i then (0, false) else if i = p.lix then (p.ltm, true) else (((p.l[i - p.lix - 1]?).map PE.tm).getD 0, true)
def PR.lastTerm (p : PR) : Nat := (p.termAt p.last).1
def PR.voters (p : PR) : Nat × Nat := p.l.foldl (fun q e => if e.kd = 1 then (maskB e.data, e.ix) else q) (p.lvt, p.lix)
def PR.fit (p : PR) (i t : Nat) : Bool := (p.termAt i).2 && decide ((p.termAt i).1 = t)
def PR.newer (p : PR) (i t : Nat) : Bool := decide (p.lastTerm < t) || (decide (t = p.lastTerm) && decide (p.last ≤ i))
theorem lgTerm_pure (ix tm : Nat) (l : List En) (p : PR) (hl : l.map En.pure = p.l) (h1 : ix = p.lix) (h2 : tm = p.ltm) (i : Nat) : lgTerm ix tm l i = p.termAt i := by
  subst h1 h2
  unfold lgTerm PR.termAt
  rw [← hl, List.length_map, List.getElem?_map]
  cases l[i - p.lix - 1]? <;> rfl
theorem lgVoters_pure (l : List En) : ∀ q : Nat × Nat, (l.map En.pure).foldl (fun q e => if e.kd = 1 then (maskB e.data, e.ix) else q) q = l.foldl (fun p e => if e.kd = 1 then (maskB e.data, e.ix) else p) q := by
  intro q
  rw [List.foldl_map]
  rfl
theorem rl_Last (O : World) (F : Fz) (a : Nat) (r : Rf) (Fr : List Ent) (hr : r.ok F) : Does Tryz.prog O 45 #[ptrV r.lg] F (RfH a r Fr) (fun v F' H' => v = .int .u64 r.p.last ∧ F' = F ∧ H' = RfH a r Fr) := by
  have hb := hr.bnd
  have h := lg_Last O F r.lg r.p.lix r.p.ltm r.p.lvt r.lbf r.l.length (r.lbf.ents 4 (enV r.l) ++ (RfE a r :: (r.obf.ents 13 (mgV r.out) ++ Fr))) (by omega)
  rw [hr.len] at h
  have h2 := does_same (perm_in (RfE a r) (LgE r.lg r.p.lix r.p.ltm r.p.lvt r.lbf r.l.length) (r.lbf.ents 4 (enV r.l)) (r.obf.ents 13 (mgV r.out) ++ Fr)) (by rw [hr.len]; exact h)
  exact h2
theorem rl_Base (O : World) (F : Fz) (a : Nat) (r : Rf) (Fr : List Ent) : Does Tryz.prog O 44 #[ptrV r.lg] F (RfH a r Fr) (fun v F' H' => v = .int .u64 r.p.lix ∧ F' = F ∧ H' = RfH a r Fr) :=
  does_same (perm_in (RfE a r) (LgE r.lg r.p.lix r.p.ltm r.p.lvt r.lbf r.l.length) (r.lbf.ents 4 (enV r.l)) (r.obf.ents 13 (mgV r.out) ++ Fr)) (lg_Base O F r.lg r.p.lix r.p.ltm r.p.lvt r.lbf r.l.length _)
theorem rl_Term (O : World) (F : Fz) (a : Nat) (r : Rf) (i : Nat) (Fr : List Ent) (hr : r.ok F) (hi : i < 18446744073709551616) : Does Tryz.prog O 31 #[ptrV r.lg, .int .u64 i] F (RfH a r Fr) (fun v F' H' => v = .tuple #[.int .u64 (r.p.termAt i).1, .bool (r.p.termAt i).2] ∧ F' = F ∧ H' = RfH a r Fr) := by
  have hb := hr.bnd
  rw [← lgTerm_pure _ _ r.l r.p hr.l rfl rfl]
  exact does_same (perm_in (RfE a r) (LgE r.lg r.p.lix r.p.ltm r.p.lvt r.lbf r.l.length) (r.lbf.ents 4 (enV r.l)) (r.obf.ents 13 (mgV r.out) ++ Fr)) (lg_Term O F r.lg r.p.lix r.p.ltm r.p.lvt r.lbf r.l i _ (by omega) hr.lbf hi)
theorem rl_LastTerm (O : World) (F : Fz) (a : Nat) (r : Rf) (Fr : List Ent) (hr : r.ok F) : Does Tryz.prog O 80 #[ptrV r.lg] F (RfH a r Fr) (fun v F' H' => v = .int .u64 r.p.lastTerm ∧ F' = F ∧ H' = RfH a r Fr) := by
  have hb := hr.bnd
  have e : r.p.lastTerm = lgLastTerm r.p.lix r.p.ltm r.l := by
    unfold PR.lastTerm lgLastTerm PR.last
    rw [lgTerm_pure _ _ r.l r.p hr.l rfl rfl, hr.len]
  rw [e]
  exact does_same (perm_in (RfE a r) (LgE r.lg r.p.lix r.p.ltm r.p.lvt r.lbf r.l.length) (r.lbf.ents 4 (enV r.l)) (r.obf.ents 13 (mgV r.out) ++ Fr)) (lg_LastTerm O F r.lg r.p.lix r.p.ltm r.p.lvt r.lbf r.l _ (by omega) hr.lbf)
theorem rl_Fit (O : World) (F : Fz) (a : Nat) (r : Rf) (i t : Nat) (Fr : List Ent) (hr : r.ok F) (hi : i < 18446744073709551616) : Does Tryz.prog O 106 #[ptrV r.lg, .int .u64 i, .int .u64 t] F (RfH a r Fr) (fun v F' H' => v = .bool (r.p.fit i t) ∧ F' = F ∧ H' = RfH a r Fr) := by
  have hb := hr.bnd
  have e : r.p.fit i t = fitB r.p.lix r.p.ltm r.l i t := by
    unfold PR.fit fitB
    rw [lgTerm_pure _ _ r.l r.p hr.l rfl rfl]
  rw [e]
  exact does_same (perm_in (RfE a r) (LgE r.lg r.p.lix r.p.ltm r.p.lvt r.lbf r.l.length) (r.lbf.ents 4 (enV r.l)) (r.obf.ents 13 (mgV r.out) ++ Fr)) (lg_Fit O F r.lg r.p.lix r.p.ltm r.p.lvt r.lbf r.l i t _ (by omega) hr.lbf hi)
theorem rl_Newer (O : World) (F : Fz) (a : Nat) (r : Rf) (i t : Nat) (Fr : List Ent) (hr : r.ok F) : Does Tryz.prog O 105 #[ptrV r.lg, .int .u64 i, .int .u64 t] F (RfH a r Fr) (fun v F' H' => v = .bool (r.p.newer i t) ∧ F' = F ∧ H' = RfH a r Fr) := by
  have hb := hr.bnd
  have e : r.p.newer i t = newerB r.p.lix r.p.ltm r.l i t := by
    unfold PR.newer newerB PR.lastTerm lgLastTerm PR.last
    rw [lgTerm_pure _ _ r.l r.p hr.l rfl rfl, hr.len]
  rw [e]
  exact does_same (perm_in (RfE a r) (LgE r.lg r.p.lix r.p.ltm r.p.lvt r.lbf r.l.length) (r.lbf.ents 4 (enV r.l)) (r.obf.ents 13 (mgV r.out) ++ Fr)) (lg_Newer O F r.lg r.p.lix r.p.ltm r.p.lvt r.lbf r.l i t _ (by omega) hr.lbf)
theorem rl_Voters (O : World) (F : Fz) (a : Nat) (r : Rf) (Fr : List Ent) (hr : r.ok F) : Does Tryz.prog O 32 #[ptrV r.lg] F (RfH a r Fr) (fun v F' H' => v = .tuple #[.int .u64 r.p.voters.1, .int .u64 r.p.voters.2] ∧ F' = F ∧ H' = RfH a r Fr) := by
  have hb := hr.bnd
  have e : r.p.voters = lgVoters r.p.lix r.p.lvt r.l := by
    unfold PR.voters lgVoters
    rw [← hr.l, lgVoters_pure]
  rw [e]
  exact does_same (perm_in (RfE a r) (LgE r.lg r.p.lix r.p.ltm r.p.lvt r.lbf r.l.length) (r.lbf.ents 4 (enV r.l)) (r.obf.ents 13 (mgV r.out) ++ Fr)) (lg_Voters O F r.lg r.p.lix r.p.ltm r.p.lvt r.lbf r.l _ (by omega) hr.lbf hr.lok (fun e he => by have := hr.dl e he; omega))
end Go.SX
namespace Go.SX
open Go Go.Proofs
set_option maxRecDepth 4000
theorem r_Role (O : World) (F : Fz) (a : Nat) (r : Rf) (Fr : List Ent) : Does Tryz.prog O 25 #[ptrV a] F (RfH a r Fr) (fun v F' H' => v = .int .u8 r.p.role ∧ F' = F ∧ H' = RfH a r Fr) := by
  refine does_of_run (args := [_]) Tryz.func25 rfl rfl ?_
  refine r_seq (r_region rfl (o_vl rfl rfl (v_assign rfl) (o_end (r_seq (r_seq (r_region rfl (o_vl rfl rfl (v_move rfl) (o_vl rfl rfl (v_peqnil rfl rfl rfl) (o_end (r_false rfl (r_skip (r_seq (r_region rfl ?_)))))))))))))
  refine o_vl rfl rfl (v_move rfl) (o_vl rfl rfl (v_nilCheck rfl) (o_vl rfl rfl (v_field (k := 6) rfl rfl rfl) (o_vl rfl rfl (v_load rfl rfl (rfc (r := r) 6 (by first | exact List.mem_cons_self .. | simp [RfH]) rfl)) (o_vl rfl rfl (v_assign rfl) (o_end ?_)))))
  exact r_ret1 Tryz.func25 rfl rfl ⟨⟨rfl, rfl, rfl⟩, Fz.le_refl _⟩
theorem r_Leads (O : World) (F : Fz) (a : Nat) (r : Rf) (Fr : List Ent) : Does Tryz.prog O 26 #[ptrV a] F (RfH a r Fr) (fun v F' H' => v = .bool (decide (r.p.role = 3)) ∧ F' = F ∧ H' = RfH a r Fr) := by
  refine does_of_run (args := [_]) Tryz.func26 rfl rfl ?_
  have e : decide (r.p.role = 3) = decide ((r.p.role : Int) = 3) := decide_eq_decide.2 (by omega)
  rw [e]
  refine r_seq (r_region rfl (o_vl rfl rfl (v_assign rfl) (o_end (r_seq (r_region rfl (o_vl rfl rfl (v_move rfl) (o_vl rfl rfl (v_pneqnil rfl rfl rfl) (o_vl rfl rfl (v_move rfl) (o_vl rfl rfl (v_move rfl) (o_vl rfl rfl (v_nilCheck rfl) (o_vl rfl rfl (v_field (k := 6) rfl rfl rfl) (o_vl rfl rfl (v_load rfl rfl (rfc (r := r) 6 (by first | exact List.mem_cons_self .. | simp [RfH]) rfl)) (o_vl rfl rfl (v_eql rfl rfl) ?_)))))))))))))
  refine o_vl rfl rfl (v_pick1 rfl rfl) (o_vl rfl rfl (v_assign rfl) (o_end ?_))
  exact r_ret1 Tryz.func26 rfl rfl ⟨⟨rfl, rfl, rfl⟩, Fz.le_refl _⟩
theorem r_Leader (O : World) (F : Fz) (a : Nat) (r : Rf) (Fr : List Ent) : Does Tryz.prog O 13 #[ptrV a] F (RfH a r Fr) (fun v F' H' => v = .int .i64 r.p.lead ∧ F' = F ∧ H' = RfH a r Fr) := by
  refine does_of_run (args := [_]) Tryz.func13 rfl rfl ?_
  refine r_seq (r_region rfl (o_vl rfl rfl (v_assign rfl) (o_end (r_seq (r_seq (r_region rfl (o_vl rfl rfl (v_move rfl) (o_vl rfl rfl (v_peqnil rfl rfl rfl) (o_end (r_false rfl (r_skip (r_seq (r_region rfl ?_)))))))))))))
  refine o_vl rfl rfl (v_move rfl) (o_vl rfl rfl (v_nilCheck rfl) (o_vl rfl rfl (v_field (k := 7) rfl rfl rfl) (o_vl rfl rfl (v_load rfl rfl (rfc (r := r) 7 (by first | exact List.mem_cons_self .. | simp [RfH]) rfl)) (o_vl rfl rfl (v_assign rfl) (o_end ?_)))))
  exact r_ret1 Tryz.func13 rfl rfl ⟨⟨rfl, rfl, rfl⟩, Fz.le_refl _⟩
theorem r_Term (O : World) (F : Fz) (a : Nat) (r : Rf) (Fr : List Ent) : Does Tryz.prog O 14 #[ptrV a] F (RfH a r Fr) (fun v F' H' => v = .int .u64 r.p.term ∧ F' = F ∧ H' = RfH a r Fr) := by
  refine does_of_run (args := [_]) Tryz.func14 rfl rfl ?_
  refine r_seq (r_region rfl (o_vl rfl rfl (v_assign rfl) (o_end (r_seq (r_seq (r_region rfl (o_vl rfl rfl (v_move rfl) (o_vl rfl rfl (v_peqnil rfl rfl rfl) (o_end (r_false rfl (r_skip (r_seq (r_region rfl ?_)))))))))))))
  refine o_vl rfl rfl (v_move rfl) (o_vl rfl rfl (v_nilCheck rfl) (o_vl rfl rfl (v_field (k := 4) rfl rfl rfl) (o_vl rfl rfl (v_field (k := 0) rfl rfl rfl) (o_vl rfl rfl (v_load rfl rfl (rfc (r := r) 4 (by first | exact List.mem_cons_self .. | simp [RfH]) rfl)) (o_vl rfl rfl (v_assign rfl) (o_end ?_))))))
  exact r_ret1 Tryz.func14 rfl rfl ⟨⟨rfl, rfl, rfl⟩, Fz.le_refl _⟩
theorem r_Commit (O : World) (F : Fz) (a : Nat) (r : Rf) (Fr : List Ent) : Does Tryz.prog O 15 #[ptrV a] F (RfH a r Fr) (fun v F' H' => v = .int .u64 r.p.cm ∧ F' = F ∧ H' = RfH a r Fr) := by
  refine does_of_run (args := [_]) Tryz.func15 rfl rfl ?_
  refine r_seq (r_region rfl (o_vl rfl rfl (v_assign rfl) (o_end (r_seq (r_seq (r_region rfl (o_vl rfl rfl (v_move rfl) (o_vl rfl rfl (v_peqnil rfl rfl rfl) (o_end (r_false rfl (r_skip (r_seq (r_region rfl ?_)))))))))))))
  refine o_vl rfl rfl (v_move rfl) (o_vl rfl rfl (v_nilCheck rfl) (o_vl rfl rfl (v_field (k := 9) rfl rfl rfl) (o_vl rfl rfl (v_load rfl rfl (rfc (r := r) 9 (by first | exact List.mem_cons_self .. | simp [RfH]) rfl)) (o_vl rfl rfl (v_assign rfl) (o_end ?_)))))
  exact r_ret1 Tryz.func15 rfl rfl ⟨⟨rfl, rfl, rfl⟩, Fz.le_refl _⟩
theorem r_Last (O : World) (F : Fz) (a : Nat) (r : Rf) (Fr : List Ent) (hr : r.ok F) : Does Tryz.prog O 65 #[ptrV a] F (RfH a r Fr) (fun v F' H' => v = .int .u64 r.p.last ∧ F' = F ∧ H' = RfH a r Fr) := by
  refine does_of_run (args := [_]) Tryz.func65 rfl rfl ?_
  refine r_seq (r_region rfl (o_vl rfl rfl (v_assign rfl) (o_end (r_seq (r_seq (r_region rfl (o_vl rfl rfl (v_move rfl) (o_vl rfl rfl (v_peqnil rfl rfl rfl) (o_end (r_false rfl (r_skip (r_seq (r_region rfl ?_)))))))))))))
  refine o_vl rfl rfl (v_move rfl) (o_vl rfl rfl (v_nilCheck rfl) (o_vl rfl rfl (v_field (k := 8) rfl rfl rfl) (o_vl rfl rfl (v_load rfl rfl (rfc (r := r) 8 (by first | exact List.mem_cons_self .. | simp [RfH]) rfl)) (o_call rfl rfl rfl rfl (c_call callable45 rfl) (rl_Last _ _ a r Fr hr) ?_))))
  rintro v' F H' ⟨rfl, rfl, rfl⟩ _
  refine o_vl rfl rfl (v_assign rfl) (o_end ?_)
  exact r_ret1 Tryz.func65 rfl rfl ⟨⟨rfl, rfl, rfl⟩, Fz.le_refl _⟩
theorem r_Base (O : World) (F : Fz) (a : Nat) (r : Rf) (Fr : List Ent) : Does Tryz.prog O 66 #[ptrV a] F (RfH a r Fr) (fun v F' H' => v = .int .u64 r.p.lix ∧ F' = F ∧ H' = RfH a r Fr) := by
  refine does_of_run (args := [_]) Tryz.func66 rfl rfl ?_
  refine r_seq (r_region rfl (o_vl rfl rfl (v_assign rfl) (o_end (r_seq (r_seq (r_region rfl (o_vl rfl rfl (v_move rfl) (o_vl rfl rfl (v_peqnil rfl rfl rfl) (o_end (r_false rfl (r_skip (r_seq (r_region rfl ?_)))))))))))))
  refine o_vl rfl rfl (v_move rfl) (o_vl rfl rfl (v_nilCheck rfl) (o_vl rfl rfl (v_field (k := 8) rfl rfl rfl) (o_vl rfl rfl (v_load rfl rfl (rfc (r := r) 8 (by first | exact List.mem_cons_self .. | simp [RfH]) rfl)) (o_call rfl rfl rfl rfl (c_call callable44 rfl) (rl_Base _ _ a r Fr) ?_))))
  rintro v' F H' ⟨rfl, rfl, rfl⟩ _
  refine o_vl rfl rfl (v_assign rfl) (o_end ?_)
  exact r_ret1 Tryz.func66 rfl rfl ⟨⟨rfl, rfl, rfl⟩, Fz.le_refl _⟩
theorem r_Voters (O : World) (F : Fz) (a : Nat) (r : Rf) (Fr : List Ent) (hr : r.ok F) : Does Tryz.prog O 17 #[ptrV a] F (RfH a r Fr) (fun v F' H' => v = .int .u64 r.p.voters.1 ∧ F' = F ∧ H' = RfH a r Fr) := by
  refine does_of_run (args := [_]) Tryz.func17 rfl rfl ?_
  refine r_seq (r_region rfl (o_vl rfl rfl (v_assign rfl) (o_end (r_seq (r_seq (r_region rfl (o_vl rfl rfl (v_move rfl) (o_vl rfl rfl (v_peqnil rfl rfl rfl) (o_end (r_false rfl (r_skip (r_seq (r_region rfl ?_)))))))))))))
  refine o_vl rfl rfl (v_move rfl) (o_vl rfl rfl (v_nilCheck rfl) (o_vl rfl rfl (v_field (k := 8) rfl rfl rfl) (o_vl rfl rfl (v_load rfl rfl (rfc (r := r) 8 (by first | exact List.mem_cons_self .. | simp [RfH]) rfl)) (o_call rfl rfl rfl rfl (c_call callable32 rfl) (rl_Voters _ _ a r Fr hr) ?_))))
  rintro v' F H' ⟨rfl, rfl, rfl⟩ _
  refine o_vl rfl rfl (v_move rfl) (o_vl rfl rfl (v_extract rfl rfl) (o_vl rfl rfl (v_extract rfl rfl) (o_vl rfl rfl (v_assign rfl) (o_vl rfl rfl (v_assign rfl) (o_end (r_seq (r_region rfl (o_vl rfl rfl (v_move rfl) (o_vl rfl rfl (v_assign rfl) (o_end ?_))))))))))
  exact r_ret1 Tryz.func17 rfl rfl ⟨⟨rfl, rfl, rfl⟩, Fz.le_refl _⟩
theorem r_Ready (O : World) (F : Fz) (a : Nat) (r : Rf) (Fr : List Ent) (hr : r.ok F) : Does Tryz.prog O 12 #[ptrV a] F (RfH a r Fr) (fun v F' H' => v = .bool (decide (r.p.role = 3) && decide ((r.p.termAt r.p.cm).1 = r.p.term)) ∧ F' = F ∧ H' = RfH a r Fr) := by
  have hcm := hr.B.cm
  refine does_of_run (args := [_]) Tryz.func12 rfl rfl ?_
  refine r_seq (r_region rfl (o_vl rfl rfl (v_assign rfl) (o_end (r_seq (r_seq (r_region rfl (o_vl rfl rfl (v_move rfl) (o_call rfl rfl rfl rfl (c_call callable26 rfl) (r_Leads _ _ a r Fr) ?_))))))))
  rintro v' F H' ⟨rfl, rfl, rfl⟩ _
  by_cases h : r.p.role = 3
  · refine j_slot 6 rfl (v' := .bool true) (by rw [decide_eq_true h]) ?_
    refine o_vl rfl rfl (v_not rfl) (o_end (r_false rfl (r_skip (r_seq (d_region 1000000 rfl ([RfE a r]) ?_)))))
    refine d_tk (i := 0) rfl rfl (by simp [RfH]) (v_move rfl) (d_tk (i := 1) rfl rfl (by simp [RfH]) (v_nilCheck rfl) (d_tk (i := 2) rfl rfl (by simp [RfH]) (v_field (k := 8) rfl rfl rfl) (d_tk (i := 3) rfl rfl (by simp [RfH]) (v_load rfl rfl (rfc (r := r) 8 (by first | exact List.mem_cons_self .. | simp [RfH]) rfl)) (d_tk (i := 4) rfl rfl (by simp [RfH]) (v_move rfl) (d_tk (i := 5) rfl rfl (by simp [RfH]) (v_nilCheck rfl) (d_tk (i := 6) rfl rfl (by simp [RfH]) (v_field (k := 9) rfl rfl rfl) (d_tk (i := 7) rfl rfl (by simp [RfH]) (v_load rfl rfl (rfc (r := r) 9 (by first | exact List.mem_cons_self .. | simp [RfH]) rfl)) (d_one (i := 8) (by decide +kernel) (d1_call rfl rfl rfl rfl (c_call callable31 rfl) (rl_Term _ _ a r r.p.cm Fr hr (by omega)) ?_)))))))))
    rintro v' F H' ⟨rfl, rfl, rfl⟩ _
    refine ⟨fun w hw => held_of hw (by first | exact Fz.le_refl _ | assumption) (by simp [RfH]), ?_⟩
    refine d_tk (i := 9) rfl rfl (by simp [RfH]) (v_move rfl) (d_tk (i := 10) rfl rfl (by simp [RfH]) (v_extract rfl rfl) (d_tk (i := 11) rfl rfl (by simp [RfH]) (v_extract rfl rfl) (d_tk (i := 12) rfl rfl (by simp [RfH]) (v_assign rfl) (d_tk (i := 13) rfl rfl (by simp [RfH]) (v_assign rfl) (d_end (by decide +kernel) (r_seq (r_region rfl (o_vl rfl rfl (v_move rfl) (o_vl rfl rfl (v_move rfl) (o_vl rfl rfl (v_nilCheck rfl) (o_vl rfl rfl (v_field (k := 4) rfl rfl rfl) (o_vl rfl rfl (v_field (k := 0) rfl rfl rfl) (o_vl rfl rfl (v_load rfl rfl (rfc (r := r) 4 (by first | exact List.mem_cons_self .. | simp [RfH]) rfl)) ?_)))))))))))))
    refine o_vl rfl rfl (v_eql rfl rfl) (o_vl rfl rfl (v_assign rfl) (o_end ?_))
    refine r_ret1 Tryz.func12 rfl rfl ⟨⟨?_, rfl, rfl⟩, Fz.le_refl _⟩
    rw [decide_eq_true h, Bool.true_and]
    congr 1
    exact decide_eq_decide.2 (by omega)
  · skip
    refine j_slot 6 rfl (v' := .bool false) (by rw [decide_eq_false h]) ?_
    refine o_vl rfl rfl (v_not rfl) (o_end (r_true rfl (r_seq (r_region rfl (o_vl rfl rfl (v_assign rfl) (o_end ?_))))))
    refine r_ret1 Tryz.func12 rfl rfl ⟨⟨?_, rfl, rfl⟩, Fz.le_refl _⟩
    rw [decide_eq_false h, Bool.false_and]
end Go.SX
namespace Go.SX
open Go Go.Proofs
set_option maxRecDepth 4000
section
variable {C : Cx} {τ : Env} {F : Fz} {H : List Ent} {dst : Option Nat} {ty t u : TypeId} {pos : String} {aft : Array Edge} {g : Option (Nat × Bool)} {x y : Operand}
theorem v_ext {f : FuncId} {fn : Func} {e : Array Value → Sem Value} {args : List Operand} {ats : Array TypeId} {vs : List Value} {v : Value} (hf : C.P.funcs[f]? = some fn) (hname : (fn.name == "runtime.NumGoroutine") = false)
    (hb : fn.body.isNone = true) (hn : Extern.findNext fn = none) (he : Extern.find fn = some e) (ha : evs τ args = some vs) (hr : ∀ w, (e vs.toArray).run C.P w = .ok v w) :
    Val C ⟨dst, .call { callee := .value (.func f), args := args.toArray, argTypes := ats }, ty, pos, aft, g⟩ τ F H v := fun a w henv _ => by
  have hargs := evs_eval henv ha
  have h1 : (args.toArray.map a.eval) = vs.toArray := by rw [← hargs]; simp
  have h2 := run_callFunc_extern (P := C.P) (f := f) hf hname hb hn he vs.toArray w
  simp only [execOp, resolve, Sem.run_bind, h1, Act.eval, Deferred.ofValue]
  simp [invoke, h2, hr]
theorem v_itof {src d : TypeId} {k : IntKind} {m : Int} {b : Nat} (hs : C.P.underlying src = some (.int k)) (hd : C.P.underlying d = some (.float .f64)) (hx : ev τ x = some (.int k m)) (hr : FloatKind.f64.nearest m = b) :
    Val C ⟨dst, .convert src d x, ty, pos, aft, g⟩ τ F H (.float .f64 b) := fun a w ha _ => by
  subst hr
  simp only [execOp, ha.eval hx, convert, underlying, program]
  simp only [bind, pure, Sem.bind, Sem.run, hs, hd]
  rfl
theorem v_ftoi {src d : TypeId} {b : Nat} {n : Int} (hs : (C.P.underlying src).isSome = true) (hd : C.P.underlying d = some (.int .i64)) (hx : ev τ x = some (.float .f64 b)) (hr : floatToIntVal .f64 b .i64 = some n) :
    Val C ⟨dst, .convert src d x, ty, pos, aft, g⟩ τ F H (.int .i64 n) := fun a w ha _ => by
  have := run_convert_float_int (P := C.P) w src d .f64 .i64 b n hs hd hr
  simp only [execOp, ha.eval hx]
  simp [go_sem, this]
theorem v_farith {op : BinOp} {b c r : Nat} (hx : ev τ x = some (.float .f64 b)) (hy : ev τ y = some (.float .f64 c)) (hg : eqGuard op t x y (.float .f64 b) (.float .f64 c) = pure ()) (hr : floatBits op .f64 b c = some r) :
    Val C ⟨dst, .binOp op t x y u, ty, pos, aft, g⟩ τ F H (.float .f64 r) :=
  v_bin hx hy hg fun w _ => run_float_arith w op t .f64 b c r hr
def fcmpB (op : BinOp) (b c : Nat) : Option Bool :=
  match op with
  | .eql => some (FloatKind.f64.format.order b c == some .eq)
  | .neq => some (FloatKind.f64.format.order b c != some .eq)
  | .leq => some (FloatKind.f64.format.order b c == some .lt || FloatKind.f64.format.order b c == some .eq)
  | .gtr => some (FloatKind.f64.format.order b c == some .gt)
  | .geq => some (FloatKind.f64.format.order b c == some .gt || FloatKind.f64.format.order b c == some .eq)
  | _ => none
theorem v_fcmp {op : BinOp} {b c : Nat} {q : Bool} (hx : ev τ x = some (.float .f64 b)) (hy : ev τ y = some (.float .f64 c)) (hg : eqGuard op t x y (.float .f64 b) (.float .f64 c) = pure ()) (hr : fcmpB op b c = some q) :
    Val C ⟨dst, .binOp op t x y u, ty, pos, aft, g⟩ τ F H (.bool q) :=
  v_bin hx hy hg fun w _ => by
    unfold fcmpB at hr
    cases op <;> simp only [reduceCtorEq, Option.some.injEq] at hr <;> (subst hr; rfl)
end
def popc (n : Nat) : Nat := ((List.range 7).filter fun i => n.testBit i).length
theorem u64_and (x y : Nat) (hx : x < 18446744073709551616) (hy : y < 18446744073709551616) : bitOp .and .u64 (x : Int) (y : Int) = ((x &&& y : Nat) : Int) := by
  show IntKind.u64.wrap ((BitVec.ofInt 64 (x : Int) &&& BitVec.ofInt 64 (y : Int)).toNat : Int) = _
  rw [BitVec.toNat_and, BitVec.ofInt_natCast, BitVec.ofInt_natCast, BitVec.toNat_ofNat, BitVec.toNat_ofNat, Nat.mod_eq_of_lt (by omega), Nat.mod_eq_of_lt (by omega)]
  have := Nat.and_le_left (n := x) (m := y)
  exact wrap_u64 (by omega) (by omega)
theorem u64_orN (x y : Nat) (hx : x < 128) (hy : y < 128) : bitOp .or .u64 (x : Int) (y : Int) = ((x ||| y : Nat) : Int) := by
  show IntKind.u64.wrap ((BitVec.ofInt 64 (x : Int) ||| BitVec.ofInt 64 (y : Int)).toNat : Int) = _
  rw [BitVec.toNat_or, BitVec.ofInt_natCast, BitVec.ofInt_natCast, BitVec.toNat_ofNat, BitVec.toNat_ofNat, Nat.mod_eq_of_lt (by omega), Nat.mod_eq_of_lt (by omega)]
  have : x ||| y < 2 ^ 7 := Nat.or_lt_two_pow (by omega) (by omega)
  exact wrap_u64 (by omega) (by omega)
def ones1 (n : Nat) : Int := IntKind.u64.wrap (bitOp .and .u64 (Int.fdiv n (2 ^ (min (1 : Int).toNat 64))) 6148914691236517205 + bitOp .and .u64 n 6148914691236517205)
def ones2 (n : Int) : Int := IntKind.u64.wrap (bitOp .and .u64 (Int.fdiv n (2 ^ (min (2 : Int).toNat 64))) 3689348814741910323 + bitOp .and .u64 n 3689348814741910323)
def ones3 (n : Int) : Int := bitOp .and .u64 (IntKind.u64.wrap (Int.fdiv n (2 ^ (min (4 : Int).toNat 64)) + n)) 1085102592571150095
def ones4 (k : Nat) (n : Int) : Int := IntKind.u64.wrap (n + Int.fdiv n (2 ^ (min (k : Int).toNat 64)))
theorem ones_popc : ∀ n < 128, bitOp .and .i64 (IntKind.i64.wrap (ones4 32 (ones4 16 (ones4 8 (ones3 (ones2 (ones1 n))))))) 127 = (popc n : Int) := by decide +kernel
theorem b_Ones (O : World) (F : Fz) (n : Nat) (Fr : List Ent) (hn : n < 128) : Does Tryz.prog O 33 #[.int .u64 n] F Fr (fun v F' H' => v = .int .i64 (popc n) ∧ F' = F ∧ H' = Fr) := by
  refine does_of_run (args := [_]) Tryz.func33 rfl rfl ?_
  have h := ones_popc n hn
  refine r_seq (r_region rfl (o_vl rfl rfl (v_assign rfl) (o_end (r_seq (r_region rfl (o_vl rfl rfl (v_move rfl) (o_vl rfl rfl (v_shr rfl rfl (by decide) rfl) (o_vl rfl rfl (v_and rfl rfl rfl) (o_vl rfl rfl (v_move rfl) (o_vl rfl rfl (v_and rfl rfl rfl) (o_vl rfl rfl (v_add rfl rfl (r := ones1 n) rfl) (o_vl rfl rfl (v_assign rfl) (o_end ?_)))))))))))))
  refine r_seq (r_region rfl (o_vl rfl rfl (v_move rfl) (o_vl rfl rfl (v_shr rfl rfl (by decide) rfl) (o_vl rfl rfl (v_and rfl rfl rfl) (o_vl rfl rfl (v_move rfl) (o_vl rfl rfl (v_and rfl rfl rfl) (o_vl rfl rfl (v_add rfl rfl (r := ones2 (ones1 n)) rfl) (o_vl rfl rfl (v_assign rfl) (o_end (r_seq (r_region rfl (o_vl rfl rfl (v_move rfl) (o_vl rfl rfl (v_shr rfl rfl (by decide) rfl) ?_)))))))))))))
  refine o_vl rfl rfl (v_move rfl) (o_vl rfl rfl (v_add rfl rfl rfl) (o_vl rfl rfl (v_and rfl rfl (r := ones3 (ones2 (ones1 n))) rfl) (o_vl rfl rfl (v_assign rfl) (o_end (r_seq (r_region rfl (o_vl rfl rfl (v_move rfl) (o_vl rfl rfl (v_move rfl) (o_vl rfl rfl (v_shr rfl rfl (by decide) rfl) (o_vl rfl rfl (v_add rfl rfl (r := ones4 8 (ones3 (ones2 (ones1 n)))) rfl) (o_vl rfl rfl (v_assign rfl) (o_end (r_seq ?_)))))))))))))
  refine r_region rfl (o_vl rfl rfl (v_move rfl) (o_vl rfl rfl (v_move rfl) (o_vl rfl rfl (v_shr rfl rfl (by decide) rfl) (o_vl rfl rfl (v_add rfl rfl (r := ones4 16 (ones4 8 (ones3 (ones2 (ones1 n))))) rfl) (o_vl rfl rfl (v_assign rfl) (o_end (r_seq (r_region rfl (o_vl rfl rfl (v_move rfl) (o_vl rfl rfl (v_move rfl) (o_vl rfl rfl (v_shr rfl rfl (by decide) rfl) (o_vl rfl rfl (v_add rfl rfl (r := ones4 32 (ones4 16 (ones4 8 (ones3 (ones2 (ones1 n)))))) rfl) (o_vl rfl rfl (v_assign rfl) ?_)))))))))))))
  refine o_end (r_seq (r_region rfl (o_vl rfl rfl (v_move rfl) (o_vl rfl rfl (v_conv rfl rfl rfl rfl) (o_vl rfl rfl (v_and rfl rfl h) (o_vl rfl rfl (v_assign rfl) (o_end ?_)))))))
  exact r_ret1 Tryz.func33 rfl rfl ⟨⟨rfl, rfl, rfl⟩, Fz.le_refl _⟩
abbrev fOne : Nat := 4607182418800017408
abbrev fNext : Nat := 4607182418800017407
theorem m_IsNaN (O : World) (F : Fz) (b : Nat) (q : Bool) (Fr : List Ent) (h : fcmpB .neq b b = some q) : Does Tryz.prog O 119 #[.float .f64 b] F Fr (fun v F' H' => v = .bool q ∧ F' = F ∧ H' = Fr) := by
  refine does_of_run (args := [_]) Tryz.func119 rfl rfl ?_
  refine r_seq (r_region rfl (o_vl rfl rfl (v_assign rfl) (o_end (r_seq (r_region rfl (o_vl rfl rfl (v_move rfl) (o_vl rfl rfl (v_move rfl) (o_vl rfl rfl (v_fcmp rfl rfl rfl h) (o_vl rfl rfl (v_assign rfl) (o_end ?_))))))))))
  exact r_ret1 Tryz.func119 rfl rfl ⟨⟨rfl, rfl, rfl⟩, Fz.le_refl _⟩
theorem m_Next (O : World) (F : Fz) (Fr : List Ent) : Does Tryz.prog O 120 #[.float .f64 fOne, .float .f64 0] F Fr (fun v F' H' => v = .float .f64 fNext ∧ F' = F ∧ H' = Fr) := by
  refine does_of_run (args := [_, _]) Tryz.func120 rfl rfl ?_
  refine r_seq (r_region rfl (o_vl rfl rfl (v_assign rfl) (o_end (r_seq (r_block (r_seq (r_region rfl (o_vl rfl rfl (v_move rfl) (o_call rfl rfl rfl rfl (c_call callable119 rfl) (m_IsNaN _ _ fOne false _ (by decide +kernel)) ?_)))))))))
  rintro v' F H' ⟨rfl, rfl, rfl⟩ _
  refine o_vl rfl rfl (v_move rfl) (o_vl rfl rfl (v_move rfl) (o_call rfl rfl rfl rfl (c_call callable119 rfl) (m_IsNaN _ _ 0 false _ (by decide +kernel)) ?_))
  rintro v' F H' ⟨rfl, rfl, rfl⟩ _
  refine o_vl rfl rfl (v_pick0 rfl rfl) (o_vl rfl rfl (v_assign rfl) (o_end (r_false rfl (r_seq (r_region rfl (o_vl rfl rfl (v_move rfl) (o_vl rfl rfl (v_move rfl) (o_vl rfl rfl (v_fcmp (q := false) rfl rfl rfl (by decide +kernel)) (o_vl rfl rfl (v_assign rfl) (o_end (r_false rfl (r_seq (r_region rfl ?_)))))))))))))
  refine o_vl rfl rfl (v_move rfl) (o_vl rfl rfl (v_fcmp (q := false) rfl rfl rfl (by decide +kernel)) (o_vl rfl rfl (v_assign rfl) (o_end (r_false rfl (r_seq (r_region rfl (o_vl rfl rfl (v_move rfl) (o_vl rfl rfl (v_move rfl) (o_vl rfl rfl (v_fcmp (q := false) rfl rfl rfl (by decide +kernel)) (o_vl rfl rfl (v_move rfl) (o_vl rfl rfl (v_fcmp (q := true) rfl rfl rfl (by decide +kernel)) (o_vl rfl rfl (v_beql (b := false) (c := true) rfl rfl rfl) (o_vl rfl rfl (v_assign rfl) ?_)))))))))))))
  refine o_end (r_false rfl (r_region rfl (o_vl rfl rfl (v_move rfl) (o_vl rfl rfl (v_ext (e := Extern.MathFloatBits.float64bits) (v := .int .u64 (fOne : Nat)) rfl rfl rfl rfl rfl rfl (fun w => rfl)) (o_vl rfl rfl (v_sub rfl rfl (r := (fNext : Nat)) (by decide)) (o_vl rfl rfl (v_ext (e := Extern.MathFloatBits.float64frombits) (v := .float .f64 fNext) rfl rfl rfl rfl rfl rfl (fun w => rfl)) (o_vl rfl rfl (v_assign rfl) (o_end (r_inBlock ?_)))))))))
  exact r_ret1 Tryz.func120 rfl rfl ⟨⟨rfl, rfl, rfl⟩, Fz.le_refl _⟩
def unitB (b : Nat) : Nat := if fcmpB .leq b 0 = some true then 0 else if fcmpB .geq b fOne = some true then fNext else b
theorem n_Unit (O : World) (F : Fz) (b : Nat) (Fr : List Ent) (h : fcmpB .neq b b = some false) : Does Tryz.prog O 102 #[.float .f64 b] F Fr (fun v F' H' => v = .float .f64 (unitB b) ∧ F' = F ∧ H' = Fr) := by
  refine does_of_run (args := [_]) Tryz.func102 rfl rfl ?_
  unfold unitB
  refine r_seq (r_region rfl (o_vl rfl rfl (v_assign rfl) (o_end (r_seq (r_block (r_seq (r_region rfl (o_vl rfl rfl (v_move rfl) (o_call rfl rfl rfl rfl (c_call callable119 rfl) (m_IsNaN _ _ b false _ h) ?_)))))))))
  rintro v' F H' ⟨rfl, rfl, rfl⟩ _
  obtain ⟨q1, h1⟩ : ∃ q, fcmpB .leq b 0 = some q := ⟨_, rfl⟩
  obtain ⟨q2, h2⟩ : ∃ q, fcmpB .geq b fOne = some q := ⟨_, rfl⟩
  rw [h1, h2]
  cases q1 with
  | true =>
    refine o_vl rfl rfl (v_move rfl) (o_vl rfl rfl (v_move rfl) (o_vl rfl rfl (v_fcmp rfl rfl rfl h1) (o_vl rfl rfl (v_pick0 rfl rfl) (o_vl rfl rfl (v_assign rfl) (o_end (r_true rfl (r_seq (r_region rfl (o_vl rfl rfl (v_assign rfl) (o_end ?_))))))))))
    exact r_ret1 Tryz.func102 rfl rfl ⟨⟨rfl, rfl, rfl⟩, Fz.le_refl _⟩
  | false =>
    refine o_vl rfl rfl (v_move rfl) (o_vl rfl rfl (v_move rfl) (o_vl rfl rfl (v_fcmp rfl rfl rfl h1) (o_vl rfl rfl (v_pick0 rfl rfl) (o_vl rfl rfl (v_assign rfl) (o_end (r_false rfl ?_))))))
    cases q2 with
    | true =>
      refine r_seq (r_region rfl (o_vl rfl rfl (v_move rfl) (o_vl rfl rfl (v_fcmp rfl rfl rfl h2) (o_vl rfl rfl (v_assign rfl) (o_end (r_true rfl (r_seq (r_region rfl (o_call rfl rfl rfl rfl (c_call callable120 rfl) (m_Next _ _ _) ?_)))))))))
      rintro v' F H' ⟨rfl, rfl, rfl⟩ _
      refine o_vl rfl rfl (v_assign rfl) (o_end ?_)
      exact r_ret1 Tryz.func102 rfl rfl ⟨⟨rfl, rfl, rfl⟩, Fz.le_refl _⟩
    | false =>
      refine r_seq (r_region rfl (o_vl rfl rfl (v_move rfl) (o_vl rfl rfl (v_fcmp rfl rfl rfl h2) (o_vl rfl rfl (v_assign rfl) (o_end (r_false rfl (r_skip (r_inBlock (r_seq (r_region rfl (o_vl rfl rfl (v_move rfl) (o_vl rfl rfl (v_assign rfl) (o_end ?_)))))))))))))
      exact r_ret1 Tryz.func102 rfl rfl ⟨⟨rfl, rfl, rfl⟩, Fz.le_refl _⟩
def drawB (b : Nat) : Option Int := match floatBits .mul .f64 (unitB b) (FloatKind.f64.nearest 4) with
  | some m => (floatToIntVal .f64 m .i64).map fun n => if 3 < n then 3 else n
  | none => none
theorem drOk {b d : Nat} (h : fcmpB .neq b b = some false) (hd : d ≤ 3) (h2 : drawB b = some (d : Int)) : DrOk b d := by
  refine ⟨hd, fun O F Fr => ?_⟩
  unfold drawB at h2
  cases hm : floatBits .mul .f64 (unitB b) (FloatKind.f64.nearest 4) with
  | none => rw [hm] at h2; cases h2
  | some m =>
    rw [hm] at h2
    obtain ⟨n, hn, hnd⟩ := Option.map_eq_some_iff.1 h2
    refine does_of_run (args := [_, _]) Tryz.func78 rfl rfl ?_
    refine r_seq (r_region rfl (o_vl rfl rfl (v_assign rfl) (o_end (r_seq (r_seq (r_region rfl (o_vl rfl rfl (v_move rfl) (o_vl rfl rfl (v_lss rfl rfl) (o_end (r_false rfl (r_skip (r_seq (r_region rfl ?_)))))))))))))
    refine o_vl rfl rfl (v_move rfl) (o_call rfl rfl rfl rfl (c_call callable102 rfl) (n_Unit _ _ b _ h) ?_)
    rintro v' F H' ⟨rfl, rfl, rfl⟩ _
    refine o_vl rfl rfl (v_move rfl) (o_vl rfl rfl (v_itof rfl rfl rfl rfl) (o_vl rfl rfl (v_farith rfl rfl rfl hm) (o_vl rfl rfl (v_ftoi rfl rfl rfl hn) (o_vl rfl rfl (v_move rfl) (o_vl rfl rfl (v_sub rfl rfl (r := 3) (by decide)) (o_vl rfl rfl (v_min rfl rfl) (o_vl rfl rfl (v_assign rfl) (o_end ?_))))))))
    refine r_ret1 Tryz.func78 rfl rfl ⟨⟨?_, rfl, rfl⟩, Fz.le_refl _⟩
    rw [hnd]
def own1 (me : Nat) : Nat := (floatBits .mul .f64 4611686018427387904 (FloatKind.f64.nearest me)).getD 0
def own2 (me : Nat) : Nat := (floatBits .add .f64 (own1 me) 4602678819172646912).getD 0
def ownB (me : Nat) : Nat := (floatBits .quo .f64 (own2 me) (FloatKind.f64.nearest 4)).getD 0
def ownD (me : Nat) : Nat := if me = 0 then 0 else if me = 1 then 2 else 3
theorem own_nums : ∀ me : Nat, me < 7 → floatBits .mul .f64 4611686018427387904 (FloatKind.f64.nearest me) = some (own1 me) ∧ floatBits .add .f64 (own1 me) 4602678819172646912 = some (own2 me) ∧ floatBits .quo .f64 (own2 me) (FloatKind.f64.nearest 4) = some (ownB me) ∧
    fcmpB .neq (ownB me) (ownB me) = some false ∧ drawB (ownB me) = some (ownD me : Int) := by decide +kernel
theorem own_dr {me : Nat} (h : me < 7) : DrOk (ownB me) (ownD me) := by
  obtain ⟨_, _, _, h1, h2⟩ := own_nums me h
  exact drOk h1 (by unfold ownD; split; omega; split <;> omega) h2
end Go.SX
namespace Go.SX
open Go Go.Proofs
set_option maxRecDepth 4000
def PM.sel (to : Nat) (q : PM) : Bool := decide (q.kd = 5) && decide (q.to = to)
def Mg.sel (to : Nat) (q : Mg) : Bool := q.p.sel to
theorem s_sel (O : World) (F : Fz) (q m : Mg) (x : Nat) (H : List Ent) (hx : Ent.mem x m.cells 13 ∈ H) :
    Does Tryz.prog O 104 #[.agg q.cells.toArray, ptrV x] F H (fun r F' H' => r = .bool (q.sel m.p.to) ∧ F' = F ∧ H' = H) := by
  refine does_of_run (args := [_, _]) Tryz.func104 rfl rfl ?_
  have hcx : ∀ F H j c, Ent.mem x m.cells 13 ∈ H → m.cells[j]? = some c → Cell F H x (0 + j) c := fun F H j c hm hc => by
    rw [Nat.zero_add]
    exact cell_own hm hc
  have hr : q.sel m.p.to = (decide (q.p.kd = 5) && decide (q.p.to = m.p.to)) := rfl
  rw [hr]
  refine r_seq (r_region rfl (o_act rfl rfl rfl rfl (a_box rfl) ?_))
  rintro v' H' ⟨y, rfl, rfl⟩
  refine j_heap (H' := .mem y q.cells 13 :: H) rfl ?_
  refine o_vl rfl rfl (v_assign rfl) (o_end (r_seq (r_region rfl (o_vl rfl rfl (v_field (k := 0) rfl rfl rfl) (o_vl rfl rfl (v_load (v := .int .u8 q.p.kd) rfl rfl (cell_at (j := 0) rfl rfl)) (o_vl rfl rfl (v_eql rfl rfl) ?_))))))
  refine j_prop 6 rfl (fun h1 => ?_) (fun h1 => ?_)
  · refine o_vl rfl rfl (v_move rfl) (o_vl rfl rfl (v_field (k := 2) rfl rfl rfl) (o_vl rfl rfl (v_load (v := .int .i64 q.p.to) rfl rfl (cell_at (j := 0) rfl rfl)) (o_vl rfl rfl (v_field (k := 2) rfl rfl rfl) (o_vl rfl rfl (v_load (v := .int .i64 m.p.to) rfl rfl (hcx _ _ 2 _ (by simp [hx]) rfl)) (o_vl rfl rfl (v_eql rfl rfl) (o_vl rfl rfl (v_pick1 rfl rfl) (o_vl rfl rfl (v_assign rfl) (o_end ?_))))))))
    refine j_drop (List.sublist_cons_self _ _) ?_
    refine r_ret1 Tryz.func104 rfl rfl ⟨⟨?_, rfl, rfl⟩, Fz.le_refl _⟩
    rw [decide_eq_true (p := q.p.kd = 5) (by omega), Bool.true_and]
    congr 1
    exact decide_eq_decide.2 (by omega)
  · refine o_vl rfl rfl (v_move rfl) (o_sk rfl rfl (o_sk rfl rfl (o_sk rfl rfl (o_sk rfl rfl (o_sk rfl rfl (o_vl rfl rfl (v_pick0 rfl rfl) (o_vl rfl rfl (v_assign rfl) (o_end ?_))))))))
    refine j_drop (List.sublist_cons_self _ _) ?_
    refine r_ret1 Tryz.func104 rfl rfl ⟨⟨?_, rfl, rfl⟩, Fz.le_refl _⟩
    rw [decide_eq_false (p := q.p.kd = 5) (by omega), Bool.false_and]
theorem s_Index (O : World) (F : Fz) (v : Value) (ms : List Mg) (m : Mg) (x : Nat) (H : List Ent) (hv : Sl F H 13 v ms.length (mgV ms)) (hx : Ent.mem x m.cells 13 ∈ H) (hn : ms.length ≤ 1000000) :
    Does Tryz.prog O 121 #[v, .func (.func 104) #[] #[ptrV x]] F H
      (fun r F' H' => (r = if ms.findIdx (fun q => q.sel m.p.to) < ms.length then .int .i64 (ms.findIdx (fun q => q.sel m.p.to)) else .int .i64 (-1)) ∧ F' = F ∧ H' = H) := by
  obtain ⟨a0, cap, rfl, hcap⟩ := Sl.shape hv
  refine does_of_run (args := [_, _]) Tryz.func121 rfl rfl ?_
  refine r_seq (r_region rfl (o_vl rfl rfl (v_assign rfl) (o_end (r_seq (r_seq (r_region rfl (o_vl rfl rfl (v_move rfl) (o_vl rfl rfl (v_len rfl rfl) (o_vl rfl rfl (v_move rfl) (o_end (r_block ?_)))))))))))
  refine r_loop (fun i : Nat => i ≤ ms.length ∧ ∀ (j : Nat) (h : j < ms.length), j < i → ms[j].sel m.p.to = false) (fun i => [(0, .slice a0 ms.length cap), (1, .func (.func 104) #[] #[ptrV x]), (7, .int .i64 ms.length), (8, .int .i64 i)]) (fun _ => F) (fun _ => H) (fun i => ms.length - i) 0 ⟨Nat.zero_le _, fun j _ h => by omega⟩ ⟨rfl, rfl, rfl, rfl, trivial⟩ rfl rfl ?_
  rintro i ⟨hi, hz⟩ IH
  refine r_seq (r_region rfl (o_vl rfl rfl (v_lss rfl rfl) (o_end (r_seq (r_if rfl (fun h => ?_) (fun h => ?_))))))
  · have hil : i < ms.length := by omega
    obtain ⟨b0, off0, c0, hab, _, hc0⟩ := Sl.view hv (by omega)
    simp only [Value.slice.injEq] at hab
    obtain ⟨rfl, _, rfl⟩ := hab
    have hcell : ∀ j c, ms[i].cells[j]? = some c → Cell F H b0 (off0 + i * 13 + j) c := fun j c hj => by
      have hj4 : j < 13 := by
        rcases Nat.lt_or_ge j 13 with h | h
        · exact h
        · rw [List.getElem?_eq_none (by rw [Mg.cl]; exact h)] at hj; cases hj
      have := hc0 (i * 13 + j) c (by rw [vec_get Mg.cl ms i hil j hj4]; exact hj)
      rw [← Nat.add_assoc] at this
      exact this
    refine r_skip (r_seq (r_block (r_seq (r_region rfl (o_vl rfl rfl (v_move rfl) (o_vl rfl rfl (v_assign rfl) (o_end (r_seq (r_region rfl (o_vl rfl rfl (v_move rfl) (o_vl rfl rfl (v_move rfl) (o_vl rfl rfl (v_move rfl) (o_vl rfl rfl (v_indexN (sz := 13) rfl rfl rfl rfl hil) ?_)))))))))))))
    refine o_vl rfl rfl (v_loadAgg (sz := 13) (cs := ms[i].cells) rfl rfl rfl rfl hcell) (o_call rfl rfl rfl rfl (c_callv rfl callable104 rfl) (s_sel _ _ ms[i] m x H hx) ?_)
    rintro v' F H ⟨rfl, rfl, rfl⟩ _
    cases hq : ms[i].sel m.p.to with
    | true =>
      have hfi : ms.findIdx (fun q => q.sel m.p.to) = i := by
        rw [List.findIdx_eq hil]
        exact ⟨hq, fun j hj => hz j (by omega) hj⟩
      refine o_end (r_true rfl (r_seq (r_region rfl (o_vl rfl rfl (v_move rfl) (o_vl rfl rfl (v_assign rfl) (o_end ?_))))))
      exact r_ret1 Tryz.func121 rfl rfl ⟨⟨by rw [hfi, if_pos hil], rfl, rfl⟩, Fz.le_refl _⟩
    | false =>
      refine o_end (r_false rfl (r_skip (r_inBlock (r_region rfl (o_vl rfl rfl (v_add rfl rfl (wrap_i64 (by omega) (by omega))) (o_vl rfl rfl (v_move rfl) (o_end ?_)))))))
      refine j_keep ?_ (IH (i + 1) ⟨hil, fun j hj hji => by
        by_cases hje : j = i
        · subst hje; exact hq
        · exact hz j hj (by omega)⟩ (by omega))
      exact ⟨rfl, rfl, rfl, rfl, trivial⟩
  · have hfi : ¬ ms.findIdx (fun q => q.sel m.p.to) < ms.length := fun hlt => by
      have := List.findIdx_getElem (w := hlt)
      rw [hz _ hlt (by omega)] at this
      cases this
    refine r_exit rfl (r_seq (r_region rfl (o_vl rfl rfl (v_assign rfl) (o_end ?_))))
    exact r_ret1 Tryz.func121 rfl rfl ⟨⟨by rw [if_neg hfi], rfl, rfl⟩, Fz.le_refl _⟩
theorem filter_none {α : Type} (p : α → Bool) (l : List α) (h : ¬ l.findIdx p < l.length) : l.filter (fun x => !p x) = l := by
  rw [List.filter_eq_self]
  intro x hx
  cases hp : p x with
  | false => rfl
  | true => exact absurd (List.findIdx_lt_length_of_exists ⟨x, hx, hp⟩) h
structure DG where
  j : Nat
  G : List Mg
set_option maxHeartbeats 1000000 in
theorem s_Delete (O : World) (F : Fz) (bf : Bf) (ms : List Mg) (m : Mg) (x : Nat) (X : List Ent) (hok : bf.ok ms.length) (hms : ∀ q ∈ ms, q.ok F) (hx : Ent.mem x m.cells 13 ∈ X) (hn : ms.length ≤ 1000000) :
    Does Tryz.prog O 103 #[bf.val ms.length, .func (.func 104) #[] #[ptrV x]] F (bf.ents 13 (mgV ms) ++ X)
      (fun r F' H' => r = bf.val (ms.filter fun q => !q.sel m.p.to).length ∧ F' = F ∧ H' = bf.ents 13 (mgV (ms.filter fun q => !q.sel m.p.to)) ++ X) := by
  refine does_of_run (args := [_, _]) Tryz.func103 rfl rfl ?_
  refine r_seq (r_region rfl (o_vl rfl rfl (v_assign rfl) (o_end (r_seq (r_region rfl (o_vl rfl rfl (v_move rfl) (o_vl rfl rfl (v_move rfl) (o_call rfl rfl rfl rfl (c_call callable121 rfl) (s_Index _ _ _ ms m x _ (Bf.reads hok (vec_len Mg.cl ms) (by intro q hq; exact List.mem_append_left _ hq)) (List.mem_append_right _ hx) hn) ?_))))))))
  rintro v' F H' ⟨rfl, rfl, rfl⟩ _
  by_cases hf : ms.findIdx (fun q => q.sel m.p.to) < ms.length
  · rw [if_pos hf]
    have hsel := List.findIdx_getElem (w := hf)
    have hbef : ∀ j (h : j < ms.length), j < ms.findIdx (fun q => q.sel m.p.to) → ms[j].sel m.p.to = false := fun j h hj => by
      have := List.not_of_lt_findIdx hj
      simpa using this
    generalize ms.findIdx (fun q => q.sel m.p.to) = f at *
    cases bf with
    | nil =>
      have : ms.length = 0 := hok
      omega
    | «at» b cap =>
      have hcap : ms.length ≤ cap := hok
      refine o_vl rfl rfl (v_assign rfl) (o_end (r_seq (r_seq (r_region rfl (o_vl rfl rfl (v_move rfl) (o_vl rfl rfl (v_eql rfl rfl) (o_end ?_)))))))
      refine j_slot 12 rfl (v' := .bool false) (by rw [decide_eq_false]; omega) ?_
      refine r_false rfl ?_
      have hfil : ∀ j, j ≤ f → (ms.take j).filter (fun q => !q.sel m.p.to) = ms.take j := fun j hj => by
        rw [List.filter_eq_self]
        intro q hq
        obtain ⟨i, hi, rfl⟩ := List.getElem_of_mem hq
        rw [List.getElem_take]
        have hi' : i < j := by rw [List.length_take] at hi; omega
        rw [hbef i (by omega) (by omega)]
        rfl
      have hstep : ∀ j (h : j < ms.length), (ms.take (j + 1)).filter (fun q => !q.sel m.p.to) = (ms.take j).filter (fun q => !q.sel m.p.to) ++ if ms[j].sel m.p.to = true then [] else [ms[j]] := fun j h => by
        rw [List.take_succ_eq_append_getElem h, List.filter_append]
        congr 1
        cases hq : ms[j].sel m.p.to <;> simp [hq]
      obtain ⟨K, hK⟩ : ∃ K : Nat → List Mg, K = fun j => (ms.take j).filter (fun q => !q.sel m.p.to) := ⟨_, rfl⟩
      have hKf : K f = ms.take f := by rw [hK]; exact hfil f (Nat.le_refl _)
      have hK1 : K (f + 1) = ms.take f := by
        have := hstep f hf
        rw [hsel, if_pos rfl, List.append_nil, hfil f (Nat.le_refl _)] at this
        rw [hK]
        exact this
      have hKs : ∀ j (h : j < ms.length), K (j + 1) = K j ++ if ms[j].sel m.p.to = true then [] else [ms[j]] := by rw [hK]; exact hstep
      have hKe : K ms.length = ms.filter (fun q => !q.sel m.p.to) := by rw [hK]; dsimp only; rw [List.take_length]
      rw [← hKe]
      clear hfil hstep
      refine r_skip (r_seq (r_seq (r_region rfl (o_vl rfl rfl (v_move rfl) (o_vl rfl rfl (v_add rfl rfl (r := ((f + 1 : Nat) : Int)) (wrap_i64 (by omega) (by omega))) (o_vl rfl rfl (v_assign rfl) (o_end (r_block ?_))))))))
      refine r_loop (fun g : DG => g.j ≤ ms.length ∧ g.G.length = ms.length ∧ (K g.j).length < g.j ∧ g.G.take (K g.j).length = K g.j ∧ g.G.drop g.j = ms.drop g.j ∧ ∀ q ∈ g.G, q.ok F) (fun g => [(0, .slice (some ⟨b, 0, none⟩) ms.length cap), (1, .func (.func 104) #[] #[ptrV x]), (5, .int .i64 (K g.j).length), (6, .int .i64 g.j)]) (fun _ => F) (fun g => .mem b (mgV g.G) (cap * 13) :: X) (fun g => ms.length - g.j)
        ⟨f + 1, ms⟩ ⟨hf, rfl, by dsimp only; rw [hK1, List.length_take]; omega, by dsimp only; rw [hK1, List.length_take, Nat.min_eq_left (by omega)], rfl, hms⟩ ⟨rfl, rfl, by dsimp only; rw [hK1, List.length_take, Nat.min_eq_left (by omega)]; rfl, rfl, trivial⟩ rfl rfl ?_
      rintro ⟨j, G⟩ ⟨hj, hG, hKj, hGk, hGd, hGo⟩ IH
      dsimp only at hj hG hKj hGk hGd hGo ⊢
      refine r_seq (r_seq (r_region rfl (o_vl rfl rfl (v_move rfl) (o_vl rfl rfl (v_move rfl) (o_vl rfl rfl (v_len rfl rfl) (o_vl rfl rfl (v_lss rfl rfl) (o_end (r_if rfl (fun h => ?_) (fun h => ?_)))))))))
      · have hjl : j < ms.length := by omega
        have hjG : j < G.length := by omega
        have hGj : G[j] = ms[j] := by
          have h1 : (G.drop j)[0]? = (ms.drop j)[0]? := by rw [hGd]
          rw [List.getElem?_drop, List.getElem?_drop, Nat.add_zero, List.getElem?_eq_getElem hjG, List.getElem?_eq_getElem hjl] at h1
          exact Option.some.inj h1
        have hcell : ∀ k c, ms[j].cells[k]? = some c → Cell F (.mem b (mgV G) (cap * 13) :: X) b (0 + j * 13 + k) c := fun k c hk => by
          rw [Nat.zero_add]
          exact vec_cell Mg.cl (List.mem_cons_self ..) j hjG k c (by rw [hGj]; exact hk)
        refine r_skip (r_seq (r_block (r_seq (r_region rfl (o_vl rfl rfl (v_move rfl) (o_vl rfl rfl (v_move rfl) (o_vl rfl rfl (v_indexN (sz := 13) rfl rfl rfl rfl hjl) (o_vl rfl rfl (v_loadAgg (sz := 13) (cs := ms[j].cells) rfl rfl rfl rfl hcell) (o_act rfl rfl rfl rfl (a_alloc rfl) ?_)))))))))
        rintro v' H' ⟨y, rfl, rfl⟩
        refine o_act0 rfl rfl rfl (a_store (sz := 13) (v := .agg ms[j].cells.toArray) 0 rfl rfl rfl (hms ms[j] (List.getElem_mem _)).one rfl rfl (Nat.le_of_ble_eq_true rfl)) ?_
        refine j_heap (H' := .mem y ms[j].cells 13 :: .mem b (mgV G) (cap * 13) :: X) rfl ?_
        refine o_end (r_seq (r_region rfl (o_vl rfl rfl (v_move rfl) (o_vl rfl rfl (v_loadAgg (sz := 13) (cs := ms[j].cells) rfl rfl rfl rfl (fun k c hk => cell_at (j := 0) rfl (by simpa using hk))) (o_call rfl rfl rfl rfl (c_callv rfl callable104 rfl) (s_sel _ _ ms[j] m x _ (by simp [hx])) ?_)))))
        rintro v' F H' ⟨rfl, rfl, rfl⟩ _
        cases hq : ms[j].sel m.p.to with
        | true =>
          have hK2 : K (j + 1) = K j := by rw [hKs j hjl, hq]; simp
          refine o_vl rfl rfl (v_not rfl) (o_end (r_false rfl (r_skip (r_inBlock (r_region rfl (o_vl rfl rfl (v_move rfl) (o_vl rfl rfl (v_add rfl rfl (wrap_i64 (by omega) (by omega))) (o_vl rfl rfl (v_assign rfl) (o_end ?_)))))))))
          refine j_drop (List.sublist_cons_self _ _) ?_
          refine j_keep ?_ (IH ⟨j + 1, G⟩ ⟨hjl, hG, by dsimp only; rw [hK2]; omega, by dsimp only; rw [hK2]; exact hGk, by
            have h1 : (G.drop j).drop 1 = (ms.drop j).drop 1 := by rw [hGd]
            rw [List.drop_drop, List.drop_drop] at h1
            exact h1, hGo⟩ (by dsimp only; omega))
          exact ⟨rfl, rfl, by dsimp only; rw [hK2]; rfl, rfl, trivial⟩
        | false =>
          have hK2 : K (j + 1) = K j ++ [ms[j]] := by rw [hKs j hjl, hq]; simp
          have hKl : (K (j + 1)).length = (K j).length + 1 := by rw [hK2]; simp
          refine o_vl rfl rfl (v_not rfl) (o_end (r_true rfl (r_seq (r_region rfl (o_vl rfl rfl (v_move rfl) (o_vl rfl rfl (v_move rfl) (o_vl rfl rfl (v_loadAgg (sz := 13) (cs := ms[j].cells) rfl rfl rfl rfl (fun k c hk => cell_at (j := 0) rfl (by simpa using hk))) (o_vl rfl rfl (v_indexN (sz := 13) rfl rfl rfl rfl (show (K j).length < ms.length by omega)) (o_act0 rfl rfl rfl (a_store (sz := 13) (v := .agg ms[j].cells.toArray) 1 rfl rfl rfl (hms ms[j] (List.getElem_mem _)).one rfl rfl (by rw [vec_len Mg.cl]; show 0 + (K j).length * 13 + 13 ≤ _; omega)) ?_)))))))))
          have hput : putAt (mgV G) (0 + (K j).length * 13) ms[j].cells = mgV (G.set (K j).length ms[j]) := by
            rw [Nat.zero_add]
            exact vec_put Mg.cl G _ (by omega) _
          refine j_heap (H' := .mem y ms[j].cells 13 :: .mem b (mgV (G.set (K j).length ms[j])) (cap * 13) :: X) (by rw [← hput]; rfl) ?_
          refine j_drop (List.sublist_cons_self _ _) ?_
          refine o_end (r_region rfl (o_vl rfl rfl (v_move rfl) (o_vl rfl rfl (v_add rfl rfl (r := (((K (j + 1)).length : Nat) : Int)) ((wrap_i64 (by omega) (by omega)).trans (by omega))) (o_vl rfl rfl (v_assign rfl) (o_end (r_inBlock (r_region rfl (o_vl rfl rfl (v_move rfl) (o_vl rfl rfl (v_add rfl rfl (wrap_i64 (by omega) (by omega))) (o_vl rfl rfl (v_assign rfl) (o_end ?_)))))))))))
          refine j_keep ?_ (IH ⟨j + 1, G.set (K j).length ms[j]⟩ ⟨hjl, by simpa using hG, by dsimp only; omega, ?_, ?_, ?_⟩ (by dsimp only; omega))
          · exact ⟨rfl, rfl, rfl, rfl, trivial⟩
          · dsimp only
            rw [hKl, hK2, List.take_add_one, List.take_set_of_le (Nat.le_refl _), hGk, List.getElem?_set_self (by omega)]
            rfl
          · dsimp only
            rw [List.drop_set_of_lt (by omega)]
            have h1 : (G.drop j).drop 1 = (ms.drop j).drop 1 := by rw [hGd]
            rw [List.drop_drop, List.drop_drop] at h1
            exact h1
          · intro q hq2
            rcases List.mem_or_eq_of_mem_set hq2 with hq2 | rfl
            · exact hGo q hq2
            · exact hms _ (List.getElem_mem _)
      · have hjn : j = ms.length := by omega
        subst hjn
        clear IH
        have hKn := List.length_filter_le (fun q => !q.sel m.p.to) ms
        refine r_exit rfl (r_seq (r_region rfl (o_vl rfl rfl (v_move rfl) (o_vl rfl rfl (v_move rfl) (o_vl rfl rfl (v_sliceL (sz := 13) rfl rfl rfl rfl rfl (by omega)) ?_)))))
        have hadd : (⟨b, 0, none⟩ : Addr).add ((K ms.length).length * 13) = ⟨b, (K ms.length).length * 13, none⟩ := by rw [sliced_add, Nat.zero_add]
        have hcl : Go.sliced (some ⟨b, 0, none⟩) (K ms.length).length ms.length cap 13 = .slice (some ⟨b, (K ms.length).length * 13, none⟩) (ms.length - (K ms.length).length) (cap - (K ms.length).length) := by
          unfold Go.sliced
          rw [if_neg (by omega), Option.map_some, hadd]
        rw [hcl]
        refine o_actN rfl rfl rfl (a_clear 0 (zc := [.int .u8 0, .int .i64 0, .int .i64 0, .int .u64 0, .int .u64 0, .int .u64 0, .int .u64 0, .bool false, .slice none 0 0, .int .u64 0, .int .u64 0, .int .u64 0, .slice none 0 0]) (bytes := 136) ⟨⟨_, _, _, rfl, rfl, rfl, rfl, rfl, rfl⟩, by decide⟩ rfl rfl rfl (by rw [vec_len Mg.cl]; simp; omega)) ?_
        rintro v' H' rfl
        refine j_cut 0 ((K ms.length).length * 13) (b := b) (n := cap * 13) rfl ?_
        have e2 : (putAt (mgV G) ((K ms.length).length * 13) (zeros [.int .u8 0, .int .i64 0, .int .i64 0, .int .u64 0, .int .u64 0, .int .u64 0, .int .u64 0, .bool false, .slice none 0 0, .int .u64 0, .int .u64 0, .int .u64 0, .slice none 0 0] (ms.length - (K ms.length).length))).take ((K ms.length).length * 13) = mgV (K ms.length) := by
          unfold putAt
          rw [List.append_assoc, List.take_append_of_le_length (by rw [List.length_take, vec_len Mg.cl]; omega), List.take_take, Nat.min_self, vec_take Mg.cl G _ (by omega), hGk]
        refine j_heap (H' := .mem b (mgV (K ms.length)) (cap * 13) :: X) (by rw [← e2]; rfl) ?_
        refine o_end (r_seq (r_region rfl (o_vl rfl rfl (v_move rfl) (o_vl rfl rfl (v_move rfl) (o_vl rfl rfl (v_sliceH (sz := 13) rfl rfl rfl rfl rfl (by omega)) (o_vl rfl rfl (v_assign rfl) (o_end ?_)))))))
        have hcut' : Go.sliced (some ⟨b, 0, none⟩) 0 (K ms.length).length cap 13 = .slice (some ⟨b, 0, none⟩) (K ms.length).length cap := Bf.cut (.at b cap) _ 13
        rw [hcut']
        exact r_ret1 Tryz.func103 rfl rfl ⟨⟨rfl, rfl, rfl⟩, Fz.le_refl _⟩
  · rw [if_neg hf]
    rw [filter_none _ _ hf]
    refine o_vl rfl rfl (v_assign rfl) (o_end (r_seq (r_seq (r_region rfl (o_vl rfl rfl (v_move rfl) (o_vl rfl rfl (v_eql rfl rfl) (o_end (r_true rfl (r_seq (r_region rfl (o_vl rfl rfl (v_move rfl) (o_vl rfl rfl (v_assign rfl) (o_end ?_)))))))))))))
    exact r_ret1 Tryz.func103 rfl rfl ⟨⟨rfl, rfl, rfl⟩, Fz.le_refl _⟩
end Go.SX
namespace Go.SX
open Go Go.Proofs
set_option maxRecDepth 4000
theorem r_own (O : World) (F : Fz) (a : Nat) (r : Rf) (X : List Ent) (hme : r.p.me < 7) : Does Tryz.prog O 74 #[ptrV a] F (RfE a r :: X) (fun v F' H' => v = .float .f64 (ownB r.p.me) ∧ F' = F ∧ H' = RfE a r :: X) := by
  obtain ⟨h1, h2, h3, _⟩ := own_nums r.p.me hme
  refine does_of_run (args := [_]) Tryz.func74 rfl rfl ?_
  refine r_seq (r_region rfl (o_vl rfl rfl (v_assign rfl) (o_end (r_seq (d_region 1000000 rfl ([RfE a r]) ?_)))))
  refine d_tk (i := 0) rfl rfl (by simp) (v_move rfl) (d_tk (i := 1) rfl rfl (by simp) (v_nilCheck rfl) (d_tk (i := 2) rfl rfl (by simp) (v_field (k := 0) rfl rfl rfl) (d_tk (i := 3) rfl rfl (by simp) (v_load rfl rfl (rfc (r := r) 0 (by first | exact List.mem_cons_self .. | simp [RfH]) rfl)) (d_tk (i := 4) rfl rfl (by simp) (v_itof rfl rfl rfl rfl) (d_tk (i := 5) rfl rfl (by simp) (v_farith rfl rfl rfl h1) (d_tk (i := 6) rfl rfl (by simp) (v_farith rfl rfl rfl h2) (d_tk (i := 7) rfl rfl (by simp) (v_move rfl) (d_tk (i := 8) rfl rfl (by simp) (v_nilCheck rfl) (d_tk (i := 9) rfl rfl (by simp) (v_field (k := 2) rfl rfl rfl) (d_tk (i := 10) rfl rfl (by simp) (v_load rfl rfl (rfc (r := r) 2 (by first | exact List.mem_cons_self .. | simp [RfH]) rfl)) (d_tk (i := 11) rfl rfl (by simp) (v_itof rfl rfl rfl rfl) (d_tk (i := 12) rfl rfl (by simp) (v_farith rfl rfl rfl h3) (d_tk (i := 13) rfl rfl (by simp) (v_assign rfl) ?_)))))))))))))
  refine d_end (by decide +kernel) ?_
  exact r_ret1 Tryz.func74 rfl rfl ⟨⟨rfl, rfl, rfl⟩, Fz.le_refl _⟩
def PR.rest (p : PR) : PR := { p with ticks := 0, lim := 4 + p.dr, dr := ownD p.me }
theorem r_rest (O : World) (F : Fz) (a : Nat) (r : Rf) (X : List Ent) (hme : r.p.me < 7) (hd : DrOk r.fb r.p.dr) :
    Does Tryz.prog O 51 #[ptrV a] F (RfE a r :: X) (fun v F' H' => v = noneV ∧ F' = F ∧ H' = RfE a { r with p := r.p.rest, fb := ownB r.p.me } :: X) := by
  have hd3 := hd.1
  refine does_of_run (args := [_]) Tryz.func51 rfl rfl ?_
  obtain ⟨r1, hr1⟩ : ∃ r1 : Rf, r1 = { r with p := { r.p with ticks := 0 } } := ⟨_, rfl⟩
  obtain ⟨r2, hr2⟩ : ∃ r2 : Rf, r2 = { r with p := { r.p with ticks := 0, lim := 4 + r.p.dr } } := ⟨_, rfl⟩
  refine r_seq (d_region 18 rfl ([RfE a r]) ?_)
  refine d_tk (i := 0) rfl rfl (by simp) (v_move rfl) (d_tk0 (i := 1) rfl rfl (by simp) (v_move rfl) (d_tk (i := 2) rfl rfl (by simp) (v_move rfl) (d_tk (i := 3) rfl rfl (by simp) (v_nilCheck rfl) (d_tk (i := 4) rfl rfl (by simp) (v_field (k := 2) rfl rfl rfl) (d_tk (i := 5) rfl rfl (by simp) (v_load rfl rfl (rfc (r := r) 2 (by first | exact List.mem_cons_self .. | simp [RfH]) rfl)) (d_tk (i := 6) rfl rfl (by simp) (v_move rfl) (d_tk (i := 7) rfl rfl (by simp) (v_nilCheck rfl) (d_tk (i := 8) rfl rfl (by simp) (v_field (k := 3) rfl rfl rfl) (d_tk (i := 9) rfl rfl (by simp) (v_load rfl rfl (rfc (r := r) 3 (by first | exact List.mem_cons_self .. | simp [RfH]) rfl)) (d_tk (i := 10) rfl rfl (by simp) (v_move rfl) (d_tk (i := 11) rfl rfl (by simp) (v_nilCheck rfl) (d_tk (i := 12) rfl rfl (by simp) (v_field (k := 2) rfl rfl rfl) (d_tk (i := 13) rfl rfl (by simp) (v_load rfl rfl (rfc (r := r) 2 (by first | exact List.mem_cons_self .. | simp [RfH]) rfl)) ?_)))))))))))))
  refine d_one (i := 14) (by decide +kernel) (d1_call rfl rfl rfl rfl (c_call callable78 rfl) (hd.2 _ _ _) ?_)
  rintro v' F H' ⟨rfl, rfl, rfl⟩ _
  refine ⟨fun w hw => held_of hw (by first | exact Fz.le_refl _ | assumption) (by simp), ?_⟩
  refine d_tk0 (i := 15) rfl rfl (by simp) (v_add rfl rfl (r := ((4 + r.p.dr : Nat) : Int)) (wrap_i64 (by omega) (by omega))) (d_tk (i := 16) rfl rfl (by simp) (v_nilCheck rfl) (d_tk (i := 17) rfl rfl (by simp) (v_field (k := 11) rfl rfl rfl) (d_one (i := 18) (by decide +kernel) ?_)))
  refine d1_last 21 ([RfE a r1]) rfl rfl rfl (a_rf r1 rfl rfl rfl rfl (Nat.le_of_ble_eq_true rfl) (by rw [hr1]; rfl)) ?_
  refine d_tk (i := 19) rfl rfl (by simp) (v_nilCheck rfl) (d_tk (i := 20) rfl rfl (by simp) (v_field (k := 12) rfl rfl rfl) (d_one (i := 21) (by decide +kernel) ?_))
  refine d1_last 1000000 ([]) rfl rfl rfl (a_rf r2 rfl rfl rfl rfl (Nat.le_of_ble_eq_true rfl) (by rw [hr1, hr2]; rfl)) ?_
  refine d_end (by decide +kernel) (r_region rfl (o_vl rfl rfl (v_move rfl) (o_vl rfl rfl (v_move rfl) (o_call rfl rfl rfl rfl (c_call callable74 rfl) (r_own _ _ a r2 _ (by rw [hr2]; exact hme)) ?_))))
  rintro v' F H' ⟨rfl, rfl, rfl⟩ _
  refine o_vl rfl rfl (v_nilCheck rfl) (o_vl rfl rfl (v_field (k := 3) rfl rfl rfl) (o_act0 rfl rfl rfl (a_rf { r with p := r.p.rest, fb := ownB r.p.me } rfl rfl rfl rfl (Nat.le_of_ble_eq_true rfl) (by rw [hr2]; rfl)) ?_))
  refine o_end ?_
  exact r_fall0 Tryz.func51 rfl ⟨⟨rfl, rfl, rfl⟩, Fz.le_refl _⟩
def PR.follow (p : PR) (t : Nat) (ld : Int) : PR := { (if p.term < t then { p with term := t, vote := -1, chg := true } else p) with role := 0, lead := ld }
theorem r_follow (O : World) (F : Fz) (a : Nat) (r : Rf) (t : Nat) (ld : Int) (X : List Ent) :
    Does Tryz.prog O 84 #[ptrV a, .int .u64 t, .int .i64 ld] F (RfE a r :: X) (fun v F' H' => v = noneV ∧ F' = F ∧ H' = RfE a { r with p := r.p.follow t ld } :: X) := by
  refine does_of_run (args := [_, _, _]) Tryz.func84 rfl rfl ?_
  obtain ⟨r1, hr1⟩ : ∃ r1 : Rf, r1 = { r with p := if r.p.term < t then { r.p with term := t, vote := -1, chg := true } else r.p } := ⟨_, rfl⟩
  refine r_seq ?_
  refine r_join (fun _ : Unit => True) (fun _ => [(0, ptrV a), (1, .int .u64 t), (2, .int .i64 ld)]) (fun _ => F) (fun _ => RfE a r1 :: X) ?_ ?_
  · intro J
    refine r_seq (r_region rfl (o_vl rfl rfl (v_move rfl) (o_vl rfl rfl (v_move rfl) (o_vl rfl rfl (v_nilCheck rfl) (o_vl rfl rfl (v_field (k := 4) rfl rfl rfl) (o_vl rfl rfl (v_field (k := 0) rfl rfl rfl) (o_vl rfl rfl (v_load rfl rfl (rfc (r := r) 4 (by first | exact List.mem_cons_self .. | simp [RfH]) rfl)) (o_vl rfl rfl (v_gtr rfl rfl) (o_end (r_if rfl (fun h => ?_) (fun h => ?_)))))))))))
    · have hlt : r.p.term < t := by omega
      rw [if_pos hlt] at hr1
      refine r_region rfl (o_vl rfl rfl (v_move rfl) (o_vl rfl rfl (v_move rfl) (o_vl rfl rfl (v_move rfl) (o_vl rfl rfl (v_build rfl rfl) (o_vl rfl rfl (v_nilCheck rfl) (o_vl rfl rfl (v_field (k := 4) rfl rfl rfl) (o_act0 rfl rfl rfl (a_rf2 { r with p := { r.p with term := t, vote := -1 } } rfl rfl rfl rfl rfl (Nat.le_of_ble_eq_true rfl) rfl) ?_)))))))
      refine o_vl rfl rfl (v_nilCheck rfl) (o_vl rfl rfl (v_field (k := 29) rfl rfl rfl) (o_act0 rfl rfl rfl (a_rf r1 rfl rfl rfl rfl (Nat.le_of_ble_eq_true rfl) (by rw [hr1]; rfl)) ?_))
      refine o_end ?_
      refine j_keep ?_ (J () trivial)
      exact ⟨rfl, rfl, rfl, trivial⟩
    · have hlt : ¬ r.p.term < t := by omega
      rw [if_neg hlt] at hr1
      have e : r1 = r := hr1
      rw [e] at J
      refine r_skip ?_
      refine j_keep ?_ (J () trivial)
      exact ⟨rfl, rfl, rfl, trivial⟩
  · rintro ⟨⟩ -
    refine r_region rfl (o_vl rfl rfl (v_move rfl) (o_vl rfl rfl (v_move rfl) (o_vl rfl rfl (v_move rfl) (o_vl rfl rfl (v_nilCheck rfl) (o_vl rfl rfl (v_field (k := 6) rfl rfl rfl) (o_act0 rfl rfl rfl (a_rf { r1 with p := { r1.p with role := 0 } } rfl rfl rfl rfl (Nat.le_of_ble_eq_true rfl) rfl) ?_))))))
    refine o_vl rfl rfl (v_nilCheck rfl) (o_vl rfl rfl (v_field (k := 7) rfl rfl rfl) (o_act0 rfl rfl rfl (a_rf { r with p := r.p.follow t ld } rfl rfl rfl rfl (Nat.le_of_ble_eq_true rfl) (by rw [hr1]; rfl)) ?_))
    refine o_end ?_
    exact r_fall0 Tryz.func84 rfl ⟨⟨rfl, rfl, rfl⟩, Fz.le_refl _⟩
def PR.mark (p : PR) (i : Nat) : PR := { p with fresh := if p.fresh = 0 ∨ i < p.fresh then i else p.fresh, st := min p.st (i - 1) }
theorem r_mark (O : World) (F : Fz) (a : Nat) (r : Rf) (i : Nat) (X : List Ent) (h1 : 1 ≤ i) (h2 : i ≤ 300001) :
    Does Tryz.prog O 57 #[ptrV a, .int .u64 i] F (RfE a r :: X) (fun v F' H' => v = noneV ∧ F' = F ∧ H' = RfE a { r with p := r.p.mark i } :: X) := by
  refine does_of_run (args := [_, _]) Tryz.func57 rfl rfl ?_
  obtain ⟨r1, hr1⟩ : ∃ r1 : Rf, r1 = { r with p := { r.p with fresh := if r.p.fresh = 0 ∨ i < r.p.fresh then i else r.p.fresh } } := ⟨_, rfl⟩
  refine r_seq ?_
  refine r_join (fun _ : Unit => True) (fun _ => [(0, ptrV a), (1, .int .u64 i)]) (fun _ => F) (fun _ => RfE a r1 :: X) ?_ ?_
  · intro J
    refine r_seq (r_region rfl (o_vl rfl rfl (v_move rfl) (o_vl rfl rfl (v_nilCheck rfl) (o_vl rfl rfl (v_field (k := 30) rfl rfl rfl) (o_vl rfl rfl (v_load rfl rfl (rfc (r := r) 30 (by first | exact List.mem_cons_self .. | simp [RfH]) rfl)) (o_vl rfl rfl (v_eql rfl rfl) ?_))))))
    refine j_prop 8 rfl (fun h => ?_) (fun h => ?_)
    · have hc : r.p.fresh = 0 ∨ i < r.p.fresh := .inl (by omega)
      rw [if_pos hc] at hr1
      refine o_vl rfl rfl (v_move rfl) (o_sk rfl rfl (o_sk rfl rfl (o_sk rfl rfl (o_sk rfl rfl (o_sk rfl rfl (o_sk rfl rfl (o_vl rfl rfl (v_pick1 rfl rfl) (o_end (r_true rfl (r_region rfl (o_vl rfl rfl (v_move rfl) (o_vl rfl rfl (v_move rfl) (o_vl rfl rfl (v_nilCheck rfl) ?_)))))))))))))
      refine o_vl rfl rfl (v_field (k := 30) rfl rfl rfl) (o_act0 rfl rfl rfl (a_rf r1 rfl rfl rfl rfl (Nat.le_of_ble_eq_true rfl) (by rw [hr1]; rfl)) ?_)
      refine o_end ?_
      refine j_keep ?_ (J () trivial)
      exact ⟨rfl, rfl, trivial⟩
    · skip
      refine o_vl rfl rfl (v_move rfl) (o_vl rfl rfl (v_move rfl) (o_vl rfl rfl (v_move rfl) (o_vl rfl rfl (v_nilCheck rfl) (o_vl rfl rfl (v_field (k := 30) rfl rfl rfl) (o_vl rfl rfl (v_load rfl rfl (rfc (r := r) 30 (by first | exact List.mem_cons_self .. | simp [RfH]) rfl)) (o_vl rfl rfl (v_lss rfl rfl) (o_vl rfl rfl (v_pick0 rfl rfl) (o_end (r_if rfl (fun h3 => ?_) (fun h3 => ?_))))))))))
      · have hc : r.p.fresh = 0 ∨ i < r.p.fresh := .inr (by omega)
        rw [if_pos hc] at hr1
        refine r_region rfl (o_vl rfl rfl (v_move rfl) (o_vl rfl rfl (v_move rfl) (o_vl rfl rfl (v_nilCheck rfl) (o_vl rfl rfl (v_field (k := 30) rfl rfl rfl) (o_act0 rfl rfl rfl (a_rf r1 rfl rfl rfl rfl (Nat.le_of_ble_eq_true rfl) (by rw [hr1]; rfl)) ?_)))))
        refine o_end ?_
        refine j_keep ?_ (J () trivial)
        exact ⟨rfl, rfl, trivial⟩
      · have hc : ¬ (r.p.fresh = 0 ∨ i < r.p.fresh) := by omega
        rw [if_neg hc] at hr1
        have e : r1 = r := hr1
        rw [e] at J
        refine r_skip ?_
        refine j_keep ?_ (J () trivial)
        exact ⟨rfl, rfl, trivial⟩
  · rintro ⟨⟩ -
    have hst : r1.p.st = r.p.st := by rw [hr1]
    refine r_region rfl (o_vl rfl rfl (v_move rfl) (o_vl rfl rfl (v_move rfl) (o_vl rfl rfl (v_nilCheck rfl) (o_vl rfl rfl (v_field (k := 10) rfl rfl rfl) (o_vl rfl rfl (v_load rfl rfl (rfc (r := r1) 10 (by first | exact List.mem_cons_self .. | simp [RfH]) rfl)) (o_vl rfl rfl (v_move rfl) (o_vl rfl rfl (v_sub rfl rfl (r := ((i - 1 : Nat) : Int)) ((wrap_u64 (by omega) (by omega)).trans (by omega))) (o_vl rfl rfl (v_minN rfl rfl rfl) (o_vl rfl rfl (v_nilCheck rfl) (o_vl rfl rfl (v_field (k := 10) rfl rfl rfl) (o_act0 rfl rfl rfl (a_rf { r with p := r.p.mark i } rfl rfl rfl rfl (Nat.le_of_ble_eq_true rfl) (by rw [hr1]; rfl)) ?_)))))))))))
    refine o_end ?_
    exact r_fall0 Tryz.func57 rfl ⟨⟨rfl, rfl, rfl⟩, Fz.le_refl _⟩
theorem voters_lt {p : PR} (h : p.B) : p.voters.1 < 128 := by
  have key : ∀ (l : List PE) (q : Nat × Nat), (∀ e ∈ l, e.B) → q.1 < 128 → (l.foldl (fun q e => if e.kd = 1 then (maskB e.data, e.ix) else q) q).1 < 128 := by
    intro l
    induction l with
    | nil => exact fun q _ h => h
    | cons e r ih =>
      intro q hl hq
      rw [List.foldl_cons]
      refine ih _ (fun x hx => hl x (List.mem_cons_of_mem _ hx)) ?_
      split
      · rename_i hk
        exact (hl e (List.mem_cons_self ..)).vm hk
      · exact hq
  exact key p.l _ h.l h.lvt
def PR.votes (p : PR) (i : Nat) : Bool := p.voters.1.testBit i
def PR.most (p : PR) (some : Nat) : Bool := decide (popc p.voters.1 < 2 * popc (some &&& p.voters.1))
def PR.others (p : PR) : List Nat := (List.range 7).filter fun i => decide (i ≠ p.me) && p.votes i
theorem votes_bit : ∀ v : Nat, v < 128 → ∀ i : Nat, i < 7 → decide (bitOp .and .u64 (Int.fdiv (v : Int) (2 ^ (min (i : Int).toNat IntKind.u64.bits))) 1 = 1) = v.testBit i := by decide +kernel
theorem r_votes (O : World) (F : Fz) (a : Nat) (r : Rf) (i : Nat) (Fr : List Ent) (hr : r.ok F) (hi : i < 7) : Does Tryz.prog O 52 #[ptrV a, .int .i64 i] F (RfH a r Fr) (fun v F' H' => v = .bool (r.p.votes i) ∧ F' = F ∧ H' = RfH a r Fr) := by
  refine does_of_run (args := [_, _]) Tryz.func52 rfl rfl ?_
  have h := votes_bit r.p.voters.1 (voters_lt hr.B) i hi
  unfold PR.votes
  rw [← h]
  refine r_seq (r_region rfl (o_vl rfl rfl (v_assign rfl) (o_end (r_seq (r_region rfl (o_vl rfl rfl (v_move rfl) (o_call rfl rfl rfl rfl (c_call callable17 rfl) (r_Voters _ _ a r Fr hr) ?_)))))))
  rintro v' F H' ⟨rfl, rfl, rfl⟩ _
  refine o_vl rfl rfl (v_move rfl) (o_vl rfl rfl (v_shr rfl rfl (by omega) rfl) (o_vl rfl rfl (v_and rfl rfl rfl) (o_vl rfl rfl (v_eql rfl rfl) (o_vl rfl rfl (v_assign rfl) (o_end ?_)))))
  exact r_ret1 Tryz.func52 rfl rfl ⟨⟨rfl, rfl, rfl⟩, Fz.le_refl _⟩
theorem popc_le : ∀ n : Nat, popc n ≤ 7 := fun n => by
  unfold popc
  have := List.length_filter_le (fun i => n.testBit i) (List.range 7)
  simpa using this
theorem r_most (O : World) (F : Fz) (a : Nat) (r : Rf) (some : Nat) (Fr : List Ent) (hr : r.ok F) (hs : some < 128) : Does Tryz.prog O 81 #[ptrV a, .int .u64 some] F (RfH a r Fr) (fun v F' H' => v = .bool (r.p.most some) ∧ F' = F ∧ H' = RfH a r Fr) := by
  refine does_of_run (args := [_, _]) Tryz.func81 rfl rfl ?_
  have hv := voters_lt hr.B
  have hand := Nat.and_le_left (n := some) (m := r.p.voters.1)
  have hp := popc_le (some &&& r.p.voters.1)
  refine r_seq (r_region rfl (o_vl rfl rfl (v_assign rfl) (o_end (r_seq (r_region rfl (o_vl rfl rfl (v_move rfl) (o_call rfl rfl rfl rfl (c_call callable17 rfl) (r_Voters _ _ a r Fr hr) ?_)))))))
  rintro v' F H' ⟨rfl, rfl, rfl⟩ _
  refine o_vl rfl rfl (v_assign rfl) (o_end (r_seq (r_region rfl (o_vl rfl rfl (v_move rfl) (o_vl rfl rfl (v_move rfl) (o_vl rfl rfl (v_and rfl rfl (u64_and _ _ (by omega) (by omega))) (o_call rfl rfl rfl rfl (c_call callable33 rfl) (b_Ones _ _ _ _ (by omega)) ?_)))))))
  rintro v' F H' ⟨rfl, rfl, rfl⟩ _
  refine o_vl rfl rfl (v_mul rfl rfl (r := ((2 * popc (some &&& r.p.voters.1) : Nat) : Int)) ((wrap_i64 (by omega) (by omega)).trans (by omega))) (o_vl rfl rfl (v_move rfl) (o_call rfl rfl rfl rfl (c_call callable33 rfl) (b_Ones _ _ _ _ hv) ?_))
  rintro v' F H' ⟨rfl, rfl, rfl⟩ _
  refine o_vl rfl rfl (v_gtr rfl rfl) (o_vl rfl rfl (v_assign rfl) (o_end ?_))
  refine r_ret1 Tryz.func81 rfl rfl ⟨⟨?_, rfl, rfl⟩, Fz.le_refl _⟩
  unfold PR.most
  congr 1
  exact decide_eq_decide.2 (by omega)
abbrev natsV (l : List Nat) : List Value := l.map fun (n : Nat) => Value.int .i64 (n : Int)
structure OG2 where
  i : Nat
  bf : Bf
theorem r_others (O : World) (F : Fz) (a : Nat) (r : Rf) (Fr : List Ent) (hr : r.ok F) : Does Tryz.prog O 58 #[ptrV a] F (RfH a r Fr) (fun v F' H' => F.le F' ∧ Sl F' [] 1 v r.p.others.length (natsV r.p.others) ∧ H' = RfH a r Fr) := by
  refine does_of_run (args := [_]) Tryz.func58 rfl rfl ?_
  have hme := hr.B.me
  obtain ⟨L, hL⟩ : ∃ L : Nat → List Nat, L = fun i => (List.range i).filter fun i => decide (i ≠ r.p.me) && r.p.votes i := ⟨_, rfl⟩
  have hL0 : L 0 = [] := by rw [hL]; rfl
  have hL7 : L 7 = r.p.others := by rw [hL]; rfl
  have hLs : ∀ i, L (i + 1) = L i ++ if (decide (i ≠ r.p.me) && r.p.votes i) = true then [i] else [] := fun i => by
    rw [hL]
    dsimp only
    rw [List.range_succ, List.filter_append]
    congr 1
    cases hq : (decide (i ≠ r.p.me) && r.p.votes i) <;> simp only [List.filter_cons, List.filter_nil, hq, if_true, Bool.false_eq_true, if_false]
  have hLl : ∀ i, (L i).length ≤ i := fun i => by
    rw [hL]
    have := List.length_filter_le (fun i => decide (i ≠ r.p.me) && r.p.votes i) (List.range i)
    simpa using this
  refine r_seq (r_region rfl (o_vl rfl rfl (v_assign rfl) (o_end (r_seq (r_region rfl (o_vl rfl rfl (v_assign rfl) (o_end (r_seq (r_seq (r_region rfl (o_vl rfl rfl (v_move rfl) (o_end (r_block ?_)))))))))))))
  refine r_loop (fun g : OG2 => g.i ≤ 7 ∧ g.bf.ok (L g.i).length) (fun g => [(0, ptrV a), (3, g.bf.val (L g.i).length), (5, .int .i64 g.i)]) (fun _ => F) (fun g => RfH a r (g.bf.ents 1 (natsV (L g.i)) ++ Fr)) (fun g => 7 - g.i) ⟨0, .nil⟩ ⟨Nat.zero_le _, by dsimp only; rw [hL0]; rfl⟩ ⟨rfl, by dsimp only; rw [hL0]; rfl, rfl, trivial⟩ rfl (by dsimp only; rw [hL0]; rfl) ?_
  rintro ⟨i, bf⟩ ⟨hi, hbf⟩ IH
  dsimp only at hi hbf ⊢
  refine r_seq (r_region rfl (o_vl rfl rfl (v_lss rfl rfl) (o_end (r_seq (r_if rfl (fun h => ?_) (fun h => ?_))))))
  · have hil : i < 7 := by omega
    have hl := hLl i
    have hno : (decide (i ≠ r.p.me) && r.p.votes i) = false → L (i + 1) = L i := fun h => by rw [hLs, h]; simp
    have hyes : (decide (i ≠ r.p.me) && r.p.votes i) = true → L (i + 1) = L i ++ [i] := fun h => by rw [hLs, h]; simp
    refine r_skip (r_seq (r_block (r_seq (r_region rfl (o_vl rfl rfl (v_move rfl) (o_vl rfl rfl (v_assign rfl) (o_end (r_seq (r_region rfl (o_vl rfl rfl (v_move rfl) (o_vl rfl rfl (v_move rfl) (o_vl rfl rfl (v_nilCheck rfl) (o_vl rfl rfl (v_field (k := 0) rfl rfl rfl) ?_)))))))))))))
    refine o_vl rfl rfl (v_load rfl rfl (rfc (r := r) 0 (by first | exact List.mem_cons_self .. | simp [RfH]) rfl)) (o_vl rfl rfl (v_neq rfl rfl) ?_)
    refine j_prop 13 rfl (fun h1 => ?_) (fun h1 => ?_)
    · have hne : i ≠ r.p.me := by omega
      refine o_vl rfl rfl (v_move rfl) (o_vl rfl rfl (v_move rfl) (o_vl rfl rfl (v_move rfl) (o_call rfl rfl rfl rfl (c_call callable52 rfl) (r_votes _ _ a r i _ hr hil) ?_)))
      rintro v' F H' ⟨rfl, rfl, rfl⟩ _
      refine o_vl rfl rfl (v_pick1 rfl rfl) (o_end ?_)
      cases hv : r.p.votes i with
      | true =>
        refine r_true rfl ?_
        have hLi := hyes (by rw [hv, decide_eq_true hne]; rfl)
        refine r_region rfl (o_vl rfl rfl (v_move rfl) (o_vl rfl rfl (v_move rfl) (o_act rfl rfl rfl rfl (a_buildS (sz := 1) (cs := [.int .i64 i]) [.tmp 20] rfl rfl rfl rfl rfl rfl rfl rfl rfl rfl) ?_)))
        rintro v' H' ⟨y, rfl, rfl⟩
        refine j_heap (H' := (.mem y [.int .i64 i] 1 :: RfP a r) ++ (bf.ents 1 (natsV (L i)) ++ Fr)) (by rw [RfH_eq]; rfl) ?_
        refine o_act rfl rfl rfl rfl (a_appendP (bf := bf) (n := (L i).length) (m := 1) (sz := 1) (bytes := 8) (.mem y [.int .i64 i] 1 :: RfP a r) ⟨⟨_, _, _, rfl, rfl, rfl, rfl, rfl, rfl⟩, by decide⟩ rfl hbf (by simp) rfl rfl ⟨_, 1, rfl, rfl, Nat.le_refl _, by simp, fun j c hj => ⟨y, 0, rfl, cell_own (cs := [.int .i64 i]) (n := 1) (List.mem_cons_self ..) (by simpa using hj)⟩⟩ rfl (by unfold maxLen; omega) (by omega)) ?_
        rintro v' H' ⟨bf2, rfl, hbf2, rfl⟩
        have he : natsV (L i) ++ [.int .i64 i] = natsV (L (i + 1)) := by rw [hLi]; simp [natsV]
        have hle : (L i).length + 1 = (L (i + 1)).length := by rw [hLi]; simp
        rw [he]
        rw [hle] at hbf2 ⊢
        refine j_drop (List.sublist_cons_self _ _) ?_
        refine j_heap (RfH_eq a r (bf2.ents 1 (natsV (L (i + 1))) ++ Fr)).symm ?_
        refine o_vl rfl rfl (v_assign rfl) (o_end (r_inBlock (r_region rfl (o_vl rfl rfl (v_add rfl rfl (wrap_i64 (by omega) (by omega))) (o_vl rfl rfl (v_move rfl) (o_end ?_))))))
        refine j_keep ?_ (IH ⟨i + 1, bf2⟩ ⟨hil, hbf2⟩ (by dsimp only; omega))
        exact ⟨rfl, rfl, rfl, trivial⟩
      | false =>
        refine r_false rfl ?_
        have hLi := hno (by rw [hv, Bool.and_false])
        refine r_skip (r_inBlock (r_region rfl (o_vl rfl rfl (v_add rfl rfl (wrap_i64 (by omega) (by omega))) (o_vl rfl rfl (v_move rfl) (o_end ?_)))))
        refine j_heap (H' := RfH a r (bf.ents 1 (natsV (L (i + 1))) ++ Fr)) (by rw [hLi]) ?_
        refine j_keep ?_ (IH ⟨i + 1, bf⟩ ⟨hil, by dsimp only; rw [hLi]; exact hbf⟩ (by dsimp only; omega))
        exact ⟨rfl, by dsimp only; rw [hLi]; rfl, rfl, trivial⟩
    · skip
      have hLi := hno (by rw [decide_eq_false (by omega), Bool.false_and])
      refine o_vl rfl rfl (v_move rfl) (o_sk rfl rfl (o_sk rfl rfl (o_sk rfl rfl (o_vl rfl rfl (v_pick0 rfl rfl) (o_end (r_false rfl (r_skip (r_inBlock (r_region rfl (o_vl rfl rfl (v_add rfl rfl (wrap_i64 (by omega) (by omega))) (o_vl rfl rfl (v_move rfl) (o_end ?_))))))))))))
      refine j_heap (H' := RfH a r (bf.ents 1 (natsV (L (i + 1))) ++ Fr)) (by rw [hLi]) ?_
      refine j_keep ?_ (IH ⟨i + 1, bf⟩ ⟨hil, by dsimp only; rw [hLi]; exact hbf⟩ (by dsimp only; omega))
      exact ⟨rfl, by dsimp only; rw [hLi]; rfl, rfl, trivial⟩
  · obtain rfl : i = 7 := by omega
    clear IH
    rw [hL7] at hbf ⊢
    refine r_exit rfl (r_seq (r_region rfl (o_vl rfl rfl (v_move rfl) (o_vl rfl rfl (v_assign rfl) (o_end ?_)))))
    refine j_heap (RfH_eq a r (bf.ents 1 (natsV r.p.others) ++ Fr)) ?_
    refine j_sel (H' := bf.ents 1 (natsV r.p.others) ++ (RfP a r ++ (Fr))) [RfP a r, bf.ents 1 (natsV r.p.others), Fr] [1, 0, 2] rfl rfl rfl ?_
    refine j_freezeBf hbf (by simp) fun F2 hF2 hs2 => ?_
    refine j_heap (RfH_eq a r Fr).symm ?_
    exact r_ret1 Tryz.func58 rfl rfl ⟨⟨hF2, hs2, rfl⟩, hF2⟩
end Go.SX
namespace Go.SX
open Go Go.Proofs
set_option maxRecDepth 4000
def PR.send (p : PR) (m : PM) : PR := { p with out := (if m.kd = 5 then p.out.filter (fun q => !q.sel m.to) else p.out) ++ [{ m with fr := p.me, tm := if m.tm = 0 then p.term else m.tm }] }
theorem mgc {x : Nat} {m : Mg} {F : Fz} {H : List Ent} (j : Nat) {c : Value} (hm : Ent.mem x m.cells 13 ∈ H) (hc : m.cells[j]? = some c) : Cell F H x (0 + j) c := by
  rw [Nat.zero_add]
  exact cell_own hm hc
theorem map_filter_sel (l : List Mg) (to : Nat) : (l.filter fun q => !q.sel to).map Mg.p = (l.map Mg.p).filter fun q => !q.sel to := by
  rw [List.filter_map]
  rfl
set_option maxHeartbeats 1000000 in
theorem r_send (O : World) (F : Fz) (a : Nat) (r : Rf) (m : Mg) (Fr : List Ent) (hr : r.ok F) (hm : m.ok F) (ho : r.p.out.length < 300000) :
    Does Tryz.prog O 79 #[ptrV a, .agg m.cells.toArray] F (RfH a r Fr) (fun v F' H' => v = noneV ∧ F' = F ∧ ∃ r' : Rf, r'.ok F ∧ r'.p = r.p.send m.p ∧ H' = RfH a r' Fr) := by
  refine does_of_run (args := [_, _]) Tryz.func79 rfl rfl ?_
  have hol : r.out.length = r.p.out.length := by rw [← hr.out, List.length_map]
  obtain ⟨m1, hm1⟩ : ∃ m1 : Mg, m1 = { m with p := { m.p with fr := r.p.me } } := ⟨_, rfl⟩
  obtain ⟨m2, hm2⟩ : ∃ m2 : Mg, m2 = { m with p := { m.p with fr := r.p.me, tm := if m.p.tm = 0 then r.p.term else m.p.tm } } := ⟨_, rfl⟩
  obtain ⟨o1, ho1⟩ : ∃ o1 : List Mg, o1 = if m.p.kd = 5 then r.out.filter (fun q => !q.sel m.p.to) else r.out := ⟨_, rfl⟩
  have ho1p : o1.map Mg.p = if m.p.kd = 5 then r.p.out.filter (fun q => !q.sel m.p.to) else r.p.out := by
    rw [ho1]
    split
    · rw [map_filter_sel, hr.out]
    · exact hr.out
  have ho1s : ∀ q ∈ o1, q ∈ r.out := fun q hq => by
    rw [ho1] at hq
    split at hq
    · exact (List.mem_filter.1 hq).1
    · exact hq
  have ho1l : o1.length ≤ r.out.length := by
    rw [ho1]
    split
    · exact List.length_filter_le _ _
    · exact Nat.le_refl _
  obtain ⟨r1, hr1⟩ : ∃ r1 : Rf, r1 = { r with out := o1, p := { r.p with out := o1.map Mg.p } } := ⟨_, rfl⟩
  refine r_seq (r_region rfl (o_act rfl rfl rfl rfl (a_box rfl) ?_))
  rintro v' H' ⟨x, rfl, rfl⟩
  refine j_heap (H' := .mem x m.cells 13 :: RfH a r Fr) rfl ?_
  refine o_end (r_seq (r_region rfl (o_vl rfl rfl (v_move rfl) (o_vl rfl rfl (v_nilCheck rfl) (o_vl rfl rfl (v_field (k := 0) rfl rfl rfl) (o_vl rfl rfl (v_load rfl rfl (rfc (r := r) 0 (by first | exact List.mem_cons_self .. | simp [RfH]) rfl)) (o_vl rfl rfl (v_field (k := 1) rfl rfl rfl) (o_act0 rfl rfl rfl (a_store1 0 rfl rfl rfl rfl rfl (Nat.le_of_ble_eq_true rfl)) ?_))))))))
  refine j_heap (H' := .mem x m1.cells 13 :: RfE a r :: (RfL r ++ (r.obf.ents 13 (mgV r.out) ++ Fr))) (by rw [hm1]; rfl) ?_
  refine o_end (r_seq ?_)
  refine r_join (fun _ : Unit => True) (fun _ => [(0, ptrV a), (3, ptrV x)]) (fun _ => F) (fun _ => RfE a r1 :: .mem x m1.cells 13 :: (RfL r ++ (r.obf.ents 13 (mgV o1) ++ Fr))) ?_ ?_
  · intro J
    refine r_seq (r_region rfl (o_vl rfl rfl (v_field (k := 0) rfl rfl rfl) (o_vl rfl rfl (v_load (v := .int .u8 m.p.kd) rfl rfl (mgc (m := m1) 0 (List.mem_cons_self ..) (by rw [hm1]; rfl))) (o_vl rfl rfl (v_eql rfl rfl) (o_end (r_if rfl (fun h => ?_) (fun h => ?_)))))))
    · have hk : m.p.kd = 5 := by omega
      rw [if_pos hk] at ho1
      refine r_region rfl (o_vl rfl rfl (v_move rfl) (o_vl rfl rfl (v_move rfl) (o_vl rfl rfl (v_nilCheck rfl) (o_vl rfl rfl (v_field (k := 28) rfl rfl rfl) (o_vl rfl rfl (v_load rfl rfl (rfc (r := r) 28 (by first | exact List.mem_cons_self .. | simp [RfH]) rfl)) (o_vl rfl rfl (v_makeFunc (first := []) (cap := [.tmp 3]) rfl rfl) ?_))))))
      refine j_sel (H' := r.obf.ents 13 (mgV r.out) ++ (RfE a r :: (.mem x m1.cells 13 :: (RfL r ++ (Fr))))) [[.mem x m1.cells 13], [RfE a r], RfL r, r.obf.ents 13 (mgV r.out), Fr] [3, 1, 0, 2, 4] rfl rfl rfl ?_
      have hto : m1.p.to = m.p.to := by rw [hm1]
      refine o_call rfl rfl rfl rfl (c_call callable103 rfl) (s_Delete _ _ r.obf r.out m1 x _ hr.obf hr.outok (by simp) (by omega)) ?_
      rintro v' F H' ⟨rfl, rfl, rfl⟩ _
      rw [hto, ← ho1]
      refine j_sel (H' := RfE a r :: (.mem x m1.cells 13 :: (RfL r ++ (r.obf.ents 13 (mgV o1) ++ (Fr))))) [r.obf.ents 13 (mgV o1), [RfE a r], [.mem x m1.cells 13], RfL r, Fr] [1, 2, 3, 0, 4] rfl rfl rfl ?_
      refine o_vl rfl rfl (v_nilCheck rfl) (o_vl rfl rfl (v_field (k := 28) rfl rfl rfl) (o_act0 rfl rfl rfl (a_rf r1 rfl rfl rfl rfl (Nat.le_of_ble_eq_true rfl) (by rw [hr1]; rfl)) ?_))
      refine o_end ?_
      refine j_keep ?_ (J () trivial)
      exact ⟨rfl, rfl, trivial⟩
    · have hk : ¬ m.p.kd = 5 := by omega
      rw [if_neg hk] at ho1
      have e : r1 = r := by rw [hr1, ho1, hr.out]
      rw [e, ho1] at J
      refine r_skip ?_
      refine j_perm (.swap _ _ _) ?_
      refine j_keep ?_ (J () trivial)
      exact ⟨rfl, rfl, trivial⟩
  · rintro ⟨⟩ -
    have hobf : r1.obf = r.obf := by rw [hr1]
    have hout : r1.out = o1 := by rw [hr1]
    have htm : r1.p.term = r.p.term := by rw [hr1]
    refine r_seq ?_
    refine r_join (fun _ : Unit => True) (fun _ => [(0, ptrV a), (3, ptrV x)]) (fun _ => F) (fun _ => RfE a r1 :: .mem x m2.cells 13 :: (RfL r ++ (r.obf.ents 13 (mgV o1) ++ Fr))) ?_ ?_
    · intro J
      refine r_seq (r_region rfl (o_vl rfl rfl (v_field (k := 3) rfl rfl rfl) (o_vl rfl rfl (v_load (v := .int .u64 m.p.tm) rfl rfl (mgc (m := m1) 3 (List.mem_cons_of_mem _ (List.mem_cons_self ..)) (by rw [hm1]; rfl))) (o_vl rfl rfl (v_eql rfl rfl) (o_end (r_if rfl (fun h => ?_) (fun h => ?_)))))))
      · have hk : m.p.tm = 0 := by omega
        rw [if_pos hk] at hm2
        refine r_region rfl (o_vl rfl rfl (v_move rfl) (o_vl rfl rfl (v_nilCheck rfl) (o_vl rfl rfl (v_field (k := 4) rfl rfl rfl) (o_vl rfl rfl (v_field (k := 0) rfl rfl rfl) (o_vl rfl rfl (v_load rfl rfl (rfc (r := r1) 4 (by first | exact List.mem_cons_self .. | simp [RfH]) rfl)) (o_vl rfl rfl (v_field (k := 3) rfl rfl rfl) (o_act0 rfl rfl rfl (a_store1 1 rfl rfl rfl rfl rfl (Nat.le_of_ble_eq_true rfl)) ?_)))))))
        refine j_heap (H' := RfE a r1 :: .mem x m2.cells 13 :: (RfL r ++ (r.obf.ents 13 (mgV o1) ++ Fr))) (by rw [hm2, hm1, ← htm]; rfl) ?_
        refine o_end ?_
        refine j_keep ?_ (J () trivial)
        exact ⟨rfl, rfl, trivial⟩
      · have hk : ¬ m.p.tm = 0 := by omega
        rw [if_neg hk] at hm2
        have e : m2 = m1 := by rw [hm1, hm2]
        rw [e] at J
        refine r_skip ?_
        refine j_keep ?_ (J () trivial)
        exact ⟨rfl, rfl, trivial⟩
    · rintro ⟨⟩ -
      have hme := hr.B.me
      have hbt := hr.B.term
      have hm2ok : m2.ok F := by
        have hB := hm.B
        rw [hm2]
        refine ⟨{ hB with fr := hme, tm := ?_ }, hm.es, hm.ev, hm.eok, hm.sd⟩
        dsimp only
        split
        · exact hbt
        · exact hB.tm
      have hok1 : r.obf.ok o1.length := by
        have := hr.obf
        exact Bf.ok_le this ho1l
      refine d_region 10 rfl ([RfE a r1, .mem x m2.cells 13]) ?_
      refine d_tk (i := 0) rfl rfl (by simp) (v_move rfl) (d_tk (i := 1) rfl rfl (by simp) (v_move rfl) (d_tk (i := 2) rfl rfl (by simp) (v_nilCheck rfl) (d_tk (i := 3) rfl rfl (by simp) (v_field (k := 28) rfl rfl rfl) (d_tk (i := 4) rfl rfl (by simp) (v_load rfl rfl (rfc (r := r1) 28 (by first | exact List.mem_cons_self .. | simp [RfH]) rfl)) (d_tk (i := 5) rfl rfl (by simp) (v_loadAgg (sz := 13) (cs := m2.cells) rfl rfl rfl rfl (fun k c hk => cell_at (j := 1) rfl (by simpa using hk))) (d_one (i := 6) (by decide +kernel) (d1_act rfl rfl rfl rfl (a_buildS (sz := 13) (cs := m2.cells) [.tmp 35] rfl rfl rfl rfl rfl rfl rfl rfl rfl rfl) ?_)))))))
      rintro v' H' ⟨y, rfl, rfl⟩
      refine ⟨fun w hw => held_of hw (by first | exact Fz.le_refl _ | assumption) (by simp), ?_⟩
      rw [hobf, hout]
      refine d_one (i := 7) (by decide +kernel) (d1_act rfl rfl rfl rfl (a_appendP (bf := r.obf) (n := o1.length) (m := 1) (ys := m2.cells) (sz := 13) (bytes := 136) (.mem y m2.cells 13 :: RfE a r1 :: .mem x m2.cells 13 :: RfL r) ⟨⟨_, _, _, rfl, rfl, rfl, rfl, rfl, rfl⟩, by decide⟩ rfl hok1 (vec_len Mg.cl o1) rfl rfl ⟨_, 1, rfl, by rw [Mg.cl], Nat.le_refl _, by simp, fun j c hj => ⟨y, 0, rfl, cell_own (cs := m2.cells) (n := 13) (List.mem_cons_self ..) (by simpa using hj)⟩⟩ hm2ok.one (by unfold maxLen; omega) (by omega)) ?_)
      rintro v' H' ⟨bf2, rfl, hok2, rfl⟩
      refine ⟨fun w hw => held_of hw (by first | exact Fz.le_refl _ | assumption) (by simp), ?_⟩
      have hap : mgV o1 ++ m2.cells = mgV (o1 ++ [m2]) := by simp [mgV]
      have hle1 : o1.length + 1 = (o1 ++ [m2]).length := by simp
      rw [hap]
      rw [hle1] at hok2 ⊢
      refine j_sel (H' := RfE a r1 :: (.mem x m2.cells 13 :: (RfL r ++ (bf2.ents 13 (mgV (o1 ++ [m2])) ++ (Fr))))) [[.mem y m2.cells 13], [RfE a r1], [.mem x m2.cells 13], RfL r, bf2.ents 13 (mgV (o1 ++ [m2])), Fr] [1, 2, 3, 4, 5] rfl rfl rfl ?_
      obtain ⟨r2, hr2⟩ : ∃ r2 : Rf, r2 = { r with out := o1 ++ [m2], obf := bf2, p := r.p.send m.p } := ⟨_, rfl⟩
      refine d_tk (i := 8) rfl rfl (by simp) (v_nilCheck rfl) (d_tk (i := 9) rfl rfl (by simp) (v_field (k := 28) rfl rfl rfl) (d_one (i := 10) (by decide +kernel) ?_))
      refine d1_last 1000000 ([]) rfl rfl rfl (a_rf r2 rfl rfl rfl rfl (Nat.le_of_ble_eq_true rfl) (by rw [hr2, hr1]; rfl)) ?_
      refine d_end (by decide +kernel) ?_
      refine j_sel (H' := RfE a r2 :: (RfL r ++ (bf2.ents 13 (mgV (o1 ++ [m2])) ++ (Fr)))) [[RfE a r2], [.mem x m2.cells 13], RfL r, bf2.ents 13 (mgV (o1 ++ [m2])), Fr] [0, 2, 3, 4] rfl rfl rfl ?_
      have hpo : (o1 ++ [m2]).map Mg.p = (r.p.send m.p).out := by
        rw [List.map_append, ho1p, hm2]
        rfl
      refine r_fall0 Tryz.func79 rfl ⟨⟨rfl, rfl, r2, ?_, by rw [hr2], by rw [hr2]; rfl⟩, Fz.le_refl _⟩
      rw [hr2]
      refine ⟨{ hr.B with out := ?_, ol := ?_ }, hr.l, hr.lok, hr.lbf, hpo, ?_, hok2, hr.sd, hr.dr⟩
      · intro q hq
        dsimp only at hq
        rw [← hpo] at hq
        obtain ⟨z, hz, rfl⟩ := List.mem_map.1 hq
        rcases List.mem_append.1 hz with hz | hz
        · exact (hr.outok z (ho1s z hz)).B
        · rw [List.mem_singleton.1 hz]
          exact hm2ok.B
      · dsimp only
        rw [← hpo]
        simp
        omega
      · intro q hq
        rcases List.mem_append.1 hq with hq | hq
        · exact hr.outok q (ho1s q hq)
        · rw [List.mem_singleton.1 hq]
          exact hm2ok
end Go.SX
namespace Go.SX
open Go Go.Proofs
set_option maxRecDepth 4000
theorem does_permB {P : Program} {O : World} {f : FuncId} {args : Array Value} {F : Fz} {H H0 : List Ent} {R R0 : Value → Fz → List Ent → Prop} (hp : H.Perm H0) (h : Does P O f args F H0 R0)
    (hr : ∀ v F' H', F.le F' → R0 v F' H' → ∃ H2, H'.Perm H2 ∧ R v F' H2) : Does P O f args F H R :=
  fun w hw => (h w (hw.perm hp)).mono fun _ _ ⟨v, F', H', he, r, hle, hs⟩ =>
    let ⟨H2, hp2, r2⟩ := hr v F' H' hle r
    ⟨v, F', H2, he, r2, hle, hs.perm hp2⟩
def lgFrom (ix : Nat) (l : List En) (i most : Nat) : List En := if i ≤ ix ∨ ix + l.length < i ∨ most < 1 then [] else (l.drop (i - ix - 1)).take most
theorem lg_From (O : World) (F : Fz) (a ix tm vt : Nat) (bf : Bf) (l : List En) (i most : Nat) (Fr : List Ent) (hb : ix + l.length < 1000000) (hok : bf.ok l.length) (hi : i < 18446744073709551616) (hmo : most < 9223372036854775807) (hl : ∀ e ∈ l, e.ok F) :
    Does Tryz.prog O 43 #[ptrV a, .int .u64 i, .int .i64 most] F (LgH a ix tm vt bf l Fr)
      (fun r F' H' => F.le F' ∧ Sl F' [] 4 r (lgFrom ix l i most).length (enV (lgFrom ix l i most)) ∧ H' = LgH a ix tm vt bf l Fr) := by
  refine does_of_run (args := [_, _, _]) Tryz.func43 rfl rfl ?_
  refine r_seq (r_region rfl (o_vl rfl rfl (v_assign rfl) (o_end (r_seq (r_seq (r_region rfl (o_vl rfl rfl (v_move rfl) (o_vl rfl rfl (v_peqnil rfl rfl rfl) (o_vl rfl rfl (v_move rfl) (o_vl rfl rfl (v_move rfl) (o_vl rfl rfl (v_move rfl) (o_vl rfl rfl (v_nilCheck rfl) (o_vl rfl rfl (v_field (k := 0) rfl rfl rfl) ?_)))))))))))))
  refine o_vl rfl rfl (v_load rfl rfl (cell_at (j := 0) rfl rfl)) (o_vl rfl rfl (v_leq rfl rfl) (o_vl rfl rfl (v_pick0 rfl rfl) ?_))
  have hnil : i ≤ ix ∨ ix + l.length < i ∨ most < 1 → lgFrom ix l i most = [] := fun h => by unfold lgFrom; rw [if_pos h]
  refine j_prop 17 rfl (fun h1 => ?_) (fun h1 => ?_)
  · rw [hnil (.inl (by omega))]
    refine o_vl rfl rfl (v_move rfl) (o_sk rfl rfl (o_sk rfl rfl (o_sk rfl rfl (o_sk rfl rfl (o_vl rfl rfl (v_pick1 rfl rfl) (o_vl rfl rfl (v_move rfl) (o_sk rfl rfl (o_sk rfl rfl (o_vl rfl rfl (v_pick1 rfl rfl) (o_end (r_true rfl (r_seq (r_region rfl ?_)))))))))))))
    refine o_vl rfl rfl (v_assign rfl) (o_end ?_)
    exact r_ret1 Tryz.func43 rfl rfl ⟨⟨Fz.le_refl _, Sl.nil _ _ _, rfl⟩, Fz.le_refl _⟩
  · skip
    refine o_vl rfl rfl (v_move rfl) (o_vl rfl rfl (v_move rfl) (o_vl rfl rfl (v_move rfl) (o_call rfl rfl rfl rfl (c_call callable45 rfl) (lg_Last _ _ a ix tm vt bf l.length _ (by omega)) ?_)))
    rintro v' F H' ⟨rfl, rfl, rfl⟩ _
    refine o_vl rfl rfl (v_gtr rfl rfl) (o_vl rfl rfl (v_pick0 rfl rfl) ?_)
    refine j_prop 23 rfl (fun h2 => ?_) (fun h2 => ?_)
    · rw [hnil (.inr (.inl (by omega)))]
      refine o_vl rfl rfl (v_move rfl) (o_sk rfl rfl (o_sk rfl rfl (o_vl rfl rfl (v_pick1 rfl rfl) (o_end (r_true rfl (r_seq (r_region rfl (o_vl rfl rfl (v_assign rfl) (o_end ?_)))))))))
      exact r_ret1 Tryz.func43 rfl rfl ⟨⟨Fz.le_refl _, Sl.nil _ _ _, rfl⟩, Fz.le_refl _⟩
    · skip
      refine o_vl rfl rfl (v_move rfl) (o_vl rfl rfl (v_move rfl) (o_vl rfl rfl (v_lss rfl rfl) (o_vl rfl rfl (v_pick0 rfl rfl) (o_end (r_if rfl (fun h3 => ?_) (fun h3 => ?_))))))
      · rw [hnil (.inr (.inr (by omega)))]
        refine r_seq (r_region rfl (o_vl rfl rfl (v_assign rfl) (o_end ?_)))
        exact r_ret1 Tryz.func43 rfl rfl ⟨⟨Fz.le_refl _, Sl.nil _ _ _, rfl⟩, Fz.le_refl _⟩
      · have hfe : lgFrom ix l i most = (l.drop (i - ix - 1)).take most := by unfold lgFrom; rw [if_neg (by omega)]
        rw [hfe]
        cases bf with
        | nil =>
          have : l.length = 0 := hok
          omega
        | «at» b cap =>
          have hcap : l.length ≤ cap := hok
          obtain ⟨k, hk⟩ : ∃ k, k = i - ix - 1 := ⟨_, rfl⟩
          rw [← hk]
          obtain ⟨n, hn⟩ : ∃ n, n = min most (l.length - k) := ⟨_, rfl⟩
          have hln : ((l.drop k).take most).length = n := by rw [List.length_take, List.length_drop, hn]
          have hs0 : ∀ H, LgH a ix tm vt (.at b cap) l Fr ⊆ H → Sl F H 4 (.slice (some ⟨b, 0, none⟩) l.length cap) l.length (enV l) := fun H hH => (Bf.reads (bf := .at b cap) (sz := 4) hcap (by rw [enV_length]) (by
            intro q hq
            exact hH (List.mem_cons_of_mem _ (List.mem_append_left _ hq))))
          have hs1 : ∀ H, LgH a ix tm vt (.at b cap) l Fr ⊆ H → Sl F H 4 (Go.sliced (some ⟨b, 0, none⟩) k l.length cap 4) (l.drop k).length (enV (l.drop k)) := fun H hH => by
            have := Sl.sliced (l := k) (h := l.length) (hs0 H hH) (by omega) (Nat.le_refl _)
            rw [enV_drop, List.take_of_length_le (by rw [enV_length, List.length_drop]; omega), ← List.length_drop] at this
            exact this
          obtain ⟨a1, c1, ha1, hc1⟩ := Sl.shape (hs1 _ (fun q h => h))
          rw [List.length_drop] at ha1 hc1
          have hs2 : ∀ H, LgH a ix tm vt (.at b cap) l Fr ⊆ H → Sl F H 4 (Go.sliced a1 0 n c1 4) ((l.drop k).take most).length (enV ((l.drop k).take most)) := fun H hH => by
            have h1 := hs1 H hH
            rw [ha1, List.length_drop] at h1
            have := Sl.sliced (l := 0) (h := n) h1 (Nat.zero_le _) (by omega)
            simp only [Nat.zero_mul, List.drop_zero, Nat.sub_zero] at this
            rw [hln]
            have e : (enV (l.drop k)).take (n * 4) = enV ((l.drop k).take most) := by
              have e1 : (l.drop k).take most = (l.drop k).take n := by
                rcases Nat.le_total most (l.length - k) with h | h
                · rw [hn, Nat.min_eq_left h]
                · rw [hn, Nat.min_eq_right h, List.take_of_length_le (by rw [List.length_drop]; exact h), List.take_of_length_le (by rw [List.length_drop]; exact Nat.le_refl _)]
              rw [e1]
              have e2 : enV (l.drop k) = enV ((l.drop k).take n) ++ enV ((l.drop k).drop n) := by rw [← enV_append, List.take_append_drop]
              rw [e2]
              exact List.take_left' (by rw [enV_length, List.length_take, List.length_drop]; omega)
            rw [e] at this
            exact this
          refine r_skip (r_seq (d_region 1000000 rfl ([LgE a ix tm vt (.at b cap) l.length]) ?_))
          refine d_tk (i := 0) rfl rfl (by simp [LgH]) (v_move rfl) (d_tk (i := 1) rfl rfl (by simp [LgH]) (v_nilCheck rfl) (d_tk (i := 2) rfl rfl (by simp [LgH]) (v_field (k := 3) rfl rfl rfl) (d_tk (i := 3) rfl rfl (by simp [LgH]) (v_load rfl rfl (cell_at (j := 0) rfl rfl)) (d_tk (i := 4) rfl rfl (by simp [LgH]) (v_move rfl) (d_tk (i := 5) rfl rfl (by simp [LgH]) (v_move rfl) (d_tk (i := 6) rfl rfl (by simp [LgH]) (v_nilCheck rfl) (d_tk (i := 7) rfl rfl (by simp [LgH]) (v_field (k := 0) rfl rfl rfl) (d_tk (i := 8) rfl rfl (by simp [LgH]) (v_load rfl rfl (cell_at (j := 0) rfl rfl)) (d_tk (i := 9) rfl rfl (by simp [LgH]) (v_sub rfl rfl (r := ((i - ix : Nat) : Int)) ((wrap_u64 (by omega) (by omega)).trans (by omega))) (d_tk (i := 10) rfl rfl (by simp [LgH]) (v_sub rfl rfl (r := ((k : Nat) : Int)) ((wrap_u64 (by omega) (by omega)).trans (by omega))) (d_tk (i := 11) rfl rfl (by simp [LgH]) (v_sliceL (sz := 4) rfl rfl rfl rfl rfl (by omega)) (d_tk (i := 12) rfl rfl (by simp [LgH]) (v_assign rfl) (d_end (by decide +kernel) ?_)))))))))))))
          refine r_seq (r_region rfl (o_vl rfl rfl (v_move rfl) (o_vl rfl rfl (v_move rfl) (o_vl rfl rfl (v_move rfl) (o_vl rfl rfl (v_len rfl rfl) (o_vl rfl rfl (v_minN rfl rfl hn.symm) (o_vl rfl rfl (v_sliceH (sz := 4) (a0 := a1) (n := l.length - k) (cap := c1) rfl rfl (congrArg some ha1) rfl rfl (by omega)) (o_call rfl rfl rfl rfl (c_call callable70 rfl) (sl_CloneE _ _ _ ((l.drop k).take most) _ (hs2 _ (fun q h => h)) (fun e he => hl e (List.mem_of_mem_drop (List.mem_of_mem_take he))) (by rw [hln]; omega)) ?_))))))))
          rintro v' F H' ⟨rfl, bf2, hbf2, rfl, rfl⟩ _
          refine j_freezeBf hbf2 (by rw [enV_length]) fun F2 hF2 hs3 => ?_
          refine o_vl rfl rfl (v_assign rfl) (o_end ?_)
          exact r_ret1 Tryz.func43 rfl rfl ⟨⟨hF2, hs3, rfl⟩, hF2⟩
def PR.from_ (p : PR) (i most : Nat) : List PE := if i ≤ p.lix ∨ p.last < i ∨ most < 1 then [] else (p.l.drop (i - p.lix - 1)).take most
theorem lgFrom_pure (r : Rf) (F : Fz) (hr : r.ok F) (i most : Nat) : (lgFrom r.p.lix r.l i most).map En.pure = r.p.from_ i most := by
  unfold lgFrom PR.from_ PR.last
  rw [hr.len]
  split
  · rfl
  · rw [List.map_take, List.map_drop, hr.l]
theorem lgFrom_mem {ix : Nat} {l : List En} {i most : Nat} {e : En} (h : e ∈ lgFrom ix l i most) : e ∈ l := by
  unfold lgFrom at h
  split at h
  · cases h
  · exact List.mem_of_mem_drop (List.mem_of_mem_take h)
theorem rl_From (O : World) (F : Fz) (a : Nat) (r : Rf) (i most : Nat) (Fr : List Ent) (hr : r.ok F) (hi : i < 18446744073709551616) (hmo : most < 9223372036854775807) :
    Does Tryz.prog O 43 #[ptrV r.lg, .int .u64 i, .int .i64 most] F (RfH a r Fr)
      (fun v F' H' => F.le F' ∧ (∃ es : List En, es.map En.pure = r.p.from_ i most ∧ (∀ e ∈ es, e ∈ r.l) ∧ Sl F' [] 4 v es.length (enV es)) ∧ H' = RfH a r Fr) := by
  have hb := hr.bnd
  refine does_permB (perm_in (RfE a r) (LgE r.lg r.p.lix r.p.ltm r.p.lvt r.lbf r.l.length) (r.lbf.ents 4 (enV r.l)) (r.obf.ents 13 (mgV r.out) ++ Fr)) (lg_From O F r.lg r.p.lix r.p.ltm r.p.lvt r.lbf r.l i most _ (by omega) hr.lbf hi hmo hr.lok) ?_
  rintro v F' H' hle ⟨h1, h2, rfl⟩
  exact ⟨RfH a r Fr, (perm_in (RfE a r) (LgE r.lg r.p.lix r.p.ltm r.p.lvt r.lbf r.l.length) (r.lbf.ents 4 (enV r.l)) (r.obf.ents 13 (mgV r.out) ++ Fr)).symm, h1, ⟨_, lgFrom_pure r F hr i most, fun e he => lgFrom_mem he, h2⟩, rfl⟩
def fewN : List PE → Nat → Nat → Nat
  | [], i, _ => i
  | e :: r, i, n => if 0 < i ∧ 524288 < n + e.data.length then i else fewN r (i + 1) (n + e.data.length)
def fewP (l : List PE) : List PE := l.take (fewN l 0 0)
theorem fewN_drop (l : List PE) (j : Nat) (hj : j < l.length) (n : Nat) : fewN (l.drop j) j n = if 0 < j ∧ 524288 < n + l[j].data.length then j else fewN (l.drop (j + 1)) (j + 1) (n + l[j].data.length) := by
  rw [List.drop_eq_getElem_cons hj]
  rfl
structure KG where
  j : Nat
  n : Nat
theorem r_few (O : World) (F : Fz) (v : Value) (es : List En) (H : List Ent) (hv : Sl F [] 4 v es.length (enV es)) (hes : ∀ e ∈ es, e.ok F) (hn : es.length ≤ 300000) :
    Does Tryz.prog O 91 #[v] F H (fun r F' H' => (∃ es' : List En, es'.map En.pure = fewP (es.map En.pure) ∧ (∀ e ∈ es', e ∈ es) ∧ Sl F [] 4 r es'.length (enV es')) ∧ F' = F ∧ H' = H) := by
  obtain ⟨a0, cap, rfl, hcap⟩ := Sl.shape hv
  refine does_of_run (args := [_]) Tryz.func91 rfl rfl ?_
  obtain ⟨ps, hps⟩ : ∃ ps, ps = es.map En.pure := ⟨_, rfl⟩
  have hpl : ps.length = es.length := by rw [hps]; simp
  have hpj : ∀ j (h : j < es.length), ps[j].data.length = es[j].data.length := fun j h => by simp [hps, En.pure]
  rw [← hps]
  refine r_seq (r_region rfl (o_vl rfl rfl (v_assign rfl) (o_end (r_seq (r_region rfl (o_vl rfl rfl (v_assign rfl) (o_end (r_seq (r_seq (r_region rfl (o_vl rfl rfl (v_move rfl) (o_vl rfl rfl (v_len rfl rfl) (o_vl rfl rfl (v_move rfl) ?_)))))))))))))
  refine o_end (r_block ?_)
  refine r_loop (fun g : KG => g.j ≤ es.length ∧ g.n ≤ g.j * 1048576 ∧ fewN ps 0 0 = fewN (ps.drop g.j) g.j g.n) (fun g => [(0, .slice a0 es.length cap), (3, .int .i64 g.n), (6, .slice a0 es.length cap), (7, .int .i64 es.length), (8, .int .i64 g.j)]) (fun _ => F) (fun _ => H) (fun g => es.length - g.j) ⟨0, 0⟩ ⟨Nat.zero_le _, Nat.zero_le _, rfl⟩ ⟨rfl, rfl, rfl, rfl, rfl, trivial⟩ rfl rfl ?_
  rintro ⟨j, n⟩ ⟨hj, hnj, hfw⟩ IH
  dsimp only at hj hnj hfw ⊢
  refine r_seq (r_region rfl (o_vl rfl rfl (v_lss rfl rfl) (o_end (r_seq (r_if rfl (fun h => ?_) (fun h => ?_))))))
  · have hjl : j < es.length := by omega
    obtain ⟨b0, off0, c0, hab, _, hc0⟩ := Sl.view (hv.frz (Fz.le_refl _) (H := H)) (by omega)
    simp only [Value.slice.injEq] at hab
    obtain ⟨rfl, _, rfl⟩ := hab
    have hcell : ∀ k c, es[j].cells[k]? = some c → Cell F H b0 (off0 + j * 4 + k) c := fun k c hk => by
      have hk4 : k < 4 := by
        rcases Nat.lt_or_ge k 4 with h | h
        · exact h
        · rw [List.getElem?_eq_none (by simp [En.cells]; omega)] at hk; cases hk
      have := hc0 (j * 4 + k) c (by rw [vec_get (c := En.cells) En.cl es j hjl k hk4]; exact hk)
      rw [← Nat.add_assoc] at this
      exact this
    have hej := hes es[j] (List.getElem_mem _)
    have hdl := hej.len
    obtain ⟨ad, cd, hdv, _⟩ := Sl.shape hej.dv
    have hstep := fewN_drop ps j (by omega) n
    rw [hpj j hjl] at hstep
    refine r_skip (r_seq (r_block (r_seq (r_region rfl (o_vl rfl rfl (v_move rfl) (o_vl rfl rfl (v_indexN (sz := 4) rfl rfl rfl rfl hjl) (o_vl rfl rfl (v_loadAgg (sz := 4) (cs := es[j].cells) rfl rfl rfl rfl hcell) (o_act rfl rfl rfl rfl (a_alloc rfl) ?_))))))))
    rintro v' H' ⟨y, rfl, rfl⟩
    refine o_vl rfl rfl (v_assign rfl) (o_act0 rfl rfl rfl (a_store (sz := 4) (v := .agg es[j].cells.toArray) 0 rfl rfl rfl hej.one rfl rfl (Nat.le_of_ble_eq_true rfl)) ?_)
    refine j_heap (H' := .mem y es[j].cells 4 :: H) rfl ?_
    refine o_end (r_seq (r_region rfl (o_vl rfl rfl (v_move rfl) (o_vl rfl rfl (v_field (k := 3) rfl rfl rfl) (o_vl rfl rfl (v_load (v := .slice ad es[j].data.length cd) rfl rfl (by rw [← hdv]; exact cell_at (j := 0) rfl rfl)) (o_vl rfl rfl (v_len rfl rfl) (o_vl rfl rfl (v_add rfl rfl (r := ((n + es[j].data.length : Nat) : Int)) ((wrap_i64 (by omega) (by omega)).trans (by omega))) (o_vl rfl rfl (v_assign rfl) (o_end (r_seq (r_region rfl (o_vl rfl rfl (v_move rfl) (o_vl rfl rfl (v_gtr rfl rfl) ?_)))))))))))))
    refine j_drop (List.sublist_cons_self _ _) ?_
    refine j_prop 19 rfl (fun h1 => ?_) (fun h1 => ?_)
    · refine o_vl rfl rfl (v_move rfl) (o_vl rfl rfl (v_move rfl) (o_vl rfl rfl (v_gtr rfl rfl) (o_vl rfl rfl (v_pick1 rfl rfl) (o_end (r_if rfl (fun h2 => ?_) (fun h2 => ?_))))))
      · rw [if_pos (by omega)] at hstep
        refine r_seq (r_region rfl (o_vl rfl rfl (v_move rfl) (o_vl rfl rfl (v_move rfl) (o_vl rfl rfl (v_sliceH (sz := 4) rfl rfl rfl rfl rfl (by omega)) (o_vl rfl rfl (v_assign rfl) (o_end ?_))))))
        have hs := Sl.sliced (l := 0) (h := j) hv (Nat.zero_le _) hj
        simp only [Nat.zero_mul, List.drop_zero, Nat.sub_zero] at hs
        have e2 : (enV es).take (j * 4) = enV (es.take j) := by
          have e3 : enV es = enV (es.take j) ++ enV (es.drop j) := by rw [← enV_append, List.take_append_drop]
          rw [e3]
          exact List.take_left' (by rw [enV_length, List.length_take, Nat.min_eq_left hj])
        rw [e2] at hs
        have hlt : (es.take j).length = j := by rw [List.length_take, Nat.min_eq_left hj]
        refine r_ret1 Tryz.func91 rfl rfl ⟨⟨⟨es.take j, ?_, fun e he => List.mem_of_mem_take he, by rw [hlt]; exact hs⟩, rfl, rfl⟩, Fz.le_refl _⟩
        unfold fewP
        rw [hfw, hstep, List.map_take, hps]
      · rw [if_neg (by omega)] at hstep
        refine r_skip (r_inBlock (r_region rfl (o_vl rfl rfl (v_add rfl rfl (wrap_i64 (by omega) (by omega))) (o_vl rfl rfl (v_move rfl) (o_end ?_)))))
        refine j_keep ?_ (IH ⟨j + 1, n + es[j].data.length⟩ ⟨hjl, by dsimp only; omega, hfw.trans hstep⟩ (by dsimp only; omega))
        exact ⟨rfl, rfl, rfl, rfl, rfl, trivial⟩
    · skip
      rw [if_neg (by omega)] at hstep
      refine o_vl rfl rfl (v_move rfl) (o_sk rfl rfl (o_sk rfl rfl (o_vl rfl rfl (v_pick0 rfl rfl) (o_end (r_false rfl (r_skip (r_inBlock (r_region rfl (o_vl rfl rfl (v_add rfl rfl (wrap_i64 (by omega) (by omega))) (o_vl rfl rfl (v_move rfl) (o_end ?_)))))))))))
      refine j_keep ?_ (IH ⟨j + 1, n + es[j].data.length⟩ ⟨hjl, by dsimp only; omega, hfw.trans hstep⟩ (by dsimp only; omega))
      exact ⟨rfl, rfl, rfl, rfl, rfl, trivial⟩
  · have hje : j = es.length := by omega
    refine r_exit rfl (r_seq (r_region rfl (o_vl rfl rfl (v_move rfl) (o_vl rfl rfl (v_assign rfl) (o_end ?_)))))
    refine r_ret1 Tryz.func91 rfl rfl ⟨⟨⟨es, ?_, fun e he => he, hv⟩, rfl, rfl⟩, Fz.le_refl _⟩
    unfold fewP
    rw [hfw, hje, ← hpl, List.drop_length]
    show es.map En.pure = ps.take ps.length
    rw [List.take_length, hps]
end Go.SX
namespace Go.SX
open Go Go.Proofs
set_option maxRecDepth 4000
theorem len7 {α : Type} {l : List α} (h : l.length = 7) : ∃ a b c d e f g, l = [a, b, c, d, e, f, g] := by
  match l, h with
  | [a, b, c, d, e, f, g], _ => exact ⟨a, b, c, d, e, f, g, rfl⟩
theorem lt7 {i : Nat} (h : i < 7) : i = 0 ∨ i = 1 ∨ i = 2 ∨ i = 3 ∨ i = 4 ∨ i = 5 ∨ i = 6 := by omega
theorem nx_cell (r : Rf) {i : Nat} (hi : i < 7) : r.cells[14 + i]? = some (.int .u64 (r.p.nx.getD i 0)) := by
  rcases lt7 hi with rfl | rfl | rfl | rfl | rfl | rfl | rfl <;> rfl
theorem mt_cell (r : Rf) {i : Nat} (hi : i < 7) : r.cells[21 + i]? = some (.int .u64 (r.p.mt.getD i 0)) := by
  rcases lt7 hi with rfl | rfl | rfl | rfl | rfl | rfl | rfl <;> rfl
theorem nx_set (r : Rf) (hn : r.p.nx.length = 7) {i : Nat} (hi : i < 7) (v : Nat) : ({ r with p := { r.p with nx := r.p.nx.set i v } } : Rf).cells = r.cells.set (14 + i) (.int .u64 v) := by
  obtain ⟨a, b, c, d, e, f, g, hl⟩ := len7 hn
  unfold Rf.cells
  rw [hl]
  rcases lt7 hi with rfl | rfl | rfl | rfl | rfl | rfl | rfl <;> rfl
theorem mt_set (r : Rf) (hn : r.p.mt.length = 7) {i : Nat} (hi : i < 7) (v : Nat) : ({ r with p := { r.p with mt := r.p.mt.set i v } } : Rf).cells = r.cells.set (21 + i) (.int .u64 v) := by
  obtain ⟨a, b, c, d, e, f, g, hl⟩ := len7 hn
  unfold Rf.cells
  rw [hl]
  rcases lt7 hi with rfl | rfl | rfl | rfl | rfl | rfl | rfl <;> rfl
theorem snap_cell {a : Nat} {r : Rf} {F : Fz} {H : List Ent} (hm : RfE a r ∈ H) (k : Nat) (c : Value) (hc : [Value.int .u64 r.p.six, .int .u64 r.p.stm, .int .u64 r.p.svt, r.sdv][k]? = some c) : Cell F H a (0 + 31 + k) c := by
  have hk : k < 4 := by
    rcases Nat.lt_or_ge k 4 with h | h
    · exact h
    · rw [List.getElem?_eq_none (by simpa using h)] at hc; cases hc
  rw [Nat.zero_add]
  refine cell_own (cs := r.cells) (n := 36) hm ?_
  rw [← hc]
  have : k = 0 ∨ k = 1 ∨ k = 2 ∨ k = 3 := by omega
  rcases this with rfl | rfl | rfl | rfl <;> rfl
theorem termAt_le {p : PR} (h : p.B) (i : Nat) : (p.termAt i).1 ≤ 300000 := by
  unfold PR.termAt
  split
  · exact Nat.zero_le _
  · split
    · exact h.ltm
    · dsimp only
      cases hq : p.l[i - p.lix - 1]? with
      | none => exact Nat.zero_le _
      | some e => exact (h.l e (List.mem_of_getElem? hq)).tm
theorem termAt_ok {p : PR} {i : Nat} (h : (p.termAt i).2 = true) : p.lix ≤ i ∧ i ≤ p.lix + p.l.length := by
  unfold PR.termAt at h
  split at h
  · cases h
  · omega
theorem from_len (p : PR) (i most : Nat) : (p.from_ i most).length ≤ most := by
  unfold PR.from_
  split
  · exact Nat.zero_le _
  · rw [List.length_take]
    exact Nat.min_le_left _ _
theorem from_mem {p : PR} {i most : Nat} {e : PE} (h : e ∈ p.from_ i most) : e ∈ p.l := by
  unfold PR.from_ at h
  split at h
  · cases h
  · exact List.mem_of_mem_drop (List.mem_of_mem_take h)
theorem few_len (l : List PE) : (fewP l).length ≤ l.length := by
  unfold fewP
  rw [List.length_take]
  exact Nat.min_le_right _ _
theorem few_mem {l : List PE} {e : PE} (h : e ∈ fewP l) : e ∈ l := List.mem_of_mem_take h
abbrev PM.z : PM := ⟨0, 0, 0, 0, 0, 0, 0, false, [], 0, 0, 0, []⟩
def PR.feedM (p : PR) (i : Nat) : PM :=
  if (p.termAt (p.nx.getD i 0 - 1)).2 = true then { PM.z with kd := 5, to := i, ix := p.nx.getD i 0 - 1, lt := (p.termAt (p.nx.getD i 0 - 1)).1, cm := p.cm, es := fewP (p.from_ (p.nx.getD i 0 - 1 + 1) 16) }
  else { PM.z with kd := 7, to := i, six := p.six, stm := p.stm, svt := p.svt, sd := p.sd }
def PR.feed (p : PR) (i : Nat) : PR := p.send (p.feedM i)
theorem feedM_B {p : PR} (h : p.B) {i : Nat} (hi : i < 7) : (p.feedM i).B := by
  have hn := h.nxb i
  unfold PR.feedM
  split
  · exact ⟨by simp, by simp, hi, by simp, by dsimp only; omega, termAt_le h _, h.cm, fun e he => h.l e (from_mem (few_mem he)), Nat.le_trans (few_len _) (from_len _ _ _), by simp, by simp, by simp, by simp⟩
  · exact ⟨by simp, by simp, hi, by simp, by simp, by simp, by simp, by simp, by simp, h.six, h.stm, h.svt, h.sd⟩
set_option maxHeartbeats 1000000 in
theorem r_feed (O : World) (F : Fz) (a : Nat) (r : Rf) (i : Nat) (Fr : List Ent) (hr : r.ok F) (hi : i < 7) (hn : 1 ≤ r.p.nx.getD i 0) (ho : r.p.out.length < 300000) :
    Does Tryz.prog O 59 #[ptrV a, .int .i64 i] F (RfH a r Fr) (fun v F' H' => v = noneV ∧ ∃ r' : Rf, r'.ok F' ∧ r'.p = r.p.feed i ∧ H' = RfH a r' Fr) := by
  have hnb := hr.B.nxb i
  have hMB := feedM_B hr.B hi
  have hol := termAt_le hr.B (r.p.nx.getD i 0 - 1)
  refine does_of_run (args := [_, _]) Tryz.func59 rfl rfl ?_
  unfold PR.feed
  obtain ⟨at_, hat⟩ : ∃ at_, at_ = r.p.nx.getD i 0 - 1 := ⟨_, rfl⟩
  refine r_seq (r_region rfl (o_vl rfl rfl (v_move rfl) (o_vl rfl rfl (v_move rfl) (o_vl rfl rfl (v_nilCheck rfl) (o_vl rfl rfl (v_field (k := 14) rfl rfl rfl) (o_vl rfl rfl (v_indexArr (n := 7) (sz := 1) (r := 0 + (14 + i)) rfl rfl rfl rfl (by omega) (by omega) (by omega)) (o_vl rfl rfl (v_load (v := .int .u64 (r.p.nx.getD i 0)) rfl rfl (rfc (r := r) (14 + i) (List.mem_cons_self ..) (nx_cell r hi))) (o_vl rfl rfl (v_sub rfl rfl (r := (at_ : Int)) ((wrap_u64 (by omega) (by omega)).trans (by omega))) (o_vl rfl rfl (v_assign rfl) (o_end (r_seq (r_region rfl (o_vl rfl rfl (v_move rfl) ?_)))))))))))))
  refine o_vl rfl rfl (v_nilCheck rfl) (o_vl rfl rfl (v_field (k := 8) rfl rfl rfl) (o_vl rfl rfl (v_load rfl rfl (rfc (r := r) 8 (by first | exact List.mem_cons_self .. | simp [RfH]) rfl)) (o_vl rfl rfl (v_move rfl) (o_call rfl rfl rfl rfl (c_call callable31 rfl) (rl_Term _ _ a r at_ Fr hr (by omega)) ?_))))
  rintro v' F H' ⟨rfl, rfl, rfl⟩ _
  unfold PR.feedM at hMB ⊢
  rw [← hat] at hMB hol ⊢
  refine o_vl rfl rfl (v_move rfl) (o_vl rfl rfl (v_extract rfl rfl) (o_vl rfl rfl (v_extract rfl rfl) (o_vl rfl rfl (v_assign rfl) (o_vl rfl rfl (v_assign rfl) (o_end ?_)))))
  cases hq : (r.p.termAt at_).2 with
  | false =>
    rw [hq] at hMB
    rw [if_neg (by simp)] at hMB ⊢
    refine r_seq (r_seq (r_region rfl (o_vl rfl rfl (v_move rfl) (o_vl rfl rfl (v_not rfl) (o_vl rfl rfl (v_move rfl) (o_sk rfl rfl (o_sk rfl rfl (o_sk rfl rfl (o_sk rfl rfl (o_sk rfl rfl (o_sk rfl rfl (o_sk rfl rfl (o_vl rfl rfl (v_pick1 rfl rfl) ?_)))))))))))))
    refine o_end (r_true rfl (r_seq (r_region rfl (o_vl rfl rfl (v_move rfl) (o_vl rfl rfl (v_move rfl) (o_vl rfl rfl (v_move rfl) (o_vl rfl rfl (v_nilCheck rfl) (o_vl rfl rfl (v_field (k := 31) rfl rfl rfl) (o_vl rfl rfl (v_loadAgg (sz := 4) (cs := [.int .u64 r.p.six, .int .u64 r.p.stm, .int .u64 r.p.svt, r.sdv]) rfl rfl rfl rfl (snap_cell (by first | exact List.mem_cons_self .. | simp [RfH]))) (o_vl rfl rfl (v_build rfl rfl) (o_call rfl rfl rfl rfl (c_call callable79 rfl) (r_send _ _ a r ⟨{ PM.z with kd := 7, to := i, six := r.p.six, stm := r.p.stm, svt := r.p.svt, sd := r.p.sd }, .slice none 0 0, [], r.sdv⟩ Fr hr ⟨hMB, rfl, Sl.nil _ _ _, by simp, hr.sd⟩ ho) ?_)))))))))))
    rintro v' F H' ⟨rfl, rfl, r', hr', hp', rfl⟩ _
    refine o_end ?_
    exact r_ret0 Tryz.func59 rfl ⟨⟨rfl, r', hr', hp', rfl⟩, Fz.le_refl _⟩
  | true =>
    rw [hq] at hMB
    rw [if_pos rfl] at hMB ⊢
    have htk := termAt_ok hq
    refine r_seq (r_seq (r_region rfl (o_vl rfl rfl (v_move rfl) (o_vl rfl rfl (v_not rfl) (o_vl rfl rfl (v_move rfl) (o_vl rfl rfl (v_move rfl) (o_vl rfl rfl (v_move rfl) (o_vl rfl rfl (v_nilCheck rfl) (o_vl rfl rfl (v_field (k := 8) rfl rfl rfl) (o_vl rfl rfl (v_load rfl rfl (rfc (r := r) 8 (by first | exact List.mem_cons_self .. | simp [RfH]) rfl)) (o_call rfl rfl rfl rfl (c_call callable44 rfl) (rl_Base _ _ a r Fr) ?_)))))))))))
    rintro v' F H' ⟨rfl, rfl, rfl⟩ _
    refine o_vl rfl rfl (v_lss rfl rfl) (o_vl rfl rfl (v_pick0 rfl rfl) (o_end (r_if rfl (fun h => ?_) (fun h => ?_))))
    · omega
    · refine r_skip (d_region 17 rfl ([RfE a r]) ?_)
      refine d_tk (i := 0) rfl rfl (by simp [RfH]) (v_move rfl) (d_tk (i := 1) rfl rfl (by simp [RfH]) (v_move rfl) (d_tk (i := 2) rfl rfl (by simp [RfH]) (v_move rfl) (d_tk (i := 3) rfl rfl (by simp [RfH]) (v_move rfl) (d_tk (i := 4) rfl rfl (by simp [RfH]) (v_move rfl) (d_tk (i := 5) rfl rfl (by simp [RfH]) (v_nilCheck rfl) (d_tk (i := 6) rfl rfl (by simp [RfH]) (v_field (k := 9) rfl rfl rfl) (d_tk (i := 7) rfl rfl (by simp [RfH]) (v_load rfl rfl (rfc (r := r) 9 (by first | exact List.mem_cons_self .. | simp [RfH]) rfl)) (d_tk (i := 8) rfl rfl (by simp [RfH]) (v_move rfl) (d_tk (i := 9) rfl rfl (by simp [RfH]) (v_nilCheck rfl) (d_tk (i := 10) rfl rfl (by simp [RfH]) (v_field (k := 8) rfl rfl rfl) (d_tk (i := 11) rfl rfl (by simp [RfH]) (v_load rfl rfl (rfc (r := r) 8 (by first | exact List.mem_cons_self .. | simp [RfH]) rfl)) (d_tk (i := 12) rfl rfl (by simp [RfH]) (v_move rfl) (d_tk (i := 13) rfl rfl (by simp [RfH]) (v_add rfl rfl (r := ((at_ + 1 : Nat) : Int)) (wrap_u64 (by omega) (by omega))) ?_)))))))))))))
      refine d_one (i := 14) (by decide +kernel) (d1_call rfl rfl rfl rfl (c_call callable43 rfl) (rl_From _ _ a r (at_ + 1) 16 Fr hr (by omega) (by omega)) ?_)
      rintro v' F2 H' ⟨hF2, ⟨es, hes, hesm, hev⟩, rfl⟩ _
      refine ⟨fun w hw => held_of hw (by first | exact Fz.le_refl _ | assumption) (by simp [RfH]), ?_⟩
      have hesok : ∀ e ∈ es, e.ok F2 := fun e he => (hr.lok e (hesm e he)).frz hF2
      have hesl : es.length ≤ 16 := by
        have h1 := from_len r.p (at_ + 1) 16
        rw [← hes, List.length_map] at h1
        exact h1
      refine d_one (i := 15) (by decide +kernel) (d1_call rfl rfl rfl rfl (c_call callable91 rfl) (r_few _ _ _ es _ hev hesok (by omega)) ?_)
      rintro v' F2 H' ⟨⟨es2, hes2, hesm2, hev2⟩, rfl, rfl⟩ _
      refine ⟨fun w hw => held_of hw hF2 (by simp [RfH]), ?_⟩
      obtain ⟨a2, c2, rfl, _⟩ := Sl.shape hev2
      refine d_tk (i := 16) rfl rfl (by simp [RfH]) (hF := hF2) (v_build rfl rfl) (d_one (i := 17) (by decide +kernel) (d1_lastCall 1000000 rfl rfl rfl rfl (c_call callable79 rfl) (r_send _ _ a r ⟨{ PM.z with kd := 5, to := i, ix := at_, lt := (r.p.termAt at_).1, cm := r.p.cm, es := fewP (r.p.from_ (at_ + 1) 16) }, _, es2, .slice none 0 0⟩ Fr (hr.frz hF2) ⟨hMB, by rw [hes2, hes], hev2, fun e he => hesok e (hesm2 e he), Sl.nil _ _ _⟩ ho) ?_))
      rintro v' F2 H' ⟨rfl, rfl, r', hr', hp', rfl⟩ _
      refine ⟨[], ?_⟩
      refine d_end (by decide +kernel) ?_
      exact r_fall0 Tryz.func59 rfl ⟨⟨rfl, r', hr', hp', rfl⟩, hF2⟩
theorem send_len (p : PR) (m : PM) : (p.send m).out.length ≤ p.out.length + 1 := by
  unfold PR.send
  simp only [List.length_append, List.length_cons, List.length_nil]
  split
  · have := List.length_filter_le (fun q : PM => !q.sel m.to) p.out
    omega
  · omega
def PR.sameBut (p q : PR) : Prop := q = { p with out := q.out }
theorem sameBut_send {p q : PR} (h : p.sameBut q) (m : PM) : p.sameBut (q.send m) := by
  unfold PR.sameBut at h ⊢
  rw [h]
  rfl
def PR.tell (p : PR) : PR := p.others.foldl PR.feed p
theorem others_lt {p : PR} {i : Nat} (h : i ∈ p.others) : i < 7 := List.mem_range.1 (List.mem_filter.1 h).1
theorem others_len (p : PR) : p.others.length ≤ 7 := by
  unfold PR.others
  have := List.length_filter_le (fun i => decide (i ≠ p.me) && p.votes i) (List.range 7)
  simpa using this
theorem foldl_take {α β : Type} (f : β → α → β) (b : β) (l : List α) (i : Nat) (h : i < l.length) : (l.take (i + 1)).foldl f b = f ((l.take i).foldl f b) l[i] := by
  rw [List.take_succ_eq_append_getElem h, List.foldl_append]
  rfl
structure TG2 where
  i : Nat
  r : Rf
  F : Fz
theorem r_tell (O : World) (F : Fz) (a : Nat) (r : Rf) (Fr : List Ent) (hr : r.ok F) (hn : ∀ i < 7, 1 ≤ r.p.nx.getD i 0) (ho : r.p.out.length + 7 ≤ 300000) :
    Does Tryz.prog O 36 #[ptrV a] F (RfH a r Fr) (fun v F' H' => v = noneV ∧ ∃ r' : Rf, r'.ok F' ∧ r'.p = r.p.tell ∧ H' = RfH a r' Fr) := by
  refine does_of_run (args := [_]) Tryz.func36 rfl rfl ?_
  have hol := others_len r.p
  refine r_seq (r_region rfl (o_vl rfl rfl (v_move rfl) (o_call rfl rfl rfl rfl (c_call callable58 rfl) (r_others _ _ a r Fr hr) ?_)))
  rintro v' F1 H' ⟨hF1, hs1, rfl⟩ _
  obtain ⟨a0, c0, rfl, _⟩ := Sl.shape hs1
  refine o_vl rfl rfl (v_len rfl rfl) (o_vl rfl rfl (v_move rfl) (o_end (r_block ?_)))
  refine r_loop (fun g : TG2 => F1.le g.F ∧ g.i ≤ r.p.others.length ∧ g.r.ok g.F ∧ g.r.p = (r.p.others.take g.i).foldl PR.feed r.p ∧ r.p.sameBut g.r.p ∧ g.r.p.out.length ≤ r.p.out.length + g.i) (fun g => [(0, ptrV a), (5, .slice a0 r.p.others.length c0), (6, .int .i64 r.p.others.length), (7, .int .i64 g.i)]) (fun g => g.F) (fun g => RfH a g.r Fr) (fun g => r.p.others.length - g.i)
    ⟨0, r, F1⟩ ⟨Fz.le_refl _, Nat.zero_le _, hr.frz hF1, rfl, rfl, Nat.le_refl _⟩ ⟨rfl, rfl, rfl, rfl, trivial⟩ rfl rfl ?_
  rintro ⟨i, q, F2⟩ ⟨hF2, hi, hq, hqp, hqs, hql⟩ IH
  dsimp only at hF2 hi hq hqp hqs hql ⊢
  refine r_seq (r_region rfl (o_vl rfl rfl (v_lss rfl rfl) (o_end (r_seq (r_if rfl (fun h => ?_) (fun h => ?_))))))
  · have hil : i < r.p.others.length := by omega
    obtain ⟨b1, off1, c1, hab1, _, hc1⟩ := (hs1.frz (F' := F2) (H := []) hF2).view (by omega)
    simp only [Value.slice.injEq] at hab1
    obtain ⟨rfl, _, rfl⟩ := hab1
    have hcu := hc1 i (.int .i64 r.p.others[i]) (by rw [List.getElem?_map, List.getElem?_eq_getElem hil]; rfl)
    have hlt := others_lt (List.getElem_mem hil)
    have hqn : q.p.nx = r.p.nx := by rw [hqs]
    refine r_skip (r_seq (r_block (r_seq (r_region rfl (o_vl rfl rfl (v_index1 rfl rfl rfl rfl hil) (o_vl rfl rfl (v_load rfl rfl (hcu.mono (Fz.le_refl _) (by simp))) (o_vl rfl rfl (v_assign rfl) (o_end (r_region rfl (o_vl rfl rfl (v_move rfl) (o_vl rfl rfl (v_move rfl) (o_call rfl rfl rfl rfl (c_call callable59 rfl) (r_feed _ _ a q r.p.others[i] Fr hq hlt (by rw [hqn]; exact hn _ hlt) (by omega)) ?_))))))))))))
    rintro v' F3 H' ⟨rfl, q', hq', hqp', rfl⟩ hF3
    refine o_end (r_inBlock (r_region rfl (o_vl rfl rfl (v_add rfl rfl (wrap_i64 (by omega) (by omega))) (o_vl rfl rfl (v_move rfl) (o_end ?_)))))
    refine j_keep ?_ (IH ⟨i + 1, q', F3⟩ ⟨Fz.le_trans hF2 hF3, hil, hq', by dsimp only; rw [hqp', hqp, foldl_take _ _ _ _ hil], by dsimp only; rw [hqp']; exact sameBut_send hqs _, by dsimp only; rw [hqp']; have := send_len q.p (q.p.feedM r.p.others[i]); unfold PR.feed; omega⟩ (by dsimp only; omega))
    exact ⟨rfl, rfl, rfl, rfl, trivial⟩
  · have hie : i = r.p.others.length := by omega
    rw [hie, List.take_length] at hqp
    refine r_exit rfl ?_
    exact r_fall0 Tryz.func36 rfl ⟨⟨rfl, q, hq, hqp, rfl⟩, Fz.le_trans hF1 hF2⟩
def PR.put (p : PR) (k : Nat) (data : List UInt8) : PR := ({ p with l := p.l ++ [⟨p.lix + p.l.length + 1, p.term, k, data⟩] } : PR).mark (p.lix + p.l.length + 1)
theorem mark_B {p : PR} (h : p.B) {i : Nat} (h1 : 1 ≤ i) (h2 : i ≤ 300000) : (p.mark i).B := by
  have h3 := h.st
  have h4 := h.fresh
  refine { h with st := ?_, fresh := ?_ }
  · show min p.st (i - 1) ≤ _
    omega
  · show (if p.fresh = 0 ∨ i < p.fresh then i else p.fresh) ≤ _
    split <;> omega
theorem r_put (O : World) (F : Fz) (a : Nat) (r : Rf) (k : Nat) (dv : Value) (data : List UInt8) (Fr : List Ent) (hr : r.ok F) (hk : k < 256) (hd : SlB F [] dv data) (hdl : data.length ≤ 524288) (hvm : k = 1 → maskB data < 128) (hl : r.p.lix + r.p.l.length < 300000) :
    Does Tryz.prog O 34 #[ptrV a, .int .u8 k, dv] F (RfH a r Fr) (fun v F' H' => v = .int .u64 (r.p.lix + r.p.l.length + 1 : Nat) ∧ ∃ r' : Rf, r'.ok F' ∧ r'.p = r.p.put k data ∧ H' = RfH a r' Fr) := by
  refine does_of_run (args := [_, _, _]) Tryz.func34 rfl rfl ?_
  have ht := hr.B.term
  have hlen := hr.len
  refine r_seq (r_region rfl (o_vl rfl rfl (v_assign rfl) (o_end (r_seq (d_region 11 rfl ([RfE a r]) ?_)))))
  refine d_tk (i := 0) rfl rfl (by simp [RfH]) (v_move rfl) (d_tk (i := 1) rfl rfl (by simp [RfH]) (v_nilCheck rfl) (d_tk (i := 2) rfl rfl (by simp [RfH]) (v_field (k := 8) rfl rfl rfl) (d_tk (i := 3) rfl rfl (by simp [RfH]) (v_load rfl rfl (rfc (r := r) 8 (by first | exact List.mem_cons_self .. | simp [RfH]) rfl)) (d_tk (i := 4) rfl rfl (by simp [RfH]) (v_move rfl) (d_tk (i := 5) rfl rfl (by simp [RfH]) (v_nilCheck rfl) (d_tk (i := 6) rfl rfl (by simp [RfH]) (v_field (k := 4) rfl rfl rfl) (d_tk (i := 7) rfl rfl (by simp [RfH]) (v_field (k := 0) rfl rfl rfl) (d_tk (i := 8) rfl rfl (by simp [RfH]) (v_load rfl rfl (rfc (r := r) 4 (by first | exact List.mem_cons_self .. | simp [RfH]) rfl)) (d_tk (i := 9) rfl rfl (by simp [RfH]) (v_move rfl) (d_tk (i := 10) rfl rfl (by simp [RfH]) (v_move rfl) ?_))))))))))
  refine j_perm (perm_in (RfE a r) (LgE r.lg r.p.lix r.p.ltm r.p.lvt r.lbf r.l.length) (r.lbf.ents 4 (enV r.l)) (r.obf.ents 13 (mgV r.out) ++ Fr)) ?_
  refine d_one (i := 11) (by decide +kernel) (d1_lastCall 1000000 rfl rfl rfl rfl (c_call callable56 rfl) (lg_Put _ _ r.lg r.p.lix r.p.ltm r.p.lvt r.lbf r.l r.p.term k dv data (RfE a r :: (r.obf.ents 13 (mgV r.out) ++ Fr)) hr.lbf (by omega) (by omega) (by omega) hk hd (by omega)) ?_)
  rintro v' F1 H' ⟨rfl, e, bf', heok, he1, he2, he3, he4, hbf', rfl⟩ hF1
  refine ⟨[], ?_⟩
  obtain ⟨r1, hr1⟩ : ∃ r1 : Rf, r1 = { r with l := r.l ++ [e], lbf := bf', p := { r.p with l := r.p.l ++ [⟨r.p.lix + r.p.l.length + 1, r.p.term, k, data⟩] } } := ⟨_, rfl⟩
  refine j_perm (perm_in (RfE a r) (LgE r.lg r.p.lix r.p.ltm r.p.lvt bf' (r.l ++ [e]).length) (bf'.ents 4 (enV (r.l ++ [e]))) (r.obf.ents 13 (mgV r.out) ++ Fr)).symm ?_
  refine j_heap (H' := RfE a r1 :: RfT r1 Fr) (by rw [hr1]; rfl) ?_
  rw [hlen]
  refine d_tk (i := 12) rfl rfl (by simp) (v_assign rfl) (d_end (by decide +kernel) (r_seq (r_region rfl (o_vl rfl rfl (v_move rfl) (o_vl rfl rfl (v_move rfl) (o_call rfl rfl rfl rfl (c_call callable57 rfl) (r_mark _ _ a r1 (r.p.lix + r.p.l.length + 1) (RfT r1 Fr) (by omega) (by omega)) ?_))))))
  rintro v' F1 H' ⟨rfl, rfl, rfl⟩ _
  refine o_end (r_seq (r_region rfl (o_vl rfl rfl (v_move rfl) (o_vl rfl rfl (v_assign rfl) (o_end ?_)))))
  have hep : e.pure = ⟨r.p.lix + r.p.l.length + 1, r.p.term, k, data⟩ := by
    unfold En.pure
    rw [he1, he2, he3, he4, hlen]
  have hB1 : r1.p.B := by
    rw [hr1]
    refine { hr.B with last := ?_, l := ?_ }
    · simp
      omega
    · intro x hx
      rcases List.mem_append.1 hx with hx | hx
      · exact hr.B.l x hx
      · rw [List.mem_singleton.1 hx]
        exact ⟨ht, by dsimp only; omega, hk, hdl, hvm⟩
  refine r_ret1 Tryz.func34 rfl rfl ⟨⟨rfl, { r1 with p := r1.p.mark (r.p.lix + r.p.l.length + 1) }, ?_, by rw [hr1]; rfl, rfl⟩, hF1⟩
  have hf := hr.frz hF1
  refine ⟨mark_B hB1 (by omega) (by omega), ?_, ?_, ?_, ?_, ?_, ?_, ?_, ?_⟩
  · show r1.l.map En.pure = r1.p.l
    rw [hr1]
    simp [hr.l, hep]
  · show ∀ x ∈ r1.l, x.ok F1
    rw [hr1]
    intro x hx
    rcases List.mem_append.1 hx with hx | hx
    · exact hf.lok x hx
    · rw [List.mem_singleton.1 hx]
      exact heok
  · show r1.lbf.ok r1.l.length
    rw [hr1]
    exact hbf'
  · show r1.out.map Mg.p = r1.p.out
    rw [hr1]
    exact hr.out
  · show ∀ x ∈ r1.out, x.ok F1
    rw [hr1]
    exact hf.outok
  · show r1.obf.ok r1.out.length
    rw [hr1]
    exact hr.obf
  · show SlB F1 [] r1.sdv r1.p.sd
    rw [hr1]
    exact hf.sd
  · show DrOk r1.fb r1.p.dr
    rw [hr1]
    exact hr.dr
end Go.SX
namespace Go.SX
open Go Go.Proofs
set_option maxRecDepth 4000
theorem list7 {l : List Nat} {v : Nat} (h : l.length = 7) (hv : ∀ j < 7, l.getD j 0 = v) : l = List.replicate 7 v := by
  obtain ⟨a, b, c, d, e, f, g, rfl⟩ := len7 h
  have h0 := hv 0 (by decide)
  have h1 := hv 1 (by decide)
  have h2 := hv 2 (by decide)
  have h3 := hv 3 (by decide)
  have h4 := hv 4 (by decide)
  have h5 := hv 5 (by decide)
  have h6 := hv 6 (by decide)
  simp at h0 h1 h2 h3 h4 h5 h6
  subst h0 h1 h2 h3 h4 h5 h6
  rfl
theorem getD_set (l : List Nat) (i j v : Nat) (hi : i < l.length) : (l.set i v).getD j 0 = if i = j then v else l.getD j 0 := by
  simp only [List.getD_eq_getElem?_getD, List.getElem?_set]
  by_cases h : i = j
  · rw [if_pos h, if_pos h, if_pos (h ▸ hi)]
    rfl
  · rw [if_neg h, if_neg h]
theorem Rf.ok.set {F : Fz} {r : Rf} (h : r.ok F) (q : PR) (hB : q.B) (h1 : q.l = r.p.l) (h2 : q.out = r.p.out) (h3 : q.sd = r.p.sd) (h4 : q.dr = r.p.dr) : ({ r with p := q } : Rf).ok F :=
  ⟨hB, by show _ = q.l; rw [h1]; exact h.l, h.lok, h.lbf, by show _ = q.out; rw [h2]; exact h.out, h.outok, h.obf, by show SlB F [] r.sdv q.sd; rw [h3]; exact h.sd, by show DrOk r.fb q.dr; rw [h4]; exact h.dr⟩
theorem ownD_le (me : Nat) : ownD me ≤ 3 := by
  unfold ownD
  split
  · omega
  · split <;> omega
theorem rest_B {p : PR} (h : p.B) : p.rest.B := by
  have := h.dr
  exact { h with ticks := Nat.zero_le _, lim := by show 4 + p.dr ≤ 7; omega, dr := ownD_le _ }
theorem rest_ok {F : Fz} {r : Rf} (h : r.ok F) : ({ r with p := r.p.rest, fb := ownB r.p.me } : Rf).ok F :=
  ⟨rest_B h.B, h.l, h.lok, h.lbf, h.out, h.outok, h.obf, h.sd, own_dr h.B.me⟩
def PR.lead0 (p : PR) : PR := { p with role := 3, lead := p.me, ticks := 0, nx := List.replicate 7 (p.last + 1), mt := List.replicate 7 0 }
def PR.lead_ (p : PR) : PR := (p.lead0.put 0 []).tell
structure LG2 where
  i : Nat
  nx : List Nat
  mt : List Nat
structure LG2.ok (p : PR) (g : LG2) : Prop where
  i : g.i ≤ 7
  nx : g.nx.length = 7
  mt : g.mt.length = 7
  nd : ∀ j < g.i, g.nx.getD j 0 = p.last + 1
  md : ∀ j < g.i, g.mt.getD j 0 = 0
  nb : ∀ j, g.nx.getD j 0 ≤ 300001
  mb : ∀ j, g.mt.getD j 0 ≤ 300000
theorem rep7 (v j : Nat) (h : j < 7) : (List.replicate 7 v).getD j 0 = v := by
  rcases lt7 h with rfl | rfl | rfl | rfl | rfl | rfl | rfl <;> rfl
set_option maxHeartbeats 1000000 in
theorem r_lead (O : World) (F : Fz) (a : Nat) (r : Rf) (Fr : List Ent) (hr : r.ok F) (hl : r.p.lix + r.p.l.length < 300000) (ho : r.p.out.length + 7 ≤ 300000) :
    Does Tryz.prog O 87 #[ptrV a] F (RfH a r Fr) (fun v F' H' => v = noneV ∧ ∃ r' : Rf, r'.ok F' ∧ r'.p = r.p.lead_ ∧ H' = RfH a r' Fr) := by
  refine does_of_run (args := [_]) Tryz.func87 rfl rfl ?_
  have hme := hr.B.me
  have hla : r.p.last = r.p.lix + r.p.l.length := rfl
  obtain ⟨r3, hr3⟩ : ∃ r3 : Rf, r3 = { r with p := { r.p with role := 3, lead := r.p.me, ticks := 0 } } := ⟨_, rfl⟩
  obtain ⟨rk, hrk⟩ : ∃ rk : LG2 → Rf, rk = fun g => { r with p := { r.p with role := 3, lead := r.p.me, ticks := 0, nx := g.nx, mt := g.mt } } := ⟨_, rfl⟩
  have hrok : ∀ g : LG2, g.ok r.p → (rk g).ok F := fun g hg => by
    rw [hrk]
    exact hr.set _ { hr.B with role := by simp, l1 := by dsimp only; omega, l2 := by dsimp only; omega, ticks := Nat.zero_le _, nx := hg.nx, mt := hg.mt, nxb := hg.nb, mtb := hg.mb } rfl rfl rfl rfl
  refine r_seq (r_region rfl (o_vl rfl rfl (v_move rfl) (o_vl rfl rfl (v_move rfl) (o_vl rfl rfl (v_move rfl) (o_vl rfl rfl (v_move rfl) (o_vl rfl rfl (v_nilCheck rfl) (o_vl rfl rfl (v_field (k := 0) rfl rfl rfl) (o_vl rfl rfl (v_load rfl rfl (rfc (r := r) 0 (by first | exact List.mem_cons_self .. | simp [RfH]) rfl)) (o_vl rfl rfl (v_nilCheck rfl) (o_vl rfl rfl (v_field (k := 6) rfl rfl rfl) ?_))))))))))
  refine j_heap (H' := RfE a r :: RfT r Fr) rfl ?_
  refine o_act0 rfl rfl rfl (a_rf { r with p := { r.p with role := 3 } } rfl rfl rfl rfl (Nat.le_of_ble_eq_true rfl) rfl) ?_
  refine o_vl rfl rfl (v_nilCheck rfl) (o_vl rfl rfl (v_field (k := 7) rfl rfl rfl) (o_act0 rfl rfl rfl (a_rf { r with p := { r.p with role := 3, lead := r.p.me } } rfl rfl rfl rfl (Nat.le_of_ble_eq_true rfl) rfl) ?_))
  refine o_vl rfl rfl (v_nilCheck rfl) (o_vl rfl rfl (v_field (k := 11) rfl rfl rfl) (o_act0 rfl rfl rfl (a_rf r3 rfl rfl rfl rfl (Nat.le_of_ble_eq_true rfl) (by rw [hr3]; rfl)) ?_))
  refine o_end (r_seq (r_seq (r_region rfl (o_vl rfl rfl (v_move rfl) (o_end (r_block ?_))))))
  refine j_heap (H' := RfH a (rk ⟨0, r.p.nx, r.p.mt⟩) Fr) (by rw [hr3, hrk]; rfl) ?_
  refine r_loop (fun g : LG2 => g.ok r.p) (fun g => [(0, ptrV a), (16, .int .i64 g.i)]) (fun _ => F) (fun g => RfH a (rk g) Fr) (fun g => 7 - g.i) ⟨0, r.p.nx, r.p.mt⟩ ⟨Nat.zero_le _, hr.B.nx, hr.B.mt, fun j h => absurd h (Nat.not_lt_zero _), fun j h => absurd h (Nat.not_lt_zero _), hr.B.nxb, hr.B.mtb⟩ ⟨rfl, rfl, trivial⟩ rfl rfl ?_
  rintro g hg IH
  have hgo := hrok g hg
  have hgi := hg.i
  refine r_seq (r_region rfl (o_vl rfl rfl (v_lss rfl rfl) (o_end (r_seq (r_if rfl (fun h => ?_) (fun h => ?_))))))
  · have hil : g.i < 7 := by omega
    have hlast : (rk g).p.last = r.p.last := by rw [hrk]; rfl
    obtain ⟨g1, hg1⟩ : ∃ g1 : LG2, g1 = ⟨g.i + 1, g.nx.set g.i (r.p.last + 1), g.mt⟩ := ⟨_, rfl⟩
    obtain ⟨g2, hg2⟩ : ∃ g2 : LG2, g2 = ⟨g.i + 1, g.nx.set g.i (r.p.last + 1), g.mt.set g.i 0⟩ := ⟨_, rfl⟩
    have c1 : (rk g1).cells = (rk g).cells.set (14 + g.i) (.int .u64 (r.p.last + 1 : Nat)) := by
      have := nx_set (rk g) (by rw [hrk]; exact hg.nx) hil (r.p.last + 1)
      rw [← this, hg1, hrk]
    have c2 : (rk g2).cells = (rk g1).cells.set (21 + g.i) (.int .u64 (0 : Nat)) := by
      have := mt_set (rk g1) (by rw [hg1, hrk]; exact hg.mt) hil 0
      rw [← this, hg2, hg1, hrk]
    have hg2ok : g2.ok r.p := by
      rw [hg2]
      refine ⟨hil, by simpa using hg.nx, by simpa using hg.mt, fun j hj => ?_, fun j hj => ?_, fun j => ?_, fun j => ?_⟩
      · dsimp only at hj ⊢
        rw [getD_set _ _ _ _ (by rw [hg.nx]; exact hil)]
        split
        · rfl
        · exact hg.nd j (by omega)
      · dsimp only at hj ⊢
        rw [getD_set _ _ _ _ (by rw [hg.mt]; exact hil)]
        split
        · rfl
        · exact hg.md j (by omega)
      · dsimp only
        rw [getD_set _ _ _ _ (by rw [hg.nx]; exact hil)]
        split
        · omega
        · exact hg.nb j
      · dsimp only
        rw [getD_set _ _ _ _ (by rw [hg.mt]; exact hil)]
        split
        · exact Nat.zero_le _
        · exact hg.mb j
    refine r_skip (r_seq (r_block (r_seq (r_region rfl (o_vl rfl rfl (v_move rfl) (o_vl rfl rfl (v_assign rfl) (o_end (d_region 13 rfl ([RfE a (rk g)]) ?_))))))))
    refine d_tk (i := 0) rfl rfl (by simp [RfH]) (v_move rfl) (d_tk (i := 1) rfl rfl (by simp [RfH]) (v_move rfl) (d_tk0 (i := 2) rfl rfl (by simp [RfH]) (v_move rfl) (d_tk0 (i := 3) rfl rfl (by simp [RfH]) (v_move rfl) (d_tk (i := 4) rfl rfl (by simp [RfH]) (v_move rfl) (d_tk (i := 5) rfl rfl (by simp [RfH]) (v_nilCheck rfl) (d_tk (i := 6) rfl rfl (by simp [RfH]) (v_field (k := 8) rfl rfl rfl) (d_tk (i := 7) rfl rfl (by simp [RfH]) (v_load rfl rfl (rfc (r := (rk g)) 8 (by first | exact List.mem_cons_self .. | simp [RfH]) rfl)) (d_tk (i := 10) rfl rfl (by simp [RfH]) (v_nilCheck rfl) (d_tk (i := 11) rfl rfl (by simp [RfH]) (v_field (k := 14) rfl rfl rfl) (d_tk0 (i := 14) rfl rfl (by simp [RfH]) (v_nilCheck rfl) (d_tk0 (i := 15) rfl rfl (by simp [RfH]) (v_field (k := 21) rfl rfl rfl) (d_one (i := 8) (by decide +kernel) (d1_call rfl rfl rfl rfl (c_call callable45 rfl) (rl_Last _ _ a (rk g) Fr hgo) ?_)))))))))))))
    rintro v' F H' ⟨rfl, rfl, rfl⟩ _
    refine ⟨fun w hw => held_of hw (by first | exact Fz.le_refl _ | assumption) (by simp [RfH]), ?_⟩
    rw [hlast]
    refine d_tk (i := 9) rfl rfl (by simp [RfH]) (v_add rfl rfl (r := ((r.p.last + 1 : Nat) : Int)) (wrap_u64 (by omega) (by omega))) (d_tk (i := 12) rfl rfl (by simp [RfH]) (v_indexArr (n := 7) (sz := 1) (r := 14 + g.i) rfl rfl rfl rfl (by omega) (by omega) (by omega)) ?_)
    refine j_heap (H' := RfE a (rk g) :: RfT (rk g) Fr) rfl ?_
    refine d_one (i := 13) (by decide +kernel) ?_
    refine d1_last 17 ([RfE a (rk g1)]) rfl rfl rfl (a_rf (rk g1) rfl rfl rfl rfl (by omega) c1) ?_
    refine d_tk (i := 16) rfl rfl (by simp) (v_indexArr (n := 7) (sz := 1) (r := 21 + g.i) rfl rfl rfl rfl (by omega) (by omega) (by omega)) (d_one (i := 17) (by decide +kernel) ?_)
    refine d1_last 1000000 ([]) rfl rfl rfl (a_rf (rk g2) rfl rfl rfl rfl (by omega) c2) ?_
    refine d_end (by decide +kernel) (r_inBlock (r_region rfl (o_vl rfl rfl (v_add rfl rfl (wrap_i64 (by omega) (by omega))) (o_vl rfl rfl (v_move rfl) (o_end ?_)))))
    refine j_heap (H' := RfH a (rk g2) Fr) (by
      have : RfT (rk g2) Fr = RfT (rk g) Fr := by rw [hrk]; rfl
      unfold RfH
      rw [this]) ?_
    have hg2i : g2.i = g.i + 1 := by rw [hg2]
    refine j_keep ?_ (IH g2 hg2ok (by omega))
    exact ⟨rfl, by rw [hg2i]; rfl, trivial⟩
  · have hi7 : g.i = 7 := by omega
    clear IH
    have e1 : g.nx = List.replicate 7 (r.p.last + 1) := list7 hg.nx (fun j hj => hg.nd j (by omega))
    have e2 : g.mt = List.replicate 7 0 := list7 hg.mt (fun j hj => hg.md j (by omega))
    have hp0 : (rk g).p = r.p.lead0 := by
      rw [hrk]
      show ({ r.p with role := 3, lead := r.p.me, ticks := 0, nx := g.nx, mt := g.mt } : PR) = r.p.lead0
      rw [e1, e2]
      rfl
    refine r_exit rfl (r_seq (r_region rfl (o_vl rfl rfl (v_move rfl) (o_call rfl rfl rfl rfl (c_call callable34 rfl) (r_put _ _ a (rk g) 0 (.slice none 0 0) [] Fr hgo (by omega) (Sl.nil _ _ _) (by simp) (by omega) (by rw [hp0]; exact hl)) ?_))))
    rintro v' F1 H' ⟨rfl, q, hq, hqp, rfl⟩ hF1
    rw [hp0] at hqp ⊢
    refine o_end (r_region rfl (o_vl rfl rfl (v_move rfl) (o_call rfl rfl rfl rfl (c_call callable36 rfl) (r_tell _ _ a q Fr hq (fun i hi => by rw [hqp]; show 1 ≤ (List.replicate 7 (r.p.last + 1)).getD i 0; rw [rep7 _ _ hi]; omega) (by rw [hqp]; exact ho)) ?_)))
    rintro v' F2 H' ⟨rfl, q2, hq2, hqp2, rfl⟩ hF2
    refine o_end ?_
    exact r_fall0 Tryz.func87 rfl ⟨⟨rfl, q2, hq2, by rw [hqp2, hqp]; rfl, rfl⟩, Fz.le_trans hF1 hF2⟩
end Go.SX
namespace Go.SX
open Go Go.Proofs
set_option maxRecDepth 4000
theorem shl1 : ∀ me : Nat, me < 7 → IntKind.u64.wrap (1 * 2 ^ (min (me : Int).toNat IntKind.u64.bits)) = ((2 ^ me : Nat) : Int) := by decide +kernel
theorem two7 {me : Nat} (h : me < 7) : 2 ^ me < 128 := by
  rcases lt7 h with rfl | rfl | rfl | rfl | rfl | rfl | rfl <;> decide
theorem lastTerm_le {p : PR} (h : p.B) : p.lastTerm ≤ 300000 := termAt_le h _
def PR.canM (p : PR) (i : Nat) : PM := { PM.z with kd := 3, to := i, ix := p.last, lt := p.lastTerm }
def PR.askM (p : PR) (i : Nat) : PM := { PM.z with kd := 1, to := i, tm := p.term + 1, ix := p.last, lt := p.lastTerm }
theorem canM_B {p : PR} (h : p.B) {i : Nat} (hi : i < 7) : (p.canM i).B := by
  have := h.last
  exact ⟨by simp [PR.canM], by simp [PR.canM], hi, by simp [PR.canM], this, lastTerm_le h, by simp [PR.canM], by simp [PR.canM], by simp [PR.canM], by simp [PR.canM], by simp [PR.canM], by simp [PR.canM], by simp [PR.canM]⟩
theorem askM_B {p : PR} (h : p.B) (ht : p.term < 300000) {i : Nat} (hi : i < 7) : (p.askM i).B := by
  have := h.last
  exact ⟨by simp [PR.askM], by simp [PR.askM], hi, ht, this, lastTerm_le h, by simp [PR.askM], by simp [PR.askM], by simp [PR.askM], by simp [PR.askM], by simp [PR.askM], by simp [PR.askM], by simp [PR.askM]⟩
def PR.camp0 (p : PR) : PR := ({ p with term := p.term + 1, vote := p.me, chg := true, role := 2, lead := -1, yes := 2 ^ p.me } : PR).rest
def PR.canv (p : PR) : PR := p.others.foldl (fun q i => q.send (q.canM i)) p
def PR.campaign (p : PR) : PR := if p.camp0.canv.most p.camp0.canv.yes = true then p.camp0.canv.lead_ else p.camp0.canv
def PR.ask0 (p : PR) : PR := { p with role := 1, lead := -1, yes := 2 ^ p.me }
def PR.asks (p : PR) : PR := p.others.foldl (fun q i => q.send (q.askM i)) p
def PR.ask (p : PR) : PR := if p.ask0.asks.most p.ask0.asks.yes = true then p.ask0.asks.campaign else p.ask0.asks
theorem sends_same (f : PR → Nat → PM) (p : PR) : ∀ (l : List Nat) (q : PR), p.sameBut q → p.sameBut (l.foldl (fun q i => q.send (f q i)) q)
  | [], _, h => h
  | i :: r, q, h => sends_same f p r _ (sameBut_send h _)
theorem sends_len (f : PR → Nat → PM) : ∀ (l : List Nat) (q : PR), (l.foldl (fun q i => q.send (f q i)) q).out.length ≤ q.out.length + l.length
  | [], q => Nat.le_refl _
  | i :: r, q => by
    have h1 := sends_len f r (q.send (f q i))
    have h2 := send_len q (f q i)
    simp only [List.foldl_cons, List.length_cons]
    omega
set_option maxHeartbeats 1000000 in
theorem r_campaign (O : World) (F : Fz) (a : Nat) (r : Rf) (Fr : List Ent) (hr : r.ok F) (ht : r.p.term < 300000) (hl : r.p.lix + r.p.l.length < 300000) (ho : r.p.out.length + 14 ≤ 300000) :
    Does Tryz.prog O 82 #[ptrV a] F (RfH a r Fr) (fun v F' H' => v = noneV ∧ ∃ r' : Rf, r'.ok F' ∧ r'.p = r.p.campaign ∧ H' = RfH a r' Fr) := by
  refine does_of_run (args := [_]) Tryz.func82 rfl rfl ?_
  have hme := hr.B.me
  obtain ⟨r1, hr1⟩ : ∃ r1 : Rf, r1 = { r with p := { r.p with term := r.p.term + 1, vote := r.p.me } } := ⟨_, rfl⟩
  obtain ⟨r2, hr2⟩ : ∃ r2 : Rf, r2 = { r with p := { r.p with term := r.p.term + 1, vote := r.p.me, chg := true } } := ⟨_, rfl⟩
  obtain ⟨r3, hr3⟩ : ∃ r3 : Rf, r3 = { r with p := { r.p with term := r.p.term + 1, vote := r.p.me, chg := true, role := 2, lead := -1, yes := 2 ^ r.p.me } } := ⟨_, rfl⟩
  have hr3ok : r3.ok F := by
    rw [hr3]
    exact hr.set _ { hr.B with term := ht, v1 := by dsimp only; omega, v2 := by dsimp only; omega, role := by simp, l1 := by simp, l2 := by simp, yes := two7 hme } rfl rfl rfl rfl
  obtain ⟨r4, hr4⟩ : ∃ r4 : Rf, r4 = { r3 with p := r3.p.rest, fb := ownB r3.p.me } := ⟨_, rfl⟩
  have hr4ok : r4.ok F := by rw [hr4]; exact rest_ok hr3ok
  have hp4 : r4.p = r.p.camp0 := by rw [hr4, hr3]; rfl
  have hol := others_len r4.p
  have ho4 : r4.p.out = r.p.out := by rw [hp4]; rfl
  have ho4l : r4.p.out.length = r.p.out.length := by rw [ho4]
  refine r_seq (d_region 15 rfl ([RfE a r]) ?_)
  refine d_tk (i := 0) rfl rfl (by simp [RfH]) (v_move rfl) (d_tk0 (i := 1) rfl rfl (by simp [RfH]) (v_move rfl) (d_tk (i := 2) rfl rfl (by simp [RfH]) (v_move rfl) (d_tk (i := 3) rfl rfl (by simp [RfH]) (v_nilCheck rfl) (d_tk (i := 4) rfl rfl (by simp [RfH]) (v_field (k := 4) rfl rfl rfl) (d_tk (i := 5) rfl rfl (by simp [RfH]) (v_field (k := 0) rfl rfl rfl) (d_tk (i := 6) rfl rfl (by simp [RfH]) (v_load rfl rfl (rfc (r := r) 4 (by first | exact List.mem_cons_self .. | simp [RfH]) rfl)) (d_tk (i := 7) rfl rfl (by simp [RfH]) (v_add rfl rfl (r := ((r.p.term + 1 : Nat) : Int)) (wrap_u64 (by have := hr.B.term; omega) (by have := hr.B.term; omega))) (d_tk (i := 8) rfl rfl (by simp [RfH]) (v_move rfl) (d_tk (i := 9) rfl rfl (by simp [RfH]) (v_nilCheck rfl) (d_tk (i := 10) rfl rfl (by simp [RfH]) (v_field (k := 0) rfl rfl rfl) (d_tk (i := 11) rfl rfl (by simp [RfH]) (v_load rfl rfl (rfc (r := r) 0 (by first | exact List.mem_cons_self .. | simp [RfH]) rfl)) (d_tk (i := 12) rfl rfl (by simp [RfH]) (v_build rfl rfl) (d_tk (i := 13) rfl rfl (by simp [RfH]) (v_nilCheck rfl) ?_)))))))))))))
  refine d_tk (i := 14) rfl rfl (by simp [RfH]) (v_field (k := 4) rfl rfl rfl) ?_
  refine j_heap (H' := RfE a r :: RfT r Fr) rfl ?_
  refine d_one (i := 15) (by decide +kernel) ?_
  refine d1_last 18 ([RfE a r1]) rfl rfl rfl (a_rf2 r1 rfl rfl rfl rfl rfl (Nat.le_of_ble_eq_true rfl) (by rw [hr1]; rfl)) ?_
  refine d_tk (i := 16) rfl rfl (by simp) (v_nilCheck rfl) (d_tk (i := 17) rfl rfl (by simp) (v_field (k := 29) rfl rfl rfl) (d_one (i := 18) (by decide +kernel) ?_))
  refine d1_last 1000000 ([]) rfl rfl rfl (a_rf r2 rfl rfl rfl rfl (Nat.le_of_ble_eq_true rfl) (by rw [hr2, hr1]; rfl)) ?_
  refine d_end (by decide +kernel) (r_seq (d_region 10 rfl ([RfE a r2]) ?_))
  refine d_tk (i := 0) rfl rfl (by simp) (v_move rfl) (d_tk0 (i := 1) rfl rfl (by simp) (v_move rfl) (d_tk0 (i := 2) rfl rfl (by simp) (v_move rfl) (d_tk (i := 3) rfl rfl (by simp) (v_move rfl) (d_tk (i := 4) rfl rfl (by simp) (v_nilCheck rfl) (d_tk (i := 5) rfl rfl (by simp) (v_field (k := 0) rfl rfl rfl) (d_tk (i := 6) rfl rfl (by simp) (v_load rfl rfl (rfc (r := r2) 0 (by first | exact List.mem_cons_self .. | simp [RfH]) rfl)) (d_tk0 (i := 7) rfl rfl (by simp) (v_shl (m := 1) rfl rfl (by omega) (shl1 _ (by rw [hr2]; exact hme))) (d_tk (i := 8) rfl rfl (by simp) (v_nilCheck rfl) (d_tk (i := 9) rfl rfl (by simp) (v_field (k := 6) rfl rfl rfl) (d_one (i := 10) (by decide +kernel) ?_))))))))))
  refine d1_last 13 ([]) rfl rfl rfl (a_rf { r2 with p := { r2.p with role := 2 } } rfl rfl rfl rfl (Nat.le_of_ble_eq_true rfl) rfl) ?_
  refine d_tk (i := 11) rfl rfl (by simp) (v_nilCheck rfl) (d_tk (i := 12) rfl rfl (by simp) (v_field (k := 7) rfl rfl rfl) (d_one (i := 13) (by decide +kernel) ?_))
  refine d1_last 16 ([]) rfl rfl rfl (a_rf { r2 with p := { r2.p with role := 2, lead := -1 } } rfl rfl rfl rfl (Nat.le_of_ble_eq_true rfl) rfl) ?_
  refine d_tk (i := 14) rfl rfl (by simp) (v_nilCheck rfl) (d_tk (i := 15) rfl rfl (by simp) (v_field (k := 13) rfl rfl rfl) (d_one (i := 16) (by decide +kernel) ?_))
  refine d1_last 1000000 ([]) rfl rfl rfl (a_rf r3 rfl rfl rfl rfl (Nat.le_of_ble_eq_true rfl) (by rw [hr3, hr2]; rfl)) ?_
  refine d_end (by decide +kernel) (r_seq (r_region rfl (o_vl rfl rfl (v_move rfl) (o_call rfl rfl rfl rfl (c_call callable51 rfl) (r_rest _ _ a r3 _ (by rw [hr3]; exact hme) hr3ok.dr) ?_))))
  rintro v' F H' ⟨rfl, rfl, rfl⟩ _
  refine j_heap (H' := RfH a r4 Fr) (by rw [hr4, hr3]; rfl) ?_
  refine o_end (r_seq ?_)
  refine r_join (fun g : Rf × Fz => F.le g.2 ∧ g.1.ok g.2 ∧ g.1.p = r4.p.canv) (fun g => [(0, ptrV a)]) (fun g => g.2) (fun g => RfH a g.1 Fr) ?_ ?_
  · intro J
    refine r_seq (r_region rfl (o_vl rfl rfl (v_move rfl) (o_call rfl rfl rfl rfl (c_call callable58 rfl) (r_others _ _ a r4 Fr hr4ok) ?_)))
    rintro v' F1 H' ⟨hF1, hs1, rfl⟩ _
    obtain ⟨a0, c0, rfl, _⟩ := Sl.shape hs1
    refine o_vl rfl rfl (v_len rfl rfl) (o_vl rfl rfl (v_move rfl) (o_end (r_block ?_)))
    refine r_loop (fun g : TG2 => F1.le g.F ∧ g.i ≤ r4.p.others.length ∧ g.r.ok g.F ∧ g.r.p = (r4.p.others.take g.i).foldl (fun q i => q.send (q.canM i)) r4.p ∧ r4.p.sameBut g.r.p ∧ g.r.p.out.length ≤ r4.p.out.length + g.i) (fun g => [(0, ptrV a), (38, .slice a0 r4.p.others.length c0), (39, .int .i64 r4.p.others.length), (40, .int .i64 g.i)]) (fun g => g.F) (fun g => RfH a g.r Fr) (fun g => r4.p.others.length - g.i)
      ⟨0, r4, F1⟩ ⟨Fz.le_refl _, Nat.zero_le _, hr4ok.frz hF1, rfl, rfl, Nat.le_refl _⟩ ⟨rfl, rfl, rfl, rfl, trivial⟩ rfl rfl ?_
    rintro ⟨i, q, F2⟩ ⟨hF2, hi, hq, hqp, hqs, hql⟩ IH
    dsimp only at hF2 hi hq hqp hqs hql ⊢
    refine r_seq (r_region rfl (o_vl rfl rfl (v_lss rfl rfl) (o_end (r_seq (r_if rfl (fun h => ?_) (fun h => ?_))))))
    · have hil : i < r4.p.others.length := by omega
      obtain ⟨b1, off1, c1, hab1, _, hc1⟩ := (hs1.frz (F' := F2) (H := []) hF2).view (by omega)
      simp only [Value.slice.injEq] at hab1
      obtain ⟨rfl, _, rfl⟩ := hab1
      have hcu := hc1 i (.int .i64 r4.p.others[i]) (by rw [List.getElem?_map, List.getElem?_eq_getElem hil]; rfl)
      have hlt := others_lt (List.getElem_mem hil)
      refine r_skip (r_seq (r_block (r_seq (r_region rfl (o_vl rfl rfl (v_index1 rfl rfl rfl rfl hil) (o_vl rfl rfl (v_load rfl rfl (hcu.mono (Fz.le_refl _) (by simp))) (o_vl rfl rfl (v_assign rfl) (o_end (d_region 13 rfl ([RfE a q]) ?_)))))))))
      refine d_tk (i := 0) rfl rfl (by simp [RfH]) (v_move rfl) (d_tk (i := 1) rfl rfl (by simp [RfH]) (v_move rfl) (d_tk (i := 2) rfl rfl (by simp [RfH]) (v_move rfl) (d_tk (i := 3) rfl rfl (by simp [RfH]) (v_nilCheck rfl) (d_tk (i := 4) rfl rfl (by simp [RfH]) (v_field (k := 8) rfl rfl rfl) (d_tk (i := 5) rfl rfl (by simp [RfH]) (v_load rfl rfl (rfc (r := q) 8 (by first | exact List.mem_cons_self .. | simp [RfH]) rfl)) (d_tk (i := 7) rfl rfl (by simp [RfH]) (v_move rfl) (d_tk (i := 8) rfl rfl (by simp [RfH]) (v_nilCheck rfl) (d_tk (i := 9) rfl rfl (by simp [RfH]) (v_field (k := 8) rfl rfl rfl) (d_tk (i := 10) rfl rfl (by simp [RfH]) (v_load rfl rfl (rfc (r := q) 8 (by first | exact List.mem_cons_self .. | simp [RfH]) rfl)) (d_one (i := 6) (by decide +kernel) (d1_call rfl rfl rfl rfl (c_call callable45 rfl) (rl_Last _ _ a q Fr hq) ?_)))))))))))
      rintro v' F2 H' ⟨rfl, rfl, rfl⟩ _
      refine ⟨fun w hw => held_of hw (by first | exact Fz.le_refl _ | assumption) (by simp [RfH]), ?_⟩
      refine d_one (i := 11) (by decide +kernel) (d1_call rfl rfl rfl rfl (c_call callable80 rfl) (rl_LastTerm _ _ a q Fr hq) ?_)
      rintro v' F2 H' ⟨rfl, rfl, rfl⟩ _
      refine ⟨fun w hw => held_of hw (by first | exact Fz.le_refl _ | assumption) (by simp [RfH]), ?_⟩
      refine d_tk (i := 12) rfl rfl (by simp [RfH]) (v_build rfl rfl) (d_one (i := 13) (by decide +kernel) (d1_lastCall 1000000 rfl rfl rfl rfl (c_call callable79 rfl) (r_send _ _ a q ⟨q.p.canM r4.p.others[i], .slice none 0 0, [], .slice none 0 0⟩ Fr hq ⟨canM_B hq.B hlt, rfl, Sl.nil _ _ _, by simp, Sl.nil _ _ _⟩ (by omega)) ?_))
      rintro v' F2 H' ⟨rfl, rfl, q', hq', hqp', rfl⟩ _
      refine ⟨[], ?_⟩
      dsimp only at hqp'
      refine d_end (by decide +kernel) (r_inBlock (r_region rfl (o_vl rfl rfl (v_add rfl rfl (wrap_i64 (by omega) (by omega))) (o_vl rfl rfl (v_move rfl) (o_end ?_)))))
      refine j_keep ?_ (IH ⟨i + 1, q', F2⟩ ⟨hF2, hil, hq', by dsimp only; rw [hqp', hqp, foldl_take _ _ _ _ hil], by dsimp only; rw [hqp']; exact sameBut_send hqs _, by dsimp only; rw [hqp']; have := send_len q.p (q.p.canM r4.p.others[i]); omega⟩ (by dsimp only; omega))
      exact ⟨rfl, rfl, rfl, rfl, trivial⟩
    · have hie : i = r4.p.others.length := by omega
      rw [hie, List.take_length] at hqp
      refine r_exit rfl ?_
      refine j_keep ?_ (J (q, F2) ⟨Fz.le_trans hF1 hF2, hq, hqp⟩)
      exact ⟨rfl, trivial⟩
  · rintro ⟨q, F2⟩ ⟨hF2, hq, hqp⟩
    dsimp only at hF2 hq hqp ⊢
    have hqs : r4.p.sameBut q.p := by rw [hqp]; exact sends_same _ _ _ _ rfl
    have hqo : q.p.out.length ≤ r4.p.out.length + r4.p.others.length := by rw [hqp]; exact sends_len _ _ _
    have hql : q.p.lix = r.p.lix ∧ q.p.l = r.p.l := by rw [hqs, hp4]; exact ⟨rfl, rfl⟩
    refine r_seq (r_region rfl (o_vl rfl rfl (v_move rfl) (o_vl rfl rfl (v_move rfl) (o_vl rfl rfl (v_nilCheck rfl) (o_vl rfl rfl (v_field (k := 13) rfl rfl rfl) (o_vl rfl rfl (v_load rfl rfl (rfc (r := q) 13 (by first | exact List.mem_cons_self .. | simp [RfH]) rfl)) (o_call rfl rfl rfl rfl (c_call callable81 rfl) (r_most _ _ a q q.p.yes Fr hq hq.B.yes) ?_)))))))
    rintro v' F2 H' ⟨rfl, rfl, rfl⟩ _
    have hfin : r.p.campaign = if q.p.most q.p.yes = true then q.p.lead_ else q.p := by
      unfold PR.campaign
      rw [← hp4, ← hqp]
    cases hm : q.p.most q.p.yes with
    | true =>
      rw [hm, if_pos rfl] at hfin
      refine o_end (r_true rfl (r_region rfl (o_vl rfl rfl (v_move rfl) (o_call rfl rfl rfl rfl (c_call callable87 rfl) (r_lead _ _ a q Fr hq (by rw [hql.1, hql.2]; exact hl) (by rw [ho4] at hqo; omega)) ?_))))
      rintro v' F3 H' ⟨rfl, q2, hq2, hqp2, rfl⟩ hF3
      refine o_end ?_
      exact r_fall0 Tryz.func82 rfl ⟨⟨rfl, q2, hq2, by rw [hqp2, hfin], rfl⟩, Fz.le_trans hF2 hF3⟩
    | false =>
      rw [hm, if_neg (by simp)] at hfin
      refine o_end (r_false rfl (r_skip ?_))
      exact r_fall0 Tryz.func82 rfl ⟨⟨rfl, q, hq, hfin.symm, rfl⟩, hF2⟩
set_option maxHeartbeats 1000000 in
theorem r_ask (O : World) (F : Fz) (a : Nat) (r : Rf) (Fr : List Ent) (hr : r.ok F) (ht : r.p.term < 300000) (hl : r.p.lix + r.p.l.length < 300000) (ho : r.p.out.length + 21 ≤ 300000) :
    Does Tryz.prog O 53 #[ptrV a] F (RfH a r Fr) (fun v F' H' => v = noneV ∧ ∃ r' : Rf, r'.ok F' ∧ r'.p = r.p.ask ∧ H' = RfH a r' Fr) := by
  refine does_of_run (args := [_]) Tryz.func53 rfl rfl ?_
  have hme := hr.B.me
  obtain ⟨r4, hr4⟩ : ∃ r4 : Rf, r4 = { r with p := r.p.ask0 } := ⟨_, rfl⟩
  have hr4ok : r4.ok F := by
    rw [hr4]
    exact hr.set _ { hr.B with role := by simp [PR.ask0], l1 := by simp [PR.ask0], l2 := by simp [PR.ask0], yes := two7 hme } rfl rfl rfl rfl
  have hp4 : r4.p = r.p.ask0 := by rw [hr4]
  have hol := others_len r4.p
  have ho4 : r4.p.out = r.p.out := by rw [hp4]; rfl
  have ho4l : r4.p.out.length = r.p.out.length := by rw [ho4]
  have ht4 : r4.p.term = r.p.term := by rw [hp4]; rfl
  refine j_heap (H' := RfE a r :: RfT r Fr) rfl ?_
  refine r_seq (d_region 10 rfl ([RfE a r]) ?_)
  refine d_tk (i := 0) rfl rfl (by simp) (v_move rfl) (d_tk0 (i := 1) rfl rfl (by simp) (v_move rfl) (d_tk0 (i := 2) rfl rfl (by simp) (v_move rfl) (d_tk (i := 3) rfl rfl (by simp) (v_move rfl) (d_tk (i := 4) rfl rfl (by simp) (v_nilCheck rfl) (d_tk (i := 5) rfl rfl (by simp) (v_field (k := 0) rfl rfl rfl) (d_tk (i := 6) rfl rfl (by simp) (v_load rfl rfl (rfc (r := r) 0 (by first | exact List.mem_cons_self .. | simp [RfH]) rfl)) (d_tk0 (i := 7) rfl rfl (by simp) (v_shl (m := 1) rfl rfl (by omega) (shl1 _ hme)) (d_tk (i := 8) rfl rfl (by simp) (v_nilCheck rfl) (d_tk (i := 9) rfl rfl (by simp) (v_field (k := 6) rfl rfl rfl) (d_one (i := 10) (by decide +kernel) ?_))))))))))
  refine d1_last 13 ([]) rfl rfl rfl (a_rf { r with p := { r.p with role := 1 } } rfl rfl rfl rfl (Nat.le_of_ble_eq_true rfl) rfl) ?_
  refine d_tk (i := 11) rfl rfl (by simp) (v_nilCheck rfl) (d_tk (i := 12) rfl rfl (by simp) (v_field (k := 7) rfl rfl rfl) (d_one (i := 13) (by decide +kernel) ?_))
  refine d1_last 16 ([]) rfl rfl rfl (a_rf { r with p := { r.p with role := 1, lead := -1 } } rfl rfl rfl rfl (Nat.le_of_ble_eq_true rfl) rfl) ?_
  refine d_tk (i := 14) rfl rfl (by simp) (v_nilCheck rfl) (d_tk (i := 15) rfl rfl (by simp) (v_field (k := 13) rfl rfl rfl) (d_one (i := 16) (by decide +kernel) ?_))
  refine d1_last 1000000 ([]) rfl rfl rfl (a_rf r4 rfl rfl rfl rfl (Nat.le_of_ble_eq_true rfl) (by rw [hr4]; rfl)) ?_
  refine j_heap (H' := RfH a r4 Fr) (by rw [hr4]; rfl) ?_
  refine d_end (by decide +kernel) (r_seq ?_)
  refine r_join (fun g : Rf × Fz => F.le g.2 ∧ g.1.ok g.2 ∧ g.1.p = r4.p.asks) (fun g => [(0, ptrV a)]) (fun g => g.2) (fun g => RfH a g.1 Fr) ?_ ?_
  · intro J
    refine r_seq (r_region rfl (o_vl rfl rfl (v_move rfl) (o_call rfl rfl rfl rfl (c_call callable58 rfl) (r_others _ _ a r4 Fr hr4ok) ?_)))
    rintro v' F1 H' ⟨hF1, hs1, rfl⟩ _
    obtain ⟨a0, c0, rfl, _⟩ := Sl.shape hs1
    refine o_vl rfl rfl (v_len rfl rfl) (o_vl rfl rfl (v_move rfl) (o_end (r_block ?_)))
    refine r_loop (fun g : TG2 => F1.le g.F ∧ g.i ≤ r4.p.others.length ∧ g.r.ok g.F ∧ g.r.p = (r4.p.others.take g.i).foldl (fun q i => q.send (q.askM i)) r4.p ∧ r4.p.sameBut g.r.p ∧ g.r.p.out.length ≤ r4.p.out.length + g.i) (fun g => [(0, ptrV a), (19, .slice a0 r4.p.others.length c0), (20, .int .i64 r4.p.others.length), (21, .int .i64 g.i)]) (fun g => g.F) (fun g => RfH a g.r Fr) (fun g => r4.p.others.length - g.i)
      ⟨0, r4, F1⟩ ⟨Fz.le_refl _, Nat.zero_le _, hr4ok.frz hF1, rfl, rfl, Nat.le_refl _⟩ ⟨rfl, rfl, rfl, rfl, trivial⟩ rfl rfl ?_
    rintro ⟨i, q, F2⟩ ⟨hF2, hi, hq, hqp, hqs, hql⟩ IH
    dsimp only at hF2 hi hq hqp hqs hql ⊢
    have htq : q.p.term < 300000 := by rw [hqs]; show r4.p.term < _; omega
    refine r_seq (r_region rfl (o_vl rfl rfl (v_lss rfl rfl) (o_end (r_seq (r_if rfl (fun h => ?_) (fun h => ?_))))))
    · have hil : i < r4.p.others.length := by omega
      obtain ⟨b1, off1, c1, hab1, _, hc1⟩ := (hs1.frz (F' := F2) (H := []) hF2).view (by omega)
      simp only [Value.slice.injEq] at hab1
      obtain ⟨rfl, _, rfl⟩ := hab1
      have hcu := hc1 i (.int .i64 r4.p.others[i]) (by rw [List.getElem?_map, List.getElem?_eq_getElem hil]; rfl)
      have hlt := others_lt (List.getElem_mem hil)
      refine r_skip (r_seq (r_block (r_seq (r_region rfl (o_vl rfl rfl (v_index1 rfl rfl rfl rfl hil) (o_vl rfl rfl (v_load rfl rfl (hcu.mono (Fz.le_refl _) (by simp))) (o_vl rfl rfl (v_assign rfl) (o_end (d_region 19 rfl ([RfE a q]) ?_)))))))))
      refine d_tk (i := 0) rfl rfl (by simp [RfH]) (v_move rfl) (d_tk (i := 1) rfl rfl (by simp [RfH]) (v_move rfl) (d_tk0 (i := 2) rfl rfl (by simp [RfH]) (v_move rfl) (d_tk (i := 3) rfl rfl (by simp [RfH]) (v_nilCheck rfl) (d_tk (i := 4) rfl rfl (by simp [RfH]) (v_field (k := 4) rfl rfl rfl) (d_tk (i := 5) rfl rfl (by simp [RfH]) (v_field (k := 0) rfl rfl rfl) (d_tk (i := 6) rfl rfl (by simp [RfH]) (v_load rfl rfl (rfc (r := q) 4 (by first | exact List.mem_cons_self .. | simp [RfH]) rfl)) (d_tk (i := 7) rfl rfl (by simp [RfH]) (v_add rfl rfl (r := ((q.p.term + 1 : Nat) : Int)) (wrap_u64 (by omega) (by omega))) (d_tk (i := 8) rfl rfl (by simp [RfH]) (v_move rfl) (d_tk (i := 9) rfl rfl (by simp [RfH]) (v_nilCheck rfl) (d_tk (i := 10) rfl rfl (by simp [RfH]) (v_field (k := 8) rfl rfl rfl) (d_tk (i := 11) rfl rfl (by simp [RfH]) (v_load rfl rfl (rfc (r := q) 8 (by first | exact List.mem_cons_self .. | simp [RfH]) rfl)) (d_tk (i := 13) rfl rfl (by simp [RfH]) (v_move rfl) (d_tk (i := 14) rfl rfl (by simp [RfH]) (v_nilCheck rfl) ?_)))))))))))))
      refine d_tk (i := 15) rfl rfl (by simp [RfH]) (v_field (k := 8) rfl rfl rfl) (d_tk (i := 16) rfl rfl (by simp [RfH]) (v_load rfl rfl (rfc (r := q) 8 (by first | exact List.mem_cons_self .. | simp [RfH]) rfl)) (d_one (i := 12) (by decide +kernel) (d1_call rfl rfl rfl rfl (c_call callable45 rfl) (rl_Last _ _ a q Fr hq) ?_)))
      rintro v' F2 H' ⟨rfl, rfl, rfl⟩ _
      refine ⟨fun w hw => held_of hw (by first | exact Fz.le_refl _ | assumption) (by simp [RfH]), ?_⟩
      refine d_one (i := 17) (by decide +kernel) (d1_call rfl rfl rfl rfl (c_call callable80 rfl) (rl_LastTerm _ _ a q Fr hq) ?_)
      rintro v' F2 H' ⟨rfl, rfl, rfl⟩ _
      refine ⟨fun w hw => held_of hw (by first | exact Fz.le_refl _ | assumption) (by simp [RfH]), ?_⟩
      refine d_tk (i := 18) rfl rfl (by simp [RfH]) (v_build rfl rfl) (d_one (i := 19) (by decide +kernel) (d1_lastCall 1000000 rfl rfl rfl rfl (c_call callable79 rfl) (r_send _ _ a q ⟨q.p.askM r4.p.others[i], .slice none 0 0, [], .slice none 0 0⟩ Fr hq ⟨askM_B hq.B htq hlt, rfl, Sl.nil _ _ _, by simp, Sl.nil _ _ _⟩ (by omega)) ?_))
      rintro v' F2 H' ⟨rfl, rfl, q', hq', hqp', rfl⟩ _
      refine ⟨[], ?_⟩
      dsimp only at hqp'
      refine d_end (by decide +kernel) (r_inBlock (r_region rfl (o_vl rfl rfl (v_add rfl rfl (wrap_i64 (by omega) (by omega))) (o_vl rfl rfl (v_move rfl) (o_end ?_)))))
      refine j_keep ?_ (IH ⟨i + 1, q', F2⟩ ⟨hF2, hil, hq', by dsimp only; rw [hqp', hqp, foldl_take _ _ _ _ hil], by dsimp only; rw [hqp']; exact sameBut_send hqs _, by dsimp only; rw [hqp']; have := send_len q.p (q.p.askM r4.p.others[i]); omega⟩ (by dsimp only; omega))
      exact ⟨rfl, rfl, rfl, rfl, trivial⟩
    · have hie : i = r4.p.others.length := by omega
      rw [hie, List.take_length] at hqp
      refine r_exit rfl ?_
      refine j_keep ?_ (J (q, F2) ⟨Fz.le_trans hF1 hF2, hq, hqp⟩)
      exact ⟨rfl, trivial⟩
  · rintro ⟨q, F2⟩ ⟨hF2, hq, hqp⟩
    dsimp only at hF2 hq hqp ⊢
    have hqs : r4.p.sameBut q.p := by rw [hqp]; exact sends_same _ _ _ _ rfl
    have hqo : q.p.out.length ≤ r4.p.out.length + r4.p.others.length := by rw [hqp]; exact sends_len _ _ _
    have hql : q.p.lix = r.p.lix ∧ q.p.l = r.p.l ∧ q.p.term = r.p.term := by rw [hqs, hp4]; exact ⟨rfl, rfl, rfl⟩
    refine r_seq (r_region rfl (o_vl rfl rfl (v_move rfl) (o_vl rfl rfl (v_move rfl) (o_vl rfl rfl (v_nilCheck rfl) (o_vl rfl rfl (v_field (k := 13) rfl rfl rfl) (o_vl rfl rfl (v_load rfl rfl (rfc (r := q) 13 (by first | exact List.mem_cons_self .. | simp [RfH]) rfl)) (o_call rfl rfl rfl rfl (c_call callable81 rfl) (r_most _ _ a q q.p.yes Fr hq hq.B.yes) ?_)))))))
    rintro v' F2 H' ⟨rfl, rfl, rfl⟩ _
    have hfin : r.p.ask = if q.p.most q.p.yes = true then q.p.campaign else q.p := by
      unfold PR.ask
      rw [← hp4, ← hqp]
    cases hm : q.p.most q.p.yes with
    | true =>
      rw [hm, if_pos rfl] at hfin
      refine o_end (r_true rfl (r_region rfl (o_vl rfl rfl (v_move rfl) (o_call rfl rfl rfl rfl (c_call callable82 rfl) (r_campaign _ _ a q Fr hq (by rw [hql.2.2]; exact ht) (by rw [hql.1, hql.2.1]; exact hl) (by rw [ho4] at hqo; omega)) ?_))))
      rintro v' F3 H' ⟨rfl, q2, hq2, hqp2, rfl⟩ hF3
      refine o_end ?_
      exact r_fall0 Tryz.func53 rfl ⟨⟨rfl, q2, hq2, by rw [hqp2, hfin], rfl⟩, Fz.le_trans hF2 hF3⟩
    | false =>
      rw [hm, if_neg (by simp)] at hfin
      refine o_end (r_false rfl (r_skip ?_))
      exact r_fall0 Tryz.func53 rfl ⟨⟨rfl, q, hq, hfin.symm, rfl⟩, hF2⟩
end Go.SX
namespace Go.SX
open Go Go.Proofs
set_option maxRecDepth 4000
def PR.tick1 (p : PR) : PR := { p with ticks := p.ticks + 1 }
def PR.tick (p : PR) : PR :=
  if p.role = 3 then (if 2 ≤ p.ticks + 1 then ({ p with ticks := 0 } : PR).tell else p.tick1)
  else if p.lim ≤ p.ticks + 1 then (if p.tick1.rest.votes p.tick1.rest.me = true then p.tick1.rest.ask else p.tick1.rest) else p.tick1
set_option maxHeartbeats 1000000 in
theorem r_Tick (O : World) (F : Fz) (a : Nat) (r : Rf) (Fr : List Ent) (hr : r.ok F) (hti : r.p.ticks < 300000) (hn : r.p.role = 3 → ∀ i < 7, 1 ≤ r.p.nx.getD i 0) (ht : r.p.term < 300000) (hl : r.p.lix + r.p.l.length < 300000) (ho : r.p.out.length + 21 ≤ 300000) :
    Does Tryz.prog O 29 #[ptrV a] F (RfH a r Fr) (fun v F' H' => v = noneV ∧ ∃ r' : Rf, r'.ok F' ∧ r'.p = r.p.tick ∧ H' = RfH a r' Fr) := by
  refine does_of_run (args := [_]) Tryz.func29 rfl rfl ?_
  obtain ⟨r1, hr1⟩ : ∃ r1 : Rf, r1 = { r with p := r.p.tick1 } := ⟨_, rfl⟩
  have hr1ok : r1.ok F := by rw [hr1]; exact hr.set _ { hr.B with ticks := hti } rfl rfl rfl rfl
  have h1r : r1.p.role = r.p.role := by rw [hr1]; rfl
  have h1t : r1.p.ticks = r.p.ticks + 1 := by rw [hr1]; rfl
  have h1l : r1.p.lim = r.p.lim := by rw [hr1]; rfl
  have hme := hr.B.me
  refine r_seq (r_seq (r_region rfl (o_vl rfl rfl (v_move rfl) (o_vl rfl rfl (v_peqnil rfl rfl rfl) (o_end (r_false rfl (r_skip (r_seq (r_region rfl (o_vl rfl rfl (v_move rfl) (o_vl rfl rfl (v_nilCheck rfl) (o_vl rfl rfl (v_field (k := 11) rfl rfl rfl) (o_vl rfl rfl (v_load rfl rfl (rfc (r := r) 11 (by first | exact List.mem_cons_self .. | simp [RfH]) rfl)) ?_)))))))))))))
  refine o_vl rfl rfl (v_add rfl rfl (r := ((r.p.ticks + 1 : Nat) : Int)) (wrap_i64 (by omega) (by omega))) (o_vl rfl rfl (v_nilCheck rfl) (o_vl rfl rfl (v_field (k := 11) rfl rfl rfl) ?_))
  refine j_heap (H' := RfE a r :: RfT r Fr) rfl ?_
  refine o_act0 rfl rfl rfl (a_rf r1 rfl rfl rfl rfl (Nat.le_of_ble_eq_true rfl) (by rw [hr1]; rfl)) ?_
  refine j_heap (H' := RfH a r1 Fr) (by rw [hr1]; rfl) ?_
  refine o_end (r_seq (r_seq (r_region rfl (o_vl rfl rfl (v_move rfl) (o_vl rfl rfl (v_nilCheck rfl) (o_vl rfl rfl (v_field (k := 6) rfl rfl rfl) (o_vl rfl rfl (v_load rfl rfl (rfc (r := r1) 6 (by first | exact List.mem_cons_self .. | simp [RfH]) rfl)) (o_vl rfl rfl (v_eql rfl rfl) (o_end (r_if rfl (fun h => ?_) (fun h => ?_)))))))))))
  · have hrole : r.p.role = 3 := by omega
    refine r_seq (r_seq (d_region 1000000 rfl ([RfE a r1]) ?_))
    refine d_tk (i := 0) rfl rfl (by simp [RfH]) (v_move rfl) (d_tk (i := 1) rfl rfl (by simp [RfH]) (v_nilCheck rfl) (d_tk (i := 2) rfl rfl (by simp [RfH]) (v_field (k := 11) rfl rfl rfl) (d_tk (i := 3) rfl rfl (by simp [RfH]) (v_load rfl rfl (rfc (r := r1) 11 (by first | exact List.mem_cons_self .. | simp [RfH]) rfl)) (d_tk (i := 4) rfl rfl (by simp [RfH]) (v_move rfl) (d_tk (i := 5) rfl rfl (by simp [RfH]) (v_nilCheck rfl) (d_tk (i := 6) rfl rfl (by simp [RfH]) (v_field (k := 1) rfl rfl rfl) (d_tk (i := 7) rfl rfl (by simp [RfH]) (v_load rfl rfl (rfc (r := r1) 1 (by first | exact List.mem_cons_self .. | simp [RfH]) rfl)) (d_tk (i := 8) rfl rfl (by simp [RfH]) (v_geq rfl rfl) (d_end (by decide +kernel) (r_if rfl (fun h2 => ?_) (fun h2 => ?_)))))))))))
    · have hp : r.p.tick = ({ r.p with ticks := 0 } : PR).tell := by
        unfold PR.tick
        rw [if_pos hrole, if_pos (by omega)]
      obtain ⟨r2, hr2⟩ : ∃ r2 : Rf, r2 = { r with p := { r.p with ticks := 0 } } := ⟨_, rfl⟩
      have hr2ok : r2.ok F := by rw [hr2]; exact hr.set _ { hr.B with ticks := Nat.zero_le _ } rfl rfl rfl rfl
      refine r_seq (r_region rfl (o_vl rfl rfl (v_move rfl) (o_vl rfl rfl (v_nilCheck rfl) (o_vl rfl rfl (v_field (k := 11) rfl rfl rfl) ?_))))
      refine j_heap (H' := RfE a r1 :: RfT r1 Fr) rfl ?_
      refine o_act0 rfl rfl rfl (a_rf r2 rfl rfl rfl rfl (Nat.le_of_ble_eq_true rfl) (by rw [hr2, hr1]; rfl)) ?_
      refine j_heap (H' := RfH a r2 Fr) (by rw [hr2, hr1]; rfl) ?_
      refine o_end (r_region rfl (o_vl rfl rfl (v_move rfl) (o_call rfl rfl rfl rfl (c_call callable36 rfl) (r_tell _ _ a r2 Fr hr2ok (by rw [hr2]; exact hn hrole) (by rw [hr2]; show r.p.out.length + 7 ≤ _; omega)) ?_)))
      rintro v' F2 H' ⟨rfl, q, hq, hqp, rfl⟩ hF2
      refine o_end ?_
      exact r_ret0 Tryz.func29 rfl ⟨⟨rfl, q, hq, by rw [hqp, hp, hr2], rfl⟩, hF2⟩
    · have hp : r.p.tick = r.p.tick1 := by
        unfold PR.tick
        rw [if_pos hrole, if_neg (by omega)]
      refine r_skip ?_
      exact r_ret0 Tryz.func29 rfl ⟨⟨rfl, r1, hr1ok, by rw [hp, hr1], rfl⟩, Fz.le_refl _⟩
  · have hrole : ¬ r.p.role = 3 := by omega
    refine r_skip (r_seq (d_region 1000000 rfl ([RfE a r1]) ?_))
    refine d_tk (i := 0) rfl rfl (by simp [RfH]) (v_move rfl) (d_tk (i := 1) rfl rfl (by simp [RfH]) (v_nilCheck rfl) (d_tk (i := 2) rfl rfl (by simp [RfH]) (v_field (k := 11) rfl rfl rfl) (d_tk (i := 3) rfl rfl (by simp [RfH]) (v_load rfl rfl (rfc (r := r1) 11 (by first | exact List.mem_cons_self .. | simp [RfH]) rfl)) (d_tk (i := 4) rfl rfl (by simp [RfH]) (v_move rfl) (d_tk (i := 5) rfl rfl (by simp [RfH]) (v_nilCheck rfl) (d_tk (i := 6) rfl rfl (by simp [RfH]) (v_field (k := 12) rfl rfl rfl) (d_tk (i := 7) rfl rfl (by simp [RfH]) (v_load rfl rfl (rfc (r := r1) 12 (by first | exact List.mem_cons_self .. | simp [RfH]) rfl)) (d_tk (i := 8) rfl rfl (by simp [RfH]) (v_geq rfl rfl) (d_end (by decide +kernel) (r_if rfl (fun h2 => ?_) (fun h2 => ?_)))))))))))
    · obtain ⟨r2, hr2⟩ : ∃ r2 : Rf, r2 = { r1 with p := r1.p.rest, fb := ownB r1.p.me } := ⟨_, rfl⟩
      have hr2ok : r2.ok F := by rw [hr2]; exact rest_ok hr1ok
      have hp2 : r2.p = r.p.tick1.rest := by rw [hr2, hr1]
      have hp : r.p.tick = if r.p.tick1.rest.votes r.p.tick1.rest.me = true then r.p.tick1.rest.ask else r.p.tick1.rest := by
        unfold PR.tick
        rw [if_neg hrole, if_pos (by omega)]
      rw [← hp2] at hp
      refine r_seq (r_region rfl (o_vl rfl rfl (v_move rfl) ?_))
      refine j_heap (H' := RfE a r1 :: RfT r1 Fr) rfl ?_
      refine o_call rfl rfl rfl rfl (c_call callable51 rfl) (r_rest _ _ a r1 _ (by rw [hr1]; exact hme) hr1ok.dr) ?_
      rintro v' F H' ⟨rfl, rfl, rfl⟩ _
      refine j_heap (H' := RfH a r2 Fr) (by rw [hr2, hr1]; rfl) ?_
      refine o_end (r_seq (r_region rfl (o_vl rfl rfl (v_move rfl) (o_vl rfl rfl (v_move rfl) (o_vl rfl rfl (v_nilCheck rfl) (o_vl rfl rfl (v_field (k := 0) rfl rfl rfl) (o_vl rfl rfl (v_load rfl rfl (rfc (r := r2) 0 (by first | exact List.mem_cons_self .. | simp [RfH]) rfl)) (o_call rfl rfl rfl rfl (c_call callable52 rfl) (r_votes _ _ a r2 r2.p.me Fr hr2ok hr2ok.B.me) ?_))))))))
      rintro v' F H' ⟨rfl, rfl, rfl⟩ _
      cases hv : r2.p.votes r2.p.me with
      | true =>
        rw [hv, if_pos rfl] at hp
        refine o_end (r_true rfl (r_region rfl (o_vl rfl rfl (v_move rfl) (o_call rfl rfl rfl rfl (c_call callable53 rfl) (r_ask _ _ a r2 Fr hr2ok (by rw [hp2]; exact ht) (by rw [hp2]; exact hl) (by rw [hp2]; exact ho)) ?_))))
        rintro v' F2 H' ⟨rfl, q, hq, hqp, rfl⟩ hF2
        refine o_end ?_
        exact r_fall0 Tryz.func29 rfl ⟨⟨rfl, q, hq, by rw [hqp, hp], rfl⟩, hF2⟩
      | false =>
        rw [hv, if_neg (by simp)] at hp
        refine o_end (r_false rfl (r_skip ?_))
        exact r_fall0 Tryz.func29 rfl ⟨⟨rfl, r2, hr2ok, hp.symm, rfl⟩, Fz.le_refl _⟩
    · have hp : r.p.tick = r.p.tick1 := by
        unfold PR.tick
        rw [if_neg hrole, if_neg (by omega)]
      refine r_skip ?_
      exact r_fall0 Tryz.func29 rfl ⟨⟨rfl, r1, hr1ok, by rw [hp, hr1], rfl⟩, Fz.le_refl _⟩
def PR.has (p : PR) (n i : Nat) : Bool := if i = p.me then decide (n ≤ p.st) else decide (n ≤ p.mt.getD i 0)
def PR.someTo (p : PR) (n k : Nat) : Nat := (List.range k).foldl (fun s i => if p.has n i = true then s ||| 2 ^ i else s) 0
def PR.commitAt (p : PR) (n : Nat) : PR := if ({ p with cm := n } : PR).votes p.me = true then { p with cm := n } else if p.voters.2 ≤ n then ({ p with cm := n, role := 0, lead := -1 } : PR).rest else { p with cm := n }
def PR.adv (p : PR) : Nat → PR
  | 0 => p
  | n + 1 => if n + 1 ≤ p.cm then p else if (p.termAt (n + 1)).1 ≠ p.term then p else if p.most (p.someTo (n + 1) 7) = true then p.commitAt (n + 1) else p.adv n
def PR.advance (p : PR) : PR := p.adv p.last
theorem someTo_lt (p : PR) (n : Nat) : ∀ k, k ≤ 7 → p.someTo n k < 128
  | 0, _ => by show 0 < 128; decide
  | k + 1, h => by
    have ih := someTo_lt p n k (by omega)
    unfold PR.someTo at ih ⊢
    rw [List.range_succ, List.foldl_append]
    simp only [List.foldl_cons, List.foldl_nil]
    split
    · have h2 := two7 (show k < 7 by omega)
      exact Nat.or_lt_two_pow (n := 7) ih h2
    · exact ih
theorem someTo_succ (p : PR) (n k : Nat) : p.someTo n (k + 1) = if p.has n k = true then p.someTo n k ||| 2 ^ k else p.someTo n k := by
  unfold PR.someTo
  rw [List.range_succ, List.foldl_append]
  rfl
set_option maxHeartbeats 1000000 in
theorem r_advance (O : World) (F : Fz) (a : Nat) (r : Rf) (Fr : List Ent) (hr : r.ok F) :
    Does Tryz.prog O 69 #[ptrV a] F (RfH a r Fr) (fun v F' H' => v = noneV ∧ F' = F ∧ ∃ r' : Rf, r'.ok F ∧ r'.p = r.p.advance ∧ H' = RfH a r' Fr) := by
  refine does_of_run (args := [_]) Tryz.func69 rfl rfl ?_
  have hme := hr.B.me
  have hla := hr.B.last
  have hll : r.p.last = r.p.lix + r.p.l.length := rfl
  refine r_seq (r_region rfl (o_vl rfl rfl (v_move rfl) (o_vl rfl rfl (v_nilCheck rfl) (o_vl rfl rfl (v_field (k := 8) rfl rfl rfl) (o_vl rfl rfl (v_load rfl rfl (rfc (r := r) 8 (by first | exact List.mem_cons_self .. | simp [RfH]) rfl)) (o_call rfl rfl rfl rfl (c_call callable45 rfl) (rl_Last _ _ a r Fr hr) ?_))))))
  rintro v' F H' ⟨rfl, rfl, rfl⟩ _
  refine o_vl rfl rfl (v_assign rfl) (o_end (r_block ?_))
  refine r_loop (fun n : Nat => n ≤ r.p.last ∧ r.p.advance = r.p.adv n) (fun n => [(0, ptrV a), (2, .int .u64 n)]) (fun _ => F) (fun _ => RfH a r Fr) (fun n => n) r.p.last ⟨Nat.le_refl _, rfl⟩ ⟨rfl, rfl, trivial⟩ rfl rfl ?_
  rintro n ⟨hn, hadv⟩ IH
  refine r_seq (r_seq (r_region rfl (o_vl rfl rfl (v_move rfl) (o_vl rfl rfl (v_move rfl) (o_vl rfl rfl (v_nilCheck rfl) (o_vl rfl rfl (v_field (k := 9) rfl rfl rfl) (o_vl rfl rfl (v_load rfl rfl (rfc (r := r) 9 (by first | exact List.mem_cons_self .. | simp [RfH]) rfl)) (o_vl rfl rfl (v_gtr rfl rfl) (o_end (r_if rfl (fun h => ?_) (fun h => ?_)))))))))))
  · obtain ⟨m, rfl⟩ : ∃ m, n = m + 1 := ⟨n - 1, by omega⟩
    have hstep : r.p.adv (m + 1) = if m + 1 ≤ r.p.cm then r.p else if (r.p.termAt (m + 1)).1 ≠ r.p.term then r.p else if r.p.most (r.p.someTo (m + 1) 7) = true then r.p.commitAt (m + 1) else r.p.adv m := rfl
    rw [if_neg (by omega)] at hstep
    refine r_skip (r_seq (r_block (r_seq (r_seq (r_region rfl (o_vl rfl rfl (v_move rfl) (o_vl rfl rfl (v_nilCheck rfl) (o_vl rfl rfl (v_field (k := 8) rfl rfl rfl) (o_vl rfl rfl (v_load rfl rfl (rfc (r := r) 8 (by first | exact List.mem_cons_self .. | simp [RfH]) rfl)) (o_vl rfl rfl (v_move rfl) (o_call rfl rfl rfl rfl (c_call callable31 rfl) (rl_Term _ _ a r (m + 1) Fr hr (by omega)) ?_)))))))))))
    rintro v' F H' ⟨rfl, rfl, rfl⟩ _
    refine o_vl rfl rfl (v_move rfl) (o_vl rfl rfl (v_extract rfl rfl) (o_vl rfl rfl (v_extract rfl rfl) (o_vl rfl rfl (v_assign rfl) (o_vl rfl rfl (v_assign rfl) (o_end (r_seq (r_region rfl (o_vl rfl rfl (v_move rfl) (o_vl rfl rfl (v_move rfl) (o_vl rfl rfl (v_nilCheck rfl) (o_vl rfl rfl (v_field (k := 4) rfl rfl rfl) (o_vl rfl rfl (v_field (k := 0) rfl rfl rfl) (o_vl rfl rfl (v_load rfl rfl (rfc (r := r) 4 (by first | exact List.mem_cons_self .. | simp [RfH]) rfl)) ?_)))))))))))))
    refine o_vl rfl rfl (v_neq rfl rfl) (o_end (r_if rfl (fun h1 => ?_) (fun h1 => ?_)))
    · rw [if_pos (by omega)] at hstep
      exact r_ret0 Tryz.func69 rfl ⟨⟨rfl, rfl, r, hr, by rw [hadv, hstep], rfl⟩, Fz.le_refl _⟩
    · rw [if_neg (by omega)] at hstep
      refine r_skip (r_seq (r_region rfl (o_vl rfl rfl (v_assign rfl) (o_end (r_seq (r_seq (r_region rfl (o_vl rfl rfl (v_move rfl) (o_end (r_block ?_))))))))))
      refine r_loop (fun i : Nat => i ≤ 7) (fun i => [(0, ptrV a), (2, .int .u64 (m + 1 : Nat)), (5, .int .u64 (r.p.someTo (m + 1) i)), (38, .int .i64 i)]) (fun _ => F) (fun _ => RfH a r Fr) (fun i => 7 - i) 0 (Nat.zero_le _) ⟨rfl, rfl, rfl, rfl, trivial⟩ rfl rfl ?_
      rintro i hi IH2
      refine r_seq (r_region rfl (o_vl rfl rfl (v_lss rfl rfl) (o_end (r_seq (r_if rfl (fun h4 => ?_) (fun h4 => ?_))))))
      · have hil : i < 7 := by omega
        have hs := someTo_succ r.p (m + 1) i
        have hlt := someTo_lt r.p (m + 1) i hi
        have hyes : r.p.has (m + 1) i = true → bitOp .or .u64 (r.p.someTo (m + 1) i : Int) ((2 ^ i : Nat) : Int) = ((r.p.someTo (m + 1) (i + 1) : Nat) : Int) := fun h => by
          rw [hs, if_pos h]
          exact u64_orN _ _ hlt (two7 hil)
        have hno : r.p.has (m + 1) i = false → r.p.someTo (m + 1) (i + 1) = r.p.someTo (m + 1) i := fun h => by rw [hs, h, if_neg (by simp)]
        have hnext := IH2 (i + 1) hil (by omega)
        refine r_skip (r_seq (r_block (r_seq (r_region rfl (o_vl rfl rfl (v_move rfl) (o_vl rfl rfl (v_assign rfl) (o_end (r_seq (r_region rfl (o_vl rfl rfl (v_move rfl) (o_vl rfl rfl (v_move rfl) (o_vl rfl rfl (v_nilCheck rfl) (o_vl rfl rfl (v_field (k := 0) rfl rfl rfl) ?_)))))))))))))
        refine o_vl rfl rfl (v_load rfl rfl (rfc (r := r) 0 (by first | exact List.mem_cons_self .. | simp [RfH]) rfl)) (o_vl rfl rfl (v_neq rfl rfl) ?_)
        refine j_prop 46 rfl (fun h5 => ?_) (fun h5 => ?_)
        · have hne : ¬ i = r.p.me := by omega
          have hh : r.p.has (m + 1) i = decide (m + 1 ≤ r.p.mt.getD i 0) := by unfold PR.has; rw [if_neg hne]
          refine o_vl rfl rfl (v_move rfl) (o_vl rfl rfl (v_move rfl) (o_vl rfl rfl (v_move rfl) (o_vl rfl rfl (v_nilCheck rfl) (o_vl rfl rfl (v_field (k := 21) rfl rfl rfl) (o_vl rfl rfl (v_indexArr (n := 7) (sz := 1) (r := 21 + i) rfl rfl rfl rfl (by omega) (by omega) (by omega)) (o_vl rfl rfl (v_load (v := .int .u64 (r.p.mt.getD i 0)) rfl rfl (cell_own (cs := r.cells) (n := 36) (List.mem_cons_self ..) (mt_cell r hil))) (o_vl rfl rfl (v_move rfl) (o_vl rfl rfl (v_geq rfl rfl) (o_vl rfl rfl (v_pick1 rfl rfl) ?_)))))))))
          refine j_prop 56 rfl (fun h6 => ?_) (fun h6 => ?_)
          · have hy := hyes (by rw [hh]; exact decide_eq_true (by omega))
            refine o_vl rfl rfl (v_move rfl) (o_sk rfl rfl (o_sk rfl rfl (o_sk rfl rfl (o_sk rfl rfl (o_sk rfl rfl (o_sk rfl rfl (o_sk rfl rfl (o_sk rfl rfl (o_sk rfl rfl (o_sk rfl rfl (o_sk rfl rfl (o_sk rfl rfl (o_sk rfl rfl ?_)))))))))))))
            refine o_sk rfl rfl (o_vl rfl rfl (v_pick1 rfl rfl) (o_end (r_true rfl (r_region rfl (o_vl rfl rfl (v_move rfl) (o_vl rfl rfl (v_move rfl) (o_vl rfl rfl (v_shl (m := 1) rfl rfl (by omega) (shl1 i hil)) (o_vl rfl rfl (v_or rfl rfl hy) (o_vl rfl rfl (v_assign rfl) (o_end (r_inBlock (r_region rfl (o_vl rfl rfl (v_add rfl rfl (wrap_i64 (by omega) (by omega))) ?_)))))))))))))
            refine o_vl rfl rfl (v_move rfl) (o_end ?_)
            refine j_keep ?_ hnext
            exact ⟨rfl, rfl, rfl, rfl, trivial⟩
          · have hn := hno (by rw [hh]; exact decide_eq_false (by omega))
            rw [hn] at hnext
            refine o_vl rfl rfl (v_move rfl) (o_vl rfl rfl (v_move rfl) (o_vl rfl rfl (v_move rfl) (o_vl rfl rfl (v_nilCheck rfl) (o_vl rfl rfl (v_field (k := 0) rfl rfl rfl) (o_vl rfl rfl (v_load rfl rfl (rfc (r := r) 0 (by first | exact List.mem_cons_self .. | simp [RfH]) rfl)) (o_vl rfl rfl (v_eql rfl rfl) ?_))))))
            refine j_slot 63 rfl (v' := .bool false) (by rw [decide_eq_false]; omega) ?_
            refine o_vl rfl rfl (v_move rfl) (o_sk rfl rfl (o_sk rfl rfl (o_sk rfl rfl (o_sk rfl rfl (o_sk rfl rfl (o_sk rfl rfl (o_vl rfl rfl (v_pick0 rfl rfl) (o_vl rfl rfl (v_pick0 rfl rfl) (o_end (r_false rfl (r_skip (r_inBlock (r_region rfl ?_)))))))))))))
            refine o_vl rfl rfl (v_add rfl rfl (wrap_i64 (by omega) (by omega))) (o_vl rfl rfl (v_move rfl) (o_end ?_))
            refine j_keep ?_ hnext
            exact ⟨rfl, rfl, rfl, rfl, trivial⟩
        · have hne : i = r.p.me := by omega
          have hh : r.p.has (m + 1) i = decide (m + 1 ≤ r.p.st) := by unfold PR.has; rw [if_pos hne]
          refine o_vl rfl rfl (v_move rfl) (o_sk rfl rfl (o_sk rfl rfl (o_sk rfl rfl (o_sk rfl rfl (o_sk rfl rfl (o_sk rfl rfl (o_sk rfl rfl (o_sk rfl rfl (o_vl rfl rfl (v_pick0 rfl rfl) (o_vl rfl rfl (v_move rfl) (o_vl rfl rfl (v_move rfl) (o_vl rfl rfl (v_move rfl) (o_vl rfl rfl (v_nilCheck rfl) ?_)))))))))))))
          refine o_vl rfl rfl (v_field (k := 0) rfl rfl rfl) (o_vl rfl rfl (v_load rfl rfl (rfc (r := r) 0 (by first | exact List.mem_cons_self .. | simp [RfH]) rfl)) (o_vl rfl rfl (v_eql rfl rfl) ?_))
          refine j_slot 63 rfl (v' := .bool true) (by rw [decide_eq_true]; omega) ?_
          refine o_vl rfl rfl (v_move rfl) (o_vl rfl rfl (v_move rfl) (o_vl rfl rfl (v_nilCheck rfl) (o_vl rfl rfl (v_field (k := 10) rfl rfl rfl) (o_vl rfl rfl (v_load rfl rfl (rfc (r := r) 10 (by first | exact List.mem_cons_self .. | simp [RfH]) rfl)) (o_vl rfl rfl (v_move rfl) (o_vl rfl rfl (v_geq rfl rfl) (o_vl rfl rfl (v_pick1 rfl rfl) (o_vl rfl rfl (v_pick0 rfl rfl) (o_end (r_if rfl (fun h6 => ?_) (fun h6 => ?_)))))))))))
          · have hy := hyes (by rw [hh]; exact decide_eq_true (by omega))
            refine r_region rfl (o_vl rfl rfl (v_move rfl) (o_vl rfl rfl (v_move rfl) (o_vl rfl rfl (v_shl (m := 1) rfl rfl (by omega) (shl1 i hil)) (o_vl rfl rfl (v_or rfl rfl hy) (o_vl rfl rfl (v_assign rfl) (o_end (r_inBlock (r_region rfl (o_vl rfl rfl (v_add rfl rfl (wrap_i64 (by omega) (by omega))) (o_vl rfl rfl (v_move rfl) (o_end ?_)))))))))))
            refine j_keep ?_ hnext
            exact ⟨rfl, rfl, rfl, rfl, trivial⟩
          · have hn := hno (by rw [hh]; exact decide_eq_false (by omega))
            rw [hn] at hnext
            refine r_skip (r_inBlock (r_region rfl (o_vl rfl rfl (v_add rfl rfl (wrap_i64 (by omega) (by omega))) (o_vl rfl rfl (v_move rfl) (o_end ?_)))))
            refine j_keep ?_ hnext
            exact ⟨rfl, rfl, rfl, rfl, trivial⟩
      · obtain rfl : i = 7 := by omega
        clear IH2
        refine r_exit rfl (r_seq (r_seq (r_region rfl (o_vl rfl rfl (v_move rfl) (o_vl rfl rfl (v_move rfl) (o_call rfl rfl rfl rfl (c_call callable81 rfl) (r_most _ _ a r (r.p.someTo (m + 1) 7) Fr hr (someTo_lt _ _ _ (Nat.le_refl _))) ?_))))))
        rintro v' F H' ⟨rfl, rfl, rfl⟩ _
        cases hm : r.p.most (r.p.someTo (m + 1) 7) with
        | false =>
          rw [hm, if_neg (by simp)] at hstep
          refine o_vl rfl rfl (v_not rfl) (o_end (r_true rfl (r_exit rfl (r_region rfl (o_vl rfl rfl (v_move rfl) (o_vl rfl rfl (v_sub rfl rfl (r := (m : Int)) ((wrap_u64 (by omega) (by omega)).trans (by omega))) (o_vl rfl rfl (v_assign rfl) (o_end ?_))))))))
          refine j_keep ?_ (IH m ⟨by omega, by rw [hadv, hstep]⟩ (by omega))
          exact ⟨rfl, rfl, trivial⟩
        | true =>
          rw [hm, if_pos rfl] at hstep
          obtain ⟨r1, hr1⟩ : ∃ r1 : Rf, r1 = { r with p := { r.p with cm := m + 1 } } := ⟨_, rfl⟩
          have hr1ok : r1.ok F := by rw [hr1]; exact hr.set _ { hr.B with cm := by dsimp only; omega } rfl rfl rfl rfl
          have hfin : r.p.advance = if r1.p.votes r.p.me = true then r1.p else if r1.p.voters.2 ≤ m + 1 then ({ r1.p with role := 0, lead := -1 } : PR).rest else r1.p := by
            rw [hadv, hstep, hr1]
            rfl
          have h1me : r1.p.me = r.p.me := by rw [hr1]
          refine o_vl rfl rfl (v_not rfl) (o_end (r_false rfl (r_skip (r_seq (r_region rfl (o_vl rfl rfl (v_move rfl) (o_vl rfl rfl (v_move rfl) (o_vl rfl rfl (v_nilCheck rfl) (o_vl rfl rfl (v_field (k := 9) rfl rfl rfl) ?_)))))))))
          refine j_heap (H' := RfE a r :: RfT r Fr) rfl ?_
          refine o_act0 rfl rfl rfl (a_rf r1 rfl rfl rfl rfl (Nat.le_of_ble_eq_true rfl) (by rw [hr1]; rfl)) ?_
          refine j_heap (H' := RfH a r1 Fr) (by rw [hr1]; rfl) ?_
          refine o_end (r_seq (r_seq (r_region rfl (o_vl rfl rfl (v_move rfl) (o_vl rfl rfl (v_move rfl) (o_vl rfl rfl (v_nilCheck rfl) (o_vl rfl rfl (v_field (k := 0) rfl rfl rfl) (o_vl rfl rfl (v_load rfl rfl (rfc (r := r1) 0 (by first | exact List.mem_cons_self .. | simp [RfH]) rfl)) (o_call rfl rfl rfl rfl (c_call callable52 rfl) (r_votes _ _ a r1 r1.p.me Fr hr1ok hr1ok.B.me) ?_)))))))))
          rintro v' F H' ⟨rfl, rfl, rfl⟩ _
          rw [← h1me] at hfin
          cases hv : r1.p.votes r1.p.me with
          | true =>
            rw [hv, if_pos rfl] at hfin
            refine o_vl rfl rfl (v_not rfl) (o_end (r_false rfl (r_skip ?_)))
            exact r_ret0 Tryz.func69 rfl ⟨⟨rfl, rfl, r1, hr1ok, hfin.symm, rfl⟩, Fz.le_refl _⟩
          | false =>
            rw [hv, if_neg (by simp)] at hfin
            refine o_vl rfl rfl (v_not rfl) (o_end (r_true rfl (r_seq (r_region rfl (o_vl rfl rfl (v_move rfl) (o_vl rfl rfl (v_nilCheck rfl) (o_vl rfl rfl (v_field (k := 8) rfl rfl rfl) (o_vl rfl rfl (v_load rfl rfl (rfc (r := r1) 8 (by first | exact List.mem_cons_self .. | simp [RfH]) rfl)) (o_call rfl rfl rfl rfl (c_call callable32 rfl) (rl_Voters _ _ a r1 Fr hr1ok) ?_)))))))))
            rintro v' F H' ⟨rfl, rfl, rfl⟩ _
            refine o_vl rfl rfl (v_move rfl) (o_vl rfl rfl (v_extract rfl rfl) (o_vl rfl rfl (v_extract rfl rfl) (o_vl rfl rfl (v_assign rfl) (o_vl rfl rfl (v_assign rfl) (o_end (r_seq (r_region rfl (o_vl rfl rfl (v_move rfl) (o_vl rfl rfl (v_move rfl) (o_vl rfl rfl (v_leq rfl rfl) (o_end (r_if rfl (fun h7 => ?_) (fun h7 => ?_)))))))))))))
            · rw [if_pos (by omega)] at hfin
              obtain ⟨r2, hr2⟩ : ∃ r2 : Rf, r2 = { r1 with p := { r1.p with role := 0, lead := -1 } } := ⟨_, rfl⟩
              have hr2ok : r2.ok F := by rw [hr2]; exact hr1ok.set _ { hr1ok.B with role := by simp, l1 := by simp, l2 := by simp } rfl rfl rfl rfl
              refine r_seq (r_region rfl (o_vl rfl rfl (v_move rfl) (o_vl rfl rfl (v_move rfl) (o_vl rfl rfl (v_nilCheck rfl) (o_vl rfl rfl (v_field (k := 6) rfl rfl rfl) ?_)))))
              refine j_heap (H' := RfE a r1 :: RfT r1 Fr) rfl ?_
              refine o_act0 rfl rfl rfl (a_rf { r1 with p := { r1.p with role := 0 } } rfl rfl rfl rfl (Nat.le_of_ble_eq_true rfl) rfl) ?_
              refine o_vl rfl rfl (v_nilCheck rfl) (o_vl rfl rfl (v_field (k := 7) rfl rfl rfl) (o_act0 rfl rfl rfl (a_rf r2 rfl rfl rfl rfl (Nat.le_of_ble_eq_true rfl) (by rw [hr2]; rfl)) ?_))
              refine o_end (r_region rfl (o_vl rfl rfl (v_move rfl) (o_call rfl rfl rfl rfl (c_call callable51 rfl) (r_rest _ _ a r2 _ hr2ok.B.me hr2ok.dr) ?_)))
              rintro v' F H' ⟨rfl, rfl, rfl⟩ _
              refine j_heap (H' := RfH a { r2 with p := r2.p.rest, fb := ownB r2.p.me } Fr) (by rw [hr2]; rfl) ?_
              refine o_end ?_
              exact r_ret0 Tryz.func69 rfl ⟨⟨rfl, rfl, _, rest_ok hr2ok, by rw [hfin, hr2], rfl⟩, Fz.le_refl _⟩
            · rw [if_neg (by omega)] at hfin
              refine r_skip ?_
              exact r_ret0 Tryz.func69 rfl ⟨⟨rfl, rfl, r1, hr1ok, hfin.symm, rfl⟩, Fz.le_refl _⟩
  · have he : r.p.adv n = r.p := by
      cases n with
      | zero => rfl
      | succ m =>
        show (if m + 1 ≤ r.p.cm then r.p else _) = r.p
        rw [if_pos (by omega)]
    refine r_exit rfl ?_
    exact r_fall0 Tryz.func69 rfl ⟨⟨rfl, rfl, r, hr, by rw [hadv, he], rfl⟩, Fz.le_refl _⟩
def PR.stable1 (p : PR) : PR := if p.role = 3 then ({ p with st := p.last } : PR).advance else { p with st := p.last }
def PR.stable (p : PR) : PR := { p.stable1 with out := [] }
theorem r_Stable (O : World) (F : Fz) (a : Nat) (r : Rf) (Fr : List Ent) (hr : r.ok F) :
    Does Tryz.prog O 42 #[ptrV a] F (RfH a r Fr) (fun v F' H' => ∃ (r' : Rf) (ms : List Mg), r'.ok F' ∧ r'.p = r.p.stable ∧ ms.map Mg.p = r.p.stable1.out ∧ (∀ m ∈ ms, m.ok F') ∧ Sl F' [] 13 v ms.length (mgV ms) ∧ H' = RfH a r' Fr) := by
  refine does_of_run (args := [_]) Tryz.func42 rfl rfl ?_
  have hla := hr.B.last
  have hll : r.p.last = r.p.lix + r.p.l.length := rfl
  obtain ⟨r1, hr1⟩ : ∃ r1 : Rf, r1 = { r with p := { r.p with st := r.p.last } } := ⟨_, rfl⟩
  have hr1ok : r1.ok F := by rw [hr1]; exact hr.set _ { hr.B with st := by dsimp only; omega } rfl rfl rfl rfl
  have h1r : r1.p.role = r.p.role := by rw [hr1]
  have hp1 : r.p.stable1 = if r.p.role = 3 then r1.p.advance else r1.p := by rw [hr1]; rfl
  refine r_seq (r_region rfl (o_vl rfl rfl (v_assign rfl) (o_end (r_seq (r_seq (r_region rfl (o_vl rfl rfl (v_move rfl) (o_vl rfl rfl (v_peqnil rfl rfl rfl) (o_end (r_false rfl (r_skip (r_seq (r_region rfl ?_)))))))))))))
  refine o_vl rfl rfl (v_move rfl) (o_vl rfl rfl (v_move rfl) (o_vl rfl rfl (v_nilCheck rfl) (o_vl rfl rfl (v_field (k := 8) rfl rfl rfl) (o_vl rfl rfl (v_load rfl rfl (rfc (r := r) 8 (by first | exact List.mem_cons_self .. | simp [RfH]) rfl)) (o_call rfl rfl rfl rfl (c_call callable45 rfl) (rl_Last _ _ a r Fr hr) ?_)))))
  rintro v' F H' ⟨rfl, rfl, rfl⟩ _
  refine o_vl rfl rfl (v_nilCheck rfl) (o_vl rfl rfl (v_field (k := 10) rfl rfl rfl) ?_)
  refine j_heap (H' := RfE a r :: RfT r Fr) rfl ?_
  refine o_act0 rfl rfl rfl (a_rf r1 rfl rfl rfl rfl (Nat.le_of_ble_eq_true rfl) (by rw [hr1]; rfl)) ?_
  refine j_heap (H' := RfH a r1 Fr) (by rw [hr1]; rfl) ?_
  refine o_end (r_seq ?_)
  refine r_join (fun q : Rf => q.ok F ∧ q.p = r.p.stable1) (fun _ => [(0, ptrV a)]) (fun _ => F) (fun q => RfH a q Fr) ?_ ?_
  · intro J
    refine r_seq (r_region rfl (o_vl rfl rfl (v_move rfl) (o_vl rfl rfl (v_nilCheck rfl) (o_vl rfl rfl (v_field (k := 6) rfl rfl rfl) (o_vl rfl rfl (v_load rfl rfl (rfc (r := r1) 6 (by first | exact List.mem_cons_self .. | simp [RfH]) rfl)) (o_vl rfl rfl (v_eql rfl rfl) (o_end (r_if rfl (fun h => ?_) (fun h => ?_)))))))))
    · rw [if_pos (by omega)] at hp1
      refine r_region rfl (o_vl rfl rfl (v_move rfl) (o_call rfl rfl rfl rfl (c_call callable69 rfl) (r_advance _ _ a r1 Fr hr1ok) ?_))
      rintro v' F H' ⟨rfl, rfl, q, hq, hqp, rfl⟩ _
      refine o_end ?_
      refine j_keep ?_ (J q ⟨hq, hqp.trans hp1.symm⟩)
      exact ⟨rfl, trivial⟩
    · rw [if_neg (by omega)] at hp1
      refine r_skip ?_
      refine j_keep ?_ (J r1 ⟨hr1ok, hp1.symm⟩)
      exact ⟨rfl, trivial⟩
  · rintro q ⟨hq, hqp⟩
    obtain ⟨q1, hq1⟩ : ∃ q1 : Rf, q1 = { q with p := { q.p with out := [] }, obf := .nil, out := [] } := ⟨_, rfl⟩
    have hq1ok : ∀ F', F.le F' → q1.ok F' := fun F' hle => by
      have h := hq.frz hle
      rw [hq1]
      exact ⟨{ h.B with out := by simp, ol := by simp }, h.l, h.lok, h.lbf, rfl, by simp, rfl, h.sd, h.dr⟩
    refine r_seq (r_region rfl (o_vl rfl rfl (v_move rfl) (o_vl rfl rfl (v_nilCheck rfl) (o_vl rfl rfl (v_field (k := 28) rfl rfl rfl) (o_vl rfl rfl (v_load rfl rfl (rfc (r := q) 28 (by first | exact List.mem_cons_self .. | simp [RfH]) rfl)) (o_vl rfl rfl (v_assign rfl) (o_end (r_seq (r_region rfl (o_vl rfl rfl (v_move rfl) (o_vl rfl rfl (v_nilCheck rfl) (o_vl rfl rfl (v_field (k := 28) rfl rfl rfl) ?_))))))))))))
    refine j_heap (H' := RfE a q :: (RfL q ++ (q.obf.ents 13 (mgV q.out) ++ Fr))) rfl ?_
    refine o_act0 rfl rfl rfl (a_rf q1 rfl rfl rfl rfl (Nat.le_of_ble_eq_true rfl) (by rw [hq1]; rfl)) ?_
    refine j_sel (H' := q.obf.ents 13 (mgV q.out) ++ (RfE a q1 :: (RfL q ++ (Fr)))) [[RfE a q1], RfL q, q.obf.ents 13 (mgV q.out), Fr] [2, 0, 1, 3] rfl rfl rfl ?_
    refine j_freezeBf hq.obf (vec_len Mg.cl q.out) fun F2 hF2 hs2 => ?_
    refine j_heap (H' := RfH a q1 Fr) (by rw [hq1]; rfl) ?_
    refine o_end (r_seq (r_region rfl (o_vl rfl rfl (v_move rfl) (o_vl rfl rfl (v_assign rfl) (o_end ?_)))))
    exact r_ret1 Tryz.func42 rfl rfl ⟨⟨q1, q.out, hq1ok F2 hF2, by rw [hq1]; show ({ q.p with out := [] } : PR) = _; rw [hqp]; rfl, by rw [hq.out, hqp], fun m hm => (hq.outok m hm).frz hF2, hs2, rfl⟩, hF2⟩
end Go.SX
