/- Contracts and plain laws, laid together. -/
import Derived.Calls
import Derived.Orders
import Derived.OrdersHeld
import Derived.Tactics
import Derived.OwnWalk
import Derived.Laws.Small
import Derived.Laws.Strings
import Derived.Laws.Pointers
import Derived.Laws.CopyRow
import Derived.Laws.Append
import Derived.Laws.AppendOwn
import Derived.Laws.BytesArg
import Derived.Laws.Slices
import Derived.Laws.MakeOwn
import Derived.Laws.Tables
import Derived.Great.BuildSlice
import Derived.Laws.Cover3
import Derived.Laws.Concat
import Derived.Test.YtbciniijhlaomaaGreatProg
import Derived.Below
import Derived.SizedLaws
import Derived.ChangeSlices
import Derived.ChangeOld
import Derived.Laws.StructEq
import Derived.Deep.Matrix
import Derived.Deep.SlicePairs
import Derived.Deep.Grids
import Derived.MapKept
import Derived.Carry
import Derived.WideLaws
import Derived.Laws.Externs
import Derived.Laws.FloatArith
import Derived.Test.YtbciniijhlaomaaGreatMe1
namespace Go.SX
open Go Go.Proofs
set_option maxRecDepth 4000
structure En where
  ix : Nat
  tm : Nat
  kd : Nat
  dv : Value
  data : List UInt8
def En.cells (e : En) : List Value := [.int .u64 e.ix, .int .u64 e.tm, .int .u8 e.kd, e.dv]
abbrev enV (l : List En) : List Value := l.flatMap En.cells
structure En.ok (F : Fz) (e : En) : Prop where
  ix : e.ix < 18446744073709551616
  tm : e.tm < 18446744073709551616
  kd : e.kd < 256
  dv : SlB F [] e.dv e.data
  len : e.data.length ≤ 1048576
theorem En.cl (e : En) : e.cells.length = 4 := rfl
theorem En.ok.frz {F F' : Fz} {e : En} (h : e.ok F) (hF : F.le F') : e.ok F' := ⟨h.ix, h.tm, h.kd, h.dv.frz hF, h.len⟩
theorem En.ok.one {F : Fz} {e : En} (h : e.ok F) : e.cells.all oneCellB = true := by
  obtain ⟨a, c, hd, _⟩ := Sl.shape h.dv
  simp [En.cells, hd, oneCellB]
theorem en_len (l : List En) : (enV l).length = l.length * 4 := vec_len (c := En.cells) En.cl l
theorem sl_lit {F : Fz} {H : List Ent} {b : Nat} {e : En} (hm : Ent.mem b e.cells 4 ∈ H) : Sl F H 4 (.slice (some ⟨b, 0, none⟩) 1 1) 1 (enV [e]) :=
  ⟨_, 1, rfl, by simp [enV, En.cells], Nat.le_refl _, by simp, fun j c hj => ⟨b, 0, rfl, cell_own (cs := e.cells) (n := 4) hm (by simpa [enV] using hj)⟩⟩
theorem sl_cells {F : Fz} {H : List Ent} {v : Value} {l : List En} {i : Nat} (hv : Sl F H 4 v l.length (enV l)) (hi : i < l.length) :
    ∃ b off cap, v = .slice (some ⟨b, off, none⟩) l.length cap ∧ ∀ j c, l[i].cells[j]? = some c → Cell F H b (off + i * 4 + j) c := by
  obtain ⟨b, off, cap, hab, _, hcell⟩ := Sl.view hv (by omega)
  refine ⟨b, off, cap, hab, fun j c hj => ?_⟩
  have hj4 : j < 4 := by
    rcases Nat.lt_or_ge j 4 with h | h
    · exact h
    · rw [List.getElem?_eq_none (by simp [En.cells]; exact h)] at hj; cases hj
  have := hcell (i * 4 + j) c (by rw [vec_get (c := En.cells) En.cl l i hi j hj4]; exact hj)
  rw [← Nat.add_assoc] at this
  exact this
def recB (k : Nat) (p : List UInt8) : List UInt8 := sealB (leB 4 p.length ++ leB 1 k ++ p)
@[simp] theorem recB_length (k : Nat) (p : List UInt8) : (recB k p).length = p.length + 9 := by simp [recB]; omega
def hardP (t w : Nat) : List UInt8 := leB 8 t ++ leB 2 w
@[simp] theorem hardP_length (t w : Nat) : (hardP t w).length = 10 := by simp [hardP]
def entP (ix tm kd : Nat) (d : List UInt8) : List UInt8 := leB 8 ix ++ leB 8 tm ++ leB 1 kd ++ lenB d
@[simp] theorem entP_length (ix tm kd : Nat) (d : List UInt8) : (entP ix tm kd d).length = 21 + d.length := by simp [entP, lenB]; omega
def snapP (ix tm vt : Nat) (d : List UInt8) : List UInt8 := leB 8 ix ++ leB 8 tm ++ leB 8 vt ++ lenB d
@[simp] theorem snapP_length (ix tm vt : Nat) (d : List UInt8) : (snapP ix tm vt d).length = 28 + d.length := by simp [snapP, lenB]; omega
structure PE where
  ix : Nat
  tm : Nat
  kd : Nat
  data : List UInt8
def En.pure (e : En) : PE := ⟨e.ix, e.tm, e.kd, e.data⟩
def PE.bs (e : PE) : List UInt8 := recB 2 (entP e.ix e.tm e.kd e.data)
abbrev entsB (l : List PE) : List UInt8 := l.flatMap PE.bs
theorem entsB_le {F : Fz} : ∀ l : List En, (∀ e ∈ l, e.ok F) → (entsB (l.map En.pure)).length ≤ l.length * 1048700
  | [], _ => by simp
  | e :: r, h => by
    have h1 := entsB_le r fun x hx => h x (List.mem_cons_of_mem _ hx)
    have h2 := (h e (List.mem_cons_self ..)).len
    have h3 : (PE.bs e.pure).length = e.data.length + 30 := by simp [PE.bs, En.pure]; omega
    simp only [List.map_cons, entsB, List.flatMap_cons, List.length_append, List.length_cons] at h1 ⊢
    omega
def hdrB (h : Bool) (t : Nat) (vo : Int) : List UInt8 := if h = true then recB 1 (hardP t (vo + 1).toNat) else []
def saveB (h : Bool) (t : Nat) (vo : Int) (l : List PE) : List UInt8 := hdrB h t vo ++ entsB l
theorem hdrB_le (h : Bool) (t : Nat) (vo : Int) : (hdrB h t vo).length ≤ 19 := by unfold hdrB; split <;> simp
theorem cells_of {F : Fz} {H : List Ent} {j b N : Nat} {cs : List Value} (off : Nat) (sub : List Value) (hm : H[j]? = some (.mem b cs N)) (hs : (cs.drop off).take sub.length = sub) : ∀ i c, sub[i]? = some c → Cell F H b (off + i) c := fun i c hc => by
  refine cell_at hm ?_
  have hi : i < sub.length := by
    rcases Nat.lt_or_ge i sub.length with h | h
    · exact h
    · rw [List.getElem?_eq_none h] at hc; cases hc
  rw [← hs, List.getElem?_take, if_pos hi, List.getElem?_drop] at hc
  exact hc
theorem bf_reads {F : Fz} {bf : Bf} {l : List UInt8} {H : List Ent} (h : bf.ok l.length) (hH : bf.ents 1 (bytesV l) ⊆ H) : SlB F H (bf.val l.length) l := Bf.reads (bf := bf) (sz := 1) h (by simp) hH
theorem wal_frame (O : World) (F : Fz) (k : Nat) (v : Value) (p : List UInt8) (Fr : List Ent) (hk : k < 256) (hv : SlB F Fr v p) (hn : p.length ≤ 140737488350000) :
    Does Tryz.prog O 75 #[.int .u8 k, v] F Fr (fun r F' H' => F' = F ∧ ∃ bf : Bf, bf.ok (recB k p).length ∧ r = bf.val (recB k p).length ∧ H' = bf.ents 1 (bytesV (recB k p)) ++ Fr) := by
  obtain ⟨a0, cap, rfl, hcap⟩ := Sl.shape hv
  refine does_of_run (args := [_, _]) Tryz.func75 rfl rfl ?_
  refine r_seq (r_region rfl (o_vl rfl rfl (v_assign rfl) (o_end (r_seq (r_region rfl (o_vl rfl rfl (v_build rfl rfl) (o_act rfl rfl rfl rfl (a_box rfl) ?_)))))))
  rintro v' H' ⟨a, rfl, rfl⟩
  refine j_heap (H' := .mem a [Bf.nil.val ([] : List UInt8).length] 1 :: (Bf.nil.ents 1 (bytesV []) ++ Fr)) rfl ?_
  refine o_vl rfl rfl (v_assign rfl) (o_end (r_seq (r_region rfl (o_vl rfl rfl (v_move rfl) (o_vl rfl rfl (v_move rfl) (o_vl rfl rfl (v_len rfl rfl) (o_vl rfl rfl (v_conv rfl rfl rfl (wrap_u64 (by omega) (by omega))) (o_call rfl rfl rfl rfl (c_call callable96 rfl) (oct_Num _ _ a .nil [] p.length 4 _ rfl (by omega) (by simp)) ?_))))))))
  rintro v' F H' ⟨rfl, rfl, b1, ok1, rfl⟩ _
  refine o_vl rfl rfl (v_move rfl) (o_vl rfl rfl (v_conv rfl rfl rfl (wrap_u64 (by omega) (by omega))) (o_call rfl rfl rfl rfl (c_call callable96 rfl) (oct_Num _ _ a b1 _ k 1 _ ok1 (by omega) (by simp)) ?_))
  rintro v' F H' ⟨rfl, rfl, b2, ok2, rfl⟩ _
  refine o_end (r_seq (r_region rfl (o_vl rfl rfl (v_move rfl) (o_call rfl rfl rfl rfl (c_call callable98 rfl) (oct_Done _ _ _ _ _) ?_))))
  rintro v' F H' ⟨rfl, rfl, rfl⟩ _
  simp only [List.nil_append] at ok2 ⊢
  refine o_vl rfl rfl (v_move rfl) (o_act rfl rfl rfl rfl (a_appendP (bf := b2) (sz := 1) (bytes := 1) (m := p.length) [_] ⟨⟨_, _, _, rfl, rfl, rfl, rfl, rfl, rfl⟩, by decide⟩ rfl ok2 (by simp) rfl rfl (hv.mono (Fz.le_refl _) (by intro q hq; simp [hq])) (bytes_one p) (by unfold maxLen; simp; omega) (by simp; omega)) ?_)
  rintro v' H' ⟨b3, rfl, ok3, rfl⟩
  rw [← bytesV_append, ← List.length_append] at *
  refine j_drop (H' := b3.ents 1 (bytesV (leB 4 p.length ++ leB 1 k ++ p)) ++ Fr) (List.sublist_cons_self _ _) ?_
  refine o_call rfl rfl rfl rfl (c_call callable97 rfl) (oct_Seal _ _ _ (leB 4 p.length ++ leB 1 k ++ p) _ (bf_reads ok3 (by intro q hq; exact List.mem_append_left _ hq)) (by simp; omega)) ?_
  rintro v' F H' ⟨rfl, b4, ok4, rfl, rfl⟩ _
  refine j_sel (H' := b4.ents 1 (bytesV (recB k p)) ++ (Fr)) [b4.ents 1 (bytesV (recB k p)), b3.ents 1 (bytesV (leB 4 p.length ++ leB 1 k ++ p)), Fr] [0, 2] rfl rfl rfl ?_
  refine o_vl rfl rfl (v_assign rfl) (o_end ?_)
  exact r_ret1 Tryz.func75 rfl rfl ⟨⟨rfl, b4, ok4, rfl, rfl⟩, Fz.le_refl _⟩
theorem wal_hard (O : World) (F : Fz) (t : Nat) (vo : Int) (Fr : List Ent) (h1 : -1 ≤ vo) (h2 : vo < 65535) :
    Does Tryz.prog O 100 #[.agg #[.int .u64 t, .int .i64 vo]] F Fr (fun r F' H' => F' = F ∧ ∃ bf : Bf, bf.ok 10 ∧ r = bf.val 10 ∧ H' = bf.ents 1 (bytesV (hardP t (vo + 1).toNat)) ++ Fr) := by
  obtain ⟨w, hw⟩ := Int.eq_ofNat_of_zero_le (show 0 ≤ vo + 1 by omega)
  refine does_of_run (args := [_]) Tryz.func100 rfl rfl ?_
  refine r_seq (r_region rfl (o_act rfl rfl rfl rfl (a_box rfl) ?_))
  rintro v' H' ⟨s0, rfl, rfl⟩
  refine o_vl rfl rfl (v_assign rfl) (o_end (r_seq (r_region rfl (o_vl rfl rfl (v_build rfl rfl) (o_act rfl rfl rfl rfl (a_box rfl) ?_)))))
  rintro v' H' ⟨a, rfl, rfl⟩
  refine j_heap (H' := .mem a [Bf.nil.val ([] : List UInt8).length] 1 :: (Bf.nil.ents 1 (bytesV []) ++ .mem s0 [.int .u64 t, .int .i64 vo] 2 :: Fr)) rfl ?_
  refine o_vl rfl rfl (v_assign rfl) (o_end (r_seq (d_region 1000000 rfl ([.mem s0 [.int .u64 t, .int .i64 vo] 2]) ?_)))
  refine d_tk (i := 0) rfl rfl (by intro e he; simp only [List.mem_cons, List.not_mem_nil, or_false] at he; subst he; simp) (v_move rfl) (d_tk (i := 1) rfl rfl (by intro e he; simp only [List.mem_cons, List.not_mem_nil, or_false] at he; subst he; simp) (v_field (k := 0) rfl rfl rfl) (d_tk (i := 2) rfl rfl (by intro e he; simp only [List.mem_cons, List.not_mem_nil, or_false] at he; subst he; simp) (v_load (v := .int .u64 t) rfl rfl (cell_at (j := 0) rfl rfl)) (d_tk (i := 4) rfl rfl (by intro e he; simp only [List.mem_cons, List.not_mem_nil, or_false] at he; subst he; simp) (v_field (k := 1) rfl rfl rfl) (d_tk (i := 5) rfl rfl (by intro e he; simp only [List.mem_cons, List.not_mem_nil, or_false] at he; subst he; simp) (v_load (v := .int .i64 vo) rfl rfl (cell_at (j := 0) rfl rfl)) (d_tk (i := 6) rfl rfl (by intro e he; simp only [List.mem_cons, List.not_mem_nil, or_false] at he; subst he; simp) (v_add rfl rfl (r := (w : Int)) ((wrap_i64 (by omega) (by omega)).trans (by omega))) (d_tk (i := 7) rfl rfl (by intro e he; simp only [List.mem_cons, List.not_mem_nil, or_false] at he; subst he; simp) (v_conv rfl rfl rfl (wrap_u64 (by omega) (by omega))) (d_one (i := 3) (by decide +kernel) (d1_call rfl rfl rfl rfl (c_call callable96 rfl) (oct_Num _ _ a .nil [] t 8 _ rfl (by omega) (by simp)) ?_))))))))
  rintro v' F H' ⟨rfl, rfl, b1, ok1, rfl⟩ _
  refine ⟨fun w hw => held_of hw (by first | exact Fz.le_refl _ | assumption) (by intro e he; simp only [List.mem_cons, List.not_mem_nil, or_false] at he; subst he; simp), ?_⟩
  refine d_one (i := 8) (by decide +kernel) (d1_call rfl rfl rfl rfl (c_call callable96 rfl) (oct_Num _ _ a b1 _ w 2 _ ok1 (by omega) (by simp)) ?_)
  rintro v' F H' ⟨rfl, rfl, b2, ok2, rfl⟩ _
  refine ⟨fun w hw => held_of hw (by first | exact Fz.le_refl _ | assumption) (by intro e he; simp only [List.mem_cons, List.not_mem_nil, or_false] at he; subst he; simp), ?_⟩
  refine d_one (i := 9) (by decide +kernel) (d1_call rfl rfl rfl rfl (c_call callable98 rfl) (oct_Done _ _ _ _ _) ?_)
  rintro v' F H' ⟨rfl, rfl, rfl⟩ _
  refine ⟨fun w hw => held_of hw (by first | exact Fz.le_refl _ | assumption) (by intro e he; simp only [List.mem_cons, List.not_mem_nil, or_false] at he; subst he; simp), ?_⟩
  simp only [List.nil_append] at ok2 ⊢
  refine d_tk (i := 10) rfl rfl (by intro e he; simp only [List.mem_cons, List.not_mem_nil, or_false] at he; subst he; simp) (v_assign rfl) (d_end (by decide +kernel) ?_)
  refine j_sel (H' := b2.ents 1 (bytesV (leB 8 t ++ leB 2 w)) ++ (Fr)) [[Ent.mem a [b2.val (leB 8 t ++ leB 2 w).length] 1], b2.ents 1 (bytesV (leB 8 t ++ leB 2 w)), [Ent.mem s0 [.int .u64 t, .int .i64 vo] 2], Fr] [1, 3] rfl rfl rfl ?_
  rw [hw]
  exact r_ret1 Tryz.func100 rfl rfl ⟨⟨rfl, b2, by simpa using ok2, by simp, rfl⟩, Fz.le_refl _⟩
theorem wal_entry (O : World) (F : Fz) (e : En) (Fr : List Ent) (he : e.ok F) :
    Does Tryz.prog O 101 #[.agg e.cells.toArray] F Fr (fun r F' H' => F' = F ∧ ∃ bf : Bf, bf.ok (entP e.ix e.tm e.kd e.data).length ∧ r = bf.val (entP e.ix e.tm e.kd e.data).length ∧ H' = bf.ents 1 (bytesV (entP e.ix e.tm e.kd e.data)) ++ Fr) := by
  obtain ⟨h1, h2, h3, h4, h5⟩ := he
  obtain ⟨ix, tm, kd, dv, data⟩ := e
  dsimp only at *
  refine does_of_run (args := [_]) Tryz.func101 rfl rfl ?_
  refine r_seq (r_region rfl (o_act rfl rfl rfl rfl (a_box rfl) ?_))
  rintro v' H' ⟨s0, rfl, rfl⟩
  refine o_vl rfl rfl (v_assign rfl) (o_end (r_seq (r_region rfl (o_vl rfl rfl (v_build rfl rfl) (o_act rfl rfl rfl rfl (a_box rfl) ?_)))))
  rintro v' H' ⟨a, rfl, rfl⟩
  refine j_heap (H' := .mem a [Bf.nil.val ([] : List UInt8).length] 1 :: (Bf.nil.ents 1 (bytesV []) ++ .mem s0 [.int .u64 ix, .int .u64 tm, .int .u8 kd, dv] 4 :: Fr)) rfl ?_
  refine o_vl rfl rfl (v_assign rfl) (o_end (r_seq (d_region 1000000 rfl ([.mem s0 [.int .u64 ix, .int .u64 tm, .int .u8 kd, dv] 4]) ?_)))
  refine d_tk (i := 0) rfl rfl (by intro e he; simp only [List.mem_cons, List.not_mem_nil, or_false] at he; subst he; simp) (v_move rfl) (d_tk (i := 1) rfl rfl (by intro e he; simp only [List.mem_cons, List.not_mem_nil, or_false] at he; subst he; simp) (v_field (k := 0) rfl rfl rfl) (d_tk (i := 2) rfl rfl (by intro e he; simp only [List.mem_cons, List.not_mem_nil, or_false] at he; subst he; simp) (v_load (v := .int .u64 ix) rfl rfl (cell_at (j := 0) rfl rfl)) (d_tk (i := 4) rfl rfl (by intro e he; simp only [List.mem_cons, List.not_mem_nil, or_false] at he; subst he; simp) (v_field (k := 1) rfl rfl rfl) (d_tk (i := 5) rfl rfl (by intro e he; simp only [List.mem_cons, List.not_mem_nil, or_false] at he; subst he; simp) (v_load (v := .int .u64 tm) rfl rfl (cell_at (j := 0) rfl rfl)) (d_tk (i := 7) rfl rfl (by intro e he; simp only [List.mem_cons, List.not_mem_nil, or_false] at he; subst he; simp) (v_field (k := 2) rfl rfl rfl) (d_tk (i := 8) rfl rfl (by intro e he; simp only [List.mem_cons, List.not_mem_nil, or_false] at he; subst he; simp) (v_load (v := .int .u8 kd) rfl rfl (cell_at (j := 0) rfl rfl)) (d_tk (i := 9) rfl rfl (by intro e he; simp only [List.mem_cons, List.not_mem_nil, or_false] at he; subst he; simp) (v_conv rfl rfl rfl (wrap_u64 (by omega) (by omega))) (d_tk (i := 11) rfl rfl (by intro e he; simp only [List.mem_cons, List.not_mem_nil, or_false] at he; subst he; simp) (v_field (k := 3) rfl rfl rfl) (d_tk (i := 12) rfl rfl (by intro e he; simp only [List.mem_cons, List.not_mem_nil, or_false] at he; subst he; simp) (v_load (v := dv) rfl rfl (cell_at (j := 0) rfl rfl)) (d_one (i := 3) (by decide +kernel) (d1_call rfl rfl rfl rfl (c_call callable96 rfl) (oct_Num _ _ a .nil [] ix 8 _ rfl (by omega) (by simp)) ?_)))))))))))
  rintro v' F H' ⟨rfl, rfl, b1, ok1, rfl⟩ _
  refine ⟨fun w hw => held_of hw (by first | exact Fz.le_refl _ | assumption) (by intro e he; simp only [List.mem_cons, List.not_mem_nil, or_false] at he; subst he; simp), ?_⟩
  refine d_one (i := 6) (by decide +kernel) (d1_call rfl rfl rfl rfl (c_call callable96 rfl) (oct_Num _ _ a b1 _ tm 8 _ ok1 (by omega) (by simp)) ?_)
  rintro v' F H' ⟨rfl, rfl, b2, ok2, rfl⟩ _
  refine ⟨fun w hw => held_of hw (by first | exact Fz.le_refl _ | assumption) (by intro e he; simp only [List.mem_cons, List.not_mem_nil, or_false] at he; subst he; simp), ?_⟩
  refine d_one (i := 10) (by decide +kernel) (d1_call rfl rfl rfl rfl (c_call callable96 rfl) (oct_Num _ _ a b2 _ kd 1 _ ok2 (by omega) (by simp)) ?_)
  rintro v' F H' ⟨rfl, rfl, b3, ok3, rfl⟩ _
  refine ⟨fun w hw => held_of hw (by first | exact Fz.le_refl _ | assumption) (by intro e he; simp only [List.mem_cons, List.not_mem_nil, or_false] at he; subst he; simp), ?_⟩
  refine d_one (i := 13) (by decide +kernel) (d1_call rfl rfl rfl rfl (c_call callable99 rfl) (oct_WBytes _ _ a b3 _ data dv _ ok3 (h4.frz (Fz.le_refl _)) (by simp; omega)) ?_)
  rintro v' F H' ⟨rfl, rfl, b4, ok4, rfl⟩ _
  refine ⟨fun w hw => held_of hw (by first | exact Fz.le_refl _ | assumption) (by intro e he; simp only [List.mem_cons, List.not_mem_nil, or_false] at he; subst he; simp), ?_⟩
  refine d_one (i := 14) (by decide +kernel) (d1_call rfl rfl rfl rfl (c_call callable98 rfl) (oct_Done _ _ _ _ _) ?_)
  rintro v' F H' ⟨rfl, rfl, rfl⟩ _
  refine ⟨fun w hw => held_of hw (by first | exact Fz.le_refl _ | assumption) (by intro e he; simp only [List.mem_cons, List.not_mem_nil, or_false] at he; subst he; simp), ?_⟩
  simp only [List.nil_append] at ok4 ⊢
  refine d_tk (i := 15) rfl rfl (by intro e he; simp only [List.mem_cons, List.not_mem_nil, or_false] at he; subst he; simp) (v_assign rfl) (d_end (by decide +kernel) ?_)
  have e4 : leB 8 ix ++ leB 8 tm ++ leB 1 kd ++ lenB data = entP ix tm kd data := rfl
  rw [e4] at ok4 ⊢
  refine j_sel (H' := b4.ents 1 (bytesV (entP ix tm kd data)) ++ (Fr)) [[Ent.mem a [b4.val (entP ix tm kd data).length] 1], b4.ents 1 (bytesV (entP ix tm kd data)), [Ent.mem s0 [.int .u64 ix, .int .u64 tm, .int .u8 kd, dv] 4], Fr] [1, 3] rfl rfl rfl ?_
  exact r_ret1 Tryz.func101 rfl rfl ⟨⟨rfl, b4, ok4, rfl, rfl⟩, Fz.le_refl _⟩
theorem wal_snap (O : World) (F : Fz) (ix tm vt : Nat) (dv : Value) (data : List UInt8) (Fr : List Ent) (hd : SlB F [] dv data) (hl : data.length ≤ 140737488350000) :
    Does Tryz.prog O 76 #[.agg #[.int .u64 ix, .int .u64 tm, .int .u64 vt, dv]] F Fr (fun r F' H' => F' = F ∧ ∃ bf : Bf, bf.ok (snapP ix tm vt data).length ∧ r = bf.val (snapP ix tm vt data).length ∧ H' = bf.ents 1 (bytesV (snapP ix tm vt data)) ++ Fr) := by
  refine does_of_run (args := [_]) Tryz.func76 rfl rfl ?_
  refine r_seq (r_region rfl (o_act rfl rfl rfl rfl (a_box rfl) ?_))
  rintro v' H' ⟨s0, rfl, rfl⟩
  refine o_vl rfl rfl (v_assign rfl) (o_end (r_seq (r_region rfl (o_vl rfl rfl (v_build rfl rfl) (o_act rfl rfl rfl rfl (a_box rfl) ?_)))))
  rintro v' H' ⟨a, rfl, rfl⟩
  refine j_heap (H' := .mem a [Bf.nil.val ([] : List UInt8).length] 1 :: (Bf.nil.ents 1 (bytesV []) ++ .mem s0 [.int .u64 ix, .int .u64 tm, .int .u64 vt, dv] 4 :: Fr)) rfl ?_
  refine o_vl rfl rfl (v_assign rfl) (o_end (r_seq (d_region 1000000 rfl ([.mem s0 [.int .u64 ix, .int .u64 tm, .int .u64 vt, dv] 4]) ?_)))
  refine d_tk (i := 0) rfl rfl (by intro e he; simp only [List.mem_cons, List.not_mem_nil, or_false] at he; subst he; simp) (v_move rfl) (d_tk (i := 1) rfl rfl (by intro e he; simp only [List.mem_cons, List.not_mem_nil, or_false] at he; subst he; simp) (v_field (k := 0) rfl rfl rfl) (d_tk (i := 2) rfl rfl (by intro e he; simp only [List.mem_cons, List.not_mem_nil, or_false] at he; subst he; simp) (v_load (v := .int .u64 ix) rfl rfl (cell_at (j := 0) rfl rfl)) (d_tk (i := 4) rfl rfl (by intro e he; simp only [List.mem_cons, List.not_mem_nil, or_false] at he; subst he; simp) (v_field (k := 1) rfl rfl rfl) (d_tk (i := 5) rfl rfl (by intro e he; simp only [List.mem_cons, List.not_mem_nil, or_false] at he; subst he; simp) (v_load (v := .int .u64 tm) rfl rfl (cell_at (j := 0) rfl rfl)) (d_tk (i := 7) rfl rfl (by intro e he; simp only [List.mem_cons, List.not_mem_nil, or_false] at he; subst he; simp) (v_field (k := 2) rfl rfl rfl) (d_tk (i := 8) rfl rfl (by intro e he; simp only [List.mem_cons, List.not_mem_nil, or_false] at he; subst he; simp) (v_load (v := .int .u64 vt) rfl rfl (cell_at (j := 0) rfl rfl)) (d_tk (i := 10) rfl rfl (by intro e he; simp only [List.mem_cons, List.not_mem_nil, or_false] at he; subst he; simp) (v_field (k := 3) rfl rfl rfl) (d_tk (i := 11) rfl rfl (by intro e he; simp only [List.mem_cons, List.not_mem_nil, or_false] at he; subst he; simp) (v_load (v := dv) rfl rfl (cell_at (j := 0) rfl rfl)) (d_one (i := 3) (by decide +kernel) (d1_call rfl rfl rfl rfl (c_call callable96 rfl) (oct_Num _ _ a .nil [] ix 8 _ rfl (by omega) (by simp)) ?_))))))))))
  rintro v' F H' ⟨rfl, rfl, b1, ok1, rfl⟩ _
  refine ⟨fun w hw => held_of hw (by first | exact Fz.le_refl _ | assumption) (by intro e he; simp only [List.mem_cons, List.not_mem_nil, or_false] at he; subst he; simp), ?_⟩
  refine d_one (i := 6) (by decide +kernel) (d1_call rfl rfl rfl rfl (c_call callable96 rfl) (oct_Num _ _ a b1 _ tm 8 _ ok1 (by omega) (by simp)) ?_)
  rintro v' F H' ⟨rfl, rfl, b2, ok2, rfl⟩ _
  refine ⟨fun w hw => held_of hw (by first | exact Fz.le_refl _ | assumption) (by intro e he; simp only [List.mem_cons, List.not_mem_nil, or_false] at he; subst he; simp), ?_⟩
  refine d_one (i := 9) (by decide +kernel) (d1_call rfl rfl rfl rfl (c_call callable96 rfl) (oct_Num _ _ a b2 _ vt 8 _ ok2 (by omega) (by simp)) ?_)
  rintro v' F H' ⟨rfl, rfl, b3, ok3, rfl⟩ _
  refine ⟨fun w hw => held_of hw (by first | exact Fz.le_refl _ | assumption) (by intro e he; simp only [List.mem_cons, List.not_mem_nil, or_false] at he; subst he; simp), ?_⟩
  refine d_one (i := 12) (by decide +kernel) (d1_call rfl rfl rfl rfl (c_call callable99 rfl) (oct_WBytes _ _ a b3 _ data dv _ ok3 (hd.frz (Fz.le_refl _)) (by simp; omega)) ?_)
  rintro v' F H' ⟨rfl, rfl, b4, ok4, rfl⟩ _
  refine ⟨fun w hw => held_of hw (by first | exact Fz.le_refl _ | assumption) (by intro e he; simp only [List.mem_cons, List.not_mem_nil, or_false] at he; subst he; simp), ?_⟩
  refine d_one (i := 13) (by decide +kernel) (d1_call rfl rfl rfl rfl (c_call callable98 rfl) (oct_Done _ _ _ _ _) ?_)
  rintro v' F H' ⟨rfl, rfl, rfl⟩ _
  refine ⟨fun w hw => held_of hw (by first | exact Fz.le_refl _ | assumption) (by intro e he; simp only [List.mem_cons, List.not_mem_nil, or_false] at he; subst he; simp), ?_⟩
  simp only [List.nil_append] at ok4 ⊢
  refine d_tk (i := 14) rfl rfl (by intro e he; simp only [List.mem_cons, List.not_mem_nil, or_false] at he; subst he; simp) (v_assign rfl) (d_end (by decide +kernel) ?_)
  have e4 : leB 8 ix ++ leB 8 tm ++ leB 8 vt ++ lenB data = snapP ix tm vt data := rfl
  rw [e4] at ok4 ⊢
  refine j_sel (H' := b4.ents 1 (bytesV (snapP ix tm vt data)) ++ (Fr)) [[Ent.mem a [b4.val (snapP ix tm vt data).length] 1], b4.ents 1 (bytesV (snapP ix tm vt data)), [Ent.mem s0 [.int .u64 ix, .int .u64 tm, .int .u64 vt, dv] 4], Fr] [1, 3] rfl rfl rfl ?_
  exact r_ret1 Tryz.func76 rfl rfl ⟨⟨rfl, b4, ok4, rfl, rfl⟩, Fz.le_refl _⟩
theorem wal_Bytes (O : World) (F : Fz) (h : Bool) (t : Nat) (vo : Int) (lv : Value) (l : List En) (Fr : List Ent) (hv : Sl F Fr 4 lv l.length (enV l)) (hl : ∀ e ∈ l, e.ok F) (hn : l.length ≤ 1000) (h1 : -1 ≤ vo) (h2 : vo < 65535) :
    Does Tryz.prog O 77 #[.agg #[.bool h, .int .u64 t, .int .i64 vo, lv]] F Fr (fun r F' H' => F' = F ∧ ∃ bf : Bf, bf.ok (saveB h t vo (l.map En.pure)).length ∧ r = bf.val (saveB h t vo (l.map En.pure)).length ∧ H' = bf.ents 1 (bytesV (saveB h t vo (l.map En.pure))) ++ Fr) := by
  obtain ⟨a0, cap, rfl, hcap⟩ := Sl.shape hv
  have hle : ∀ i, (entsB ((l.take i).map En.pure)).length ≤ 1048700000 := fun i => by
    have := entsB_le (l.take i) fun e he => hl e (List.mem_of_mem_take he)
    have h3 : (l.take i).length ≤ 1000 := by simp; omega
    have := Nat.mul_le_mul_right 1048700 h3
    omega
  have hhl := hdrB_le h t vo
  refine does_of_run (args := [_]) Tryz.func77 rfl rfl ?_
  refine r_seq (r_region rfl (o_act rfl rfl rfl rfl (a_box rfl) ?_))
  rintro v' H' ⟨s0, rfl, rfl⟩
  refine j_heap (H' := .mem s0 [.bool h, .int .u64 t, .int .i64 vo, .slice a0 l.length cap] 4 :: (Bf.nil.ents 1 (bytesV []) ++ Fr)) rfl ?_
  refine o_vl rfl rfl (v_assign rfl) (o_end (r_seq (r_region rfl (o_vl rfl rfl (v_assign rfl) (o_end (r_seq ?_))))))
  refine r_join (fun bf : Bf => bf.ok (hdrB h t vo).length) (fun bf => [(1, ptrV s0), (3, bf.val (hdrB h t vo).length)]) (fun _ => F) (fun bf => .mem s0 [.bool h, .int .u64 t, .int .i64 vo, .slice a0 l.length cap] 4 :: (bf.ents 1 (bytesV (hdrB h t vo)) ++ Fr)) ?_ ?_
  · intro J
    refine r_seq (r_region rfl (o_vl rfl rfl (v_field (k := 0) rfl rfl rfl) (o_vl rfl rfl (v_load (v := .bool h) rfl rfl (cell_at (j := 0) rfl rfl)) (o_end ?_))))
    cases h with
    | true =>
      refine r_true rfl (r_region rfl (o_vl rfl rfl (v_move rfl) (o_vl rfl rfl (v_field (k := 1) rfl rfl rfl) (o_vl rfl rfl (v_loadAgg (sz := 2) (cs := [.int .u64 t, .int .i64 vo]) rfl rfl rfl rfl (cells_of (j := 0) _ _ rfl rfl)) (o_call rfl rfl rfl rfl (c_call callable100 rfl) (wal_hard _ _ t vo _ h1 h2) ?_)))))
      rintro v' F H' ⟨rfl, b1, ok1, rfl, rfl⟩ _
      have e1 : (hardP t (vo + 1).toNat).length = 10 := by simp
      rw [← e1] at ok1 ⊢
      refine o_call rfl rfl rfl rfl (c_call callable75 rfl) (wal_frame _ _ 1 _ (hardP t (vo + 1).toNat) _ (by decide) (bf_reads ok1 (by intro q hq; exact List.mem_append_left _ hq)) (by simp)) ?_
      rintro v' F H' ⟨rfl, b2, ok2, rfl, rfl⟩ _
      have e2 : hdrB true t vo = recB 1 (hardP t (vo + 1).toNat) := rfl
      rw [← e2] at ok2 ⊢
      refine j_sel (H' := Ent.mem s0 [.bool true, .int .u64 t, .int .i64 vo, .slice a0 l.length cap] 4 :: (b2.ents 1 (bytesV (hdrB true t vo)) ++ (Fr))) [b2.ents 1 (bytesV (hdrB true t vo)), b1.ents 1 (bytesV (hardP t (vo + 1).toNat)), [Ent.mem s0 [.bool true, .int .u64 t, .int .i64 vo, .slice a0 l.length cap] 4], Fr] [2, 0, 3] rfl rfl rfl ?_
      have r2 : SlB F (b2.ents 1 (bytesV (hdrB true t vo)) ++ Fr) (b2.val (hdrB true t vo).length) (hdrB true t vo) := bf_reads ok2 (by intro q hq; exact List.mem_append_left _ hq)
      refine o_act rfl rfl rfl rfl (a_appendP (bf := .nil) (n := 0) (xs := []) (sz := 1) (bytes := 1) (m := (hdrB true t vo).length) (H1 := b2.ents 1 (bytesV (hdrB true t vo)) ++ Fr) [_] ⟨⟨_, _, _, rfl, rfl, rfl, rfl, rfl, rfl⟩, by decide⟩ rfl rfl rfl rfl rfl (r2.mono (Fz.le_refl _) (by intro q hq; exact List.mem_cons_of_mem _ hq)) (bytes_one _) (by unfold maxLen; omega) (by omega)) ?_
      rintro v' H' ⟨b3, rfl, ok3, rfl⟩
      rw [List.nil_append]
      rw [Nat.zero_add] at ok3 ⊢
      refine j_sel (H' := Ent.mem s0 [.bool true, .int .u64 t, .int .i64 vo, .slice a0 l.length cap] 4 :: (b3.ents 1 (bytesV (hdrB true t vo)) ++ (Fr))) [[Ent.mem s0 [.bool true, .int .u64 t, .int .i64 vo, .slice a0 l.length cap] 4], b3.ents 1 (bytesV (hdrB true t vo)), b2.ents 1 (bytesV (hdrB true t vo)), Fr] [0, 1, 3] rfl rfl rfl ?_
      refine o_vl rfl rfl (v_assign rfl) (o_end ?_)
      refine j_keep ?_ (J b3 ok3)
      exact ⟨rfl, rfl, trivial⟩
    | false =>
      refine r_false rfl (r_skip ?_)
      refine j_keep ?_ (J .nil rfl)
      exact ⟨rfl, rfl, trivial⟩
  · rintro bf hbf
    refine r_seq (r_seq (r_region rfl (o_vl rfl rfl (v_field (k := 3) rfl rfl rfl) (o_vl rfl rfl (v_load (v := .slice a0 l.length cap) rfl rfl (cell_at (j := 0) rfl rfl)) (o_vl rfl rfl (v_len rfl rfl) (o_vl rfl rfl (v_move rfl) (o_end (r_block ?_))))))))
    refine j_drop (List.sublist_cons_self _ _) ?_
    have hz : hdrB h t vo ++ entsB ((l.take 0).map En.pure) = hdrB h t vo := by simp
    refine r_loop (fun g : Nat × Bf => g.1 ≤ l.length ∧ g.2.ok (hdrB h t vo ++ entsB ((l.take g.1).map En.pure)).length) (fun g => [(3, g.2.val (hdrB h t vo ++ entsB ((l.take g.1).map En.pure)).length), (15, .slice a0 l.length cap), (16, .int .i64 l.length), (17, .int .i64 g.1)]) (fun _ => F) (fun g => g.2.ents 1 (bytesV (hdrB h t vo ++ entsB ((l.take g.1).map En.pure))) ++ Fr) (fun g => l.length - g.1) (0, bf) ⟨Nat.zero_le _, by dsimp only; rw [hz]; exact hbf⟩ ⟨by dsimp only; rw [hz]; rfl, rfl, rfl, rfl, trivial⟩ rfl (by dsimp only; rw [hz]) ?_
    rintro ⟨i, bg⟩ ⟨hi, hok⟩ IH
    dsimp only at hi hok ⊢
    have hll : (hdrB h t vo ++ entsB ((l.take i).map En.pure)).length ≤ 1048700019 := by
      have := hle i
      simp only [List.length_append]
      omega
    refine r_seq (r_region rfl (o_vl rfl rfl (v_lss rfl rfl) (o_end (r_seq (r_if rfl (fun g => ?_) (fun g => ?_))))))
    · have hil : i < l.length := by omega
      obtain ⟨b0, off0, c0, hab, hc⟩ := sl_cells hv hil
      simp only [Value.slice.injEq] at hab
      obtain ⟨rfl, _, rfl⟩ := hab
      have he := hl l[i] (List.getElem_mem _)
      have htk : hdrB h t vo ++ entsB ((l.take (i + 1)).map En.pure) = (hdrB h t vo ++ entsB ((l.take i).map En.pure)) ++ (PE.bs l[i].pure) := by
        rw [List.take_succ_eq_append_getElem hil]
        simp only [List.map_append, List.map_cons, List.map_nil, entsB, List.flatMap_append, List.flatMap_cons, List.flatMap_nil, List.append_nil, List.append_assoc]
      have hpl : (PE.bs l[i].pure).length = l[i].data.length + 30 := by simp [PE.bs, En.pure]; omega
      have hdl := he.len
      generalize hdrB h t vo ++ entsB ((l.take i).map En.pure) = pre at *
      generalize l[i] = e at *
      refine r_skip (r_seq (r_block (r_seq (r_region rfl (o_vl rfl rfl (v_indexN (sz := 4) rfl rfl rfl rfl hil) (o_vl rfl rfl (v_loadAgg (sz := 4) (cs := e.cells) rfl rfl rfl rfl (fun j c hj => (hc j c hj).mono (Fz.le_refl _) (fun q hq => List.mem_append_right _ hq))) (o_act rfl rfl rfl rfl (a_alloc rfl) ?_)))))))
      rintro v' H' ⟨x, rfl, rfl⟩
      refine o_act0 rfl rfl rfl (a_store (sz := 4) 0 rfl rfl rfl (by obtain ⟨ad, cd, hd, _⟩ := Sl.shape he.dv; simp [Value.cells, En.cells, hd, oneCellB]) rfl rfl (Nat.le_of_ble_eq_true rfl)) ?_
      refine j_heap (H' := .mem x e.cells 4 :: (bg.ents 1 (bytesV pre) ++ Fr)) rfl ?_
      refine o_end (r_region rfl (o_vl rfl rfl (v_move rfl) (o_vl rfl rfl (v_loadAgg (sz := 4) (cs := e.cells) rfl rfl rfl rfl (cells_of (j := 0) _ _ rfl rfl)) (o_call rfl rfl rfl rfl (c_call callable101 rfl) (wal_entry _ _ e _ he) ?_))))
      rintro v' F H' ⟨rfl, b1, ok1, rfl, rfl⟩ _
      refine o_call rfl rfl rfl rfl (c_call callable75 rfl) (wal_frame _ _ 2 _ (entP e.ix e.tm e.kd e.data) _ (by decide) (bf_reads ok1 (by intro q hq; exact List.mem_append_left _ hq)) (by simp; omega)) ?_
      rintro v' F H' ⟨rfl, b2, ok2, rfl, rfl⟩ _
      have e2 : recB 2 (entP e.ix e.tm e.kd e.data) = PE.bs e.pure := rfl
      rw [e2] at ok2 ⊢
      refine j_sel (H' := bg.ents 1 (bytesV pre) ++ (b2.ents 1 (bytesV (PE.bs e.pure)) ++ (Fr))) [b2.ents 1 (bytesV (PE.bs e.pure)), b1.ents 1 (bytesV (entP e.ix e.tm e.kd e.data)), [Ent.mem x e.cells 4], bg.ents 1 (bytesV pre), Fr] [3, 0, 4] rfl rfl rfl ?_
      have r2 : SlB F (b2.ents 1 (bytesV (PE.bs e.pure)) ++ Fr) (b2.val (PE.bs e.pure).length) (PE.bs e.pure) := bf_reads ok2 (by intro q hq; exact List.mem_append_left _ hq)
      refine o_act rfl rfl rfl rfl (a_append (bf := bg) (sz := 1) (bytes := 1) (m := (PE.bs e.pure).length) ⟨⟨_, _, _, rfl, rfl, rfl, rfl, rfl, rfl⟩, by decide⟩ rfl hok (by simp) rfl rfl (r2.mono (Fz.le_refl _) (by intro q hq; exact List.mem_append_right _ hq)) (bytes_one _) (by unfold maxLen; omega) (by omega)) ?_
      rintro v' H' ⟨b3, rfl, ok3, rfl⟩
      rw [← List.length_append, ← htk] at ok3 ⊢
      rw [← bytesV_append, ← htk]
      refine j_sel (H' := b3.ents 1 (bytesV (hdrB h t vo ++ entsB ((l.take (i + 1)).map En.pure))) ++ (Fr)) [b3.ents 1 (bytesV (hdrB h t vo ++ entsB ((l.take (i + 1)).map En.pure))), b2.ents 1 (bytesV (PE.bs e.pure)), Fr] [0, 2] rfl rfl rfl ?_
      refine o_vl rfl rfl (v_assign rfl) (o_end (r_inBlock (r_region rfl (o_vl rfl rfl (v_add rfl rfl (wrap_i64 (by omega) (by omega))) (o_vl rfl rfl (v_move rfl) (o_end ?_))))))
      refine j_keep ?_ (IH (i + 1, b3) ⟨by dsimp only; omega, ok3⟩ (by dsimp only; omega))
      exact ⟨rfl, rfl, rfl, rfl, trivial⟩
    · obtain rfl : i = l.length := by omega
      rw [List.take_length] at hok ⊢
      refine r_exit rfl (r_seq (r_region rfl (o_vl rfl rfl (v_move rfl) (o_vl rfl rfl (v_assign rfl) (o_end ?_)))))
      exact r_ret1 Tryz.func77 rfl rfl ⟨⟨rfl, bg, hok, rfl, rfl⟩, Fz.le_refl _⟩
structure Im where
  term : Nat
  vote : Int
  ix : Nat
  tm : Nat
  vt : Nat
  dv : Value
  data : List UInt8
  lv : Value
  l : List En
def Im.cells (p : Im) : List Value := [.int .u64 p.term, .int .i64 p.vote, .int .u64 p.ix, .int .u64 p.tm, .int .u64 p.vt, p.dv, p.lv]
structure Im.ok (F : Fz) (p : Im) : Prop where
  term : p.term < 18446744073709551616
  vote1 : -1 ≤ p.vote
  vote2 : p.vote < 65535
  ix : p.ix < 18446744073709551616
  tm : p.tm < 18446744073709551616
  vt : p.vt < 18446744073709551616
  dv : SlB F [] p.dv p.data
  dl : p.data.length ≤ 1048576
  lv : Sl F [] 4 p.lv p.l.length (enV p.l)
  l : ∀ e ∈ p.l, e.ok F
theorem Im.ok.frz {F F' : Fz} {p : Im} (h : p.ok F) (hF : F.le F') : p.ok F' := ⟨h.term, h.vote1, h.vote2, h.ix, h.tm, h.vt, h.dv.frz hF, h.dl, h.lv.frz hF, fun e he => (h.l e he).frz hF⟩
theorem Im.ok.one {F : Fz} {p : Im} (h : p.ok F) : p.cells.all oneCellB = true := by
  obtain ⟨a, c, hd, _⟩ := Sl.shape h.dv
  obtain ⟨a', c', hd', _⟩ := Sl.shape h.lv
  simp [Im.cells, hd, hd', oneCellB]
structure PI where
  term : Nat
  vote : Int
  ix : Nat
  tm : Nat
  vt : Nat
  data : List UInt8
  l : List PE
def Im.pure (p : Im) : PI := ⟨p.term, p.vote, p.ix, p.tm, p.vt, p.data, p.l.map En.pure⟩
def snB (ix tm vt : Nat) (data : List UInt8) : List UInt8 := if 0 < ix ∨ vt ≠ 0 then recB 3 (snapP ix tm vt data) else []
def PI.whole (p : PI) : List UInt8 := snB p.ix p.tm p.vt p.data ++ saveB true p.term p.vote p.l
theorem saveB_le {F : Fz} (h : Bool) (t : Nat) (vo : Int) (l : List En) (hl : ∀ e ∈ l, e.ok F) (hn : l.length ≤ 1000) : (saveB h t vo (l.map En.pure)).length ≤ 1048700019 := by
  have h1 := entsB_le l hl
  have h2 := hdrB_le h t vo
  have := Nat.mul_le_mul_right 1048700 hn
  simp only [saveB, List.length_append]
  omega
theorem wal_Whole (O : World) (F : Fz) (p : Im) (Fr : List Ent) (hp : p.ok F) (hn : p.l.length ≤ 1000) :
    Does Tryz.prog O 50 #[.agg p.cells.toArray] F Fr (fun r F' H' => F' = F ∧ ∃ bf : Bf, bf.ok p.pure.whole.length ∧ r = bf.val p.pure.whole.length ∧ H' = bf.ents 1 (bytesV p.pure.whole) ++ Fr) := by
  obtain ⟨q1, q2, q3, q4, q5, q6, hd, hdl, hv, hl⟩ := hp
  obtain ⟨term, vote, ix, tm, vt, dv, data, lv, l⟩ := p
  dsimp only at *
  have hsl := saveB_le true term vote l hl hn
  have hw : (⟨term, vote, ix, tm, vt, dv, data, lv, l⟩ : Im).pure.whole = snB ix tm vt data ++ saveB true term vote (l.map En.pure) := rfl
  rw [hw]
  obtain ⟨a0, cap, rfl, hcap⟩ := Sl.shape hv
  have hsn : (snB ix tm vt data).length ≤ 1048700 := by unfold snB; split <;> simp; omega
  generalize hcs : [Value.int .u64 term, .int .i64 vote, .int .u64 ix, .int .u64 tm, .int .u64 vt, dv, .slice a0 l.length cap] = cs
  have hcs' : (⟨term, vote, ix, tm, vt, dv, data, .slice a0 l.length cap, l⟩ : Im).cells = cs := hcs
  rw [hcs']
  refine does_of_run (args := [_]) Tryz.func50 rfl rfl ?_
  refine r_seq (r_region rfl (o_act rfl rfl rfl rfl (a_box rfl) ?_))
  rintro v' H' ⟨s0, rfl, rfl⟩
  subst hcs
  refine j_heap (H' := .mem s0 [Value.int .u64 term, .int .i64 vote, .int .u64 ix, .int .u64 tm, .int .u64 vt, dv, .slice a0 l.length cap] 7 :: Fr) rfl ?_
  refine o_vl rfl rfl (v_assign rfl) (o_end (r_seq (r_region rfl (o_vl rfl rfl (v_assign rfl) (o_end (r_seq ?_))))))
  refine r_join (fun bf : Bf => bf.ok (snB ix tm vt data).length) (fun bf => [(1, ptrV s0), (3, bf.val (snB ix tm vt data).length)]) (fun _ => F) (fun bf => .mem s0 [Value.int .u64 term, .int .i64 vote, .int .u64 ix, .int .u64 tm, .int .u64 vt, dv, .slice a0 l.length cap] 7 :: (bf.ents 1 (bytesV (snB ix tm vt data)) ++ Fr)) ?_ ?_
  · intro J
    refine r_seq (r_region rfl (o_vl rfl rfl (v_field (k := 2) rfl rfl rfl) (o_vl rfl rfl (v_field (k := 0) rfl rfl rfl) (o_vl rfl rfl (v_load (v := .int .u64 ix) rfl rfl (cell_at (j := 0) rfl rfl)) (o_vl rfl rfl (v_gtr rfl rfl) ?_)))))
    have some_ : (0 < ix ∨ vt ≠ 0) → snB ix tm vt data = recB 3 (snapP ix tm vt data) := fun h => by simp only [snB, if_pos h]
    have none_ : ¬ (0 < ix ∨ vt ≠ 0) → snB ix tm vt data = [] := fun h => by simp only [snB, if_neg h]
    refine j_prop 7 rfl (fun g1 => ?_) (fun g1 => ?_)
    · have hh : 0 < ix ∨ vt ≠ 0 := .inl (by omega)
      refine o_vl rfl rfl (v_move rfl) (o_sk rfl rfl (o_sk rfl rfl (o_sk rfl rfl (o_sk rfl rfl (o_vl rfl rfl (v_pick1 rfl rfl) (o_end (r_true rfl (r_region rfl (o_vl rfl rfl (v_field (k := 2) rfl rfl rfl) (o_vl rfl rfl (v_loadAgg (sz := 4) (cs := [.int .u64 ix, .int .u64 tm, .int .u64 vt, dv]) rfl rfl rfl rfl (cells_of (j := 0) _ _ rfl rfl)) (o_call rfl rfl rfl rfl (c_call callable76 rfl) (wal_snap _ _ ix tm vt dv data _ hd (by omega)) ?_)))))))))))
      rintro v' F H' ⟨rfl, b1, ok1, rfl, rfl⟩ _
      refine o_call rfl rfl rfl rfl (c_call callable75 rfl) (wal_frame _ _ 3 _ (snapP ix tm vt data) _ (by decide) (bf_reads ok1 (by intro q hq; exact List.mem_append_left _ hq)) (by simp; omega)) ?_
      rintro v' F H' ⟨rfl, b2, ok2, rfl, rfl⟩ _
      rw [← some_ hh] at ok2 ⊢
      refine j_sel (H' := Ent.mem s0 [Value.int .u64 term, .int .i64 vote, .int .u64 ix, .int .u64 tm, .int .u64 vt, dv, .slice a0 l.length cap] 7 :: (b2.ents 1 (bytesV (snB ix tm vt data)) ++ (Fr))) [b2.ents 1 (bytesV (snB ix tm vt data)), b1.ents 1 (bytesV (snapP ix tm vt data)), [Ent.mem s0 [Value.int .u64 term, .int .i64 vote, .int .u64 ix, .int .u64 tm, .int .u64 vt, dv, .slice a0 l.length cap] 7], Fr] [2, 0, 3] rfl rfl rfl ?_
      refine o_vl rfl rfl (v_assign rfl) (o_end ?_)
      refine j_keep ?_ (J b2 ok2)
      exact ⟨rfl, rfl, trivial⟩
    · refine o_vl rfl rfl (v_move rfl) (o_vl rfl rfl (v_field (k := 2) rfl rfl rfl) (o_vl rfl rfl (v_field (k := 2) rfl rfl rfl) (o_vl rfl rfl (v_load (v := .int .u64 vt) rfl rfl (cell_at (j := 0) rfl rfl)) (o_vl rfl rfl (v_neq rfl rfl) (o_vl rfl rfl (v_pick0 rfl rfl) (o_end ?_))))))
      refine j_prop 13 rfl (fun g2 => ?_) (fun g2 => ?_)
      · have hh : 0 < ix ∨ vt ≠ 0 := .inr (by omega)
        refine r_true rfl (r_region rfl (o_vl rfl rfl (v_field (k := 2) rfl rfl rfl) (o_vl rfl rfl (v_loadAgg (sz := 4) (cs := [.int .u64 ix, .int .u64 tm, .int .u64 vt, dv]) rfl rfl rfl rfl (cells_of (j := 0) _ _ rfl rfl)) (o_call rfl rfl rfl rfl (c_call callable76 rfl) (wal_snap _ _ ix tm vt dv data _ hd (by omega)) ?_))))
        rintro v' F H' ⟨rfl, b1, ok1, rfl, rfl⟩ _
        refine o_call rfl rfl rfl rfl (c_call callable75 rfl) (wal_frame _ _ 3 _ (snapP ix tm vt data) _ (by decide) (bf_reads ok1 (by intro q hq; exact List.mem_append_left _ hq)) (by simp; omega)) ?_
        rintro v' F H' ⟨rfl, b2, ok2, rfl, rfl⟩ _
        rw [← some_ hh] at ok2 ⊢
        refine j_sel (H' := Ent.mem s0 [Value.int .u64 term, .int .i64 vote, .int .u64 ix, .int .u64 tm, .int .u64 vt, dv, .slice a0 l.length cap] 7 :: (b2.ents 1 (bytesV (snB ix tm vt data)) ++ (Fr))) [b2.ents 1 (bytesV (snB ix tm vt data)), b1.ents 1 (bytesV (snapP ix tm vt data)), [Ent.mem s0 [Value.int .u64 term, .int .i64 vote, .int .u64 ix, .int .u64 tm, .int .u64 vt, dv, .slice a0 l.length cap] 7], Fr] [2, 0, 3] rfl rfl rfl ?_
        refine o_vl rfl rfl (v_assign rfl) (o_end ?_)
        refine j_keep ?_ (J b2 ok2)
        exact ⟨rfl, rfl, trivial⟩
      · have hh := none_ (by omega)
        refine r_false rfl (r_skip ?_)
        refine j_keep ?_ (J .nil (by rw [hh]; rfl))
        exact ⟨rfl, by rw [hh]; rfl, trivial⟩
  · rintro bf hbf
    refine r_seq (r_region rfl (o_vl rfl rfl (v_move rfl) (o_vl rfl rfl (v_field (k := 0) rfl rfl rfl) (o_vl rfl rfl (v_loadAgg (sz := 2) (cs := [.int .u64 term, .int .i64 vote]) rfl rfl rfl rfl (cells_of (j := 0) _ _ rfl rfl)) (o_vl rfl rfl (v_field (k := 6) rfl rfl rfl) (o_vl rfl rfl (v_load (v := .slice a0 l.length cap) rfl rfl (cell_at (j := 0) rfl rfl)) (o_vl rfl rfl (v_build rfl rfl) (o_call rfl rfl rfl rfl (c_call callable77 rfl) (wal_Bytes _ _ true term vote (.slice a0 l.length cap) l _ (hv.frz (Fz.le_refl _)) hl hn q2 q3) ?_))))))))
    rintro v' F H' ⟨rfl, b2, ok2, rfl, rfl⟩ _
    refine j_sel (H' := bf.ents 1 (bytesV (snB ix tm vt data)) ++ (b2.ents 1 (bytesV (saveB true term vote (l.map En.pure))) ++ (Fr))) [b2.ents 1 (bytesV (saveB true term vote (l.map En.pure))), [Ent.mem s0 [Value.int .u64 term, .int .i64 vote, .int .u64 ix, .int .u64 tm, .int .u64 vt, dv, .slice a0 l.length cap] 7], bf.ents 1 (bytesV (snB ix tm vt data)), Fr] [2, 0, 3] rfl rfl rfl ?_
    have r2 : SlB F (b2.ents 1 (bytesV (saveB true term vote (l.map En.pure))) ++ Fr) (b2.val (saveB true term vote (l.map En.pure)).length) (saveB true term vote (l.map En.pure)) := bf_reads ok2 (by intro q hq; exact List.mem_append_left _ hq)
    refine o_act rfl rfl rfl rfl (a_append (bf := bf) (sz := 1) (bytes := 1) (m := (saveB true term vote (l.map En.pure)).length) ⟨⟨_, _, _, rfl, rfl, rfl, rfl, rfl, rfl⟩, by decide⟩ rfl hbf (by simp) rfl rfl (r2.mono (Fz.le_refl _) (by intro q hq; exact List.mem_append_right _ hq)) (bytes_one _) (by unfold maxLen; omega) (by omega)) ?_
    rintro v' H' ⟨b3, rfl, ok3, rfl⟩
    rw [← List.length_append] at ok3 ⊢
    rw [← bytesV_append]
    refine j_sel (H' := b3.ents 1 (bytesV (snB ix tm vt data ++ saveB true term vote (l.map En.pure))) ++ (Fr)) [b3.ents 1 (bytesV (snB ix tm vt data ++ saveB true term vote (l.map En.pure))), b2.ents 1 (bytesV (saveB true term vote (l.map En.pure))), Fr] [0, 2] rfl rfl rfl ?_
    refine o_vl rfl rfl (v_assign rfl) (o_end ?_)
    exact r_ret1 Tryz.func50 rfl rfl ⟨⟨rfl, b3, ok3, rfl, rfl⟩, Fz.le_refl _⟩
end Go.SX
namespace Go.SX
open Go Go.Proofs
set_option maxRecDepth 4000
theorem sliced0 (a : Option Addr) (h m sz : Nat) : Go.sliced a 0 h m sz = .slice a h m := by
  cases a with
  | none => simp [Go.sliced]
  | some x => simp [Go.sliced, Addr.add]
theorem Sl.cut4 {F : Fz} {H : List Ent} {a : Option Addr} {n cap k c : Nat} {l : List En} (hv : Sl F H 4 (.slice a n cap) l.length (enV l)) (hk : k ≤ l.length) (hc : k ≤ c) (hc2 : c ≤ cap) : Sl F H 4 (.slice a k c) (l.take k).length (enV (l.take k)) := by
  have hl : (l.take k).length = k := by simp; omega
  have hlen := hv.len
  obtain ⟨a', cap', h1, h2, h3, h4, h5⟩ := hv
  simp only [Value.slice.injEq] at h1
  obtain ⟨rfl, rfl, rfl⟩ := h1
  refine ⟨a, c, by rw [hl], en_len _, by rw [hl]; exact hc, fun ha => ?_, fun i q hq => ?_⟩
  · have := h4 ha
    omega
  · refine h5 i q ?_
    have : enV (l.take k) = (enV l).take (k * 4) := (vec_take (c := En.cells) En.cl l k hk).symm
    rw [this, List.getElem?_take] at hq
    split at hq
    · exact hq
    · cases hq
def takeB (b : List UInt8) : Option (Nat × List UInt8 × List UInt8) :=
  if b.length < 5 then none else
  if 1048576 < leN (b.take 4) ∨ b.length < leN (b.take 4) + 9 then none else
  if (openB (b.take (leN (b.take 4) + 9))).1 = 0 then some (leN ((b.drop 4).take 1), (openB (b.take (leN (b.take 4) + 9))).2.drop 5, b.drop (leN (b.take 4) + 9)) else none
theorem rdNum_ok {l : List UInt8} {n : Nat} (h : n ≤ l.length) (h8 : n ≤ 8) : rdNum l false n = (leN (l.take n), l.drop n, false) := by
  unfold rdNum
  rw [if_neg (by simp; omega)]
  simp
  congr 2
  omega
theorem rdNum_bad {l : List UInt8} {n : Nat} {b : Bool} (h : l.length < n ∨ b = true) : rdNum l b n = (0, l, true) := by
  unfold rdNum
  rw [if_pos]
  rcases h with h | h
  · right; right; omega
  · left; exact h
theorem openB_len {l : List UInt8} (h : 4 ≤ l.length) (h0 : (openB l).1 = 0) : (openB l).2.length = l.length - 4 := by
  unfold openB at *
  rw [if_neg (by omega)] at *
  split at h0
  · rename_i h1; rw [if_pos h1]; simp
  · cases h0
theorem wal_take (O : World) (F : Fz) (v : Value) (b : List UInt8) (Fr : List Ent) (hv : SlB F [] v b) (hl : b.length ≤ 140737488350000) :
    Does Tryz.prog O 94 #[v] F Fr (fun r F' H' => F' = F ∧ H' = Fr ∧ ((takeB b = none ∧ r = .tuple #[.int .u8 0, .slice none 0 0, .slice none 0 0, .bool false]) ∨ ∃ k d rest v1 v2, takeB b = some (k, d, rest) ∧ k < 256 ∧ r = .tuple #[.int .u8 k, v1, v2, .bool true] ∧ SlB F [] v1 d ∧ SlB F [] v2 rest)) := by
  obtain ⟨a0, cap, rfl, hcap⟩ := Sl.shape hv
  refine does_of_run (args := [_]) Tryz.func94 rfl rfl ?_
  have hlt1 : (rdNum (rdNum b false 4).2.1 (rdNum b false 4).2.2 1).1 < 256 := rdNum_lt _ _ 1
  have hlt0 : (rdNum b false 4).1 < 4294967296 := rdNum_lt b false 4
  have hln0 := rdNum_len b false 4
  refine r_seq (r_region rfl (o_vl rfl rfl (v_assign rfl) (o_vl rfl rfl (v_assign rfl) (o_vl rfl rfl (v_assign rfl) (o_vl rfl rfl (v_assign rfl) (o_end (r_seq (r_region rfl (o_vl rfl rfl (v_move rfl) (o_call rfl rfl rfl rfl (c_call callable109 rfl) (oct_Read _ _ _ b _ hv) ?_))))))))))
  rintro v' F H' ⟨rfl, a, rfl, rfl⟩ _
  refine o_vl rfl rfl (v_assign rfl) (o_end (r_seq (r_region rfl (o_vl rfl rfl (v_move rfl) (o_call rfl rfl rfl rfl (c_call callable110 rfl) (oct_RNum _ _ a _ b false 4 Fr hv (by omega)) ?_)))))
  rintro v' F H' ⟨rfl, rfl, v1, hv1, rfl⟩ _
  refine o_vl rfl rfl (v_move rfl) (o_call rfl rfl rfl rfl (c_call callable110 rfl) (oct_RNum _ _ a _ _ _ 1 Fr hv1 (by omega)) ?_)
  rintro v' F H' ⟨rfl, rfl, v2, hv2, rfl⟩ _
  refine o_vl rfl rfl (v_conv rfl rfl rfl (wrap_u8 (by omega) (by omega))) (o_vl rfl rfl (v_assign rfl) (o_vl rfl rfl (v_assign rfl) (o_end (r_seq (r_seq (r_region rfl (o_vl rfl rfl (v_move rfl) (o_call rfl rfl rfl rfl (c_call callable111 rfl) (oct_RBad _ _ a _ _ Fr) ?_))))))))
  rintro v' F H' ⟨rfl, rfl, rfl⟩ _
  by_cases h5 : b.length < 5
  · have hb : (rdNum (rdNum b false 4).2.1 (rdNum b false 4).2.2 1).2.2 = true := by
      by_cases h4 : b.length < 4
      · have e1 : rdNum b false 4 = (0, b, true) := rdNum_bad (n := 4) (.inl h4)
        rw [e1]
        have e2 : rdNum b true 1 = (0, b, true) := rdNum_bad (n := 1) (.inr rfl)
        rw [e2]
      · have e1 : rdNum b false 4 = (leN (b.take 4), b.drop 4, false) := rdNum_ok (n := 4) (by omega) (by omega)
        rw [e1]
        have e2 : rdNum (b.drop 4) false 1 = (0, b.drop 4, true) := rdNum_bad (n := 1) (.inl (by simp; omega))
        rw [e2]
    rw [hb]
    refine o_vl rfl rfl (v_move rfl) (o_sk rfl rfl (o_sk rfl rfl (o_vl rfl rfl (v_pick1 rfl rfl) (o_vl rfl rfl (v_move rfl) (o_sk rfl rfl (o_sk rfl rfl (o_sk rfl rfl (o_sk rfl rfl (o_sk rfl rfl (o_sk rfl rfl (o_vl rfl rfl (v_pick1 rfl rfl) (o_end (r_true rfl ?_)))))))))))))
    refine r_seq (r_region rfl (o_vl rfl rfl (v_assign rfl) (o_vl rfl rfl (v_assign rfl) (o_vl rfl rfl (v_assign rfl) (o_vl rfl rfl (v_assign rfl) (o_end ?_))))))
    refine j_drop (List.sublist_cons_self _ _) ?_
    exact r_ret4 Tryz.func94 rfl rfl rfl rfl rfl ⟨⟨rfl, rfl, .inl ⟨by rw [takeB, if_pos h5], rfl⟩⟩, Fz.le_refl _⟩
  · have e1 : rdNum b false 4 = (leN (b.take 4), b.drop 4, false) := rdNum_ok (n := 4) (by omega) (by omega)
    have e2 : rdNum (b.drop 4) false 1 = (leN ((b.drop 4).take 1), (b.drop 4).drop 1, false) := rdNum_ok (n := 1) (by simp; omega) (by omega)
    rw [e1] at hlt1 hlt0 hln0 hv1 hv2 ⊢
    dsimp only at hlt1 hlt0 hln0 hv1 hv2 ⊢
    rw [e2] at hlt1 hv2 ⊢
    dsimp only at hlt1 hv2 ⊢
    rw [List.drop_drop] at hv2
    clear e1 e2
    have hkb : leN ((b.drop 4).take 1) < 256 := by omega
    have tk : takeB b = if 1048576 < leN (b.take 4) ∨ b.length < leN (b.take 4) + 9 then none else
      if (openB (b.take (leN (b.take 4) + 9))).1 = 0 then some (leN ((b.drop 4).take 1), (openB (b.take (leN (b.take 4) + 9))).2.drop 5, b.drop (leN (b.take 4) + 9)) else none := by rw [takeB, if_neg h5]
    have hdl : (b.drop (4 + 1)).length = b.length - 5 := by simp
    generalize leN (b.take 4) = n at *
    generalize leN ((b.drop 4).take 1) = k at *
    refine o_vl rfl rfl (v_move rfl) (o_vl rfl rfl (v_move rfl) (o_vl rfl rfl (v_gtr rfl rfl) (o_vl rfl rfl (v_pick0 rfl rfl) ?_)))
    refine j_prop 23 rfl (fun h1 => ?_) (fun h1 => ?_)
    · refine o_vl rfl rfl (v_move rfl) (o_sk rfl rfl (o_sk rfl rfl (o_sk rfl rfl (o_sk rfl rfl (o_sk rfl rfl (o_sk rfl rfl (o_vl rfl rfl (v_pick1 rfl rfl) (o_end (r_true rfl (r_seq (r_region rfl (o_vl rfl rfl (v_assign rfl) (o_vl rfl rfl (v_assign rfl) ?_)))))))))))))
      refine o_vl rfl rfl (v_assign rfl) (o_vl rfl rfl (v_assign rfl) (o_end ?_))
      refine j_drop (List.sublist_cons_self _ _) ?_
      exact r_ret4 Tryz.func94 rfl rfl rfl rfl rfl ⟨⟨rfl, rfl, .inl ⟨by rw [tk, if_pos (.inl (by omega))], rfl⟩⟩, Fz.le_refl _⟩
    · refine o_vl rfl rfl (v_move rfl) (o_vl rfl rfl (v_move rfl) (o_call rfl rfl rfl rfl (c_call callable112 rfl) (oct_RLeft _ _ a _ _ _ Fr hv2) ?_))
      rintro v' F H' ⟨rfl, rfl, rfl⟩ _
      refine j_slot 26 rfl (v' := .int .i64 ((b.length - 5 : Nat) : Int)) (by simp) ?_
      refine o_vl rfl rfl (v_conv rfl rfl rfl (wrap_u64 (by omega) (by omega))) (o_vl rfl rfl (v_move rfl) (o_vl rfl rfl (v_add rfl rfl (r := ((n + 4 : Nat) : Int)) (wrap_u64 (by omega) (by omega))) (o_vl rfl rfl (v_lss rfl rfl) (o_vl rfl rfl (v_pick0 rfl rfl) (o_end ?_)))))
      refine j_drop (List.sublist_cons_self _ _) ?_
      refine r_if rfl (fun h2 => ?_) (fun h2 => ?_)
      · refine r_seq (r_region rfl (o_vl rfl rfl (v_assign rfl) (o_vl rfl rfl (v_assign rfl) (o_vl rfl rfl (v_assign rfl) (o_vl rfl rfl (v_assign rfl) (o_end ?_))))))
        exact r_ret4 Tryz.func94 rfl rfl rfl rfl rfl ⟨⟨rfl, rfl, .inl ⟨by rw [tk, if_pos (.inr (by omega))], rfl⟩⟩, Fz.le_refl _⟩
      · have hn9 : n + 9 ≤ b.length := by omega
        rw [if_neg (by omega)] at tk
        refine r_skip (r_seq (r_region rfl (o_vl rfl rfl (v_move rfl) (o_vl rfl rfl (v_move rfl) (o_vl rfl rfl (v_add rfl rfl (r := ((n + 9 : Nat) : Int)) (wrap_u64 (by omega) (by omega))) (o_vl rfl rfl (v_sliceH (sz := 1) rfl rfl rfl rfl rfl (by omega)) ?_))))))
        have hvt : SlB F [] (Go.sliced a0 0 (n + 9) cap 1) (b.take (n + 9)) := SlB.take hv hn9
        refine o_call rfl rfl rfl rfl (c_call callable113 rfl) (oct_Open _ _ _ (b.take (n + 9)) Fr hvt (by simp; omega)) ?_
        rintro v' F H' ⟨rfl, rfl, v3, rfl, hv3⟩ _
        refine o_vl rfl rfl (v_move rfl) (o_vl rfl rfl (v_extract rfl rfl) (o_vl rfl rfl (v_extract rfl rfl) (o_vl rfl rfl (v_assign rfl) (o_vl rfl rfl (v_assign rfl) (o_end (r_seq (r_seq (r_region rfl (o_vl rfl rfl (v_move rfl) (o_vl rfl rfl (v_neq rfl rfl) (o_end (r_if rfl (fun h3 => ?_) (fun h3 => ?_)))))))))))))
        · rw [if_neg (by omega)] at tk
          refine r_seq (r_region rfl (o_vl rfl rfl (v_assign rfl) (o_vl rfl rfl (v_assign rfl) (o_vl rfl rfl (v_assign rfl) (o_vl rfl rfl (v_assign rfl) (o_end ?_))))))
          exact r_ret4 Tryz.func94 rfl rfl rfl rfl rfl ⟨⟨rfl, rfl, .inl ⟨tk, rfl⟩⟩, Fz.le_refl _⟩
        · have h0 : (openB (b.take (n + 9))).1 = 0 := by omega
          rw [if_pos h0] at tk
          have hol := openB_len (l := b.take (n + 9)) (by simp; omega) h0
          have hol2 : (openB (b.take (n + 9))).2.length = n + 5 := by rw [hol]; simp; omega
          generalize openB (b.take (n + 9)) = q at *
          obtain ⟨a1, c1, rfl, hc1⟩ := Sl.shape hv3
          refine r_skip (r_seq (d_region 1000000 rfl ([]) ?_))
          refine d_tk (i := 0) rfl rfl (by simp) (v_move rfl) (d_tk (i := 1) rfl rfl (by simp) (v_move rfl) (d_tk (i := 2) rfl rfl (by simp) (v_sliceL (sz := 1) (l := 5) rfl rfl rfl rfl rfl (by omega)) (d_tk (i := 3) rfl rfl (by simp) (v_move rfl) (d_tk (i := 4) rfl rfl (by simp) (v_move rfl) (d_tk (i := 5) rfl rfl (by simp) (v_add rfl rfl (r := ((n + 9 : Nat) : Int)) (wrap_u64 (by omega) (by omega))) (d_tk (i := 6) rfl rfl (by simp) (v_sliceL (sz := 1) rfl rfl rfl rfl rfl (by omega)) (d_tk (i := 7) rfl rfl (by simp) (v_assign rfl) (d_tk (i := 8) rfl rfl (by simp) (v_assign rfl) (d_tk (i := 9) rfl rfl (by simp) (v_assign rfl) (d_tk (i := 10) rfl rfl (by simp) (v_assign rfl) (d_end (by decide +kernel) ?_)))))))))))
          exact r_ret4 Tryz.func94 rfl rfl rfl rfl rfl ⟨⟨rfl, rfl, .inr ⟨k, _, _, _, _, tk, hkb, rfl, SlB.drop (k := 5) hv3 (by rw [hol2]; omega), SlB.drop hv hn9⟩⟩, Fz.le_refl _⟩
end Go.SX
namespace Go.SX
open Go Go.Proofs
set_option maxRecDepth 4000
def hardR (d : List UInt8) : Option (Nat × Int) :=
  let x1 := rdNum d false 8
  let x2 := rdNum x1.2.1 x1.2.2 2
  if (!x2.2.2 && decide (x2.2.1 = [])) = true then some (x1.1, (x2.1 : Int) - 1) else none
def entR (d : List UInt8) : Option PE :=
  let x1 := rdNum d false 8
  let x2 := rdNum x1.2.1 x1.2.2 8
  let x3 := rdNum x2.2.1 x2.2.2 1
  let x4 := rdBytes x3.2.1 x3.2.2 1048576
  if (!x4.2.2 && decide (x4.2.1 = [])) = true then some ⟨x1.1, x2.1, x3.1, x4.1⟩ else none
def snapR (d : List UInt8) : Option (Nat × Nat × Nat × List UInt8) :=
  let x1 := rdNum d false 8
  let x2 := rdNum x1.2.1 x1.2.2 8
  let x3 := rdNum x2.2.1 x2.2.2 8
  let x4 := rdBytes x3.2.1 x3.2.2 1048576
  if (!x4.2.2 && decide (x4.2.1 = [])) = true then some (x1.1, x2.1, x3.1, x4.1) else none
def addE (p : PI) (e : PE) : Option PI := if e.ix ≤ p.ix ∨ p.l.length < e.ix - p.ix - 1 then none else some { p with l := p.l.take (e.ix - p.ix - 1) ++ [e] }
def addP (p : PI) (k : Nat) (d : List UInt8) : Option PI :=
  if k = 1 then (hardR d).map fun q => { p with term := q.1, vote := q.2 }
  else if k = 2 then (entR d).bind (addE p)
  else if k = 3 then (snapR d).map fun q => { p with ix := q.1, tm := q.2.1, vt := q.2.2.1, data := q.2.2.2, l := [] }
  else none
theorem rdBytes_len (l : List UInt8) (bad : Bool) : (rdBytes l bad 1048576).1.length ≤ 1048576 := by
  unfold rdBytes
  split
  · simp
  · rename_i h
    simp only [List.length_take]
    omega
theorem en_Clip (O : World) (F : Fz) (a : Option Addr) (n cap : Nat) (H : List Ent) (hc : n ≤ cap) :
    Does Tryz.prog O 116 #[.slice a n cap] F H (fun r F' H' => r = .slice a n n ∧ F' = F ∧ H' = H) := by
  refine does_of_run (args := [_]) Tryz.func116 rfl rfl ?_
  refine r_seq (r_region rfl (o_vl rfl rfl (v_assign rfl) (o_end (r_seq (r_region rfl (o_vl rfl rfl (v_move rfl) (o_vl rfl rfl (v_move rfl) (o_vl rfl rfl (v_len rfl rfl) (o_vl rfl rfl (v_move rfl) (o_vl rfl rfl (v_len rfl rfl) (o_vl rfl rfl (v_sliceHM (sz := 4) rfl rfl rfl rfl rfl rfl rfl (Nat.le_refl _) hc) (o_vl rfl rfl (v_assign rfl) (o_end ?_)))))))))))))
  rw [sliced0]
  exact r_ret1 Tryz.func116 rfl rfl ⟨⟨rfl, rfl, rfl⟩, Fz.le_refl _⟩
set_option maxHeartbeats 1600000 in
theorem wal_add (O : World) (F : Fz) (m : Nat) (p : Im) (k : Nat) (v : Value) (d : List UInt8) (Fr : List Ent) (hp : p.ok F) (hn : p.l.length ≤ 10000000000) (hk : k < 256) (hv : SlB F [] v d) (hl : d.length ≤ 140737488350000) :
    Does Tryz.prog O 95 #[ptrV m, .int .u8 k, v] F (.mem m p.cells 7 :: Fr) (fun r F' H' => F.le F' ∧ ((addP p.pure k d = none ∧ r = .bool false ∧ H' = .mem m p.cells 7 :: Fr) ∨ ∃ p' : Im, addP p.pure k d = some p'.pure ∧ p'.ok F' ∧ p'.l.length ≤ p.l.length + 1 ∧ r = .bool true ∧ H' = .mem m p'.cells 7 :: Fr)) := by
  obtain ⟨q1, q2, q3, q4, q5, q6, hpd, hpdl, hplv, hpl⟩ := id hp
  refine does_of_run (args := [_, _, _]) Tryz.func95 rfl rfl ?_
  refine r_seq (r_region rfl (o_vl rfl rfl (v_assign rfl) (o_end (r_seq (r_region rfl (o_vl rfl rfl (v_move rfl) (o_call rfl rfl rfl rfl (c_call callable109 rfl) (oct_Read _ _ _ d _ hv) ?_)))))))
  rintro v' F H' ⟨rfl, a, rfl, rfl⟩ _
  refine o_vl rfl rfl (v_assign rfl) (o_end (r_seq (r_seq (r_region rfl (o_vl rfl rfl (v_move rfl) (o_end (r_block (r_seq (r_region rfl (o_vl rfl rfl (v_eql rfl rfl) (o_vl rfl rfl (v_assign rfl) (o_end ?_))))))))))))
  refine j_sel (H' := .mem a [v, .bool false] 2 :: .mem m p.cells 7 :: Fr) [[Ent.mem a [v, .bool false] 2], [Ent.mem m p.cells 7], Fr] [0, 1, 2] rfl rfl rfl ?_
  have hx1 := rdNum_lt d false 8
  have hl1 := rdNum_len d false 8
  refine r_if rfl (fun hk1 => ?_) (fun hk1 => ?_)
  · obtain rfl : k = 1 := by omega
    have hx2 : (rdNum (rdNum d false 8).2.1 (rdNum d false 8).2.2 2).1 < 65536 := rdNum_lt _ _ 2
    have hx1 : (rdNum d false 8).1 < 18446744073709551616 := rdNum_lt _ _ 8
    have hl2 := rdNum_len (rdNum d false 8).2.1 (rdNum d false 8).2.2 2
    have had : addP p.pure 1 d = (hardR d).map fun q => { p.pure with term := q.1, vote := q.2 } := rfl
    have hr : hardR d = if (!(rdNum (rdNum d false 8).2.1 (rdNum d false 8).2.2 2).2.2 && decide ((rdNum (rdNum d false 8).2.1 (rdNum d false 8).2.2 2).2.1 = [])) = true then some ((rdNum d false 8).1, ((rdNum (rdNum d false 8).2.1 (rdNum d false 8).2.2 2).1 : Int) - 1) else none := rfl
    refine r_seq (r_region rfl (o_vl rfl rfl (v_move rfl) (o_call rfl rfl rfl rfl (c_call callable110 rfl) (oct_RNum _ _ a _ d false 8 _ hv (by omega)) ?_)))
    rintro v' F H' ⟨rfl, rfl, v1, hv1, rfl⟩ _
    refine o_vl rfl rfl (v_move rfl) (o_call rfl rfl rfl rfl (c_call callable110 rfl) (oct_RNum _ _ a _ _ _ 2 _ hv1 (by omega)) ?_)
    rintro v' F H' ⟨rfl, rfl, v2, hv2, rfl⟩ _
    generalize rdNum (rdNum d false 8).2.1 (rdNum d false 8).2.2 2 = x2 at *
    generalize rdNum d false 8 = x1 at *
    refine o_vl rfl rfl (v_conv rfl rfl rfl (wrap_i64 (by omega) (by omega))) (o_vl rfl rfl (v_sub rfl rfl (r := (x2.1 : Int) - 1) (wrap_i64 (by omega) (by omega))) (o_vl rfl rfl (v_build rfl rfl) (o_act rfl rfl rfl rfl (a_alloc rfl) ?_)))
    rintro v' H' ⟨x, rfl, rfl⟩
    refine o_act0 rfl rfl rfl (a_store (sz := 2) 0 rfl rfl rfl rfl rfl rfl (Nat.le_of_ble_eq_true rfl)) ?_
    refine j_heap (H' := .mem x [.int .u64 x1.1, .int .i64 ((x2.1 : Int) - 1)] 2 :: .mem a [v2, .bool x2.2.2] 2 :: .mem m p.cells 7 :: Fr) rfl ?_
    refine j_sel (H' := Ent.mem a [v2, .bool x2.2.2] 2 :: (Ent.mem x [.int .u64 x1.1, .int .i64 ((x2.1 : Int) - 1)] 2 :: (Ent.mem m p.cells 7 :: (Fr)))) [[Ent.mem x [.int .u64 x1.1, .int .i64 ((x2.1 : Int) - 1)] 2], [Ent.mem a [v2, .bool x2.2.2] 2], [Ent.mem m p.cells 7], Fr] [1, 0, 2, 3] rfl rfl rfl ?_
    refine o_end (r_seq (r_seq (r_region rfl (o_vl rfl rfl (v_move rfl) (o_call rfl rfl rfl rfl (c_call callable114 rfl) (oct_REnd _ _ a _ _ _ _ hv2) ?_)))))
    rintro v' F H' ⟨rfl, rfl, rfl⟩ _
    by_cases he : (!x2.2.2 && decide (x2.2.1 = [])) = true
    · rw [if_pos he] at hr
      rw [hr] at had
      refine j_slot 25 rfl (v' := .bool true) (by rw [he]) ?_
      refine o_vl rfl rfl (v_not rfl) (o_end (r_false rfl ?_))
      refine j_sel (H' := Ent.mem m p.cells 7 :: (Ent.mem x [.int .u64 x1.1, .int .i64 ((x2.1 : Int) - 1)] 2 :: (Fr))) [[Ent.mem a [v2, .bool x2.2.2] 2], [Ent.mem x [.int .u64 x1.1, .int .i64 ((x2.1 : Int) - 1)] 2], [Ent.mem m p.cells 7], Fr] [2, 1, 3] rfl rfl rfl ?_
      refine r_skip (r_region rfl (o_vl rfl rfl (v_move rfl) (o_vl rfl rfl (v_loadAgg (sz := 2) (cs := [.int .u64 x1.1, .int .i64 ((x2.1 : Int) - 1)]) rfl rfl rfl rfl (cells_of (j := 1) _ _ rfl rfl)) (o_vl rfl rfl (v_nilCheck rfl) (o_vl rfl rfl (v_field (k := 0) rfl rfl rfl) (o_act0 rfl rfl rfl (a_store (sz := 2) 0 rfl rfl rfl rfl rfl rfl (Nat.le_of_ble_eq_true rfl)) ?_))))))
      refine j_heap (H' := .mem m ({ p with term := x1.1, vote := (x2.1 : Int) - 1 } : Im).cells 7 :: .mem x [.int .u64 x1.1, .int .i64 ((x2.1 : Int) - 1)] 2 :: Fr) rfl ?_
      refine j_drop (H' := .mem m ({ p with term := x1.1, vote := (x2.1 : Int) - 1 } : Im).cells 7 :: Fr) ((List.sublist_cons_self _ _).cons_cons _) ?_
      refine o_end (r_inBlock (r_seq (r_region rfl (o_vl rfl rfl (v_assign rfl) (o_end ?_)))))
      exact r_ret1 Tryz.func95 rfl rfl ⟨⟨Fz.le_refl _, .inr ⟨{ p with term := x1.1, vote := (x2.1 : Int) - 1 }, had, ⟨hx1, by dsimp only; omega, by dsimp only; omega, q4, q5, q6, hpd, hpdl, hplv, hpl⟩, by dsimp only; omega, rfl, rfl⟩⟩, Fz.le_refl _⟩
    · rw [if_neg he] at hr
      rw [hr] at had
      refine j_slot 25 rfl (v' := .bool false) (by rw [Bool.not_eq_true] at he; rw [he]) ?_
      refine o_vl rfl rfl (v_not rfl) (o_end (r_true rfl (r_seq (r_region rfl (o_vl rfl rfl (v_assign rfl) (o_end ?_))))))
      refine j_sel (H' := Ent.mem m p.cells 7 :: (Fr)) [[Ent.mem a [v2, .bool x2.2.2] 2], [Ent.mem x [.int .u64 x1.1, .int .i64 ((x2.1 : Int) - 1)] 2], [Ent.mem m p.cells 7], Fr] [2, 3] rfl rfl rfl ?_
      exact r_ret1 Tryz.func95 rfl rfl ⟨⟨Fz.le_refl _, .inl ⟨had, rfl, rfl⟩⟩, Fz.le_refl _⟩
  · refine r_seq (r_region rfl (o_vl rfl rfl (v_eql rfl rfl) (o_vl rfl rfl (v_assign rfl) (o_end (r_if rfl (fun hk2 => ?_) (fun hk2 => ?_))))))
    · obtain rfl : k = 2 := by omega
      have hx3 : (rdNum (rdNum (rdNum d false 8).2.1 (rdNum d false 8).2.2 8).2.1 (rdNum (rdNum d false 8).2.1 (rdNum d false 8).2.2 8).2.2 1).1 < 256 := rdNum_lt _ _ 1
      have hx1 : (rdNum d false 8).1 < 18446744073709551616 := rdNum_lt _ _ 8
      have hx2 : (rdNum (rdNum d false 8).2.1 (rdNum d false 8).2.2 8).1 < 18446744073709551616 := rdNum_lt _ _ 8
      have hl2 := rdNum_len (rdNum d false 8).2.1 (rdNum d false 8).2.2 8
      have hl3 := rdNum_len (rdNum (rdNum d false 8).2.1 (rdNum d false 8).2.2 8).2.1 (rdNum (rdNum d false 8).2.1 (rdNum d false 8).2.2 8).2.2 1
      have had : addP p.pure 2 d = (entR d).bind (addE p.pure) := rfl
      have hbl := rdBytes_len (rdNum (rdNum (rdNum d false 8).2.1 (rdNum d false 8).2.2 8).2.1 (rdNum (rdNum d false 8).2.1 (rdNum d false 8).2.2 8).2.2 1).2.1 (rdNum (rdNum (rdNum d false 8).2.1 (rdNum d false 8).2.2 8).2.1 (rdNum (rdNum d false 8).2.1 (rdNum d false 8).2.2 8).2.2 1).2.2
      have hr := entR.eq_1 d
      try dsimp only at hr
      refine r_seq (r_region rfl (o_vl rfl rfl (v_move rfl) (o_call rfl rfl rfl rfl (c_call callable110 rfl) (oct_RNum _ _ a _ d false 8 _ hv (by omega)) ?_)))
      rintro v' F H' ⟨rfl, rfl, v1, hv1, rfl⟩ _
      refine o_vl rfl rfl (v_move rfl) (o_call rfl rfl rfl rfl (c_call callable110 rfl) (oct_RNum _ _ a _ _ _ 8 _ hv1 (by omega)) ?_)
      rintro v' F H' ⟨rfl, rfl, v2, hv2, rfl⟩ _
      refine o_vl rfl rfl (v_move rfl) (o_call rfl rfl rfl rfl (c_call callable110 rfl) (oct_RNum _ _ a _ _ _ 1 _ hv2 (by omega)) ?_)
      rintro v' F H' ⟨rfl, rfl, v3, hv3, rfl⟩ _
      refine o_vl rfl rfl (v_conv rfl rfl rfl (wrap_u8 (by omega) (by omega))) (o_vl rfl rfl (v_move rfl) (o_call rfl rfl rfl rfl (c_call callable115 rfl) (oct_RBytes _ _ a _ _ _ 1048576 _ hv3 (by omega) (by decide)) ?_))
      rintro v4 F1 H' ⟨hF1, hs4, v5, hv5, rfl⟩ _
      generalize rdBytes (rdNum (rdNum (rdNum d false 8).2.1 (rdNum d false 8).2.2 8).2.1 (rdNum (rdNum d false 8).2.1 (rdNum d false 8).2.2 8).2.2 1).2.1 (rdNum (rdNum (rdNum d false 8).2.1 (rdNum d false 8).2.2 8).2.1 (rdNum (rdNum d false 8).2.1 (rdNum d false 8).2.2 8).2.2 1).2.2 1048576 = x4 at *
      generalize rdNum (rdNum (rdNum d false 8).2.1 (rdNum d false 8).2.2 8).2.1 (rdNum (rdNum d false 8).2.1 (rdNum d false 8).2.2 8).2.2 1 = x3 at *
      generalize rdNum (rdNum d false 8).2.1 (rdNum d false 8).2.2 8 = x2 at *
      generalize rdNum d false 8 = x1 at *
      obtain ⟨a4, c4, rfl, hc4⟩ := Sl.shape hs4
      obtain ⟨e, he⟩ : ∃ e : En, e = ⟨x1.1, x2.1, x3.1, .slice a4 x4.1.length c4, x4.1⟩ := ⟨_, rfl⟩
      have heok : e.ok F1 := by rw [he]; exact ⟨hx1, hx2, hx3, hs4, hbl⟩
      have hec : e.cells = [.int .u64 x1.1, .int .u64 x2.1, .int .u8 x3.1, .slice a4 x4.1.length c4] := by rw [he]; rfl
      have hei : e.ix = x1.1 := by rw [he]
      have hepu : (⟨x1.1, x2.1, x3.1, x4.1⟩ : PE) = e.pure := by rw [he]; rfl
      rw [hepu] at hr
      rw [← hei] at hec
      refine o_vl rfl rfl (v_build rfl rfl) (o_act rfl rfl rfl rfl (a_alloc rfl) ?_)
      rintro v' H' ⟨x, rfl, rfl⟩
      refine o_act0 rfl rfl rfl (a_store (sz := 4) 0 rfl rfl rfl rfl rfl rfl (Nat.le_of_ble_eq_true rfl)) ?_
      refine j_heap (H' := .mem x e.cells 4 :: .mem a [v5, .bool x4.2.2] 2 :: .mem m p.cells 7 :: Fr) (by rw [hec, hei]; rfl) ?_
      refine j_sel (H' := Ent.mem a [v5, .bool x4.2.2] 2 :: (Ent.mem x e.cells 4 :: (Ent.mem m p.cells 7 :: (Fr)))) [[Ent.mem x e.cells 4], [Ent.mem a [v5, .bool x4.2.2] 2], [Ent.mem m p.cells 7], Fr] [1, 0, 2, 3] rfl rfl rfl ?_
      refine o_end (r_seq ?_)
      have hpF := hp.frz hF1
      obtain ⟨a0, cap, hlv, hcap⟩ := Sl.shape hpF.lv
      by_cases he2 : (!x4.2.2 && decide (x4.2.1 = [])) = true
      · rw [if_pos he2] at hr
        rw [hr] at had
        have had : addP p.pure 2 d = addE p.pure e.pure := had
        have hade : addE p.pure e.pure = if e.ix ≤ p.ix ∨ (p.l.map En.pure).length < e.ix - p.ix - 1 then none else some { p.pure with l := (p.l.map En.pure).take (e.ix - p.ix - 1) ++ [e.pure] } := rfl
        have hbx := heok.ix
        rw [List.length_map] at hade
        by_cases hix : e.ix ≤ p.ix
        · rw [if_pos (.inl hix)] at hade
          refine d_region 1000000 rfl ([.mem x e.cells 4, .mem m p.cells 7]) ?_
          refine d_tk (i := 0) rfl rfl (by intro q hq; simp only [List.mem_cons, List.not_mem_nil, or_false] at hq; rcases hq with rfl | rfl <;> simp) (v_field (k := 0) rfl rfl rfl) (d_tk (i := 1) rfl rfl (by intro q hq; simp only [List.mem_cons, List.not_mem_nil, or_false] at hq; rcases hq with rfl | rfl <;> simp) (v_load (v := .int .u64 e.ix) rfl rfl (cell_at (j := 0) rfl (by rw [hec]; rfl))) (d_tk (i := 2) rfl rfl (by intro q hq; simp only [List.mem_cons, List.not_mem_nil, or_false] at hq; rcases hq with rfl | rfl <;> simp) (v_move rfl) (d_tk (i := 3) rfl rfl (by intro q hq; simp only [List.mem_cons, List.not_mem_nil, or_false] at hq; rcases hq with rfl | rfl <;> simp) (v_nilCheck rfl) (d_tk (i := 4) rfl rfl (by intro q hq; simp only [List.mem_cons, List.not_mem_nil, or_false] at hq; rcases hq with rfl | rfl <;> simp) (v_field (k := 2) rfl rfl rfl) (d_tk (i := 5) rfl rfl (by intro q hq; simp only [List.mem_cons, List.not_mem_nil, or_false] at hq; rcases hq with rfl | rfl <;> simp) (v_field (k := 0) rfl rfl rfl) (d_tk (i := 6) rfl rfl (by intro q hq; simp only [List.mem_cons, List.not_mem_nil, or_false] at hq; rcases hq with rfl | rfl <;> simp) (v_load (v := .int .u64 p.ix) rfl rfl (cell_at (j := 1) rfl rfl)) (d_tk (i := 7) rfl rfl (by intro q hq; simp only [List.mem_cons, List.not_mem_nil, or_false] at hq; rcases hq with rfl | rfl <;> simp) (v_sub rfl rfl rfl) (d_tk (i := 8) rfl rfl (by intro q hq; simp only [List.mem_cons, List.not_mem_nil, or_false] at hq; rcases hq with rfl | rfl <;> simp) (v_sub rfl rfl rfl) (d_tk (i := 9) rfl rfl (by intro q hq; simp only [List.mem_cons, List.not_mem_nil, or_false] at hq; rcases hq with rfl | rfl <;> simp) (v_assign rfl) (d_end (by decide +kernel) (r_seq (r_seq (d_region 1000000 rfl ([.mem x e.cells 4, .mem m p.cells 7]) ?_)))))))))))))
          refine d_tk (i := 0) rfl rfl (by intro q hq; simp only [List.mem_cons, List.not_mem_nil, or_false] at hq; rcases hq with rfl | rfl <;> simp) (v_move rfl) (d_one (i := 1) (by decide +kernel) (d1_call rfl rfl rfl rfl (c_call callable114 rfl) (oct_REnd _ _ a _ _ _ _ hv5) ?_))
          rintro v' F1 H' ⟨rfl, rfl, rfl⟩ _
          refine ⟨fun w hw => held_of hw (by first | exact Fz.le_refl _ | assumption) (by intro q hq; simp only [List.mem_cons, List.not_mem_nil, or_false] at hq; rcases hq with rfl | rfl <;> simp), ?_⟩
          refine j_slot 53 rfl (v' := .bool true) (by rw [he2]) ?_
          refine d_tk (i := 2) rfl rfl (by intro q hq; simp only [List.mem_cons, List.not_mem_nil, or_false] at hq; rcases hq with rfl | rfl <;> simp) (v_not rfl) (d_tk (i := 3) rfl rfl (by intro q hq; simp only [List.mem_cons, List.not_mem_nil, or_false] at hq; rcases hq with rfl | rfl <;> simp) (v_move rfl) (d_tk (i := 4) rfl rfl (by intro q hq; simp only [List.mem_cons, List.not_mem_nil, or_false] at hq; rcases hq with rfl | rfl <;> simp) (v_field (k := 0) rfl rfl rfl) (d_tk (i := 5) rfl rfl (by intro q hq; simp only [List.mem_cons, List.not_mem_nil, or_false] at hq; rcases hq with rfl | rfl <;> simp) (v_load (v := .int .u64 e.ix) rfl rfl (cell_at (j := 0) rfl (by rw [hec]; rfl))) (d_tk (i := 6) rfl rfl (by intro q hq; simp only [List.mem_cons, List.not_mem_nil, or_false] at hq; rcases hq with rfl | rfl <;> simp) (v_move rfl) (d_tk (i := 7) rfl rfl (by intro q hq; simp only [List.mem_cons, List.not_mem_nil, or_false] at hq; rcases hq with rfl | rfl <;> simp) (v_nilCheck rfl) (d_tk (i := 8) rfl rfl (by intro q hq; simp only [List.mem_cons, List.not_mem_nil, or_false] at hq; rcases hq with rfl | rfl <;> simp) (v_field (k := 2) rfl rfl rfl) (d_tk (i := 9) rfl rfl (by intro q hq; simp only [List.mem_cons, List.not_mem_nil, or_false] at hq; rcases hq with rfl | rfl <;> simp) (v_field (k := 0) rfl rfl rfl) (d_tk (i := 10) rfl rfl (by intro q hq; simp only [List.mem_cons, List.not_mem_nil, or_false] at hq; rcases hq with rfl | rfl <;> simp) (v_load (v := .int .u64 p.ix) rfl rfl (cell_at (j := 1) rfl rfl)) (d_tk (i := 11) rfl rfl (by intro q hq; simp only [List.mem_cons, List.not_mem_nil, or_false] at hq; rcases hq with rfl | rfl <;> simp) (v_leq rfl rfl) (d_tk (i := 12) rfl rfl (by intro q hq; simp only [List.mem_cons, List.not_mem_nil, or_false] at hq; rcases hq with rfl | rfl <;> simp) (v_pick0 rfl rfl) ?_))))))))))
          refine j_slot 64 rfl (v' := .bool true) (by rw [decide_eq_true (by omega)]) ?_
          refine d_tk (i := 13) rfl rfl (by intro q hq; simp only [List.mem_cons, List.not_mem_nil, or_false] at hq; rcases hq with rfl | rfl <;> simp) (v_move rfl) (d_sk (i := 14) rfl rfl (by intro q hq; simp only [List.mem_cons, List.not_mem_nil, or_false] at hq; rcases hq with rfl | rfl <;> simp) (d_sk (i := 15) rfl rfl (by intro q hq; simp only [List.mem_cons, List.not_mem_nil, or_false] at hq; rcases hq with rfl | rfl <;> simp) (d_sk (i := 16) rfl rfl (by intro q hq; simp only [List.mem_cons, List.not_mem_nil, or_false] at hq; rcases hq with rfl | rfl <;> simp) (d_sk (i := 17) rfl rfl (by intro q hq; simp only [List.mem_cons, List.not_mem_nil, or_false] at hq; rcases hq with rfl | rfl <;> simp) (d_sk (i := 18) rfl rfl (by intro q hq; simp only [List.mem_cons, List.not_mem_nil, or_false] at hq; rcases hq with rfl | rfl <;> simp) (d_sk (i := 19) rfl rfl (by intro q hq; simp only [List.mem_cons, List.not_mem_nil, or_false] at hq; rcases hq with rfl | rfl <;> simp) (d_sk (i := 20) rfl rfl (by intro q hq; simp only [List.mem_cons, List.not_mem_nil, or_false] at hq; rcases hq with rfl | rfl <;> simp) (d_sk (i := 21) rfl rfl (by intro q hq; simp only [List.mem_cons, List.not_mem_nil, or_false] at hq; rcases hq with rfl | rfl <;> simp) (d_tk (i := 22) rfl rfl (by intro q hq; simp only [List.mem_cons, List.not_mem_nil, or_false] at hq; rcases hq with rfl | rfl <;> simp) (v_pick1 rfl rfl) (d_end (by decide +kernel) (r_true rfl (r_seq (r_region rfl ?_)))))))))))))
          refine o_vl rfl rfl (v_assign rfl) (o_end ?_)
          refine j_sel (H' := Ent.mem m p.cells 7 :: (Fr)) [[Ent.mem a [v5, .bool x4.2.2] 2], [Ent.mem x e.cells 4], [Ent.mem m p.cells 7], Fr] [2, 3] rfl rfl rfl ?_
          exact r_ret1 Tryz.func95 rfl rfl ⟨⟨hF1, .inl ⟨had.trans hade, rfl, rfl⟩⟩, hF1⟩
        · skip
          refine d_region 1000000 rfl ([.mem x e.cells 4, .mem m p.cells 7]) ?_
          refine d_tk (i := 0) rfl rfl (by intro q hq; simp only [List.mem_cons, List.not_mem_nil, or_false] at hq; rcases hq with rfl | rfl <;> simp) (v_field (k := 0) rfl rfl rfl) (d_tk (i := 1) rfl rfl (by intro q hq; simp only [List.mem_cons, List.not_mem_nil, or_false] at hq; rcases hq with rfl | rfl <;> simp) (v_load (v := .int .u64 e.ix) rfl rfl (cell_at (j := 0) rfl (by rw [hec]; rfl))) (d_tk (i := 2) rfl rfl (by intro q hq; simp only [List.mem_cons, List.not_mem_nil, or_false] at hq; rcases hq with rfl | rfl <;> simp) (v_move rfl) (d_tk (i := 3) rfl rfl (by intro q hq; simp only [List.mem_cons, List.not_mem_nil, or_false] at hq; rcases hq with rfl | rfl <;> simp) (v_nilCheck rfl) (d_tk (i := 4) rfl rfl (by intro q hq; simp only [List.mem_cons, List.not_mem_nil, or_false] at hq; rcases hq with rfl | rfl <;> simp) (v_field (k := 2) rfl rfl rfl) (d_tk (i := 5) rfl rfl (by intro q hq; simp only [List.mem_cons, List.not_mem_nil, or_false] at hq; rcases hq with rfl | rfl <;> simp) (v_field (k := 0) rfl rfl rfl) (d_tk (i := 6) rfl rfl (by intro q hq; simp only [List.mem_cons, List.not_mem_nil, or_false] at hq; rcases hq with rfl | rfl <;> simp) (v_load (v := .int .u64 p.ix) rfl rfl (cell_at (j := 1) rfl rfl)) (d_tk (i := 7) rfl rfl (by intro q hq; simp only [List.mem_cons, List.not_mem_nil, or_false] at hq; rcases hq with rfl | rfl <;> simp) (v_sub rfl rfl (r := ((e.ix - p.ix : Nat) : Int)) ((wrap_u64 (by omega) (by omega)).trans (by omega))) (d_tk (i := 8) rfl rfl (by intro q hq; simp only [List.mem_cons, List.not_mem_nil, or_false] at hq; rcases hq with rfl | rfl <;> simp) (v_sub rfl rfl (r := ((e.ix - p.ix - 1 : Nat) : Int)) ((wrap_u64 (by omega) (by omega)).trans (by omega))) (d_tk (i := 9) rfl rfl (by intro q hq; simp only [List.mem_cons, List.not_mem_nil, or_false] at hq; rcases hq with rfl | rfl <;> simp) (v_assign rfl) (d_end (by decide +kernel) (r_seq (r_seq (d_region 1000000 rfl ([.mem x e.cells 4, .mem m p.cells 7]) ?_)))))))))))))
          refine d_tk (i := 0) rfl rfl (by intro q hq; simp only [List.mem_cons, List.not_mem_nil, or_false] at hq; rcases hq with rfl | rfl <;> simp) (v_move rfl) (d_one (i := 1) (by decide +kernel) (d1_call rfl rfl rfl rfl (c_call callable114 rfl) (oct_REnd _ _ a _ _ _ _ hv5) ?_))
          rintro v' F1 H' ⟨rfl, rfl, rfl⟩ _
          refine ⟨fun w hw => held_of hw (by first | exact Fz.le_refl _ | assumption) (by intro q hq; simp only [List.mem_cons, List.not_mem_nil, or_false] at hq; rcases hq with rfl | rfl <;> simp), ?_⟩
          refine j_slot 53 rfl (v' := .bool true) (by rw [he2]) ?_
          refine d_tk (i := 2) rfl rfl (by intro q hq; simp only [List.mem_cons, List.not_mem_nil, or_false] at hq; rcases hq with rfl | rfl <;> simp) (v_not rfl) (d_tk (i := 3) rfl rfl (by intro q hq; simp only [List.mem_cons, List.not_mem_nil, or_false] at hq; rcases hq with rfl | rfl <;> simp) (v_move rfl) (d_tk (i := 4) rfl rfl (by intro q hq; simp only [List.mem_cons, List.not_mem_nil, or_false] at hq; rcases hq with rfl | rfl <;> simp) (v_field (k := 0) rfl rfl rfl) (d_tk (i := 5) rfl rfl (by intro q hq; simp only [List.mem_cons, List.not_mem_nil, or_false] at hq; rcases hq with rfl | rfl <;> simp) (v_load (v := .int .u64 e.ix) rfl rfl (cell_at (j := 0) rfl (by rw [hec]; rfl))) (d_tk (i := 6) rfl rfl (by intro q hq; simp only [List.mem_cons, List.not_mem_nil, or_false] at hq; rcases hq with rfl | rfl <;> simp) (v_move rfl) (d_tk (i := 7) rfl rfl (by intro q hq; simp only [List.mem_cons, List.not_mem_nil, or_false] at hq; rcases hq with rfl | rfl <;> simp) (v_nilCheck rfl) (d_tk (i := 8) rfl rfl (by intro q hq; simp only [List.mem_cons, List.not_mem_nil, or_false] at hq; rcases hq with rfl | rfl <;> simp) (v_field (k := 2) rfl rfl rfl) (d_tk (i := 9) rfl rfl (by intro q hq; simp only [List.mem_cons, List.not_mem_nil, or_false] at hq; rcases hq with rfl | rfl <;> simp) (v_field (k := 0) rfl rfl rfl) (d_tk (i := 10) rfl rfl (by intro q hq; simp only [List.mem_cons, List.not_mem_nil, or_false] at hq; rcases hq with rfl | rfl <;> simp) (v_load (v := .int .u64 p.ix) rfl rfl (cell_at (j := 1) rfl rfl)) (d_tk (i := 11) rfl rfl (by intro q hq; simp only [List.mem_cons, List.not_mem_nil, or_false] at hq; rcases hq with rfl | rfl <;> simp) (v_leq rfl rfl) (d_tk (i := 12) rfl rfl (by intro q hq; simp only [List.mem_cons, List.not_mem_nil, or_false] at hq; rcases hq with rfl | rfl <;> simp) (v_pick0 rfl rfl) ?_))))))))))
          refine j_slot 64 rfl (v' := .bool false) (by rw [decide_eq_false (by omega)]) ?_
          refine d_tk (i := 13) rfl rfl (by intro q hq; simp only [List.mem_cons, List.not_mem_nil, or_false] at hq; rcases hq with rfl | rfl <;> simp) (v_move rfl) (d_tk (i := 14) rfl rfl (by intro q hq; simp only [List.mem_cons, List.not_mem_nil, or_false] at hq; rcases hq with rfl | rfl <;> simp) (v_move rfl) (d_tk (i := 15) rfl rfl (by intro q hq; simp only [List.mem_cons, List.not_mem_nil, or_false] at hq; rcases hq with rfl | rfl <;> simp) (v_move rfl) (d_tk (i := 16) rfl rfl (by intro q hq; simp only [List.mem_cons, List.not_mem_nil, or_false] at hq; rcases hq with rfl | rfl <;> simp) (v_nilCheck rfl) (d_tk (i := 17) rfl rfl (by intro q hq; simp only [List.mem_cons, List.not_mem_nil, or_false] at hq; rcases hq with rfl | rfl <;> simp) (v_field (k := 6) rfl rfl rfl) (d_tk (i := 18) rfl rfl (by intro q hq; simp only [List.mem_cons, List.not_mem_nil, or_false] at hq; rcases hq with rfl | rfl <;> simp) (v_load (v := .slice a0 p.l.length cap) rfl rfl (cell_at (j := 1) rfl (by show some p.lv = _; rw [hlv]))) (d_tk (i := 19) rfl rfl (by intro q hq; simp only [List.mem_cons, List.not_mem_nil, or_false] at hq; rcases hq with rfl | rfl <;> simp) (v_len rfl rfl) (d_tk (i := 20) rfl rfl (by intro q hq; simp only [List.mem_cons, List.not_mem_nil, or_false] at hq; rcases hq with rfl | rfl <;> simp) (v_conv rfl rfl rfl (wrap_u64 (by omega) (by omega))) (d_tk (i := 21) rfl rfl (by intro q hq; simp only [List.mem_cons, List.not_mem_nil, or_false] at hq; rcases hq with rfl | rfl <;> simp) (v_gtr rfl rfl) (d_tk (i := 22) rfl rfl (by intro q hq; simp only [List.mem_cons, List.not_mem_nil, or_false] at hq; rcases hq with rfl | rfl <;> simp) (v_pick0 rfl rfl) (d_end (by decide +kernel) (r_if rfl (fun h3 => ?_) (fun h3 => ?_))))))))))))
          · rw [if_pos (.inr (by omega))] at hade
            refine r_seq (r_region rfl (o_vl rfl rfl (v_assign rfl) (o_end ?_)))
            refine j_sel (H' := Ent.mem m p.cells 7 :: (Fr)) [[Ent.mem a [v5, .bool x4.2.2] 2], [Ent.mem x e.cells 4], [Ent.mem m p.cells 7], Fr] [2, 3] rfl rfl rfl ?_
            exact r_ret1 Tryz.func95 rfl rfl ⟨⟨hF1, .inl ⟨had.trans hade, rfl, rfl⟩⟩, hF1⟩
          · rw [if_neg (by omega)] at hade
            refine j_sel (H' := Ent.mem x e.cells 4 :: (Ent.mem m p.cells 7 :: (Fr))) [[Ent.mem a [v5, .bool x4.2.2] 2], [Ent.mem x e.cells 4], [Ent.mem m p.cells 7], Fr] [1, 2, 3] rfl rfl rfl ?_
            obtain ⟨at_, hat⟩ : ∃ at_ : Nat, at_ = e.ix - p.ix - 1 := ⟨_, rfl⟩
            rw [← hat] at hade ⊢
            have hatl : at_ ≤ p.l.length := by omega
            have hlen' : (p.l.take at_ ++ [e]).length = at_ + 1 := by simp; omega
            have hu : Sl F1 [] 4 (.slice a0 at_ at_) at_ (enV (p.l.take at_)) := by
              have h := hpF.lv
              rw [hlv] at h
              have h' := Sl.cut4 h hatl (Nat.le_refl at_) (by omega)
              have e9 : (p.l.take at_).length = at_ := by simp; omega
              rw [e9] at h'
              exact h'
            refine r_skip (d_region 13 rfl ([.mem x e.cells 4, .mem m p.cells 7]) ?_)
            refine d_tk (i := 0) rfl rfl (by intro q hq; simp only [List.mem_cons, List.not_mem_nil, or_false] at hq; rcases hq with rfl | rfl <;> simp) (v_move rfl) (d_tk (i := 1) rfl rfl (by intro q hq; simp only [List.mem_cons, List.not_mem_nil, or_false] at hq; rcases hq with rfl | rfl <;> simp) (v_move rfl) (d_tk (i := 2) rfl rfl (by intro q hq; simp only [List.mem_cons, List.not_mem_nil, or_false] at hq; rcases hq with rfl | rfl <;> simp) (v_nilCheck rfl) (d_tk (i := 3) rfl rfl (by intro q hq; simp only [List.mem_cons, List.not_mem_nil, or_false] at hq; rcases hq with rfl | rfl <;> simp) (v_field (k := 6) rfl rfl rfl) (d_tk (i := 4) rfl rfl (by intro q hq; simp only [List.mem_cons, List.not_mem_nil, or_false] at hq; rcases hq with rfl | rfl <;> simp) (v_load (v := .slice a0 p.l.length cap) rfl rfl (cell_at (j := 1) rfl (by show some p.lv = _; rw [hlv]))) (d_tk (i := 5) rfl rfl (by intro q hq; simp only [List.mem_cons, List.not_mem_nil, or_false] at hq; rcases hq with rfl | rfl <;> simp) (v_move rfl) (d_tk (i := 6) rfl rfl (by intro q hq; simp only [List.mem_cons, List.not_mem_nil, or_false] at hq; rcases hq with rfl | rfl <;> simp) (v_sliceH (sz := 4) rfl rfl rfl rfl rfl (by omega)) (d_tk (i := 8) rfl rfl (by intro q hq; simp only [List.mem_cons, List.not_mem_nil, or_false] at hq; rcases hq with rfl | rfl <;> simp) (v_loadAgg (sz := 4) (cs := e.cells) rfl rfl rfl rfl (cells_of (j := 0) _ _ rfl rfl)) ?_)))))))
            refine j_slot 81 rfl (v' := .slice a0 at_ cap) (sliced0 _ _ _ _) ?_
            refine d_all [7, 9] (by decide +kernel) (by simp) ?_
            intro zz hzz
            simp only [List.mem_cons, List.not_mem_nil, or_false] at hzz
            rcases hzz with rfl | rfl
            · refine d1_call rfl rfl rfl rfl (c_call callable116 rfl) (en_Clip _ _ a0 at_ cap _ (by omega)) ?_
              rintro v' F1 H' ⟨rfl, rfl, rfl⟩ _
              refine ⟨fun w hw => held_of hw (by first | exact Fz.le_refl _ | assumption) (by intro q hq; simp only [List.mem_cons, List.not_mem_nil, or_false] at hq; rcases hq with rfl | rfl <;> simp), ?_⟩
              refine d_one (i := 9) (by decide +kernel) (d1_act rfl rfl rfl rfl (a_buildS (sz := 4) (cs := e.cells) [.tmp 83] rfl rfl rfl rfl rfl rfl rfl rfl rfl rfl) ?_)
              rintro v' H' ⟨y, rfl, rfl⟩
              refine ⟨fun w hw => held_of hw (by first | exact Fz.le_refl _ | assumption) (by intro q hq; simp only [List.mem_cons, List.not_mem_nil, or_false] at hq; rcases hq with rfl | rfl <;> simp), ?_⟩
              refine d_one (i := 10) (by decide +kernel) (d1_act rfl rfl rfl rfl (a_appendNew (sz := 4) (bytes := 48) (m := 1) (ys := enV [e]) ⟨⟨_, _, _, rfl, rfl, rfl, rfl, rfl, rfl⟩, by decide⟩ rfl (hu.frz (Fz.le_refl _)) rfl (sl_lit (e := e) (List.mem_cons_self ..)) (by decide) (by unfold maxLen; omega) (by omega)) ?_)
              rintro v' H' ⟨bb, cc, rfl, hcc, rfl⟩
              refine ⟨fun w hw => held_of hw (by first | exact Fz.le_refl _ | assumption) (by intro q hq; simp only [List.mem_cons, List.not_mem_nil, or_false] at hq; rcases hq with rfl | rfl <;> simp), ?_⟩
              rw [← vec_append]
              refine d_tk (i := 11) rfl rfl (by intro q hq; simp only [List.mem_cons, List.not_mem_nil, or_false] at hq; rcases hq with rfl | rfl <;> simp) (v_nilCheck rfl) (d_tk (i := 12) rfl rfl (by intro q hq; simp only [List.mem_cons, List.not_mem_nil, or_false] at hq; rcases hq with rfl | rfl <;> simp) (v_field (k := 6) rfl rfl rfl) (d_one (i := 13) (by decide +kernel) ?_))
              refine d1_last 1000000 ([]) rfl rfl rfl (a_store1 3 rfl rfl rfl rfl rfl (Nat.le_of_ble_eq_true rfl)) ?_
              refine j_heap (H' := (Bf.at bb cc).ents 4 (enV (p.l.take at_ ++ [e])) ++ (.mem y e.cells 4 :: .mem x e.cells 4 :: .mem m ({ p with lv := .slice (some ⟨bb, 0, none⟩) (at_ + 1) cc, l := p.l.take at_ ++ [e] } : Im).cells 7 :: Fr)) rfl ?_
              refine j_freezeBf (n := at_ + 1) hcc (by rw [en_len, hlen']) fun F2 hF2 hs2 => ?_
              refine j_drop (H' := .mem m ({ p with lv := .slice (some ⟨bb, 0, none⟩) (at_ + 1) cc, l := p.l.take at_ ++ [e] } : Im).cells 7 :: Fr) ((List.sublist_cons_self _ _).trans (List.sublist_cons_self _ _)) ?_
              refine d_end (by decide +kernel) (r_inBlock (r_seq (r_region rfl (o_vl rfl rfl (v_assign rfl) (o_end ?_)))))
              refine r_ret1 Tryz.func95 rfl rfl ⟨⟨Fz.le_trans hF1 hF2, .inr ⟨{ p with lv := .slice (some ⟨bb, 0, none⟩) (at_ + 1) cc, l := p.l.take at_ ++ [e] }, ?_, ⟨q1, q2, q3, q4, q5, q6, hpd.frz (Fz.le_trans hF1 hF2), hpdl, ?_, ?_⟩, ?_, rfl, rfl⟩⟩, Fz.le_trans hF1 hF2⟩
              · rw [had, hade]
                simp only [Im.pure, List.map_append, List.map_take, List.map_cons, List.map_nil]
              · show Sl F2 [] 4 _ (p.l.take at_ ++ [e]).length _
                rw [hlen']
                exact hs2
              · intro q hq
                rcases List.mem_append.1 hq with hq | hq
                · exact (hpF.l q (List.mem_of_mem_take hq)).frz hF2
                · rw [List.mem_singleton] at hq
                  rw [hq]
                  exact heok.frz hF2
              · show (p.l.take at_ ++ [e]).length ≤ _
                omega
            · refine d1_act rfl rfl rfl rfl (a_buildS (sz := 4) (cs := e.cells) [.tmp 83] rfl rfl rfl rfl rfl rfl rfl rfl rfl rfl) ?_
              rintro v' H' ⟨y, rfl, rfl⟩
              refine ⟨fun w hw => held_of hw (by first | exact Fz.le_refl _ | assumption) (by intro q hq; simp only [List.mem_cons, List.not_mem_nil, or_false] at hq; rcases hq with rfl | rfl <;> simp), ?_⟩
              refine d_one (i := 7) (by decide +kernel) (d1_call rfl rfl rfl rfl (c_call callable116 rfl) (en_Clip _ _ a0 at_ cap _ (by omega)) ?_)
              rintro v' F1 H' ⟨rfl, rfl, rfl⟩ _
              refine ⟨fun w hw => held_of hw (by first | exact Fz.le_refl _ | assumption) (by intro q hq; simp only [List.mem_cons, List.not_mem_nil, or_false] at hq; rcases hq with rfl | rfl <;> simp), ?_⟩
              refine d_one (i := 10) (by decide +kernel) (d1_act rfl rfl rfl rfl (a_appendNew (sz := 4) (bytes := 48) (m := 1) (ys := enV [e]) ⟨⟨_, _, _, rfl, rfl, rfl, rfl, rfl, rfl⟩, by decide⟩ rfl (hu.frz (Fz.le_refl _)) rfl (sl_lit (e := e) (List.mem_cons_self ..)) (by decide) (by unfold maxLen; omega) (by omega)) ?_)
              rintro v' H' ⟨bb, cc, rfl, hcc, rfl⟩
              refine ⟨fun w hw => held_of hw (by first | exact Fz.le_refl _ | assumption) (by intro q hq; simp only [List.mem_cons, List.not_mem_nil, or_false] at hq; rcases hq with rfl | rfl <;> simp), ?_⟩
              rw [← vec_append]
              refine d_tk (i := 11) rfl rfl (by intro q hq; simp only [List.mem_cons, List.not_mem_nil, or_false] at hq; rcases hq with rfl | rfl <;> simp) (v_nilCheck rfl) (d_tk (i := 12) rfl rfl (by intro q hq; simp only [List.mem_cons, List.not_mem_nil, or_false] at hq; rcases hq with rfl | rfl <;> simp) (v_field (k := 6) rfl rfl rfl) (d_one (i := 13) (by decide +kernel) ?_))
              refine d1_last 1000000 ([]) rfl rfl rfl (a_store1 3 rfl rfl rfl rfl rfl (Nat.le_of_ble_eq_true rfl)) ?_
              refine j_heap (H' := (Bf.at bb cc).ents 4 (enV (p.l.take at_ ++ [e])) ++ (.mem y e.cells 4 :: .mem x e.cells 4 :: .mem m ({ p with lv := .slice (some ⟨bb, 0, none⟩) (at_ + 1) cc, l := p.l.take at_ ++ [e] } : Im).cells 7 :: Fr)) rfl ?_
              refine j_freezeBf (n := at_ + 1) hcc (by rw [en_len, hlen']) fun F2 hF2 hs2 => ?_
              refine j_drop (H' := .mem m ({ p with lv := .slice (some ⟨bb, 0, none⟩) (at_ + 1) cc, l := p.l.take at_ ++ [e] } : Im).cells 7 :: Fr) ((List.sublist_cons_self _ _).trans (List.sublist_cons_self _ _)) ?_
              refine d_end (by decide +kernel) (r_inBlock (r_seq (r_region rfl (o_vl rfl rfl (v_assign rfl) (o_end ?_)))))
              refine r_ret1 Tryz.func95 rfl rfl ⟨⟨Fz.le_trans hF1 hF2, .inr ⟨{ p with lv := .slice (some ⟨bb, 0, none⟩) (at_ + 1) cc, l := p.l.take at_ ++ [e] }, ?_, ⟨q1, q2, q3, q4, q5, q6, hpd.frz (Fz.le_trans hF1 hF2), hpdl, ?_, ?_⟩, ?_, rfl, rfl⟩⟩, Fz.le_trans hF1 hF2⟩
              · rw [had, hade]
                simp only [Im.pure, List.map_append, List.map_take, List.map_cons, List.map_nil]
              · show Sl F2 [] 4 _ (p.l.take at_ ++ [e]).length _
                rw [hlen']
                exact hs2
              · intro q hq
                rcases List.mem_append.1 hq with hq | hq
                · exact (hpF.l q (List.mem_of_mem_take hq)).frz hF2
                · rw [List.mem_singleton] at hq
                  rw [hq]
                  exact heok.frz hF2
              · show (p.l.take at_ ++ [e]).length ≤ _
                omega
      · rw [if_neg he2] at hr
        rw [hr] at had
        have had : addP p.pure 2 d = none := had
        refine d_region 1000000 rfl ([.mem x e.cells 4, .mem m p.cells 7]) ?_
        refine d_tk (i := 0) rfl rfl (by intro q hq; simp only [List.mem_cons, List.not_mem_nil, or_false] at hq; rcases hq with rfl | rfl <;> simp) (v_field (k := 0) rfl rfl rfl) (d_tk (i := 1) rfl rfl (by intro q hq; simp only [List.mem_cons, List.not_mem_nil, or_false] at hq; rcases hq with rfl | rfl <;> simp) (v_load (v := .int .u64 e.ix) rfl rfl (cell_at (j := 0) rfl (by rw [hec]; rfl))) (d_tk (i := 2) rfl rfl (by intro q hq; simp only [List.mem_cons, List.not_mem_nil, or_false] at hq; rcases hq with rfl | rfl <;> simp) (v_move rfl) (d_tk (i := 3) rfl rfl (by intro q hq; simp only [List.mem_cons, List.not_mem_nil, or_false] at hq; rcases hq with rfl | rfl <;> simp) (v_nilCheck rfl) (d_tk (i := 4) rfl rfl (by intro q hq; simp only [List.mem_cons, List.not_mem_nil, or_false] at hq; rcases hq with rfl | rfl <;> simp) (v_field (k := 2) rfl rfl rfl) (d_tk (i := 5) rfl rfl (by intro q hq; simp only [List.mem_cons, List.not_mem_nil, or_false] at hq; rcases hq with rfl | rfl <;> simp) (v_field (k := 0) rfl rfl rfl) (d_tk (i := 6) rfl rfl (by intro q hq; simp only [List.mem_cons, List.not_mem_nil, or_false] at hq; rcases hq with rfl | rfl <;> simp) (v_load (v := .int .u64 p.ix) rfl rfl (cell_at (j := 1) rfl rfl)) (d_tk (i := 7) rfl rfl (by intro q hq; simp only [List.mem_cons, List.not_mem_nil, or_false] at hq; rcases hq with rfl | rfl <;> simp) (v_sub rfl rfl rfl) (d_tk (i := 8) rfl rfl (by intro q hq; simp only [List.mem_cons, List.not_mem_nil, or_false] at hq; rcases hq with rfl | rfl <;> simp) (v_sub rfl rfl rfl) (d_tk (i := 9) rfl rfl (by intro q hq; simp only [List.mem_cons, List.not_mem_nil, or_false] at hq; rcases hq with rfl | rfl <;> simp) (v_assign rfl) (d_end (by decide +kernel) (r_seq (r_seq (d_region 1000000 rfl ([]) ?_)))))))))))))
        refine d_tk (i := 0) rfl rfl (by simp) (v_move rfl) (d_one (i := 1) (by decide +kernel) (d1_call rfl rfl rfl rfl (c_call callable114 rfl) (oct_REnd _ _ a _ _ _ _ hv5) ?_))
        rintro v' F1 H' ⟨rfl, rfl, rfl⟩ _
        refine ⟨fun w hw => held_of hw (by first | exact Fz.le_refl _ | assumption) (by simp), ?_⟩
        refine j_slot 53 rfl (v' := .bool false) (by rw [Bool.not_eq_true] at he2; rw [he2]) ?_
        refine d_tk (i := 2) rfl rfl (by simp) (v_not rfl) (d_tk (i := 3) rfl rfl (by simp) (v_move rfl) (d_sk (i := 4) rfl rfl (by simp) (d_sk (i := 5) rfl rfl (by simp) (d_sk (i := 6) rfl rfl (by simp) (d_sk (i := 7) rfl rfl (by simp) (d_sk (i := 8) rfl rfl (by simp) (d_sk (i := 9) rfl rfl (by simp) (d_sk (i := 10) rfl rfl (by simp) (d_sk (i := 11) rfl rfl (by simp) (d_tk (i := 12) rfl rfl (by simp) (v_pick1 rfl rfl) (d_tk (i := 13) rfl rfl (by simp) (v_move rfl) (d_sk (i := 14) rfl rfl (by simp) (d_sk (i := 15) rfl rfl (by simp) ?_)))))))))))))
        refine d_sk (i := 16) rfl rfl (by simp) (d_sk (i := 17) rfl rfl (by simp) (d_sk (i := 18) rfl rfl (by simp) (d_sk (i := 19) rfl rfl (by simp) (d_sk (i := 20) rfl rfl (by simp) (d_sk (i := 21) rfl rfl (by simp) (d_tk (i := 22) rfl rfl (by simp) (v_pick1 rfl rfl) (d_end (by decide +kernel) (r_true rfl (r_seq (r_region rfl (o_vl rfl rfl (v_assign rfl) (o_end ?_))))))))))))
        refine j_sel (H' := Ent.mem m p.cells 7 :: (Fr)) [[Ent.mem a [v5, .bool x4.2.2] 2], [Ent.mem x e.cells 4], [Ent.mem m p.cells 7], Fr] [2, 3] rfl rfl rfl ?_
        exact r_ret1 Tryz.func95 rfl rfl ⟨⟨hF1, .inl ⟨had, rfl, rfl⟩⟩, hF1⟩
    · refine r_seq (r_region rfl (o_vl rfl rfl (v_eql rfl rfl) (o_vl rfl rfl (v_assign rfl) (o_end (r_if rfl (fun hk3 => ?_) (fun hk3 => ?_))))))
      · obtain rfl : k = 3 := by omega
        have hx1 : (rdNum d false 8).1 < 18446744073709551616 := rdNum_lt _ _ 8
        have hx2 : (rdNum (rdNum d false 8).2.1 (rdNum d false 8).2.2 8).1 < 18446744073709551616 := rdNum_lt _ _ 8
        have hx3 : (rdNum (rdNum (rdNum d false 8).2.1 (rdNum d false 8).2.2 8).2.1 (rdNum (rdNum d false 8).2.1 (rdNum d false 8).2.2 8).2.2 8).1 < 18446744073709551616 := rdNum_lt _ _ 8
        have hl2 := rdNum_len (rdNum d false 8).2.1 (rdNum d false 8).2.2 8
        have hl3 := rdNum_len (rdNum (rdNum d false 8).2.1 (rdNum d false 8).2.2 8).2.1 (rdNum (rdNum d false 8).2.1 (rdNum d false 8).2.2 8).2.2 8
        have had : addP p.pure 3 d = (snapR d).map fun q => { p.pure with ix := q.1, tm := q.2.1, vt := q.2.2.1, data := q.2.2.2, l := [] } := rfl
        have hbl := rdBytes_len (rdNum (rdNum (rdNum d false 8).2.1 (rdNum d false 8).2.2 8).2.1 (rdNum (rdNum d false 8).2.1 (rdNum d false 8).2.2 8).2.2 8).2.1 (rdNum (rdNum (rdNum d false 8).2.1 (rdNum d false 8).2.2 8).2.1 (rdNum (rdNum d false 8).2.1 (rdNum d false 8).2.2 8).2.2 8).2.2
        have hr := snapR.eq_1 d
        try dsimp only at hr
        refine r_seq (r_region rfl (o_vl rfl rfl (v_move rfl) (o_call rfl rfl rfl rfl (c_call callable110 rfl) (oct_RNum _ _ a _ d false 8 _ hv (by omega)) ?_)))
        rintro v' F H' ⟨rfl, rfl, v1, hv1, rfl⟩ _
        refine o_vl rfl rfl (v_move rfl) (o_call rfl rfl rfl rfl (c_call callable110 rfl) (oct_RNum _ _ a _ _ _ 8 _ hv1 (by omega)) ?_)
        rintro v' F H' ⟨rfl, rfl, v2, hv2, rfl⟩ _
        refine o_vl rfl rfl (v_move rfl) (o_call rfl rfl rfl rfl (c_call callable110 rfl) (oct_RNum _ _ a _ _ _ 8 _ hv2 (by omega)) ?_)
        rintro v' F H' ⟨rfl, rfl, v3, hv3, rfl⟩ _
        refine o_vl rfl rfl (v_move rfl) (o_call rfl rfl rfl rfl (c_call callable115 rfl) (oct_RBytes _ _ a _ _ _ 1048576 _ hv3 (by omega) (by decide)) ?_)
        rintro v4 F1 H' ⟨hF1, hs4, v5, hv5, rfl⟩ _
        generalize rdBytes (rdNum (rdNum (rdNum d false 8).2.1 (rdNum d false 8).2.2 8).2.1 (rdNum (rdNum d false 8).2.1 (rdNum d false 8).2.2 8).2.2 8).2.1 (rdNum (rdNum (rdNum d false 8).2.1 (rdNum d false 8).2.2 8).2.1 (rdNum (rdNum d false 8).2.1 (rdNum d false 8).2.2 8).2.2 8).2.2 1048576 = x4 at *
        generalize rdNum (rdNum (rdNum d false 8).2.1 (rdNum d false 8).2.2 8).2.1 (rdNum (rdNum d false 8).2.1 (rdNum d false 8).2.2 8).2.2 8 = x3 at *
        generalize rdNum (rdNum d false 8).2.1 (rdNum d false 8).2.2 8 = x2 at *
        generalize rdNum d false 8 = x1 at *
        obtain ⟨a4, c4, rfl, hc4⟩ := Sl.shape hs4
        refine o_vl rfl rfl (v_build rfl rfl) (o_act rfl rfl rfl rfl (a_alloc rfl) ?_)
        rintro v' H' ⟨x, rfl, rfl⟩
        refine o_act0 rfl rfl rfl (a_store (sz := 4) 0 rfl rfl rfl rfl rfl rfl (Nat.le_of_ble_eq_true rfl)) ?_
        refine j_heap (H' := .mem x [.int .u64 x1.1, .int .u64 x2.1, .int .u64 x3.1, .slice a4 x4.1.length c4] 4 :: .mem a [v5, .bool x4.2.2] 2 :: .mem m p.cells 7 :: Fr) rfl ?_
        refine j_sel (H' := Ent.mem a [v5, .bool x4.2.2] 2 :: (Ent.mem x [.int .u64 x1.1, .int .u64 x2.1, .int .u64 x3.1, .slice a4 x4.1.length c4] 4 :: (Ent.mem m p.cells 7 :: (Fr)))) [[Ent.mem x [.int .u64 x1.1, .int .u64 x2.1, .int .u64 x3.1, .slice a4 x4.1.length c4] 4], [Ent.mem a [v5, .bool x4.2.2] 2], [Ent.mem m p.cells 7], Fr] [1, 0, 2, 3] rfl rfl rfl ?_
        refine o_end (r_seq (r_seq (r_region rfl (o_vl rfl rfl (v_move rfl) (o_call rfl rfl rfl rfl (c_call callable114 rfl) (oct_REnd _ _ a _ _ _ _ hv5) ?_)))))
        rintro v' F1 H' ⟨rfl, rfl, rfl⟩ _
        by_cases he : (!x4.2.2 && decide (x4.2.1 = [])) = true
        · rw [if_pos he] at hr
          rw [hr] at had
          refine j_slot 100 rfl (v' := .bool true) (by rw [he]) ?_
          refine o_vl rfl rfl (v_not rfl) (o_end (r_false rfl ?_))
          refine j_sel (H' := Ent.mem m p.cells 7 :: (Ent.mem x [.int .u64 x1.1, .int .u64 x2.1, .int .u64 x3.1, .slice a4 x4.1.length c4] 4 :: (Fr))) [[Ent.mem a [v5, .bool x4.2.2] 2], [Ent.mem x [.int .u64 x1.1, .int .u64 x2.1, .int .u64 x3.1, .slice a4 x4.1.length c4] 4], [Ent.mem m p.cells 7], Fr] [2, 1, 3] rfl rfl rfl ?_
          refine r_skip (r_region rfl (o_vl rfl rfl (v_move rfl) (o_vl rfl rfl (v_move rfl) (o_vl rfl rfl (v_loadAgg (sz := 4) (cs := [.int .u64 x1.1, .int .u64 x2.1, .int .u64 x3.1, .slice a4 x4.1.length c4]) rfl rfl rfl rfl (cells_of (j := 1) _ _ rfl rfl)) (o_vl rfl rfl (v_nilCheck rfl) (o_vl rfl rfl (v_field (k := 2) rfl rfl rfl) (o_act0 rfl rfl rfl (a_store (sz := 4) 0 rfl rfl rfl rfl rfl rfl (Nat.le_of_ble_eq_true rfl)) ?_)))))))
          refine o_vl rfl rfl (v_nilCheck rfl) (o_vl rfl rfl (v_field (k := 6) rfl rfl rfl) (o_act0 rfl rfl rfl (a_store1 0 rfl rfl rfl rfl rfl (Nat.le_of_ble_eq_true rfl)) ?_))
          refine j_heap (H' := .mem m ({ p with ix := x1.1, tm := x2.1, vt := x3.1, dv := .slice a4 x4.1.length c4, data := x4.1, lv := .slice none 0 0, l := [] } : Im).cells 7 :: .mem x [.int .u64 x1.1, .int .u64 x2.1, .int .u64 x3.1, .slice a4 x4.1.length c4] 4 :: Fr) rfl ?_
          refine j_drop (H' := .mem m ({ p with ix := x1.1, tm := x2.1, vt := x3.1, dv := .slice a4 x4.1.length c4, data := x4.1, lv := .slice none 0 0, l := [] } : Im).cells 7 :: Fr) ((List.sublist_cons_self _ _).cons_cons _) ?_
          refine o_end (r_inBlock (r_seq (r_region rfl (o_vl rfl rfl (v_assign rfl) (o_end ?_)))))
          exact r_ret1 Tryz.func95 rfl rfl ⟨⟨hF1, .inr ⟨{ p with ix := x1.1, tm := x2.1, vt := x3.1, dv := .slice a4 x4.1.length c4, data := x4.1, lv := .slice none 0 0, l := [] }, had, ⟨q1, q2, q3, hx1, hx2, hx3, hs4, hbl, Sl.nil _ _ _, by simp⟩, by simp, rfl, rfl⟩⟩, hF1⟩
        · rw [if_neg he] at hr
          rw [hr] at had
          refine j_slot 100 rfl (v' := .bool false) (by rw [Bool.not_eq_true] at he; rw [he]) ?_
          refine o_vl rfl rfl (v_not rfl) (o_end (r_true rfl (r_seq (r_region rfl (o_vl rfl rfl (v_assign rfl) (o_end ?_))))))
          refine j_sel (H' := Ent.mem m p.cells 7 :: (Fr)) [[Ent.mem a [v5, .bool x4.2.2] 2], [Ent.mem x [.int .u64 x1.1, .int .u64 x2.1, .int .u64 x3.1, .slice a4 x4.1.length c4] 4], [Ent.mem m p.cells 7], Fr] [2, 3] rfl rfl rfl ?_
          exact r_ret1 Tryz.func95 rfl rfl ⟨⟨hF1, .inl ⟨had, rfl, rfl⟩⟩, hF1⟩
      · have had : addP p.pure k d = none := by
          unfold addP
          rw [if_neg (by omega), if_neg (by omega), if_neg (by omega)]
        refine r_seq (r_region rfl (o_vl rfl rfl (v_assign rfl) (o_end ?_)))
        refine j_drop (List.sublist_cons_self _ _) ?_
        exact r_ret1 Tryz.func95 rfl rfl ⟨⟨Fz.le_refl _, .inl ⟨had, rfl, rfl⟩⟩, Fz.le_refl _⟩
end Go.SX
namespace Go.SX
open Go Go.Proofs
set_option maxRecDepth 4000
theorem takeB_some {b : List UInt8} {k : Nat} {d rest : List UInt8} (h : takeB b = some (k, d, rest)) : rest.length + 9 ≤ b.length ∧ rest = b.drop (b.length - rest.length) ∧ d.length ≤ b.length := by
  unfold takeB at h
  split at h
  · cases h
  · split at h
    · cases h
    · rename_i h1 h2
      split at h
      · rename_i h3
        simp only [Option.some.injEq, Prod.mk.injEq] at h
        obtain ⟨_, rfl, rfl⟩ := h
        have h4 := openB_len (l := b.take (leN (b.take 4) + 9)) (by simp; omega) h3
        rw [List.length_take] at h4
        refine ⟨by simp; omega, ?_, by simp; omega⟩
        rw [List.length_drop]
        congr 1
        omega
      · cases h
def nilI : PI := ⟨0, -1, 0, 0, 0, [], []⟩
def scanP (p : PI) (b : List UInt8) : PI × Nat :=
  match h : takeB b with
  | none => (p, 0)
  | some (k, d, rest) => match addP p k d with
    | none => (p, 0)
    | some q => ((scanP q rest).1, (b.length - rest.length) + (scanP q rest).2)
termination_by b.length
decreasing_by all_goals (have := (takeB_some h).1; omega)
theorem scanP_none {p : PI} {b : List UInt8} (h : takeB b = none) : scanP p b = (p, 0) := by
  rw [scanP]
  split
  · rfl
  · rename_i h2; rw [h] at h2; cases h2
theorem scanP_stop {p : PI} {b : List UInt8} {k : Nat} {d rest : List UInt8} (h : takeB b = some (k, d, rest)) (ha : addP p k d = none) : scanP p b = (p, 0) := by
  rw [scanP]
  split
  · rfl
  · rename_i h2
    rw [h] at h2
    cases h2
    rw [ha]
theorem scanP_step {p q : PI} {b : List UInt8} {k : Nat} {d rest : List UInt8} (h : takeB b = some (k, d, rest)) (ha : addP p k d = some q) : scanP p b = ((scanP q rest).1, (b.length - rest.length) + (scanP q rest).2) := by
  rw [scanP]
  split
  · rename_i h2; rw [h] at h2; cases h2
  · rename_i h2
    rw [h] at h2
    cases h2
    rw [ha]
structure ScG where
  F : Fz
  p : Im
  v : Value
  b : List UInt8
  n : Nat
theorem wal_Scan (O : World) (F : Fz) (v : Value) (b : List UInt8) (Fr : List Ent) (hv : SlB F [] v b) (hl : b.length ≤ 10000000000) :
    Does Tryz.prog O 72 #[v] F Fr (fun r F' H' => F.le F' ∧ H' = Fr ∧ ∃ p : Im, p.ok F' ∧ p.l.length ≤ b.length ∧ p.pure = (scanP nilI b).1 ∧ r = .tuple #[.agg p.cells.toArray, .int .i64 (scanP nilI b).2]) := by
  refine does_of_run (args := [_]) Tryz.func72 rfl rfl ?_
  refine r_seq (r_region rfl (o_act rfl rfl rfl rfl (a_alloc rfl) ?_))
  rintro v' H' ⟨r0, rfl, rfl⟩
  refine o_vl rfl rfl (v_assign rfl) (o_end (r_seq (r_region rfl (o_vl rfl rfl (v_build rfl rfl) (o_vl rfl rfl (v_build rfl rfl) (o_act rfl rfl rfl rfl (a_alloc rfl) ?_))))))
  rintro v' H' ⟨m, rfl, rfl⟩
  refine o_act0 rfl rfl rfl (a_store (sz := 7) 0 rfl rfl rfl rfl rfl rfl (Nat.le_of_ble_eq_true rfl)) ?_
  obtain ⟨p0, hp0⟩ : ∃ p0 : Im, p0 = ⟨0, -1, 0, 0, 0, .slice none 0 0, [], .slice none 0 0, []⟩ := ⟨_, rfl⟩
  obtain ⟨z0, hz0⟩ : ∃ z0 : Im, z0 = ⟨0, 0, 0, 0, 0, .slice none 0 0, [], .slice none 0 0, []⟩ := ⟨_, rfl⟩
  refine j_heap (H' := .mem m p0.cells 7 :: .mem r0 z0.cells 7 :: Fr) (by rw [hp0, hz0]; rfl) ?_
  refine o_end (r_seq (r_region rfl (o_vl rfl rfl (v_assign rfl) (o_end (r_block ?_)))))
  refine r_loop (fun g : ScG => F.le g.F ∧ g.p.ok g.F ∧ SlB g.F [] g.v g.b ∧ g.n + g.b.length = b.length ∧ g.p.l.length ≤ g.n ∧ scanP nilI b = ((scanP g.p.pure g.b).1, g.n + (scanP g.p.pure g.b).2)) (fun g => [(0, g.v), (2, ptrV r0), (4, ptrV m), (5, .int .i64 g.n)]) (fun g => g.F) (fun g => .mem m g.p.cells 7 :: .mem r0 z0.cells 7 :: Fr) (fun g => g.b.length) ⟨F, p0, v, b, 0⟩ ⟨Fz.le_refl _, ?_, hv, by dsimp only; omega, ?_, ?_⟩ ⟨rfl, rfl, rfl, rfl, trivial⟩ rfl rfl ?_
  · dsimp only; rw [hp0]; exact ⟨by decide, by decide, by decide, by decide, by decide, by decide, Sl.nil _ _ _, by simp, Sl.nil _ _ _, by simp⟩
  · dsimp only; rw [hp0]; simp
  · have : p0.pure = nilI := by rw [hp0]; rfl
    dsimp only
    rw [this]
    simp
  rintro ⟨F1, p, v1, b1, n⟩ ⟨hF1, hp, hv1, hnb, hpn, hsc⟩ IH
  dsimp only at hF1 hp hv1 hnb hpn hsc ⊢
  obtain ⟨a0, cap, rfl, hcap⟩ := Sl.shape hv1
  refine r_block (r_seq (r_region rfl (o_vl rfl rfl (v_move rfl) (o_call rfl rfl rfl rfl (c_call callable94 rfl) (wal_take _ _ _ b1 _ hv1 (by omega)) ?_))))
  rintro v' F1 H' ⟨rfl, rfl, ht⟩ _
  rcases ht with ⟨ht, rfl⟩ | ⟨k, d, rest, w1, w2, ht, hk, rfl, hw1, hw2⟩
  · have hse : scanP nilI b = (p.pure, n) := by rw [hsc, scanP_none ht]; rfl
    have hpe := hp
    have hFe := hF1
    generalize p = pe at *
    refine o_vl rfl rfl (v_move rfl) (o_vl rfl rfl (v_extract rfl rfl) (o_vl rfl rfl (v_extract rfl rfl) (o_vl rfl rfl (v_extract rfl rfl) (o_vl rfl rfl (v_extract rfl rfl) (o_vl rfl rfl (v_assign rfl) (o_vl rfl rfl (v_assign rfl) (o_vl rfl rfl (v_assign rfl) (o_vl rfl rfl (v_assign rfl) (o_end (r_seq (r_seq (r_region rfl (o_vl rfl rfl (v_move rfl) ?_)))))))))))))
    refine o_vl rfl rfl (v_not rfl) (o_vl rfl rfl (v_move rfl) (o_sk rfl rfl (o_sk rfl rfl (o_sk rfl rfl (o_sk rfl rfl (o_vl rfl rfl (v_pick1 rfl rfl) (o_end (r_true rfl (r_seq (r_region rfl (o_vl rfl rfl (v_loadAgg (sz := 7) (cs := pe.cells) rfl rfl rfl rfl (cells_of (j := 0) _ _ rfl rfl)) (o_vl rfl rfl (v_move rfl) (o_act0 rfl rfl rfl (a_store (sz := 7) 1 rfl rfl rfl (by simpa [Value.cells] using hpe.one) rfl rfl (Nat.le_of_ble_eq_true rfl)) ?_)))))))))))))
    refine j_heap (H' := .mem m pe.cells 7 :: .mem r0 pe.cells 7 :: Fr) rfl ?_
    refine o_vl rfl rfl (v_assign rfl) (o_end ?_)
    refine r_retC1 Tryz.func72 rfl rfl rfl rfl rfl rfl (cells_of (j := 1) _ _ rfl rfl) (H' := Fr) ((List.sublist_cons_self _ _).trans (List.sublist_cons_self _ _)) ⟨⟨hFe, rfl, pe, hpe, by omega, by rw [hse], by rw [hse]⟩, hFe⟩
  · obtain ⟨hr1, hr2, hr3⟩ := takeB_some ht
    refine o_vl rfl rfl (v_move rfl) (o_vl rfl rfl (v_extract rfl rfl) (o_vl rfl rfl (v_extract rfl rfl) (o_vl rfl rfl (v_extract rfl rfl) (o_vl rfl rfl (v_extract rfl rfl) (o_vl rfl rfl (v_assign rfl) (o_vl rfl rfl (v_assign rfl) (o_vl rfl rfl (v_assign rfl) (o_vl rfl rfl (v_assign rfl) (o_end (r_seq (r_seq (r_region rfl (o_vl rfl rfl (v_move rfl) ?_)))))))))))))
    refine o_vl rfl rfl (v_not rfl) (o_vl rfl rfl (v_move rfl) (o_vl rfl rfl (v_move rfl) (o_vl rfl rfl (v_move rfl) (o_call rfl rfl rfl rfl (c_call callable95 rfl) (wal_add _ _ m p k _ d _ hp (by omega) hk hw1 (by omega)) ?_))))
    rintro v' F2 H' ⟨hF2, had⟩ _
    rcases had with ⟨had, rfl, rfl⟩ | ⟨q, had, hq, hql, rfl, rfl⟩
    · have hse : scanP nilI b = (p.pure, n) := by rw [hsc, scanP_stop ht had]; rfl
      have hpe := hp.frz hF2
      have hFe := Fz.le_trans hF1 hF2
      generalize p = pe at *
      refine o_vl rfl rfl (v_not rfl) (o_vl rfl rfl (v_pick0 rfl rfl) (o_end (r_true rfl (r_seq (r_region rfl (o_vl rfl rfl (v_loadAgg (sz := 7) (cs := pe.cells) rfl rfl rfl rfl (cells_of (j := 0) _ _ rfl rfl)) (o_vl rfl rfl (v_move rfl) (o_act0 rfl rfl rfl (a_store (sz := 7) 1 rfl rfl rfl (by simpa [Value.cells] using hpe.one) rfl rfl (Nat.le_of_ble_eq_true rfl)) ?_))))))))
      refine j_heap (H' := .mem m pe.cells 7 :: .mem r0 pe.cells 7 :: Fr) rfl ?_
      refine o_vl rfl rfl (v_assign rfl) (o_end ?_)
      refine r_retC1 Tryz.func72 rfl rfl rfl rfl rfl rfl (cells_of (j := 1) _ _ rfl rfl) (H' := Fr) ((List.sublist_cons_self _ _).trans (List.sublist_cons_self _ _)) ⟨⟨hFe, rfl, pe, hpe, by omega, by rw [hse], by rw [hse]⟩, hFe⟩
    · skip
      refine o_vl rfl rfl (v_not rfl) (o_vl rfl rfl (v_pick0 rfl rfl) (o_end (r_false rfl ?_)))
      obtain ⟨a2, c2, rfl, hc2⟩ := Sl.shape hw2
      refine r_skip (r_seq (r_region rfl (o_vl rfl rfl (v_move rfl) (o_vl rfl rfl (v_move rfl) (o_vl rfl rfl (v_len rfl rfl) (o_vl rfl rfl (v_move rfl) (o_vl rfl rfl (v_len rfl rfl) (o_vl rfl rfl (v_sub rfl rfl (r := ((b1.length - rest.length : Nat) : Int)) ((wrap_i64 (by omega) (by omega)).trans (by omega))) (o_vl rfl rfl (v_add rfl rfl (r := ((n + (b1.length - rest.length) : Nat) : Int)) (wrap_i64 (by omega) (by omega))) (o_vl rfl rfl (v_assign rfl) (o_end (r_region rfl (o_vl rfl rfl (v_move rfl) ?_)))))))))))))
      refine o_vl rfl rfl (v_assign rfl) (o_end (r_inBlock ?_))
      refine j_keep ?_ (IH ⟨F2, q, .slice a2 rest.length c2, rest, n + (b1.length - rest.length)⟩ ⟨Fz.le_trans hF1 hF2, hq, hw2.frz hF2, by dsimp only; omega, by dsimp only; omega, ?_⟩ (by dsimp only; omega))
      · exact ⟨rfl, rfl, rfl, rfl, trivial⟩
      · dsimp only
        rw [hsc, scanP_step ht had]
        dsimp only
        rw [Nat.add_assoc]
end Go.SX
namespace Go.SX
open Go Go.Proofs
set_option maxRecDepth 4000
theorem rdNum_le {n v : Nat} {r : List UInt8} (h8 : n ≤ 8) (hv : v < 256 ^ n) : rdNum (leB n v ++ r) false n = (v, r, false) := by
  rw [rdNum_ok (by simp) h8, List.take_left' (leB_length n v), List.drop_left' (leB_length n v), leN_leB n v hv]
theorem rdNum_le' {n v : Nat} (h8 : n ≤ 8) (hv : v < 256 ^ n) : rdNum (leB n v) false n = (v, [], false) := by
  have := rdNum_le (r := []) h8 hv
  rwa [List.append_nil] at this
theorem rdBytes_lenB {d : List UInt8} (h : d.length ≤ 1048576) : rdBytes (lenB d) false 1048576 = (d, [], false) := by
  have h1 : rdNum (lenB d) false 4 = (d.length, d, false) := rdNum_le (n := 4) (by omega) (by omega)
  unfold rdBytes
  rw [h1]
  dsimp only
  rw [if_neg (by simp; omega)]
  simp
theorem hardR_hardP {t w : Nat} (ht : t < 18446744073709551616) (hw : w < 65536) : hardR (hardP t w) = some (t, (w : Int) - 1) := by
  unfold hardR hardP
  have h1 : rdNum (leB 8 t ++ leB 2 w) false 8 = (t, leB 2 w, false) := rdNum_le (n := 8) (by omega) ht
  have h2 : rdNum (leB 2 w) false 2 = (w, [], false) := rdNum_le' (n := 2) (by omega) hw
  rw [h1]
  dsimp only
  rw [h2]
  simp
theorem entR_entP {ix tm kd : Nat} {d : List UInt8} (h1 : ix < 18446744073709551616) (h2 : tm < 18446744073709551616) (h3 : kd < 256) (h4 : d.length ≤ 1048576) : entR (entP ix tm kd d) = some ⟨ix, tm, kd, d⟩ := by
  unfold entR entP
  rw [List.append_assoc, List.append_assoc]
  have e1 : rdNum (leB 8 ix ++ (leB 8 tm ++ (leB 1 kd ++ lenB d))) false 8 = (ix, _, false) := rdNum_le (n := 8) (by omega) h1
  have e2 : rdNum (leB 8 tm ++ (leB 1 kd ++ lenB d)) false 8 = (tm, _, false) := rdNum_le (n := 8) (by omega) h2
  have e3 : rdNum (leB 1 kd ++ lenB d) false 1 = (kd, _, false) := rdNum_le (n := 1) (by omega) h3
  rw [e1]; dsimp only; rw [e2]; dsimp only; rw [e3]; dsimp only; rw [rdBytes_lenB h4]
  simp
theorem snapR_snapP {ix tm vt : Nat} {d : List UInt8} (h1 : ix < 18446744073709551616) (h2 : tm < 18446744073709551616) (h3 : vt < 18446744073709551616) (h4 : d.length ≤ 1048576) : snapR (snapP ix tm vt d) = some (ix, tm, vt, d) := by
  unfold snapR snapP
  rw [List.append_assoc, List.append_assoc]
  have e1 : rdNum (leB 8 ix ++ (leB 8 tm ++ (leB 8 vt ++ lenB d))) false 8 = (ix, _, false) := rdNum_le (n := 8) (by omega) h1
  have e2 : rdNum (leB 8 tm ++ (leB 8 vt ++ lenB d)) false 8 = (tm, _, false) := rdNum_le (n := 8) (by omega) h2
  have e3 : rdNum (leB 8 vt ++ lenB d) false 8 = (vt, _, false) := rdNum_le (n := 8) (by omega) h3
  rw [e1]; dsimp only; rw [e2]; dsimp only; rw [e3]; dsimp only; rw [rdBytes_lenB h4]
  simp
theorem recB_app (k : Nat) (d rest : List UInt8) : recB k d ++ rest = leB 4 d.length ++ (leB 1 k ++ (d ++ (leB 4 (crc (leB 4 d.length ++ leB 1 k ++ d)).toNat ++ rest))) := by
  simp [recB, sealB]
theorem takeB_rec {k : Nat} {d : List UInt8} (hd : d.length ≤ 1048576) (hk : k < 256) (rest : List UInt8) : takeB (recB k d ++ rest) = some (k, d, rest) := by
  have h1 : (recB k d ++ rest).take 4 = leB 4 d.length := by rw [recB_app, List.take_left' (leB_length _ _)]
  have h2 : ((recB k d ++ rest).drop 4).take 1 = leB 1 k := by rw [recB_app, List.drop_left' (leB_length _ _), List.take_left' (leB_length _ _)]
  have h3 : leN (leB 4 d.length) = d.length := leN_leB 4 _ (by omega)
  have h4 : leN (leB 1 k) = k := leN_leB 1 _ (by omega)
  have h5 : (recB k d ++ rest).take (d.length + 9) = recB k d := List.take_left' (recB_length k d)
  have h6 : (recB k d ++ rest).drop (d.length + 9) = rest := List.drop_left' (recB_length k d)
  have h7 : openB (recB k d) = (0, leB 4 d.length ++ leB 1 k ++ d) := openB_seal _
  have h8 : (recB k d ++ rest).length = d.length + 9 + rest.length := by simp
  have h9 : (leB 4 d.length ++ leB 1 k ++ d).drop 5 = d := List.drop_left' (by simp)
  unfold takeB
  rw [h1, h2, h3, h4, h5, h6, h7, h8, if_neg (by omega), if_neg (by omega), if_pos rfl, h9]
theorem takeB_lt9 {b : List UInt8} (h : b.length < 9) : takeB b = none := by
  unfold takeB
  split
  · rfl
  · rw [if_pos (.inr (by omega))]
theorem takeB_cut {k : Nat} {d : List UInt8} (hd : d.length ≤ 1048576) {j : Nat} (hj : j < d.length + 9) : takeB ((recB k d).take j) = none := by
  have hl : ((recB k d).take j).length = j := by simp; omega
  unfold takeB
  rw [hl]
  by_cases h5 : j < 5
  · rw [if_pos h5]
  · rw [if_neg h5, List.take_take, Nat.min_eq_left (by omega)]
    have h1 : (recB k d).take 4 = leB 4 d.length := by
      have := recB_app k d []
      rw [List.append_nil] at this
      rw [this, List.take_left' (leB_length _ _)]
    have h3 : leN (leB 4 d.length) = d.length := leN_leB 4 _ (by omega)
    rw [h1, h3, if_pos (.inr (by omega))]
theorem takeB_local {b d rest : List UInt8} {k : Nat} (h : takeB b = some (k, d, rest)) : ∃ pre, b = pre ++ rest ∧ ∀ rest', takeB (pre ++ rest') = some (k, d, rest') := by
  unfold takeB at h
  split at h
  · cases h
  · split at h
    · cases h
    · rename_i h1 h2
      split at h
      · rename_i h3
        simp only [Option.some.injEq, Prod.mk.injEq] at h
        obtain ⟨rfl, rfl, rfl⟩ := h
        refine ⟨b.take (leN (b.take 4) + 9), (List.take_append_drop _ _).symm, fun rest' => ?_⟩
        have hpl : (b.take (leN (b.take 4) + 9)).length = leN (b.take 4) + 9 := by simp; omega
        have g1 : (b.take (leN (b.take 4) + 9) ++ rest').take 4 = b.take 4 := by
          rw [List.take_append_of_le_length (by omega), List.take_take, Nat.min_eq_left (by omega)]
        have g2 : ((b.take (leN (b.take 4) + 9) ++ rest').drop 4).take 1 = (b.drop 4).take 1 := by
          rw [List.drop_append_of_le_length (by omega), List.take_append_of_le_length (by simp; omega), List.drop_take, List.take_take, Nat.min_eq_left (by omega)]
        have g3 : (b.take (leN (b.take 4) + 9) ++ rest').take (leN (b.take 4) + 9) = b.take (leN (b.take 4) + 9) := List.take_left' hpl
        have g4 : (b.take (leN (b.take 4) + 9) ++ rest').drop (leN (b.take 4) + 9) = rest' := List.drop_left' hpl
        have g5 : (b.take (leN (b.take 4) + 9) ++ rest').length = leN (b.take 4) + 9 + rest'.length := by rw [List.length_append, hpl]
        unfold takeB
        rw [g1, g2, g3, g4, g5, if_neg (by omega), if_neg (by omega), if_pos h3]
      · cases h
theorem scanP_rec {p q : PI} {k : Nat} {d : List UInt8} (hd : d.length ≤ 1048576) (hk : k < 256) (ha : addP p k d = some q) (rest : List UInt8) : scanP p (recB k d ++ rest) = ((scanP q rest).1, d.length + 9 + (scanP q rest).2) := by
  rw [scanP_step (takeB_rec hd hk rest) ha]
  congr 2
  simp
def Reaches (b : List UInt8) (q : PI) : Prop := ∀ rest, scanP nilI (b ++ rest) = ((scanP q rest).1, b.length + (scanP q rest).2)
theorem Reaches.nil : Reaches [] nilI := fun rest => by simp
theorem Reaches.more {b : List UInt8} {p q : PI} {k : Nat} {d : List UInt8} (h : Reaches b p) (hd : d.length ≤ 1048576) (hk : k < 256) (ha : addP p k d = some q) : Reaches (b ++ recB k d) q := fun rest => by
  rw [List.append_assoc, h, scanP_rec hd hk ha]
  congr 1
  simp
  omega
theorem Reaches.stop {b : List UInt8} {p : PI} (h : Reaches b p) {rest : List UInt8} (hr : takeB rest = none) : scanP nilI (b ++ rest) = (p, b.length) := by
  rw [h, scanP_none hr]; simp
theorem Reaches.end_ {b : List UInt8} {p : PI} (h : Reaches b p) : scanP nilI b = (p, b.length) := by
  have := h.stop (rest := []) (takeB_lt9 (by simp))
  rwa [List.append_nil] at this
theorem scanP_again : ∀ (n : Nat) (p : PI) (b : List UInt8), b.length ≤ n → (scanP p b).2 ≤ b.length ∧ scanP p (b.take (scanP p b).2) = scanP p b
  | n, p, b, hn => by
    have zero : scanP p b = (p, 0) → (scanP p b).2 ≤ b.length ∧ scanP p (b.take (scanP p b).2) = scanP p b := fun h => by
      rw [h]
      refine ⟨Nat.zero_le _, ?_⟩
      rw [List.take_zero]
      exact scanP_none (takeB_lt9 (by simp))
    cases ht : takeB b with
    | none => exact zero (scanP_none ht)
    | some q =>
      obtain ⟨k, d, rest⟩ := q
      cases ha : addP p k d with
      | none => exact zero (scanP_stop ht ha)
      | some q =>
        have h1 := takeB_some ht
        obtain ⟨pre, hb, hloc⟩ := takeB_local ht
        cases n with
        | zero => omega
        | succ n =>
          obtain ⟨h2, h3⟩ := scanP_again n q rest (by omega)
          have hpl : pre.length = b.length - rest.length := by rw [hb]; simp
          rw [scanP_step ht ha]
          dsimp only
          refine ⟨by omega, ?_⟩
          have e1 : b.take (b.length - rest.length + (scanP q rest).2) = pre ++ rest.take (scanP q rest).2 := by
            rw [← hpl]
            conv => lhs; rw [hb]
            rw [List.take_length_add_append]
          rw [e1, scanP_step (hloc _) ha, h3]
          congr 2
          rw [List.length_append]
          omega
end Go.SX
namespace Go.SX
open Go Go.ChangeShapes Go.WideShapes Go.RowKit Go.Deep
structure RecI where
  k : Nat
  a : Nat
  b : Nat
  v : Int
  dv : Value
  d : List UInt8
instance : Inhabited RecI := ⟨⟨0, 0, 0, 0, .slice none 0 0, []⟩⟩
def RecI.cells (r : RecI) : List Value := [.int .u8 r.k, .int .u64 r.a, .int .u64 r.b, .int .i16 r.v, r.dv]
theorem RecI.cl (r : RecI) : r.cells.length = 5 := rfl
structure RecI.ok (W : World) (r : RecI) : Prop where
  k : r.k < 256
  a : r.a < 18446744073709551616
  b : r.b < 18446744073709551616
  v1 : -32768 ≤ r.v
  v2 : r.v ≤ 32767
  d : SlB (allOf W) [] r.dv r.d
end Go.SX
namespace Go.SX
open Go Go.Proofs
set_option maxRecDepth 4000
theorem ref_SameE (O : World) (F : Fz) (va vb : Value) (l m : List En) (H : List Ent) (ha : Sl F H 4 va l.length (enV l)) (hb : Sl F H 4 vb m.length (enV m)) (hl : ∀ e ∈ l, e.ok F) (hm : ∀ e ∈ m, e.ok F) (hlm : l.map En.pure = m.map En.pure) (hn : l.length ≤ 1000000) :
    Does Tryz.prog O 48 #[va, vb] F H (fun r F' H' => r = .bool true ∧ F' = F ∧ H' = H) := by
  obtain ⟨a0, cap, rfl, hcap⟩ := Sl.shape ha
  obtain ⟨a1, cap1, rfl, hcap1⟩ := Sl.shape hb
  have hlen : l.length = m.length := by have := congrArg List.length hlm; simpa using this
  refine does_of_run (args := [_, _]) Tryz.func48 rfl rfl ?_
  refine r_seq (r_region rfl (o_vl rfl rfl (v_assign rfl) (o_end (r_seq (r_seq (r_region rfl (o_vl rfl rfl (v_move rfl) (o_vl rfl rfl (v_len rfl rfl) (o_vl rfl rfl (v_move rfl) (o_vl rfl rfl (v_len rfl rfl) (o_vl rfl rfl (v_neq rfl rfl) (o_end ?_))))))))))))
  refine j_slot 10 rfl (v' := .bool false) (by rw [decide_eq_false (by omega)]) ?_
  refine r_false rfl (r_skip (r_seq (r_seq (r_region rfl (o_vl rfl rfl (v_assign rfl) (o_end (r_block ?_)))))))
  refine r_loop (fun i : Nat => i ≤ l.length) (fun i => [(0, .slice a0 l.length cap), (1, .slice a1 m.length cap1), (5, .int .i64 i)]) (fun _ => F) (fun _ => H) (fun i => l.length - i) 0 (Nat.zero_le _) ⟨rfl, rfl, rfl, trivial⟩ rfl rfl ?_
  intro i hi IH
  refine r_seq (r_seq (r_region rfl (o_vl rfl rfl (v_move rfl) (o_vl rfl rfl (v_move rfl) (o_vl rfl rfl (v_len rfl rfl) (o_vl rfl rfl (v_lss rfl rfl) (o_end (r_if rfl (fun h => ?_) (fun h => ?_)))))))))
  · have hil : i < l.length := by omega
    have him : i < m.length := by omega
    obtain ⟨b0, off0, c0, hab, hc0⟩ := sl_cells ha hil
    simp only [Value.slice.injEq] at hab
    obtain ⟨rfl, _, rfl⟩ := hab
    obtain ⟨b1, off1, c1, hab, hc1⟩ := sl_cells hb him
    simp only [Value.slice.injEq] at hab
    obtain ⟨rfl, _, rfl⟩ := hab
    have he := hl l[i] (List.getElem_mem _)
    have he' := hm m[i] (List.getElem_mem _)
    have hlk : l[i].pure = m[i].pure := by
      have h1 : (l.map En.pure)[i]? = some l[i].pure := by simp [hil]
      have h2 : (m.map En.pure)[i]? = some m[i].pure := by simp [him]
      rw [hlm, h2] at h1
      exact (Option.some.inj h1).symm
    have hk1 : l[i].ix = m[i].ix := congrArg PE.ix hlk
    have hk2 : l[i].tm = m[i].tm := congrArg PE.tm hlk
    have hk3 : l[i].kd = m[i].kd := congrArg PE.kd hlk
    have hk4 : l[i].data = m[i].data := congrArg PE.data hlk
    generalize l[i] = e at *
    generalize m[i] = e' at *
    refine r_skip (r_seq (r_block (r_seq (d_region 1000000 rfl (H) ?_))))
    refine d_tk (i := 0) rfl rfl (fun e he => he) (v_move rfl) (d_tk (i := 1) rfl rfl (fun e he => he) (v_move rfl) (d_tk (i := 2) rfl rfl (fun e he => he) (v_indexN (sz := 4) rfl rfl rfl rfl hil) (d_tk (i := 3) rfl rfl (fun e he => he) (v_field (k := 0) rfl rfl rfl) (d_tk (i := 4) rfl rfl (fun e he => he) (v_load (v := .int .u64 e.ix) rfl rfl (hc0 0 _ rfl)) (d_tk (i := 5) rfl rfl (fun e he => he) (v_move rfl) (d_tk (i := 6) rfl rfl (fun e he => he) (v_move rfl) (d_tk (i := 7) rfl rfl (fun e he => he) (v_indexN (sz := 4) rfl rfl rfl rfl him) (d_tk (i := 8) rfl rfl (fun e he => he) (v_field (k := 0) rfl rfl rfl) (d_tk (i := 9) rfl rfl (fun e he => he) (v_load (v := .int .u64 e'.ix) rfl rfl (hc1 0 _ rfl)) (d_tk (i := 10) rfl rfl (fun e he => he) (v_neq rfl rfl) ?_))))))))))
    refine j_slot 27 rfl (v' := .bool false) (by rw [hk1]; simp) ?_
    refine d_tk (i := 11) rfl rfl (fun e he => he) (v_move rfl) (d_tk (i := 12) rfl rfl (fun e he => he) (v_move rfl) (d_tk (i := 13) rfl rfl (fun e he => he) (v_move rfl) (d_tk (i := 14) rfl rfl (fun e he => he) (v_indexN (sz := 4) rfl rfl rfl rfl hil) (d_tk (i := 15) rfl rfl (fun e he => he) (v_field (k := 1) rfl rfl rfl) (d_tk (i := 16) rfl rfl (fun e he => he) (v_load (v := .int .u64 e.tm) rfl rfl (hc0 1 _ rfl)) (d_tk (i := 17) rfl rfl (fun e he => he) (v_move rfl) (d_tk (i := 18) rfl rfl (fun e he => he) (v_move rfl) (d_tk (i := 19) rfl rfl (fun e he => he) (v_indexN (sz := 4) rfl rfl rfl rfl him) (d_tk (i := 20) rfl rfl (fun e he => he) (v_field (k := 1) rfl rfl rfl) (d_tk (i := 21) rfl rfl (fun e he => he) (v_load (v := .int .u64 e'.tm) rfl rfl (hc1 1 _ rfl)) (d_tk (i := 22) rfl rfl (fun e he => he) (v_neq rfl rfl) ?_)))))))))))
    refine j_slot 39 rfl (v' := .bool false) (by rw [hk2]; simp) ?_
    refine d_tk (i := 23) rfl rfl (fun e he => he) (v_pick0 rfl rfl) (d_tk (i := 24) rfl rfl (fun e he => he) (v_move rfl) (d_tk (i := 25) rfl rfl (fun e he => he) (v_move rfl) (d_tk (i := 26) rfl rfl (fun e he => he) (v_move rfl) (d_tk (i := 27) rfl rfl (fun e he => he) (v_indexN (sz := 4) rfl rfl rfl rfl hil) (d_tk (i := 28) rfl rfl (fun e he => he) (v_field (k := 2) rfl rfl rfl) (d_tk (i := 29) rfl rfl (fun e he => he) (v_load (v := .int .u8 e.kd) rfl rfl (hc0 2 _ rfl)) (d_tk (i := 30) rfl rfl (fun e he => he) (v_move rfl) (d_tk (i := 31) rfl rfl (fun e he => he) (v_move rfl) (d_tk (i := 32) rfl rfl (fun e he => he) (v_indexN (sz := 4) rfl rfl rfl rfl him) (d_tk (i := 33) rfl rfl (fun e he => he) (v_field (k := 2) rfl rfl rfl) (d_tk (i := 34) rfl rfl (fun e he => he) (v_load (v := .int .u8 e'.kd) rfl rfl (hc1 2 _ rfl)) (d_tk (i := 35) rfl rfl (fun e he => he) (v_neq rfl rfl) ?_))))))))))))
    refine j_slot 52 rfl (v' := .bool false) (by rw [hk3]; simp) ?_
    refine d_tk (i := 36) rfl rfl (fun e he => he) (v_pick0 rfl rfl) (d_tk (i := 37) rfl rfl (fun e he => he) (v_move rfl) (d_tk (i := 38) rfl rfl (fun e he => he) (v_move rfl) (d_tk (i := 39) rfl rfl (fun e he => he) (v_move rfl) (d_tk (i := 40) rfl rfl (fun e he => he) (v_indexN (sz := 4) rfl rfl rfl rfl hil) (d_tk (i := 41) rfl rfl (fun e he => he) (v_field (k := 3) rfl rfl rfl) (d_tk (i := 42) rfl rfl (fun e he => he) (v_load (v := e.dv) rfl rfl (hc0 3 _ rfl)) (d_tk (i := 43) rfl rfl (fun e he => he) (v_bytesString rfl rfl rfl rfl (l := e.data) (he.dv.frz (Fz.le_refl _))) (d_tk (i := 44) rfl rfl (fun e he => he) (v_move rfl) (d_tk (i := 45) rfl rfl (fun e he => he) (v_move rfl) (d_tk (i := 46) rfl rfl (fun e he => he) (v_indexN (sz := 4) rfl rfl rfl rfl him) (d_tk (i := 47) rfl rfl (fun e he => he) (v_field (k := 3) rfl rfl rfl) (d_tk (i := 48) rfl rfl (fun e he => he) (v_load (v := e'.dv) rfl rfl (hc1 3 _ rfl)) (d_tk (i := 49) rfl rfl (fun e he => he) (v_bytesString rfl rfl rfl rfl (l := e'.data) (he'.dv.frz (Fz.le_refl _))) ?_)))))))))))))
    refine d_tk (i := 50) rfl rfl (fun e he => he) (v_sneq rfl rfl) ?_
    refine j_slot 67 rfl (v' := .bool false) (by rw [hk4]; simp) ?_
    refine d_tk (i := 51) rfl rfl (fun e he => he) (v_pick0 rfl rfl) (d_end (by decide +kernel) (r_false rfl (r_skip (r_inBlock (r_region rfl (o_vl rfl rfl (v_move rfl) (o_vl rfl rfl (v_add rfl rfl (wrap_i64 (by omega) (by omega))) (o_vl rfl rfl (v_assign rfl) (o_end ?_)))))))))
    refine j_keep ?_ (IH (i + 1) hil (by omega))
    exact ⟨rfl, rfl, rfl, trivial⟩
  · refine r_exit rfl (r_seq (r_region rfl (o_vl rfl rfl (v_assign rfl) (o_end ?_))))
    exact r_ret1 Tryz.func48 rfl rfl ⟨⟨rfl, rfl, rfl⟩, Fz.le_refl _⟩
theorem ref_Same (O : World) (F : Fz) (p q : Im) (Fr : List Ent) (hp : p.ok F) (hq : q.ok F) (hpq : p.pure = q.pure) (hn : p.l.length ≤ 1000000) :
    Does Tryz.prog O 24 #[.agg p.cells.toArray, .agg q.cells.toArray] F Fr (fun r F' H' => r = .bool true ∧ F' = F ∧ H' = Fr) := by
  obtain ⟨term, vote, ix, tm, vt, dv, data, lv, l⟩ := p
  obtain ⟨term', vote', ix', tm', vt', dv', data', lv', l'⟩ := q
  simp only [Im.pure, PI.mk.injEq] at hpq
  obtain ⟨rfl, rfl, rfl, rfl, rfl, rfl, hl⟩ := hpq
  obtain ⟨a1, c1, hdv, _⟩ := Sl.shape hp.dv
  obtain ⟨a2, c2, hlv, _⟩ := Sl.shape hp.lv
  obtain ⟨a3, c3, hdv', _⟩ := Sl.shape hq.dv
  obtain ⟨a4, c4, hlv', _⟩ := Sl.shape hq.lv
  dsimp only at hdv hlv hdv' hlv'
  subst hdv hlv hdv' hlv'
  refine does_of_run (args := [_, _]) Tryz.func24 rfl rfl ?_
  refine r_seq (r_region rfl (o_act rfl rfl rfl rfl (a_box rfl) ?_))
  rintro v' H' ⟨s, rfl, rfl⟩
  refine o_act rfl rfl rfl rfl (a_box rfl) ?_
  rintro v' H' ⟨s', rfl, rfl⟩
  refine o_vl rfl rfl (v_assign rfl) (o_end (r_seq (r_region rfl (o_vl rfl rfl (v_field (k := 0) rfl rfl rfl) (o_vl rfl rfl (v_loadAgg (sz := 2) (cs := [.int .u64 term, .int .i64 vote]) rfl rfl rfl rfl (cells_of (j := 1) _ _ rfl rfl)) (o_vl rfl rfl (v_field (k := 0) rfl rfl rfl) (o_vl rfl rfl (v_loadAgg (sz := 2) (cs := [.int .u64 term, .int .i64 vote]) rfl rfl rfl rfl (cells_of (j := 0) _ _ rfl rfl)) (o_vl rfl rfl (v_agg2eq rfl rfl rfl (by show Tryz.prog.stoodInHeld _ = false; decide +kernel) (by show Tryz.prog.eqGuardType Tryz.prog.depth _ = false; decide +kernel) rfl (by decide) (by decide) rfl rfl rfl rfl rfl rfl) ?_))))))))
  refine j_slot 9 rfl (v' := .bool true) (by simp) ?_
  refine o_vl rfl rfl (v_move rfl) (o_vl rfl rfl (v_field (k := 2) rfl rfl rfl) (o_vl rfl rfl (v_field (k := 0) rfl rfl rfl) (o_vl rfl rfl (v_load (v := .int .u64 ix) rfl rfl (cell_at (j := 1) rfl rfl)) (o_vl rfl rfl (v_field (k := 2) rfl rfl rfl) (o_vl rfl rfl (v_field (k := 0) rfl rfl rfl) (o_vl rfl rfl (v_load (v := .int .u64 ix) rfl rfl (cell_at (j := 0) rfl rfl)) (o_vl rfl rfl (v_eql rfl rfl) ?_)))))))
  refine j_slot 17 rfl (v' := .bool true) (by simp) ?_
  refine o_vl rfl rfl (v_pick1 rfl rfl) (o_vl rfl rfl (v_move rfl) (o_vl rfl rfl (v_field (k := 2) rfl rfl rfl) (o_vl rfl rfl (v_field (k := 1) rfl rfl rfl) (o_vl rfl rfl (v_load (v := .int .u64 tm) rfl rfl (cell_at (j := 1) rfl rfl)) (o_vl rfl rfl (v_field (k := 2) rfl rfl rfl) (o_vl rfl rfl (v_field (k := 1) rfl rfl rfl) (o_vl rfl rfl (v_load (v := .int .u64 tm) rfl rfl (cell_at (j := 0) rfl rfl)) (o_vl rfl rfl (v_eql rfl rfl) ?_))))))))
  refine j_slot 26 rfl (v' := .bool true) (by simp) ?_
  refine o_vl rfl rfl (v_pick1 rfl rfl) (o_vl rfl rfl (v_move rfl) (o_vl rfl rfl (v_field (k := 2) rfl rfl rfl) (o_vl rfl rfl (v_field (k := 2) rfl rfl rfl) (o_vl rfl rfl (v_load (v := .int .u64 vt) rfl rfl (cell_at (j := 1) rfl rfl)) (o_vl rfl rfl (v_field (k := 2) rfl rfl rfl) (o_vl rfl rfl (v_field (k := 2) rfl rfl rfl) (o_vl rfl rfl (v_load (v := .int .u64 vt) rfl rfl (cell_at (j := 0) rfl rfl)) (o_vl rfl rfl (v_eql rfl rfl) ?_))))))))
  refine j_slot 35 rfl (v' := .bool true) (by simp) ?_
  refine o_vl rfl rfl (v_pick1 rfl rfl) (o_vl rfl rfl (v_move rfl) (o_vl rfl rfl (v_field (k := 2) rfl rfl rfl) (o_vl rfl rfl (v_field (k := 3) rfl rfl rfl) (o_vl rfl rfl (v_load (v := .slice a1 data.length c1) rfl rfl (cell_at (j := 1) rfl rfl)) (o_vl rfl rfl (v_bytesString rfl rfl rfl rfl (l := data) (hp.dv.frz (Fz.le_refl _))) (o_vl rfl rfl (v_field (k := 2) rfl rfl rfl) (o_vl rfl rfl (v_field (k := 3) rfl rfl rfl) (o_vl rfl rfl (v_load (v := .slice a3 data.length c3) rfl rfl (cell_at (j := 0) rfl rfl)) (o_vl rfl rfl (v_bytesString rfl rfl rfl rfl (l := data) (hq.dv.frz (Fz.le_refl _))) (o_vl rfl rfl (v_seql rfl rfl) ?_))))))))))
  refine j_slot 46 rfl (v' := .bool true) (by simp) ?_
  refine o_vl rfl rfl (v_pick1 rfl rfl) (o_vl rfl rfl (v_move rfl) (o_vl rfl rfl (v_field (k := 6) rfl rfl rfl) (o_vl rfl rfl (v_load (v := .slice a2 l.length c2) rfl rfl (cell_at (j := 1) rfl rfl)) (o_vl rfl rfl (v_field (k := 6) rfl rfl rfl) (o_vl rfl rfl (v_load (v := .slice a4 l'.length c4) rfl rfl (cell_at (j := 0) rfl rfl)) (o_call rfl rfl rfl rfl (c_call callable48 rfl) (ref_SameE _ _ _ _ l l' _ (hp.lv.frz (Fz.le_refl _)) (hq.lv.frz (Fz.le_refl _)) hp.l hq.l hl hn) ?_))))))
  rintro v' F H' ⟨rfl, rfl, rfl⟩ _
  refine o_vl rfl rfl (v_pick1 rfl rfl) (o_vl rfl rfl (v_assign rfl) (o_end ?_))
  refine j_drop (H' := Fr) ((List.sublist_cons_self _ _).trans (List.sublist_cons_self _ _)) ?_
  exact r_ret1 Tryz.func24 rfl rfl ⟨⟨rfl, rfl, rfl⟩, Fz.le_refl _⟩
end Go.SX
namespace Go.SX
open Go Go.Proofs
set_option maxRecDepth 4000
def Consec (ix : Nat) (l : List En) : Prop := ∀ (i : Nat) (h : i < l.length), l[i].ix = ix + i + 1
theorem Consec.nil (ix : Nat) : Consec ix [] := fun i h => by simp at h
theorem Consec.more {ix : Nat} {l : List En} {e : En} {n : Nat} (h : Consec ix l) (hn : n ≤ l.length) (he : e.ix = ix + n + 1) : Consec ix (l.take n ++ [e]) := fun i hi => by
  have hl : (l.take n).length = n := by simp; omega
  rcases Nat.lt_or_ge i n with h1 | h1
  · rw [List.getElem_append_left (by omega), List.getElem_take]
    exact h i (by omega)
  · rw [List.getElem_append_right (by omega)]
    have : i = n := by simp [hl] at hi; omega
    subst this
    simp [hl, he]
end Go.SX
namespace Go.SX
open Go Go.Proofs
set_option maxRecDepth 4000
structure RecI.fit (r : RecI) : Prop where
  k : r.k < 256
  a : r.a < 18446744073709551616
  b : r.b < 18446744073709551616
  v1 : -32768 ≤ r.v
  v2 : r.v ≤ 32767
  d : r.d.length ≤ 200
end Go.SX
namespace Go.SX
open Go Go.Proofs
set_option maxRecDepth 4000
theorem wal_Compact (O : World) (F : Fz) (a : Nat) (bf : Bf) (b : List UInt8) (sure ops : Nat) (p : Im) (Fr : List Ent) (ho : ops ≤ 9223372036854775806) (hp : p.ok F) (hn : p.l.length ≤ 1000) :
    Does Tryz.prog O 28 #[ptrV a, .agg p.cells.toArray] F (DkE a bf b sure ops :: (bf.ents 1 (bytesV b) ++ Fr)) (fun r F' H' => r = .int .i64 0 ∧ F' = F ∧ ∃ bf' : Bf, bf'.ok p.pure.whole.length ∧ H' = DkE a bf' p.pure.whole p.pure.whole.length (ops + 1) :: (bf'.ents 1 (bytesV p.pure.whole) ++ Fr)) := by
  have hsl := saveB_le true p.term p.vote p.l hp.l hn
  have hwl : p.pure.whole.length ≤ 1049800000 := by
    have hsn : (snB p.ix p.tm p.vt p.data).length ≤ 1048700 := by
      have := hp.dl
      unfold snB; split <;> simp; omega
    show (snB p.ix p.tm p.vt p.data ++ saveB true p.term p.vote (p.l.map En.pure)).length ≤ _
    rw [List.length_append]
    omega
  refine does_of_run (args := [_, _]) Tryz.func28 rfl rfl ?_
  refine r_seq (r_region rfl (o_act rfl rfl rfl rfl (a_box rfl) ?_))
  rintro v' H' ⟨s0, rfl, rfl⟩
  refine j_heap (H' := .mem s0 p.cells 7 :: DkE a bf b sure ops :: (bf.ents 1 (bytesV b) ++ Fr)) rfl ?_
  refine o_vl rfl rfl (v_assign rfl) (o_end (r_seq (r_region rfl (o_vl rfl rfl (v_move rfl) (o_vl rfl rfl (v_loadAgg (sz := 7) (cs := p.cells) rfl rfl rfl rfl (cells_of (j := 0) _ _ rfl rfl)) (o_call rfl rfl rfl rfl (c_call callable50 rfl) (wal_Whole _ _ p _ hp hn) ?_))))))
  rintro v' F H' ⟨rfl, bs, oks, rfl, rfl⟩ _
  generalize p.pure.whole = m at *
  refine j_sel (H' := DkE a bf b sure ops :: (bf.ents 1 (bytesV b) ++ (bs.ents 1 (bytesV m) ++ Fr))) [bs.ents 1 (bytesV m), [Ent.mem s0 p.cells 7], [DkE a bf b sure ops], bf.ents 1 (bytesV b), Fr] [2, 3, 0, 4] rfl rfl rfl ?_
  refine o_call rfl rfl rfl rfl (c_call callable49 rfl) (dk_Put _ _ a bf b m sure ops _ (bs.ents 1 (bytesV m) ++ Fr) (bf_reads oks (by intro q hq; exact List.mem_append_left _ hq)) (by omega) ho) ?_
  rintro v' F H' ⟨rfl, rfl, bf', hok', rfl⟩ _
  refine o_vl rfl rfl (v_assign rfl) (o_end ?_)
  refine j_sel (H' := DkE a bf' m m.length (ops + 1) :: (bf'.ents 1 (bytesV m) ++ Fr)) [[DkE a bf' m m.length (ops + 1)], bf'.ents 1 (bytesV m), bs.ents 1 (bytesV m), Fr] [0, 1, 3] rfl rfl rfl ?_
  exact r_ret1 Tryz.func28 rfl rfl ⟨⟨rfl, rfl, bf', hok', rfl⟩, Fz.le_refl _⟩
end Go.SX
namespace Go.SX
open Go Go.Proofs
set_option maxRecDepth 4000
@[simp] theorem enV_length (l : List En) : (enV l).length = l.length * 4 := by
  induction l with
  | nil => rfl
  | cons e r ih => simp only [enV, List.flatMap_cons, List.length_append, List.length_cons] at ih ⊢; rw [ih]; simp [En.cells]; omega
theorem enV_append (l m : List En) : enV (l ++ m) = enV l ++ enV m := by simp [enV]
theorem enV_get : ∀ (l : List En) (i : Nat) (hi : i < l.length) (j : Nat), j < 4 → (enV l)[i * 4 + j]? = l[i].cells[j]?
  | e :: r, 0, _, j, hj => by
    simp only [enV, List.flatMap_cons, Nat.zero_mul, Nat.zero_add, List.getElem_cons_zero]
    rw [List.getElem?_append_left (by simp [En.cells]; omega)]
  | e :: r, i + 1, hi, j, hj => by
    have ih := enV_get r i (by simpa using hi) j hj
    simp only [enV, List.flatMap_cons, List.getElem_cons_succ] at ih ⊢
    rw [List.getElem?_append_right (by simp [En.cells]; omega), ← ih]
    congr 1
    simp [En.cells]
    omega
abbrev LgE (a ix tm vt : Nat) (bf : Bf) (n : Nat) : Ent := .mem a [.int .u64 ix, .int .u64 tm, .int .u64 vt, bf.val n] 4
abbrev LgH (a ix tm vt : Nat) (bf : Bf) (l : List En) (Fr : List Ent) : List Ent := LgE a ix tm vt bf l.length :: (bf.ents 4 (enV l) ++ Fr)
theorem lg_Last (O : World) (F : Fz) (a ix tm vt : Nat) (bf : Bf) (n : Nat) (Fr : List Ent) (hb : ix + n < 18446744073709551616) :
    Does Tryz.prog O 45 #[ptrV a] F (LgE a ix tm vt bf n :: Fr) (fun r F' H' => r = .int .u64 (ix + n : Nat) ∧ F' = F ∧ H' = LgE a ix tm vt bf n :: Fr) := by
  refine does_of_run (args := [_]) Tryz.func45 rfl rfl ?_
  refine r_seq (r_region rfl (o_vl rfl rfl (v_assign rfl) (o_end (r_seq (r_seq (r_region rfl (o_vl rfl rfl (v_move rfl) (o_vl rfl rfl (v_peqnil rfl rfl rfl) (o_end (r_false rfl (r_skip (r_seq (d_region 1000000 rfl ([LgE a ix tm vt bf n]) ?_)))))))))))))
  refine d_tk (i := 0) rfl rfl (by simp) (v_move rfl) (d_tk (i := 1) rfl rfl (by simp) (v_nilCheck rfl) (d_tk (i := 2) rfl rfl (by simp) (v_field (k := 0) rfl rfl rfl) (d_tk (i := 3) rfl rfl (by simp) (v_load rfl rfl (cell_at (j := 0) rfl rfl)) (d_tk (i := 4) rfl rfl (by simp) (v_move rfl) (d_tk (i := 5) rfl rfl (by simp) (v_nilCheck rfl) (d_tk (i := 6) rfl rfl (by simp) (v_field (k := 3) rfl rfl rfl) (d_tk (i := 7) rfl rfl (by simp) (v_load rfl rfl (cell_at (j := 0) rfl rfl)) (d_tk (i := 8) rfl rfl (by simp) (v_len rfl rfl) (d_tk (i := 9) rfl rfl (by simp) (v_conv rfl rfl rfl (wrap_u64 (by omega) (by omega))) (d_tk (i := 10) rfl rfl (by simp) (v_add rfl rfl (r := ((ix + n : Nat) : Int)) (wrap_u64 (by omega) (by omega))) (d_tk (i := 11) rfl rfl (by simp) (v_assign rfl) (d_end (by decide +kernel) ?_))))))))))))
  exact r_ret1 Tryz.func45 rfl rfl ⟨⟨rfl, rfl, rfl⟩, Fz.le_refl _⟩
def lgTerm (ix tm : Nat) (l : List En) (i : Nat) : Nat × Bool :=
  if i < ix ∨ ix + l.length < i then (0, false) else if i = ix then (tm, true) else (((l[i - ix - 1]?).map En.tm).getD 0, true)
theorem lg_Term (O : World) (F : Fz) (a ix tm vt : Nat) (bf : Bf) (l : List En) (i : Nat) (Fr : List Ent) (hb : ix + l.length < 18446744073709551616) (hok : bf.ok l.length) (hi : i < 18446744073709551616) :
    Does Tryz.prog O 31 #[ptrV a, .int .u64 i] F (LgH a ix tm vt bf l Fr)
      (fun r F' H' => r = .tuple #[.int .u64 (lgTerm ix tm l i).1, .bool (lgTerm ix tm l i).2] ∧ F' = F ∧ H' = LgH a ix tm vt bf l Fr) := by
  refine does_of_run (args := [_, _]) Tryz.func31 rfl rfl ?_
  refine r_seq (r_region rfl (o_vl rfl rfl (v_assign rfl) (o_vl rfl rfl (v_assign rfl) (o_end (r_seq (r_block (r_seq (r_region rfl (o_vl rfl rfl (v_move rfl) (o_vl rfl rfl (v_peqnil rfl rfl rfl) (o_vl rfl rfl (v_move rfl) (o_vl rfl rfl (v_move rfl) (o_vl rfl rfl (v_move rfl) ?_)))))))))))))
  refine o_vl rfl rfl (v_nilCheck rfl) (o_vl rfl rfl (v_field (k := 0) rfl rfl rfl) (o_vl rfl rfl (v_load rfl rfl (cell_at (j := 0) rfl rfl)) (o_vl rfl rfl (v_lss rfl rfl) (o_vl rfl rfl (v_pick0 rfl rfl) (o_vl rfl rfl (v_move rfl) ?_)))))
  refine j_prop 17 rfl (fun h1 => ?_) (fun h1 => ?_)
  · have hr : lgTerm ix tm l i = (0, false) := by unfold lgTerm; rw [if_pos (.inl (by omega))]
    refine o_sk rfl rfl (o_sk rfl rfl (o_sk rfl rfl (o_sk rfl rfl (o_vl rfl rfl (v_pick1 rfl rfl) (o_vl rfl rfl (v_assign rfl) (o_end (r_true rfl (r_seq (r_region rfl (o_vl rfl rfl (v_assign rfl) (o_vl rfl rfl (v_assign rfl) (o_end ?_))))))))))))
    rw [hr]
    exact r_ret2 Tryz.func31 rfl rfl rfl ⟨⟨rfl, rfl, rfl⟩, Fz.le_refl _⟩
  · refine o_vl rfl rfl (v_move rfl) (o_vl rfl rfl (v_move rfl) (o_call rfl rfl rfl rfl (c_call callable45 rfl) (lg_Last _ _ a ix tm vt bf l.length _ hb) ?_))
    rintro v' F' H' ⟨rfl, rfl, rfl⟩ _
    refine o_vl rfl rfl (v_gtr rfl rfl) (o_vl rfl rfl (v_pick0 rfl rfl) (o_vl rfl rfl (v_assign rfl) (o_end (r_if rfl (fun h2 => ?_) (fun h2 => ?_)))))
    · have hr : lgTerm ix tm l i = (0, false) := by unfold lgTerm; rw [if_pos (.inr (by omega))]
      refine r_seq (r_region rfl (o_vl rfl rfl (v_assign rfl) (o_vl rfl rfl (v_assign rfl) (o_end ?_))))
      rw [hr]
      exact r_ret2 Tryz.func31 rfl rfl rfl ⟨⟨rfl, rfl, rfl⟩, Fz.le_refl _⟩
    · refine r_seq (r_region rfl (o_vl rfl rfl (v_move rfl) (o_vl rfl rfl (v_move rfl) (o_vl rfl rfl (v_nilCheck rfl) (o_vl rfl rfl (v_field (k := 0) rfl rfl rfl) (o_vl rfl rfl (v_load rfl rfl (cell_at (j := 0) rfl rfl)) (o_vl rfl rfl (v_eql rfl rfl) (o_vl rfl rfl (v_assign rfl) (o_end (r_if rfl (fun h3 => ?_) (fun h3 => ?_)))))))))))
      · have hr : lgTerm ix tm l i = (tm, true) := by unfold lgTerm; rw [if_neg (by omega), if_pos (by omega)]
        refine r_seq (r_region rfl (o_vl rfl rfl (v_move rfl) (o_vl rfl rfl (v_nilCheck rfl) (o_vl rfl rfl (v_field (k := 1) rfl rfl rfl) (o_vl rfl rfl (v_load rfl rfl (cell_at (j := 0) rfl rfl)) (o_vl rfl rfl (v_assign rfl) (o_vl rfl rfl (v_assign rfl) (o_end ?_))))))))
        rw [hr]
        exact r_ret2 Tryz.func31 rfl rfl rfl ⟨⟨rfl, rfl, rfl⟩, Fz.le_refl _⟩
      · have hil : i - ix - 1 < l.length := by omega
        have hr : lgTerm ix tm l i = (l[i - ix - 1].tm, true) := by
          unfold lgTerm
          rw [if_neg (by omega), if_neg (by omega), List.getElem?_eq_getElem hil]
          rfl
        cases bf with
        | nil =>
          have : l.length = 0 := hok
          omega
        | «at» b c =>
          have hg := enV_get l _ hil 1 (by decide)
          refine r_skip (r_inBlock (r_seq (d_region 1000000 rfl ([LgE a ix tm vt (.at b c) l.length, .mem b (enV l) (c * 4)]) ?_)))
          refine d_tk (i := 0) rfl rfl (by intro e he; simp only [List.mem_cons, List.not_mem_nil, or_false] at he; rcases he with rfl | rfl <;> simp [LgH, Bf.ents]) (v_move rfl) (d_tk (i := 1) rfl rfl (by intro e he; simp only [List.mem_cons, List.not_mem_nil, or_false] at he; rcases he with rfl | rfl <;> simp [LgH, Bf.ents]) (v_nilCheck rfl) (d_tk (i := 2) rfl rfl (by intro e he; simp only [List.mem_cons, List.not_mem_nil, or_false] at he; rcases he with rfl | rfl <;> simp [LgH, Bf.ents]) (v_field (k := 3) rfl rfl rfl) (d_tk (i := 3) rfl rfl (by intro e he; simp only [List.mem_cons, List.not_mem_nil, or_false] at he; rcases he with rfl | rfl <;> simp [LgH, Bf.ents]) (v_load rfl rfl (cell_at (j := 0) rfl rfl)) (d_tk (i := 4) rfl rfl (by intro e he; simp only [List.mem_cons, List.not_mem_nil, or_false] at he; rcases he with rfl | rfl <;> simp [LgH, Bf.ents]) (v_move rfl) (d_tk (i := 5) rfl rfl (by intro e he; simp only [List.mem_cons, List.not_mem_nil, or_false] at he; rcases he with rfl | rfl <;> simp [LgH, Bf.ents]) (v_move rfl) (d_tk (i := 6) rfl rfl (by intro e he; simp only [List.mem_cons, List.not_mem_nil, or_false] at he; rcases he with rfl | rfl <;> simp [LgH, Bf.ents]) (v_nilCheck rfl) (d_tk (i := 7) rfl rfl (by intro e he; simp only [List.mem_cons, List.not_mem_nil, or_false] at he; rcases he with rfl | rfl <;> simp [LgH, Bf.ents]) (v_field (k := 0) rfl rfl rfl) (d_tk (i := 8) rfl rfl (by intro e he; simp only [List.mem_cons, List.not_mem_nil, or_false] at he; rcases he with rfl | rfl <;> simp [LgH, Bf.ents]) (v_load rfl rfl (cell_at (j := 0) rfl rfl)) (d_tk (i := 9) rfl rfl (by intro e he; simp only [List.mem_cons, List.not_mem_nil, or_false] at he; rcases he with rfl | rfl <;> simp [LgH, Bf.ents]) (v_sub rfl rfl (r := ((i - ix : Nat) : Int)) ((wrap_u64 (by omega) (by omega)).trans (by omega))) (d_tk (i := 10) rfl rfl (by intro e he; simp only [List.mem_cons, List.not_mem_nil, or_false] at he; rcases he with rfl | rfl <;> simp [LgH, Bf.ents]) (v_sub rfl rfl (r := ((i - ix - 1 : Nat) : Int)) ((wrap_u64 (by omega) (by omega)).trans (by omega))) (d_tk (i := 11) rfl rfl (by intro e he; simp only [List.mem_cons, List.not_mem_nil, or_false] at he; rcases he with rfl | rfl <;> simp [LgH, Bf.ents]) (v_indexN (sz := 4) rfl rfl rfl rfl hil) (d_tk (i := 12) rfl rfl (by intro e he; simp only [List.mem_cons, List.not_mem_nil, or_false] at he; rcases he with rfl | rfl <;> simp [LgH, Bf.ents]) (v_field (k := 1) rfl rfl rfl) (d_tk (i := 13) rfl rfl (by intro e he; simp only [List.mem_cons, List.not_mem_nil, or_false] at he; rcases he with rfl | rfl <;> simp [LgH, Bf.ents]) (v_load (v := .int .u64 l[i - ix - 1].tm) rfl rfl (cell_at (j := 1) rfl (by rw [Nat.zero_add]; exact hg))) ?_)))))))))))))
          refine d_tk (i := 14) rfl rfl (by intro e he; simp only [List.mem_cons, List.not_mem_nil, or_false] at he; rcases he with rfl | rfl <;> simp [LgH, Bf.ents]) (v_assign rfl) (d_tk (i := 15) rfl rfl (by intro e he; simp only [List.mem_cons, List.not_mem_nil, or_false] at he; rcases he with rfl | rfl <;> simp [LgH, Bf.ents]) (v_assign rfl) (d_end (by decide +kernel) ?_))
          rw [hr]
          exact r_ret2 Tryz.func31 rfl rfl rfl ⟨⟨rfl, rfl, rfl⟩, Fz.le_refl _⟩
def lgLastTerm (ix tm : Nat) (l : List En) : Nat := (lgTerm ix tm l (ix + l.length)).1
theorem lg_LastTerm (O : World) (F : Fz) (a ix tm vt : Nat) (bf : Bf) (l : List En) (Fr : List Ent) (hb : ix + l.length < 18446744073709551616) (hok : bf.ok l.length) :
    Does Tryz.prog O 80 #[ptrV a] F (LgH a ix tm vt bf l Fr) (fun r F' H' => r = .int .u64 (lgLastTerm ix tm l) ∧ F' = F ∧ H' = LgH a ix tm vt bf l Fr) := by
  refine does_of_run (args := [_]) Tryz.func80 rfl rfl ?_
  refine r_seq (r_region rfl (o_vl rfl rfl (v_assign rfl) (o_end (r_seq (r_region rfl (o_vl rfl rfl (v_move rfl) (o_vl rfl rfl (v_move rfl) (o_call rfl rfl rfl rfl (c_call callable45 rfl) (lg_Last _ _ a ix tm vt bf l.length _ hb) ?_))))))))
  rintro v' F' H' ⟨rfl, rfl, rfl⟩ _
  refine o_call rfl rfl rfl rfl (c_call callable31 rfl) (lg_Term _ _ a ix tm vt bf l _ _ hb hok hb) ?_
  rintro v' F' H' ⟨rfl, rfl, rfl⟩ _
  refine o_vl rfl rfl (v_move rfl) (o_vl rfl rfl (v_extract rfl rfl) (o_vl rfl rfl (v_extract rfl rfl) (o_vl rfl rfl (v_assign rfl) (o_vl rfl rfl (v_assign rfl) (o_end (r_seq (r_region rfl (o_vl rfl rfl (v_move rfl) (o_vl rfl rfl (v_assign rfl) (o_end ?_))))))))))
  exact r_ret1 Tryz.func80 rfl rfl ⟨⟨rfl, rfl, rfl⟩, Fz.le_refl _⟩
end Go.SX
namespace Go.SX
open Go Go.Proofs
set_option maxRecDepth 4000
def maskB (l : List UInt8) : Nat := leN (l.take 8)
theorem lg_Mask (O : World) (F : Fz) (v : Value) (l : List UInt8) (H : List Ent) (hv : SlB F H v l) (hl : l.length ≤ 9223372036854775807) :
    Does Tryz.prog O 55 #[v] F H (fun r F' H' => r = .int .u64 (maskB l) ∧ F' = F ∧ H' = H) := by
  obtain ⟨a0, cap, rfl, hcap⟩ := Sl.shape hv
  refine does_of_run (args := [_]) Tryz.func55 rfl rfl ?_
  have hmin : (if (8 : Int) < l.length then (8 : Int) else l.length) = ((min l.length 8 : Nat) : Int) := by split <;> omega
  refine r_seq (r_region rfl (o_vl rfl rfl (v_assign rfl) (o_end (r_seq (r_region rfl (o_vl rfl rfl (v_assign rfl) (o_end (r_seq (r_seq (r_region rfl (o_vl rfl rfl (v_move rfl) (o_vl rfl rfl (v_len rfl rfl) (o_vl rfl rfl (v_min rfl rfl) ?_)))))))))))))
  refine o_vl rfl rfl (v_move rfl) (o_end (r_block ?_))
  refine j_slot 7 rfl (v' := .int .i64 ((min l.length 8 : Nat) : Int)) (by rw [hmin]) ?_
  refine r_loop (fun i : Nat => i ≤ min l.length 8) (fun i => [(0, .slice a0 l.length cap), (3, .int .u64 (leN (l.take i))), (7, .int .i64 ((min l.length 8 : Nat) : Int)), (8, .int .i64 i)]) (fun _ => F) (fun _ => H) (fun i => min l.length 8 - i) 0 (Nat.zero_le _) ⟨rfl, rfl, rfl, rfl, trivial⟩ rfl rfl ?_
  intro i hi IH
  refine r_seq (r_region rfl (o_vl rfl rfl (v_lss rfl rfl) (o_end (r_seq (r_if rfl (fun h => ?_) (fun h => ?_))))))
  · have hil : i < l.length := by omega
    have hi8 : i < 8 := by omega
    obtain ⟨b, off, cap', hab, _, hcell⟩ := Sl.view hv (by omega)
    simp only [Value.slice.injEq] at hab
    obtain ⟨rfl, _, rfl⟩ := hab
    have hlt := leN_lt (l.take i)
    rw [List.length_take, Nat.min_eq_left (by omega)] at hlt
    have hs : leN (l.take (i + 1)) = leN (l.take i) + l[i].toNat * 256 ^ i := by
      rw [List.take_succ_eq_append_getElem hil, leN_snoc, List.length_take, Nat.min_eq_left (by omega)]
    refine r_skip (r_seq (r_block (r_seq (r_region rfl (o_vl rfl rfl (v_move rfl) (o_vl rfl rfl (v_assign rfl) (o_end (r_region rfl (o_vl rfl rfl (v_move rfl) (o_vl rfl rfl (v_move rfl) (o_vl rfl rfl (v_move rfl) (o_vl rfl rfl (v_index1 rfl rfl rfl rfl hil) ?_))))))))))))
    refine o_vl rfl rfl (v_load rfl rfl (hcell i (byteV l[i]) (by rw [bytesV_get, List.getElem?_eq_getElem hil]; rfl))) ?_
    refine o_vl rfl rfl (v_conv rfl rfl rfl (wrap_u64 (by omega) (by have := l[i].toNat_lt; omega))) (o_vl rfl rfl (v_move rfl) (o_vl rfl rfl (v_mul rfl rfl (wrap_i64 (by omega) (by omega))) (o_vl rfl rfl (v_shl rfl rfl (by omega) (u64_shl l[i] i hi8)) (o_vl rfl rfl (v_or rfl rfl (u64_or _ _ i hlt (l[i].toNat_lt) hi8)) (o_vl rfl rfl (v_assign rfl) (o_end (r_inBlock (r_region rfl (o_vl rfl rfl (v_add rfl rfl (wrap_i64 (by omega) (by omega))) (o_vl rfl rfl (v_move rfl) (o_end ?_)))))))))))
    rw [← hs]
    refine j_keep ?_ (IH (i + 1) (by omega) (by omega))
    exact ⟨rfl, rfl, rfl, rfl, trivial⟩
  · have e : l.take i = l.take 8 := by
      rcases Nat.lt_or_ge l.length 8 with h8 | h8
      · rw [List.take_of_length_le (by omega), List.take_of_length_le (by omega)]
      · rw [show i = 8 by omega]
    rw [e]
    refine r_exit rfl (r_seq (r_region rfl (o_vl rfl rfl (v_move rfl) (o_vl rfl rfl (v_assign rfl) (o_end ?_)))))
    exact r_ret1 Tryz.func55 rfl rfl ⟨⟨rfl, rfl, rfl⟩, Fz.le_refl _⟩
end Go.SX
namespace Go.SX
open Go Go.Proofs
set_option maxRecDepth 4000
theorem lgH_eq {a ix tm vt n : Nat} {bf : Bf} {l : List En} {Fr : List Ent} (h : l.length = n) : LgE a ix tm vt bf n :: (bf.ents 4 (enV l) ++ Fr) = LgH a ix tm vt bf l Fr := by subst h; rfl
def lgNew (ix tm : Nat) (l : List En) : Prop := ∀ (i : Nat) (h : i < l.length), l[i].ix = ix + i + 1 ∧ lgLastTerm ix tm (l.take i) ≤ l[i].tm
theorem lg_New (O : World) (F : Fz) (ix tm vt : Nat) (dv v : Value) (l : List En) (Fr : List Ent) (hv : Sl F Fr 4 v l.length (enV l)) (hl : ∀ e ∈ l, e.ok F) (hn : l.length ≤ 1000000) (hb : ix + l.length + 1 < 18446744073709551616) :
    Does Tryz.prog O 73 #[.agg #[.int .u64 ix, .int .u64 tm, .int .u64 vt, dv], v] F Fr
      (fun r F' H' => F' = F ∧ ((lgNew ix tm l ∧ ∃ a bf, bf.ok l.length ∧ r = .tuple #[ptrV a, .int .i64 0] ∧ H' = LgH a ix tm vt bf l Fr) ∨ (¬ lgNew ix tm l ∧ r = .tuple #[nilP, .int .i64 1] ∧ H' = Fr))) := by
  obtain ⟨a0, cap, rfl, hcap⟩ := Sl.shape hv
  refine does_of_run (args := [_, _]) Tryz.func73 rfl rfl ?_
  refine r_seq (r_region rfl (o_act rfl rfl rfl rfl (a_box rfl) ?_))
  rintro v' H' ⟨s0, rfl, rfl⟩
  refine o_vl rfl rfl (v_assign rfl) (o_vl rfl rfl (v_assign rfl) (o_end (r_seq (r_region rfl (o_vl rfl rfl (v_field (k := 0) rfl rfl rfl) (o_vl rfl rfl (v_load rfl rfl (cell_at (j := 0) rfl rfl)) (o_vl rfl rfl (v_field (k := 1) rfl rfl rfl) (o_vl rfl rfl (v_load rfl rfl (cell_at (j := 0) rfl rfl)) (o_vl rfl rfl (v_field (k := 2) rfl rfl rfl) (o_vl rfl rfl (v_load rfl rfl (cell_at (j := 0) rfl rfl)) (o_vl rfl rfl (v_build rfl rfl) (o_act rfl rfl rfl rfl (a_box rfl) ?_))))))))))))
  rintro v' H' ⟨a, rfl, rfl⟩
  refine j_drop (H' := LgE a ix tm vt .nil 0 :: Fr) ((List.sublist_cons_self _ _).cons_cons _) ?_
  refine o_vl rfl rfl (v_assign rfl) (o_end (r_seq (r_seq (r_region rfl (o_vl rfl rfl (v_move rfl) (o_vl rfl rfl (v_len rfl rfl) (o_vl rfl rfl (v_move rfl) (o_end (r_block ?_)))))))))
  refine r_loop (fun g : Nat × Bf => g.1 ≤ l.length ∧ g.2.ok g.1 ∧ ∀ (i : Nat) (h : i < l.length), i < g.1 → l[i].ix = ix + i + 1 ∧ lgLastTerm ix tm (l.take i) ≤ l[i].tm) (fun g => [(6, ptrV a), (17, .slice a0 l.length cap), (18, .int .i64 l.length), (19, .int .i64 g.1)]) (fun _ => F) (fun g => LgE a ix tm vt g.2 g.1 :: (g.2.ents 4 (enV (l.take g.1)) ++ Fr)) (fun g => l.length - g.1)
    (0, .nil) ⟨Nat.zero_le _, rfl, fun i _ h => by cases h⟩ ⟨rfl, rfl, rfl, rfl, trivial⟩ rfl rfl ?_
  rintro ⟨i, bf⟩ ⟨hi, hok, hold⟩ IH
  dsimp only at hi hok hold ⊢
  refine r_seq (r_region rfl (o_vl rfl rfl (v_lss rfl rfl) (o_end (r_seq (r_if rfl (fun h => ?_) (fun h => ?_))))))
  · have hil : i < l.length := by omega
    obtain ⟨b0, off0, c0, hab, _, hcell⟩ := Sl.view hv (by omega)
    simp only [Value.slice.injEq] at hab
    obtain ⟨rfl, _, rfl⟩ := hab
    have he := hl l[i] (List.getElem_mem _)
    have hlt : (l.take i).length = i := by simp; omega
    have htk : l.take (i + 1) = l.take i ++ [l[i]] := List.take_succ_eq_append_getElem hil
    have hc : ∀ H, Fr ⊆ H → ∀ j c, l[i].cells[j]? = some c → Cell F H b0 (off0 + i * 4 + j) c := fun H hH j c hj => by
      have hj4 : j < 4 := by
        rcases Nat.lt_or_ge j 4 with h | h
        · exact h
        · rw [List.getElem?_eq_none (by simp [En.cells]; exact h)] at hj; cases hj
      have := hcell (i * 4 + j) c (by rw [enV_get l i hil j hj4]; exact hj)
      rw [← Nat.add_assoc] at this
      exact this.mono (Fz.le_refl _) hH
    have hnew : lgNew ix tm l → l[i].ix = ix + i + 1 ∧ lgLastTerm ix tm (l.take i) ≤ l[i].tm := fun h => h i hil
    have hold' : (l[i].ix = ix + i + 1 ∧ lgLastTerm ix tm (l.take i) ≤ l[i].tm) → ∀ (j : Nat) (h : j < l.length), j < i + 1 → l[j].ix = ix + j + 1 ∧ lgLastTerm ix tm (l.take j) ≤ l[j].tm := fun h j hj hji => by
      by_cases hje : j = i
      · subst hje; exact h
      · exact hold j hj (by omega)
    generalize l[i] = e at *
    refine r_skip (r_seq (r_block (r_seq (r_region rfl (o_vl rfl rfl (v_indexN (sz := 4) rfl rfl rfl rfl hil) (o_vl rfl rfl (v_loadAgg (sz := 4) (cs := e.cells) rfl rfl rfl rfl (hc _ (fun q hq => List.mem_cons_of_mem _ (List.mem_append_right _ hq)))) (o_act rfl rfl rfl rfl (a_alloc rfl) ?_)))))))
    rintro v' H' ⟨x, rfl, rfl⟩
    refine o_act0 rfl rfl rfl (a_store (sz := 4) 0 rfl rfl rfl (by obtain ⟨ad, cd, hd, _⟩ := Sl.shape he.dv; simp [Value.cells, En.cells, hd, oneCellB]) rfl rfl (Nat.le_of_ble_eq_true rfl)) ?_
    refine j_heap (H' := .mem x e.cells 4 :: LgE a ix tm vt bf i :: (bf.ents 4 (enV (l.take i)) ++ Fr)) rfl ?_
    refine j_perm (perm_in _ _ _ _) ?_
    refine o_end (r_seq (r_seq (d_region 1000000 rfl ([.mem x e.cells 4]) ?_)))
    refine d_tk (i := 0) rfl rfl (by simp) (v_field (k := 0) rfl rfl rfl) (d_tk (i := 1) rfl rfl (by simp) (v_load (v := .int .u64 e.ix) rfl rfl (cell_at (j := 0) rfl rfl)) (d_tk (i := 2) rfl rfl (by simp) (v_move rfl) (d_one (i := 3) (by decide +kernel) (d1_call rfl rfl rfl rfl (c_call callable45 rfl) (lg_Last _ _ a ix tm vt bf i _ (by omega)) ?_))))
    rintro v' F' H' ⟨rfl, rfl, rfl⟩ _
    refine ⟨fun w hw => held_of hw (by first | exact Fz.le_refl _ | assumption) (by simp), ?_⟩
    refine d_tk (i := 4) rfl rfl (by simp) (v_add rfl rfl (wrap_u64 (by omega) (by omega))) (d_tk (i := 5) rfl rfl (by simp) (v_neq rfl rfl) (d_tk (i := 6) rfl rfl (by simp) (v_move rfl) ?_))
    have hdrop : Fr.Sublist (LgE a ix tm vt bf i :: (bf.ents 4 (enV (l.take i)) ++ .mem x e.cells 4 :: Fr)) := ((List.sublist_cons_self _ _).trans (List.sublist_append_right _ _)).trans (List.sublist_cons_self _ _)
    refine j_prop 29 rfl (fun h2 => ?_) (fun h2 => ?_)
    · refine d_sk (i := 7) rfl rfl (by simp) (d_sk (i := 8) rfl rfl (by simp) (d_sk (i := 9) rfl rfl (by simp) (d_sk (i := 10) rfl rfl (by simp) (d_sk (i := 11) rfl rfl (by simp) (d_tk (i := 12) rfl rfl (by simp) (v_pick1 rfl rfl) (d_end (by decide +kernel) (r_true rfl (r_seq (r_region rfl (o_vl rfl rfl (v_assign rfl) (o_vl rfl rfl (v_assign rfl) (o_end ?_))))))))))))
      refine j_drop hdrop ?_
      exact r_ret2 Tryz.func73 rfl rfl rfl ⟨⟨rfl, .inr ⟨fun hh => h2 (by have := (hnew hh).1; omega), rfl, rfl⟩⟩, Fz.le_refl _⟩
    · refine d_tk (i := 7) rfl rfl (by simp) (v_field (k := 1) rfl rfl rfl) (d_tk (i := 8) rfl rfl (by simp) (v_load (v := .int .u64 e.tm) rfl rfl (cell_at (j := 0) rfl rfl)) (d_tk (i := 9) rfl rfl (by simp) (v_move rfl) ?_))
      refine j_heap (lgH_eq hlt) ?_
      refine d_one (i := 10) (by decide +kernel) (d1_call rfl rfl rfl rfl (c_call callable80 rfl) (lg_LastTerm _ _ a ix tm vt bf (l.take i) _ (by omega) (by rw [hlt]; exact hok)) ?_)
      rintro v' F' H' ⟨rfl, rfl, rfl⟩ _
      refine ⟨fun w hw => held_of hw (by first | exact Fz.le_refl _ | assumption) (by simp), ?_⟩
      refine j_heap (lgH_eq hlt).symm ?_
      refine d_tk (i := 11) rfl rfl (by simp) (v_lss rfl rfl) (d_tk (i := 12) rfl rfl (by simp) (v_pick0 rfl rfl) (d_end (by decide +kernel) (r_if rfl (fun h3 => ?_) (fun h3 => ?_))))
      · refine r_seq (r_region rfl (o_vl rfl rfl (v_assign rfl) (o_vl rfl rfl (v_assign rfl) (o_end ?_))))
        refine j_drop hdrop ?_
        exact r_ret2 Tryz.func73 rfl rfl rfl ⟨⟨rfl, .inr ⟨fun hh => by have := (hnew hh).2; omega, rfl, rfl⟩⟩, Fz.le_refl _⟩
      · refine r_skip (d_region 10 rfl ([LgE a ix tm vt bf i, .mem x e.cells 4]) ?_)
        refine d_tk (i := 0) rfl rfl (by simp) (v_move rfl) (d_tk (i := 1) rfl rfl (by simp) (v_move rfl) (d_tk (i := 2) rfl rfl (by simp) (v_nilCheck rfl) (d_tk (i := 3) rfl rfl (by simp) (v_field (k := 3) rfl rfl rfl) (d_tk (i := 4) rfl rfl (by simp) (v_load rfl rfl (cell_at (j := 0) rfl rfl)) (d_tk (i := 5) rfl rfl (by simp) (v_loadAgg (sz := 4) (cs := e.cells) rfl rfl rfl rfl (fun j c hc => cell_at (j := 1) rfl (by simpa using hc))) (d_one (i := 6) (by decide +kernel) (d1_act rfl rfl rfl rfl (a_buildS (sz := 4) (cs := e.cells) [.tmp 41] rfl rfl rfl rfl rfl rfl rfl rfl rfl rfl) ?_)))))))
        rintro v' H' ⟨y, rfl, rfl⟩
        refine ⟨fun w hw => held_of hw (by first | exact Fz.le_refl _ | assumption) (by simp), ?_⟩
        refine d_one (i := 7) (by decide +kernel) (d1_act rfl rfl rfl rfl (a_appendP (bf := bf) (n := i) (sz := 4) (bytes := 48) [.mem y e.cells 4, LgE a ix tm vt bf i] ⟨⟨_, _, _, rfl, rfl, rfl, rfl, rfl, rfl⟩, by decide⟩ rfl hok (by rw [enV_length, hlt]) rfl rfl (sl_lit (e := e) (List.mem_cons_self ..)) (by simpa [enV] using he.one) (by unfold maxLen; omega) (by omega)) ?_)
        rintro v' H' ⟨bf2, rfl, hok2, rfl⟩
        refine ⟨fun w hw => held_of hw (by first | exact Fz.le_refl _ | assumption) (by simp), ?_⟩
        refine d_tk (i := 8) rfl rfl (by simp) (v_nilCheck rfl) (d_tk (i := 9) rfl rfl (by simp) (v_field (k := 3) rfl rfl rfl) (d_one (i := 10) (by decide +kernel) ?_))
        refine d1_last 1000000 ([]) rfl rfl rfl (a_store1 1 rfl rfl rfl rfl rfl (Nat.le_of_ble_eq_true rfl)) ?_
        refine j_drop (H' := LgE a ix tm vt bf2 (i + 1) :: (bf2.ents 4 (enV (l.take i) ++ enV [e]) ++ Fr)) ((drop_in _ _ _ _).trans (List.sublist_cons_self _ _)) ?_
        rw [← enV_append, ← htk]
        refine d_end (by decide +kernel) (r_inBlock (r_region rfl (o_vl rfl rfl (v_add rfl rfl (wrap_i64 (by omega) (by omega))) (o_vl rfl rfl (v_move rfl) (o_end ?_)))))
        refine j_keep ?_ (IH (i + 1, bf2) ⟨hil, hok2, hold' ⟨by omega, by omega⟩⟩ (by dsimp only; omega))
        exact ⟨rfl, rfl, rfl, rfl, trivial⟩
  · obtain rfl : i = l.length := by omega
    have hnw : lgNew ix tm l := fun j hj => hold j hj hj
    rw [List.take_length]
    refine r_exit rfl (r_seq (r_region rfl (o_vl rfl rfl (v_move rfl) (o_vl rfl rfl (v_assign rfl) (o_vl rfl rfl (v_assign rfl) (o_end ?_))))))
    exact r_ret2 Tryz.func73 rfl rfl rfl ⟨⟨rfl, .inl ⟨hnw, a, bf, hok, rfl, rfl⟩⟩, Fz.le_refl _⟩
theorem lg_Put (O : World) (F : Fz) (a ix tm vt : Nat) (bf : Bf) (l : List En) (t k : Nat) (dv : Value) (data : List UInt8) (Fr : List Ent) (hok : bf.ok l.length) (hn : l.length ≤ 1000000) (hb : ix + l.length + 1 < 18446744073709551616)
    (ht : t < 18446744073709551616) (hk : k < 256) (hd : SlB F [] dv data) (hdl : data.length ≤ 1048576) :
    Does Tryz.prog O 56 #[ptrV a, .int .u64 t, .int .u8 k, dv] F (LgH a ix tm vt bf l Fr)
      (fun r F' H' => r = .int .u64 (ix + l.length + 1 : Nat) ∧ ∃ e bf', e.ok F' ∧ e.ix = ix + l.length + 1 ∧ e.tm = t ∧ e.kd = k ∧ e.data = data ∧ bf'.ok (l ++ [e]).length ∧ H' = LgH a ix tm vt bf' (l ++ [e]) Fr) := by
  refine does_of_run (args := [_, _, _, _]) Tryz.func56 rfl rfl ?_
  refine r_seq (r_region rfl (o_vl rfl rfl (v_assign rfl) (o_end (r_seq (r_seq (r_region rfl (o_vl rfl rfl (v_move rfl) (o_vl rfl rfl (v_peqnil rfl rfl rfl) (o_end (r_false rfl (r_skip (r_seq (r_region rfl ?_)))))))))))))
  refine o_vl rfl rfl (v_move rfl) (o_call rfl rfl rfl rfl (c_call callable45 rfl) (lg_Last _ _ a ix tm vt bf l.length _ (by omega)) ?_)
  rintro v' F H' ⟨rfl, rfl, rfl⟩ _
  refine o_vl rfl rfl (v_add rfl rfl (r := ((ix + l.length + 1 : Nat) : Int)) (wrap_u64 (by omega) (by omega))) (o_vl rfl rfl (v_move rfl) (o_vl rfl rfl (v_move rfl) (o_vl rfl rfl (v_move rfl) (o_call rfl rfl rfl rfl (c_call callable61 rfl) (sl_Clone _ _ _ data _ (hd.frz (Fz.le_refl _)) (by omega)) ?_))))
  rintro v' F H' ⟨rfl, bfc, hokc, rfl, rfl⟩ _
  refine j_freezeBf hokc (by simp) fun F1 hF1 hs1 => ?_
  obtain ⟨e, he⟩ : ∃ e : En, e = ⟨ix + l.length + 1, t, k, bfc.val data.length, data⟩ := ⟨_, rfl⟩
  have heok : e.ok F1 := by rw [he]; first | exact ⟨hb, ht, hk, hs1⟩ | exact ⟨hb, ht, hk, hs1, hdl⟩
  have hec : e.cells = [.int .u64 (ix + l.length + 1 : Nat), .int .u64 t, .int .u8 k, bfc.val data.length] := by rw [he]; rfl
  refine o_vl rfl rfl (v_build rfl rfl) (o_act rfl rfl rfl rfl (a_alloc rfl) ?_)
  rintro v' H' ⟨x, rfl, rfl⟩
  refine o_act0 rfl rfl rfl (a_store (sz := 4) 0 rfl rfl rfl rfl rfl rfl (Nat.le_of_ble_eq_true rfl)) ?_
  refine j_heap (H' := .mem x e.cells 4 :: LgE a ix tm vt bf l.length :: (bf.ents 4 (enV l) ++ Fr)) (by rw [hec]; rfl) ?_
  refine o_end (r_seq (d_region 10 rfl ([LgE a ix tm vt bf l.length, .mem x e.cells 4]) ?_))
  refine d_tk (i := 0) rfl rfl (by simp) (v_move rfl) (d_tk (i := 1) rfl rfl (by simp) (v_move rfl) (d_tk (i := 2) rfl rfl (by simp) (v_nilCheck rfl) (d_tk (i := 3) rfl rfl (by simp) (v_field (k := 3) rfl rfl rfl) (d_tk (i := 4) rfl rfl (by simp) (v_load rfl rfl (cell_at (j := 0) rfl rfl)) (d_tk (i := 5) rfl rfl (by simp) (v_loadAgg (sz := 4) (cs := e.cells) rfl rfl rfl rfl (fun j c hc => cell_at (j := 1) rfl (by simpa using hc))) (d_one (i := 6) (by decide +kernel) (d1_act rfl rfl rfl rfl (a_buildS (sz := 4) (cs := e.cells) [.tmp 25] rfl rfl rfl rfl rfl rfl rfl rfl rfl rfl) ?_)))))))
  rintro v' H' ⟨y, rfl, rfl⟩
  refine ⟨fun w hw => held_of hw (by first | exact Fz.le_refl _ | assumption) (by simp), ?_⟩
  refine d_one (i := 7) (by decide +kernel) (d1_act rfl rfl rfl rfl (a_appendP (bf := bf) (n := l.length) (sz := 4) (bytes := 48) [.mem y e.cells 4, .mem x e.cells 4, LgE a ix tm vt bf l.length] ⟨⟨_, _, _, rfl, rfl, rfl, rfl, rfl, rfl⟩, by decide⟩ rfl hok (by rw [enV_length]) rfl rfl (sl_lit (e := e) (List.mem_cons_self ..)) (by simpa [enV] using heok.one) (by unfold maxLen; omega) (by omega)) ?_)
  rintro v' H' ⟨bf2, rfl, hok2, rfl⟩
  refine ⟨fun w hw => held_of hw (by first | exact Fz.le_refl _ | assumption) (by simp), ?_⟩
  refine d_tk (i := 8) rfl rfl (by simp) (v_nilCheck rfl) (d_tk (i := 9) rfl rfl (by simp) (v_field (k := 3) rfl rfl rfl) (d_one (i := 10) (by decide +kernel) ?_))
  refine d1_last 1000000 ([]) rfl rfl rfl (a_store1 2 rfl rfl rfl rfl rfl (Nat.le_of_ble_eq_true rfl)) ?_
  refine d_end (by decide +kernel) (r_seq (r_region rfl (o_vl rfl rfl (v_field (k := 0) rfl rfl rfl) (o_vl rfl rfl (v_load (v := .int .u64 (ix + l.length + 1 : Nat)) rfl rfl (cell_at (j := 1) rfl (by rw [hec]; rfl))) (o_vl rfl rfl (v_assign rfl) (o_end ?_))))))
  refine j_drop (H' := LgE a ix tm vt bf2 (l.length + 1) :: (bf2.ents 4 (enV l ++ enV [e]) ++ Fr)) ((List.sublist_cons_self _ _).trans (List.sublist_cons_self _ _)) ?_
  rw [← enV_append]
  refine j_heap (lgH_eq (l := l ++ [e]) (by simp)) ?_
  refine r_ret1 Tryz.func56 rfl rfl ⟨⟨rfl, e, bf2, heok, by rw [he], by rw [he], by rw [he], by rw [he], by simpa using hok2, rfl⟩, hF1⟩
end Go.SX
namespace Go.SX
open Go Go.Proofs
set_option maxRecDepth 4000
def tmAt (terms : List UInt8) (i : Nat) : Nat := 1 + ((terms.take i).map fun b => b.toNat % 3 / 2).sum
def kdAt (kinds : List UInt8) (i : Nat) : Nat :=
  match kinds[i]? with
  | some b => if b.toNat % 5 = 0 then 1 else 0
  | none => 0
structure EnsOk (F : Fz) (at0 : Nat) (terms kinds : List UInt8) (es : List En) : Prop where
  ok : ∀ e ∈ es, e.ok F
  is : ∀ (i : Nat) (h : i < es.length), es[i].ix = at0 + i + 1 ∧ es[i].tm = tmAt terms (i + 1) ∧ es[i].kd = kdAt kinds i ∧ ∃ h : i < terms.length, es[i].data = [terms[i]]
theorem tmAt_succ (terms : List UInt8) (i : Nat) (h : i < terms.length) : tmAt terms (i + 1) = tmAt terms i + terms[i].toNat % 3 / 2 := by
  unfold tmAt
  rw [List.take_succ_eq_append_getElem h]
  simp only [List.map_append, List.sum_append, List.map_cons, List.map_nil, List.sum_cons, List.sum_nil, Nat.add_zero, Nat.add_assoc]
def fitB (ix tm : Nat) (l : List En) (i t : Nat) : Bool := (lgTerm ix tm l i).2 && decide ((lgTerm ix tm l i).1 = t)
def newerB (ix tm : Nat) (l : List En) (i t : Nat) : Bool := decide (lgLastTerm ix tm l < t) || (decide (t = lgLastTerm ix tm l) && decide (ix + l.length ≤ i))
theorem lg_Fit (O : World) (F : Fz) (a ix tm vt : Nat) (bf : Bf) (l : List En) (i t : Nat) (Fr : List Ent) (hb : ix + l.length < 18446744073709551616) (hok : bf.ok l.length) (hi : i < 18446744073709551616) :
    Does Tryz.prog O 106 #[ptrV a, .int .u64 i, .int .u64 t] F (LgH a ix tm vt bf l Fr) (fun r F' H' => r = .bool (fitB ix tm l i t) ∧ F' = F ∧ H' = LgH a ix tm vt bf l Fr) := by
  refine does_of_run (args := [_, _, _]) Tryz.func106 rfl rfl ?_
  refine r_seq (r_region rfl (o_vl rfl rfl (v_assign rfl) (o_end (r_seq (r_region rfl (o_vl rfl rfl (v_move rfl) (o_vl rfl rfl (v_move rfl) (o_call rfl rfl rfl rfl (c_call callable31 rfl) (lg_Term _ _ a ix tm vt bf l i _ hb hok hi) ?_))))))))
  rintro v' F' H' ⟨rfl, rfl, rfl⟩ _
  unfold fitB
  generalize lgTerm ix tm l i = q
  obtain ⟨q1, q2⟩ := q
  dsimp only
  cases q2 with
  | true =>
    refine o_vl rfl rfl (v_move rfl) (o_vl rfl rfl (v_extract rfl rfl) (o_vl rfl rfl (v_extract rfl rfl) (o_vl rfl rfl (v_assign rfl) (o_vl rfl rfl (v_assign rfl) (o_end (r_seq (r_region rfl (o_vl rfl rfl (v_move rfl) (o_vl rfl rfl (v_move rfl) (o_vl rfl rfl (v_move rfl) (o_vl rfl rfl (v_move rfl) (o_vl rfl rfl (v_eql rfl rfl) (o_vl rfl rfl (v_pick1 rfl rfl) ?_)))))))))))))
    refine o_vl rfl rfl (v_assign rfl) (o_end ?_)
    refine r_ret1 Tryz.func106 rfl rfl ⟨⟨?_, rfl, rfl⟩, Fz.le_refl _⟩
    rw [Bool.true_and, decide_eq_decide.2 (show ((q1 : Int) = t ↔ q1 = t) by omega)]
  | false =>
    refine o_vl rfl rfl (v_move rfl) (o_vl rfl rfl (v_extract rfl rfl) (o_vl rfl rfl (v_extract rfl rfl) (o_vl rfl rfl (v_assign rfl) (o_vl rfl rfl (v_assign rfl) (o_end (r_seq (r_region rfl (o_vl rfl rfl (v_move rfl) (o_vl rfl rfl (v_move rfl) (o_sk rfl rfl (o_sk rfl rfl (o_sk rfl rfl (o_vl rfl rfl (v_pick0 rfl rfl) ?_)))))))))))))
    refine o_vl rfl rfl (v_assign rfl) (o_end ?_)
    exact r_ret1 Tryz.func106 rfl rfl ⟨⟨rfl, rfl, rfl⟩, Fz.le_refl _⟩
theorem lg_Newer (O : World) (F : Fz) (a ix tm vt : Nat) (bf : Bf) (l : List En) (i t : Nat) (Fr : List Ent) (hb : ix + l.length < 18446744073709551616) (hok : bf.ok l.length) :
    Does Tryz.prog O 105 #[ptrV a, .int .u64 i, .int .u64 t] F (LgH a ix tm vt bf l Fr) (fun r F' H' => r = .bool (newerB ix tm l i t) ∧ F' = F ∧ H' = LgH a ix tm vt bf l Fr) := by
  refine does_of_run (args := [_, _, _]) Tryz.func105 rfl rfl ?_
  refine r_seq (r_region rfl (o_vl rfl rfl (v_assign rfl) (o_end (r_seq (r_region rfl (o_vl rfl rfl (v_move rfl) (o_vl rfl rfl (v_move rfl) (o_call rfl rfl rfl rfl (c_call callable80 rfl) (lg_LastTerm _ _ a ix tm vt bf l _ hb hok) ?_))))))))
  rintro v' F H' ⟨rfl, rfl, rfl⟩ _
  unfold newerB
  refine o_vl rfl rfl (v_gtr rfl rfl) (o_vl rfl rfl (v_move rfl) ?_)
  refine j_prop 11 rfl (fun h => ?_) (fun h => ?_)
  · refine o_sk rfl rfl (o_sk rfl rfl (o_sk rfl rfl (o_sk rfl rfl (o_sk rfl rfl (o_sk rfl rfl (o_sk rfl rfl (o_sk rfl rfl (o_sk rfl rfl (o_sk rfl rfl (o_vl rfl rfl (v_pick1 rfl rfl) (o_vl rfl rfl (v_assign rfl) (o_end ?_))))))))))))
    refine r_ret1 Tryz.func105 rfl rfl ⟨⟨?_, rfl, rfl⟩, Fz.le_refl _⟩
    rw [decide_eq_true (show lgLastTerm ix tm l < t by omega), Bool.true_or]
  · refine o_vl rfl rfl (v_move rfl) (o_vl rfl rfl (v_move rfl) (o_call rfl rfl rfl rfl (c_call callable80 rfl) (lg_LastTerm _ _ a ix tm vt bf l _ hb hok) ?_))
    rintro v' F H' ⟨rfl, rfl, rfl⟩ _
    rw [decide_eq_false (show ¬ lgLastTerm ix tm l < t by omega), Bool.false_or]
    refine o_vl rfl rfl (v_eql rfl rfl) (o_vl rfl rfl (v_move rfl) ?_)
    refine j_prop 16 rfl (fun h2 => ?_) (fun h2 => ?_)
    · refine o_vl rfl rfl (v_move rfl) (o_vl rfl rfl (v_move rfl) (o_call rfl rfl rfl rfl (c_call callable45 rfl) (lg_Last _ _ a ix tm vt bf l.length _ hb) ?_))
      rintro v' F H' ⟨rfl, rfl, rfl⟩ _
      refine o_vl rfl rfl (v_geq rfl rfl) (o_vl rfl rfl (v_pick1 rfl rfl) (o_vl rfl rfl (v_pick0 rfl rfl) (o_vl rfl rfl (v_assign rfl) (o_end ?_))))
      refine r_ret1 Tryz.func105 rfl rfl ⟨⟨?_, rfl, rfl⟩, Fz.le_refl _⟩
      rw [decide_eq_true (show t = lgLastTerm ix tm l by omega), Bool.true_and, decide_eq_decide.2 (show (((ix + l.length : Nat) : Int) ≤ i ↔ ix + l.length ≤ i) by omega)]
    · refine o_sk rfl rfl (o_sk rfl rfl (o_sk rfl rfl (o_sk rfl rfl (o_vl rfl rfl (v_pick0 rfl rfl) (o_vl rfl rfl (v_pick0 rfl rfl) (o_vl rfl rfl (v_assign rfl) (o_end ?_)))))))
      refine r_ret1 Tryz.func105 rfl rfl ⟨⟨?_, rfl, rfl⟩, Fz.le_refl _⟩
      rw [decide_eq_false (show ¬ t = lgLastTerm ix tm l by omega), Bool.false_and]
theorem lgLastTerm_nil (ix tm : Nat) : lgLastTerm ix tm [] = tm := by simp [lgLastTerm, lgTerm]
theorem lgLastTerm_pos (ix tm : Nat) (l : List En) (h : 0 < l.length) : lgLastTerm ix tm l = l[l.length - 1].tm := by
  unfold lgLastTerm lgTerm
  rw [if_neg (by omega), if_neg (by omega)]
  have e : ix + l.length - ix - 1 = l.length - 1 := by omega
  rw [e, List.getElem?_eq_getElem (by omega)]
  rfl
theorem EnsOk.new {F : Fz} {terms kinds : List UInt8} {es : List En} {ix tm : Nat} (h : EnsOk F ix terms kinds es) (htm : tm ≤ 1) : lgNew ix tm es := by
  intro i hi
  obtain ⟨h1, h2, _⟩ := h.is i hi
  refine ⟨h1, ?_⟩
  rw [h2]
  cases i with
  | zero =>
    rw [List.take_zero, lgLastTerm_nil]
    unfold tmAt
    omega
  | succ i =>
    have hl : (es.take (i + 1)).length = i + 1 := by simp; omega
    rw [lgLastTerm_pos _ _ _ (by omega)]
    have e : (es.take (i + 1))[(es.take (i + 1)).length - 1] = es[i] := by
      rw [List.getElem_take]
      simp only [hl, Nat.add_sub_cancel]
    rw [e]
    obtain ⟨_, h4, _, h5, _⟩ := h.is i (by omega)
    rw [h4]
    obtain ⟨_, _, _, h6, _⟩ := h.is (i + 1) hi
    rw [tmAt_succ terms (i + 1) h6]
    omega
end Go.SX
namespace Go.SX
open Go Go.Proofs
set_option maxRecDepth 4000
theorem lg_Base (O : World) (F : Fz) (a ix tm vt : Nat) (bf : Bf) (n : Nat) (Fr : List Ent) :
    Does Tryz.prog O 44 #[ptrV a] F (LgE a ix tm vt bf n :: Fr) (fun r F' H' => r = .int .u64 ix ∧ F' = F ∧ H' = LgE a ix tm vt bf n :: Fr) := by
  refine does_of_run (args := [_]) Tryz.func44 rfl rfl ?_
  refine r_seq (r_region rfl (o_vl rfl rfl (v_assign rfl) (o_end (r_seq (r_seq (r_region rfl (o_vl rfl rfl (v_move rfl) (o_vl rfl rfl (v_peqnil rfl rfl rfl) (o_end (r_false rfl (r_skip (r_seq (r_region rfl ?_)))))))))))))
  refine o_vl rfl rfl (v_move rfl) (o_vl rfl rfl (v_nilCheck rfl) (o_vl rfl rfl (v_field (k := 0) rfl rfl rfl) (o_vl rfl rfl (v_load rfl rfl (cell_at (j := 0) rfl rfl)) (o_vl rfl rfl (v_assign rfl) (o_end ?_)))))
  exact r_ret1 Tryz.func44 rfl rfl ⟨⟨rfl, rfl, rfl⟩, Fz.le_refl _⟩
def lgEntry (ix : Nat) (l : List En) (i : Nat) : List Value × Bool :=
  if i ≤ ix ∨ ix + l.length < i then ([.int .u64 0, .int .u64 0, .int .u8 0, .slice none 0 0], false) else (((l[i - ix - 1]?).map En.cells).getD [], true)
theorem lg_Entry (O : World) (F : Fz) (a ix tm vt : Nat) (bf : Bf) (l : List En) (i : Nat) (Fr : List Ent) (hb : ix + l.length < 18446744073709551616) (hok : bf.ok l.length) (hi : i < 18446744073709551616) (hl : ∀ e ∈ l, e.ok F) :
    Does Tryz.prog O 93 #[ptrV a, .int .u64 i] F (LgH a ix tm vt bf l Fr)
      (fun r F' H' => r = .tuple #[.agg (lgEntry ix l i).1.toArray, .bool (lgEntry ix l i).2] ∧ F' = F ∧ H' = LgH a ix tm vt bf l Fr) := by
  refine does_of_run (args := [_, _]) Tryz.func93 rfl rfl ?_
  refine r_seq (r_region rfl (o_act rfl rfl rfl rfl (a_alloc rfl) ?_))
  rintro v' H' ⟨x, rfl, rfl⟩
  refine j_heap (H' := .mem x [.int .u64 0, .int .u64 0, .int .u8 0, .slice none 0 0] 4 :: LgE a ix tm vt bf l.length :: (bf.ents 4 (enV l) ++ Fr)) rfl ?_
  refine j_perm (perm_in _ _ _ _) ?_
  refine j_heap (H' := LgH a ix tm vt bf l (.mem x [.int .u64 0, .int .u64 0, .int .u8 0, .slice none 0 0] 4 :: Fr)) rfl ?_
  refine o_vl rfl rfl (v_assign rfl) (o_end (r_seq (r_seq (r_region rfl (o_vl rfl rfl (v_move rfl) (o_vl rfl rfl (v_peqnil rfl rfl rfl) (o_vl rfl rfl (v_move rfl) (o_vl rfl rfl (v_move rfl) (o_vl rfl rfl (v_move rfl) (o_vl rfl rfl (v_nilCheck rfl) (o_vl rfl rfl (v_field (k := 0) rfl rfl rfl) (o_vl rfl rfl (v_load rfl rfl (cell_at (j := 0) rfl rfl)) (o_vl rfl rfl (v_leq rfl rfl) ?_)))))))))))))
  refine o_vl rfl rfl (v_pick0 rfl rfl) (o_vl rfl rfl (v_move rfl) ?_)
  refine j_prop 16 rfl (fun h1 => ?_) (fun h1 => ?_)
  · have hr : lgEntry ix l i = ([.int .u64 0, .int .u64 0, .int .u8 0, .slice none 0 0], false) := by unfold lgEntry; rw [if_pos (.inl (by omega))]
    refine o_sk rfl rfl (o_sk rfl rfl (o_sk rfl rfl (o_sk rfl rfl (o_vl rfl rfl (v_pick1 rfl rfl) (o_end (r_true rfl ?_))))))
    refine j_perm (perm_in _ _ _ _).symm ?_
    refine r_seq (r_region rfl (o_vl rfl rfl (v_build rfl rfl) (o_act0 rfl rfl rfl (a_store (sz := 4) 0 rfl rfl rfl rfl rfl rfl (Nat.le_of_ble_eq_true rfl)) ?_)))
    refine o_vl rfl rfl (v_assign rfl) (o_end ?_)
    rw [hr]
    exact r_retC1 (sz := 4) (cs := [.int .u64 0, .int .u64 0, .int .u8 0, .slice none 0 0]) Tryz.func93 rfl rfl rfl rfl rfl rfl (fun j c hc => cell_at (j := 0) rfl (by rw [Nat.zero_add]; exact hc)) (List.sublist_cons_self _ _) ⟨⟨rfl, rfl, rfl⟩, Fz.le_refl _⟩
  · refine o_vl rfl rfl (v_move rfl) (o_vl rfl rfl (v_move rfl) (o_call rfl rfl rfl rfl (c_call callable45 rfl) (lg_Last _ _ a ix tm vt bf l.length _ hb) ?_))
    rintro v' F H' ⟨rfl, rfl, rfl⟩ _
    refine o_vl rfl rfl (v_gtr rfl rfl) (o_vl rfl rfl (v_pick0 rfl rfl) (o_end (r_if rfl (fun h2 => ?_) (fun h2 => ?_))))
    · have hr : lgEntry ix l i = ([.int .u64 0, .int .u64 0, .int .u8 0, .slice none 0 0], false) := by unfold lgEntry; rw [if_pos (.inr (by omega))]
      refine j_perm (perm_in _ _ _ _).symm ?_
      refine r_seq (r_region rfl (o_vl rfl rfl (v_build rfl rfl) (o_act0 rfl rfl rfl (a_store (sz := 4) 0 rfl rfl rfl rfl rfl rfl (Nat.le_of_ble_eq_true rfl)) ?_)))
      refine o_vl rfl rfl (v_assign rfl) (o_end ?_)
      rw [hr]
      exact r_retC1 (sz := 4) (cs := [.int .u64 0, .int .u64 0, .int .u8 0, .slice none 0 0]) Tryz.func93 rfl rfl rfl rfl rfl rfl (fun j c hc => cell_at (j := 0) rfl (by rw [Nat.zero_add]; exact hc)) (List.sublist_cons_self _ _) ⟨⟨rfl, rfl, rfl⟩, Fz.le_refl _⟩
    · have hil : i - ix - 1 < l.length := by omega
      have he := hl l[i - ix - 1] (List.getElem_mem _)
      have hg : ∀ j c, l[i - ix - 1].cells[j]? = some c → (enV l)[(i - ix - 1) * 4 + j]? = some c := fun j c hj => by
        have hj4 : j < 4 := by
          rcases Nat.lt_or_ge j 4 with h | h
          · exact h
          · rw [List.getElem?_eq_none (by simp [En.cells]; exact h)] at hj; cases hj
        rw [enV_get l _ hil j hj4]; exact hj
      have hr : lgEntry ix l i = (l[i - ix - 1].cells, true) := by
        unfold lgEntry
        rw [if_neg (by omega), List.getElem?_eq_getElem hil]
        rfl
      rw [hr]
      generalize l[i - ix - 1] = e at *
      cases bf with
      | nil =>
        have : l.length = 0 := hok
        omega
      | «at» b c =>
        refine j_perm (perm_in _ _ _ _).symm ?_
        refine r_skip (r_seq (d_region 13 rfl ([LgE a ix tm vt (.at b c) l.length, .mem b (enV l) (c * 4)]) ?_))
        refine d_tk (i := 0) rfl rfl (by intro q hq; simp only [List.mem_cons, List.not_mem_nil, or_false] at hq; rcases hq with rfl | rfl <;> simp [Bf.ents]) (v_move rfl) (d_tk (i := 1) rfl rfl (by intro q hq; simp only [List.mem_cons, List.not_mem_nil, or_false] at hq; rcases hq with rfl | rfl <;> simp [Bf.ents]) (v_nilCheck rfl) (d_tk (i := 2) rfl rfl (by intro q hq; simp only [List.mem_cons, List.not_mem_nil, or_false] at hq; rcases hq with rfl | rfl <;> simp [Bf.ents]) (v_field (k := 3) rfl rfl rfl) (d_tk (i := 3) rfl rfl (by intro q hq; simp only [List.mem_cons, List.not_mem_nil, or_false] at hq; rcases hq with rfl | rfl <;> simp [Bf.ents]) (v_load rfl rfl (cell_at (j := 0) rfl rfl)) (d_tk (i := 4) rfl rfl (by intro q hq; simp only [List.mem_cons, List.not_mem_nil, or_false] at hq; rcases hq with rfl | rfl <;> simp [Bf.ents]) (v_move rfl) (d_tk (i := 5) rfl rfl (by intro q hq; simp only [List.mem_cons, List.not_mem_nil, or_false] at hq; rcases hq with rfl | rfl <;> simp [Bf.ents]) (v_move rfl) (d_tk (i := 6) rfl rfl (by intro q hq; simp only [List.mem_cons, List.not_mem_nil, or_false] at hq; rcases hq with rfl | rfl <;> simp [Bf.ents]) (v_nilCheck rfl) (d_tk (i := 7) rfl rfl (by intro q hq; simp only [List.mem_cons, List.not_mem_nil, or_false] at hq; rcases hq with rfl | rfl <;> simp [Bf.ents]) (v_field (k := 0) rfl rfl rfl) (d_tk (i := 8) rfl rfl (by intro q hq; simp only [List.mem_cons, List.not_mem_nil, or_false] at hq; rcases hq with rfl | rfl <;> simp [Bf.ents]) (v_load rfl rfl (cell_at (j := 0) rfl rfl)) (d_tk (i := 9) rfl rfl (by intro q hq; simp only [List.mem_cons, List.not_mem_nil, or_false] at hq; rcases hq with rfl | rfl <;> simp [Bf.ents]) (v_sub rfl rfl (r := ((i - ix : Nat) : Int)) ((wrap_u64 (by omega) (by omega)).trans (by omega))) (d_tk (i := 10) rfl rfl (by intro q hq; simp only [List.mem_cons, List.not_mem_nil, or_false] at hq; rcases hq with rfl | rfl <;> simp [Bf.ents]) (v_sub rfl rfl (r := ((i - ix - 1 : Nat) : Int)) ((wrap_u64 (by omega) (by omega)).trans (by omega))) (d_tk (i := 11) rfl rfl (by intro q hq; simp only [List.mem_cons, List.not_mem_nil, or_false] at hq; rcases hq with rfl | rfl <;> simp [Bf.ents]) (v_indexN (sz := 4) rfl rfl rfl rfl hil) (d_tk (i := 12) rfl rfl (by intro q hq; simp only [List.mem_cons, List.not_mem_nil, or_false] at hq; rcases hq with rfl | rfl <;> simp [Bf.ents]) (v_loadAgg (sz := 4) (cs := e.cells) rfl rfl rfl rfl (fun j c hc => cell_at (j := 1) rfl (by rw [Nat.zero_add]; exact hg j c hc))) (d_one (i := 13) (by decide +kernel) ?_)))))))))))))
        refine d1_last 1000000 ([]) rfl rfl rfl (a_store (sz := 4) 0 rfl rfl rfl (by obtain ⟨ad, cd, hd, _⟩ := Sl.shape he.dv; simp [Value.cells, En.cells, hd, oneCellB]) rfl rfl (Nat.le_of_ble_eq_true rfl)) ?_
        refine j_heap (H' := .mem x e.cells 4 :: LgE a ix tm vt (.at b c) l.length :: ((Bf.at b c).ents 4 (enV l) ++ Fr)) rfl ?_
        refine d_tk (i := 14) rfl rfl (by simp) (v_assign rfl) (d_end (by decide +kernel) ?_)
        exact r_retC1 (sz := 4) (cs := e.cells) Tryz.func93 rfl rfl rfl rfl rfl rfl (fun j c hc => cell_at (j := 0) rfl (by rw [Nat.zero_add]; exact hc)) (List.sublist_cons_self _ _) ⟨⟨rfl, rfl, rfl⟩, Fz.le_refl _⟩
def lgVotersAt (vt : Nat) (l : List En) (i : Nat) : Nat := l.foldl (fun v e => if e.ix ≤ i ∧ e.kd = 1 then maskB e.data else v) vt
theorem lg_VotersAt (O : World) (F : Fz) (a ix tm vt : Nat) (bf : Bf) (l : List En) (i : Nat) (Fr : List Ent) (hn : l.length ≤ 1000000) (hok : bf.ok l.length) (hl : ∀ e ∈ l, e.ok F) (hdl : ∀ e ∈ l, e.data.length ≤ 1000000) :
    Does Tryz.prog O 60 #[ptrV a, .int .u64 i] F (LgH a ix tm vt bf l Fr) (fun r F' H' => r = .int .u64 (lgVotersAt vt l i) ∧ F' = F ∧ H' = LgH a ix tm vt bf l Fr) := by
  refine does_of_run (args := [_, _]) Tryz.func60 rfl rfl ?_
  refine r_seq (r_region rfl (o_vl rfl rfl (v_assign rfl) (o_end (r_seq (r_seq (r_region rfl (o_vl rfl rfl (v_move rfl) (o_vl rfl rfl (v_peqnil rfl rfl rfl) (o_end (r_false rfl (r_skip (r_seq (r_region rfl ?_)))))))))))))
  refine o_vl rfl rfl (v_move rfl) (o_vl rfl rfl (v_nilCheck rfl) (o_vl rfl rfl (v_field (k := 2) rfl rfl rfl) (o_vl rfl rfl (v_load rfl rfl (cell_at (j := 0) rfl rfl)) (o_vl rfl rfl (v_assign rfl) (o_end (r_seq (r_seq (r_region rfl (o_vl rfl rfl (v_move rfl) (o_vl rfl rfl (v_nilCheck rfl) (o_vl rfl rfl (v_field (k := 3) rfl rfl rfl) (o_vl rfl rfl (v_load rfl rfl (cell_at (j := 0) rfl rfl)) (o_vl rfl rfl (v_len rfl rfl) ?_)))))))))))))
  refine o_vl rfl rfl (v_move rfl) (o_end (r_block ?_))
  refine r_loop (fun k : Nat => k ≤ l.length) (fun k => [(1, .int .u64 i), (5, .int .u64 (lgVotersAt vt (l.take k) i)), (17, bf.val l.length), (18, .int .i64 l.length), (19, .int .i64 k)]) (fun _ => F) (fun _ => LgH a ix tm vt bf l Fr) (fun k => l.length - k) 0 (Nat.zero_le _) ⟨rfl, rfl, rfl, rfl, rfl, trivial⟩ rfl rfl ?_
  intro k hk IH
  refine r_seq (r_region rfl (o_vl rfl rfl (v_lss rfl rfl) (o_end (r_seq (r_if rfl (fun h => ?_) (fun h => ?_))))))
  · have hil : k < l.length := by omega
    have he := hl l[k] (List.getElem_mem _)
    have hd := hdl l[k] (List.getElem_mem _)
    have hg : ∀ j c, l[k].cells[j]? = some c → (enV l)[k * 4 + j]? = some c := fun j c hj => by
      have hj4 : j < 4 := by
        rcases Nat.lt_or_ge j 4 with h | h
        · exact h
        · rw [List.getElem?_eq_none (by simp [En.cells]; exact h)] at hj; cases hj
      rw [enV_get l _ hil j hj4]; exact hj
    have hs : lgVotersAt vt (l.take (k + 1)) i = if l[k].ix ≤ i ∧ l[k].kd = 1 then maskB l[k].data else lgVotersAt vt (l.take k) i := by
      unfold lgVotersAt
      rw [List.take_succ_eq_append_getElem hil, List.foldl_append]
      rfl
    have IH' := IH (k + 1) hil (by omega)
    rw [hs] at IH'
    generalize l[k] = e at *
    cases bf with
    | nil =>
      have : l.length = 0 := hok
      omega
    | «at» b c =>
      refine r_skip (r_seq (r_block (r_seq (r_region rfl (o_vl rfl rfl (v_indexN (sz := 4) rfl rfl rfl rfl hil) (o_vl rfl rfl (v_loadAgg (sz := 4) (cs := e.cells) rfl rfl rfl rfl (fun j c hc => cell_at (j := 1) rfl (by rw [Nat.zero_add]; exact hg j c hc))) (o_act rfl rfl rfl rfl (a_alloc rfl) ?_)))))))
      rintro v' H' ⟨x, rfl, rfl⟩
      refine o_act0 rfl rfl rfl (a_store (sz := 4) 0 rfl rfl rfl (by obtain ⟨ad, cd, hd, _⟩ := Sl.shape he.dv; simp [Value.cells, En.cells, hd, oneCellB]) rfl rfl (Nat.le_of_ble_eq_true rfl)) ?_
      refine j_heap (H' := .mem x e.cells 4 :: LgH a ix tm vt (.at b c) l Fr) rfl ?_
      refine o_end (r_seq (r_region rfl (o_vl rfl rfl (v_field (k := 0) rfl rfl rfl) (o_vl rfl rfl (v_load (v := .int .u64 e.ix) rfl rfl (cell_at (j := 0) rfl rfl)) (o_vl rfl rfl (v_move rfl) (o_vl rfl rfl (v_leq rfl rfl) (o_vl rfl rfl (v_move rfl) ?_)))))))
      refine j_prop 27 rfl (fun h1 => ?_) (fun h1 => ?_)
      · refine o_vl rfl rfl (v_field (k := 2) rfl rfl rfl) (o_vl rfl rfl (v_load (v := .int .u8 e.kd) rfl rfl (cell_at (j := 0) rfl rfl)) (o_vl rfl rfl (v_eql rfl rfl) (o_vl rfl rfl (v_pick1 rfl rfl) (o_end (r_if rfl (fun h2 => ?_) (fun h2 => ?_))))))
        · rw [if_pos ⟨by omega, by omega⟩] at IH'
          refine r_region rfl (o_vl rfl rfl (v_field (k := 3) rfl rfl rfl) (o_vl rfl rfl (v_load (v := e.dv) rfl rfl (cell_at (j := 0) rfl rfl)) (o_call rfl rfl rfl rfl (c_call callable55 rfl) (lg_Mask _ _ e.dv e.data _ (he.dv.frz (Fz.le_refl _)) (by omega)) ?_)))
          rintro v' F H' ⟨rfl, rfl, rfl⟩ _
          refine j_drop (List.sublist_cons_self _ _) ?_
          refine o_vl rfl rfl (v_assign rfl) (o_end (r_inBlock (r_region rfl (o_vl rfl rfl (v_add rfl rfl (wrap_i64 (by omega) (by omega))) (o_vl rfl rfl (v_move rfl) (o_end ?_))))))
          refine j_keep ?_ IH'
          exact ⟨rfl, rfl, rfl, rfl, rfl, trivial⟩
        · rw [if_neg (by omega)] at IH'
          refine j_drop (List.sublist_cons_self _ _) ?_
          refine r_skip (r_inBlock (r_region rfl (o_vl rfl rfl (v_add rfl rfl (wrap_i64 (by omega) (by omega))) (o_vl rfl rfl (v_move rfl) (o_end ?_)))))
          refine j_keep ?_ IH'
          exact ⟨rfl, rfl, rfl, rfl, rfl, trivial⟩
      · rw [if_neg (by omega)] at IH'
        refine o_sk rfl rfl (o_sk rfl rfl (o_sk rfl rfl (o_vl rfl rfl (v_pick0 rfl rfl) (o_end (r_false rfl ?_)))))
        refine j_drop (List.sublist_cons_self _ _) ?_
        refine r_skip (r_inBlock (r_region rfl (o_vl rfl rfl (v_add rfl rfl (wrap_i64 (by omega) (by omega))) (o_vl rfl rfl (v_move rfl) (o_end ?_)))))
        refine j_keep ?_ IH'
        exact ⟨rfl, rfl, rfl, rfl, rfl, trivial⟩
  · obtain rfl : k = l.length := by omega
    rw [List.take_length]
    refine r_exit rfl (r_seq (r_region rfl (o_vl rfl rfl (v_move rfl) (o_vl rfl rfl (v_assign rfl) (o_end ?_)))))
    exact r_ret1 Tryz.func60 rfl rfl ⟨⟨rfl, rfl, rfl⟩, Fz.le_refl _⟩
def lgVoters (ix vt : Nat) (l : List En) : Nat × Nat := l.foldl (fun p e => if e.kd = 1 then (maskB e.data, e.ix) else p) (vt, ix)
theorem lg_Voters (O : World) (F : Fz) (a ix tm vt : Nat) (bf : Bf) (l : List En) (Fr : List Ent) (hn : l.length ≤ 1000000) (hok : bf.ok l.length) (hl : ∀ e ∈ l, e.ok F) (hdl : ∀ e ∈ l, e.data.length ≤ 1000000) :
    Does Tryz.prog O 32 #[ptrV a] F (LgH a ix tm vt bf l Fr) (fun r F' H' => r = .tuple #[.int .u64 (lgVoters ix vt l).1, .int .u64 (lgVoters ix vt l).2] ∧ F' = F ∧ H' = LgH a ix tm vt bf l Fr) := by
  refine does_of_run (args := [_]) Tryz.func32 rfl rfl ?_
  refine r_seq (r_region rfl (o_vl rfl rfl (v_assign rfl) (o_vl rfl rfl (v_assign rfl) (o_end (r_seq (r_seq (r_region rfl (o_vl rfl rfl (v_move rfl) (o_vl rfl rfl (v_peqnil rfl rfl rfl) (o_end (r_false rfl (r_skip (r_seq ?_)))))))))))))
  refine r_seq (r_region rfl (o_vl rfl rfl (v_move rfl) (o_vl rfl rfl (v_nilCheck rfl) (o_vl rfl rfl (v_field (k := 3) rfl rfl rfl) (o_vl rfl rfl (v_load rfl rfl (cell_at (j := 0) rfl rfl)) (o_vl rfl rfl (v_len rfl rfl) (o_vl rfl rfl (v_sub rfl rfl (wrap_i64 (by omega) (by omega))) (o_vl rfl rfl (v_assign rfl) (o_end (r_block ?_))))))))))
  refine r_loop (fun k : Nat => k ≤ l.length ∧ lgVoters ix vt l = lgVoters ix vt (l.take k)) (fun k => [(0, ptrV a), (4, .int .i64 ((k : Int) - 1))]) (fun _ => F) (fun _ => LgH a ix tm vt bf l Fr) (fun k => k) l.length ⟨Nat.le_refl _, by rw [List.take_length]⟩ ⟨rfl, rfl, trivial⟩ rfl rfl ?_
  rintro k ⟨hk, hkv⟩ IH
  refine r_seq (r_seq (r_region rfl (o_vl rfl rfl (v_move rfl) (o_vl rfl rfl (v_geq rfl rfl) (o_end (r_if rfl (fun h => ?_) (fun h => ?_)))))))
  · obtain ⟨k, rfl⟩ : ∃ m, k = m + 1 := ⟨k - 1, by omega⟩
    have hil : k < l.length := by omega
    have e8 : ((k + 1 : Nat) : Int) - 1 = k := by omega
    rw [e8]
    have he := hl l[k] (List.getElem_mem _)
    have hd := hdl l[k] (List.getElem_mem _)
    have hg : ∀ j, j < 4 → (enV l)[k * 4 + j]? = l[k].cells[j]? := fun j hj4 => enV_get l _ hil j hj4
    have hs : lgVoters ix vt (l.take (k + 1)) = if l[k].kd = 1 then (maskB l[k].data, l[k].ix) else lgVoters ix vt (l.take k) := by
      unfold lgVoters
      rw [List.take_succ_eq_append_getElem hil, List.foldl_append]
      rfl
    rw [hs] at hkv
    generalize l[k] = e at *
    cases bf with
    | nil =>
      have : l.length = 0 := hok
      omega
    | «at» b c =>
      refine r_skip (r_seq (r_block (r_seq (r_region rfl (o_vl rfl rfl (v_move rfl) (o_vl rfl rfl (v_nilCheck rfl) (o_vl rfl rfl (v_field (k := 3) rfl rfl rfl) (o_vl rfl rfl (v_load rfl rfl (cell_at (j := 0) rfl rfl)) (o_vl rfl rfl (v_move rfl) (o_vl rfl rfl (v_indexN (sz := 4) rfl rfl rfl rfl hil) (o_vl rfl rfl (v_field (k := 2) rfl rfl rfl) (o_vl rfl rfl (v_load (v := .int .u8 e.kd) rfl rfl (cell_at (j := 1) rfl (by rw [Nat.zero_add]; exact hg 2 (by decide)))) (o_vl rfl rfl (v_eql rfl rfl) ?_)))))))))))))
      refine o_end (r_if rfl (fun h2 => ?_) (fun h2 => ?_))
      · rw [if_pos (by omega)] at hkv
        refine r_seq (d_region 1000000 rfl ([LgE a ix tm vt (.at b c) l.length, .mem b (enV l) (c * 4)]) ?_)
        refine d_tk (i := 0) rfl rfl (by intro q hq; simp only [List.mem_cons, List.not_mem_nil, or_false] at hq; rcases hq with rfl | rfl <;> simp [LgH, Bf.ents]) (v_move rfl) (d_tk (i := 1) rfl rfl (by intro q hq; simp only [List.mem_cons, List.not_mem_nil, or_false] at hq; rcases hq with rfl | rfl <;> simp [LgH, Bf.ents]) (v_nilCheck rfl) (d_tk (i := 2) rfl rfl (by intro q hq; simp only [List.mem_cons, List.not_mem_nil, or_false] at hq; rcases hq with rfl | rfl <;> simp [LgH, Bf.ents]) (v_field (k := 3) rfl rfl rfl) (d_tk (i := 3) rfl rfl (by intro q hq; simp only [List.mem_cons, List.not_mem_nil, or_false] at hq; rcases hq with rfl | rfl <;> simp [LgH, Bf.ents]) (v_load rfl rfl (cell_at (j := 0) rfl rfl)) (d_tk (i := 4) rfl rfl (by intro q hq; simp only [List.mem_cons, List.not_mem_nil, or_false] at hq; rcases hq with rfl | rfl <;> simp [LgH, Bf.ents]) (v_move rfl) (d_tk (i := 5) rfl rfl (by intro q hq; simp only [List.mem_cons, List.not_mem_nil, or_false] at hq; rcases hq with rfl | rfl <;> simp [LgH, Bf.ents]) (v_indexN (sz := 4) rfl rfl rfl rfl hil) (d_tk (i := 6) rfl rfl (by intro q hq; simp only [List.mem_cons, List.not_mem_nil, or_false] at hq; rcases hq with rfl | rfl <;> simp [LgH, Bf.ents]) (v_field (k := 3) rfl rfl rfl) (d_tk (i := 7) rfl rfl (by intro q hq; simp only [List.mem_cons, List.not_mem_nil, or_false] at hq; rcases hq with rfl | rfl <;> simp [LgH, Bf.ents]) (v_load (v := e.dv) rfl rfl (cell_at (j := 1) rfl (by rw [Nat.zero_add]; exact hg 3 (by decide)))) (d_tk (i := 9) rfl rfl (by intro q hq; simp only [List.mem_cons, List.not_mem_nil, or_false] at hq; rcases hq with rfl | rfl <;> simp [LgH, Bf.ents]) (v_move rfl) (d_tk (i := 10) rfl rfl (by intro q hq; simp only [List.mem_cons, List.not_mem_nil, or_false] at hq; rcases hq with rfl | rfl <;> simp [LgH, Bf.ents]) (v_nilCheck rfl) (d_tk (i := 11) rfl rfl (by intro q hq; simp only [List.mem_cons, List.not_mem_nil, or_false] at hq; rcases hq with rfl | rfl <;> simp [LgH, Bf.ents]) (v_field (k := 3) rfl rfl rfl) (d_tk (i := 12) rfl rfl (by intro q hq; simp only [List.mem_cons, List.not_mem_nil, or_false] at hq; rcases hq with rfl | rfl <;> simp [LgH, Bf.ents]) (v_load rfl rfl (cell_at (j := 0) rfl rfl)) (d_tk (i := 13) rfl rfl (by intro q hq; simp only [List.mem_cons, List.not_mem_nil, or_false] at hq; rcases hq with rfl | rfl <;> simp [LgH, Bf.ents]) (v_move rfl) (d_tk (i := 14) rfl rfl (by intro q hq; simp only [List.mem_cons, List.not_mem_nil, or_false] at hq; rcases hq with rfl | rfl <;> simp [LgH, Bf.ents]) (v_indexN (sz := 4) rfl rfl rfl rfl hil) ?_)))))))))))))
        refine d_tk (i := 15) rfl rfl (by intro q hq; simp only [List.mem_cons, List.not_mem_nil, or_false] at hq; rcases hq with rfl | rfl <;> simp [LgH, Bf.ents]) (v_field (k := 0) rfl rfl rfl) (d_tk (i := 16) rfl rfl (by intro q hq; simp only [List.mem_cons, List.not_mem_nil, or_false] at hq; rcases hq with rfl | rfl <;> simp [LgH, Bf.ents]) (v_load (v := .int .u64 e.ix) rfl rfl (cell_at (j := 1) rfl (by rw [Nat.zero_add]; exact hg 0 (by decide)))) (d_one (i := 8) (by decide +kernel) (d1_call rfl rfl rfl rfl (c_call callable55 rfl) (lg_Mask _ _ e.dv e.data _ (he.dv.frz (Fz.le_refl _)) (by omega)) ?_)))
        rintro v' F H' ⟨rfl, rfl, rfl⟩ _
        refine ⟨fun w hw => held_of hw (by first | exact Fz.le_refl _ | assumption) (by intro q hq; simp only [List.mem_cons, List.not_mem_nil, or_false] at hq; rcases hq with rfl | rfl <;> simp [LgH, Bf.ents]), ?_⟩
        refine d_tk (i := 17) rfl rfl (by intro q hq; simp only [List.mem_cons, List.not_mem_nil, or_false] at hq; rcases hq with rfl | rfl <;> simp [LgH, Bf.ents]) (v_assign rfl) (d_tk (i := 18) rfl rfl (by intro q hq; simp only [List.mem_cons, List.not_mem_nil, or_false] at hq; rcases hq with rfl | rfl <;> simp [LgH, Bf.ents]) (v_assign rfl) (d_end (by decide +kernel) ?_))
        rw [hkv]
        exact r_ret2 Tryz.func32 rfl rfl rfl ⟨⟨rfl, rfl, rfl⟩, Fz.le_refl _⟩
      · rw [if_neg (by omega)] at hkv
        refine r_skip (r_inBlock (r_region rfl (o_vl rfl rfl (v_move rfl) (o_vl rfl rfl (v_sub rfl rfl (wrap_i64 (by omega) (by omega))) (o_vl rfl rfl (v_assign rfl) (o_end ?_))))))
        refine j_keep ?_ (IH k ⟨by omega, hkv⟩ (by omega))
        exact ⟨rfl, rfl, trivial⟩
  · obtain rfl : k = 0 := by omega
    refine r_exit rfl (r_seq (d_region 1000000 rfl ([LgE a ix tm vt bf l.length]) ?_))
    refine d_tk (i := 0) rfl rfl (by simp) (v_move rfl) (d_tk (i := 1) rfl rfl (by simp) (v_nilCheck rfl) (d_tk (i := 2) rfl rfl (by simp) (v_field (k := 2) rfl rfl rfl) (d_tk (i := 3) rfl rfl (by simp) (v_load rfl rfl (cell_at (j := 0) rfl rfl)) (d_tk (i := 4) rfl rfl (by simp) (v_move rfl) (d_tk (i := 5) rfl rfl (by simp) (v_nilCheck rfl) (d_tk (i := 6) rfl rfl (by simp) (v_field (k := 0) rfl rfl rfl) (d_tk (i := 7) rfl rfl (by simp) (v_load rfl rfl (cell_at (j := 0) rfl rfl)) (d_tk (i := 8) rfl rfl (by simp) (v_assign rfl) (d_tk (i := 9) rfl rfl (by simp) (v_assign rfl) (d_end (by decide +kernel) ?_))))))))))
    rw [hkv, List.take_zero]
    exact r_ret2 Tryz.func32 rfl rfl rfl ⟨⟨rfl, rfl, rfl⟩, Fz.le_refl _⟩
end Go.SX
namespace Go.SX
open Go Go.Proofs
set_option maxRecDepth 4000
structure En.like (e e' : En) : Prop where
  ix : e.ix = e'.ix
  tm : e.tm = e'.tm
  kd : e.kd = e'.kd
  data : e.data = e'.data
structure Alike (l m : List En) : Prop where
  len : l.length = m.length
  is : ∀ (i : Nat) (h : i < l.length) (h' : i < m.length), l[i].like m[i]
theorem Alike.take {l m : List En} (h : Alike l m) (k : Nat) : Alike (l.take k) (m.take k) := by
  refine ⟨by simp [h.len], fun i h1 h2 => ?_⟩
  simp only [List.length_take] at h1 h2
  rw [List.getElem_take, List.getElem_take]
  exact h.is i (by omega) (by omega)
theorem Alike.map {α : Type} {l m : List En} (h : Alike l m) (f : En → α) (hf : ∀ e e' : En, e.like e' → f e = f e') : l.map f = m.map f := by
  apply List.ext_getElem
  · simp [h.len]
  · intro i h1 h2
    simp only [List.getElem_map]
    exact hf _ _ (h.is i (by simpa using h1) (by simpa using h2))
end Go.SX
namespace Go.SX
open Go Go.Proofs
set_option maxRecDepth 4000
theorem enV_drop : ∀ (l : List En) (k : Nat), (enV l).drop (k * 4) = enV (l.drop k)
  | l, 0 => by simp
  | [], k + 1 => by simp [enV]
  | e :: r, k + 1 => by
    have ih := enV_drop r k
    have h4 : e.cells.length = 4 := rfl
    show (e.cells ++ enV r).drop ((k + 1) * 4) = _
    rw [show (k + 1) * 4 = e.cells.length + k * 4 by rw [h4]; omega, ← List.drop_drop, List.drop_left, ih]
    rfl
end Go.SX
namespace Go.SX
open Go Go.Proofs
set_option maxRecDepth 4000
theorem Alike.refl (l : List En) : Alike l l := ⟨rfl, fun _ _ _ => ⟨rfl, rfl, rfl, rfl⟩⟩
theorem EnsOk.data {F : Fz} {at0 : Nat} {terms kinds : List UInt8} {es : List En} (h : EnsOk F at0 terms kinds es) : ∀ e ∈ es, e.data.length ≤ 1000000 := fun e he => by
  obtain ⟨i, hi, rfl⟩ := List.getElem_of_mem he
  obtain ⟨_, _, _, _, hd⟩ := h.is i hi
  rw [hd]
  simp
structure PG where
  i : Nat
  bf : Bf
  bl : Bf
  l : List En
  m : List En
  F : Fz
structure PG.ok (F : Fz) (ix tm : Nat) (n0 : Nat) (n : Nat) (g : PG) : Prop where
  le : F.le g.F
  i : g.i ≤ n
  okf : g.bf.ok g.l.length
  okl : g.bl.ok g.m.length
  len : g.l.length = n0 + g.i
  like : Alike g.l g.m
  el : ∀ e ∈ g.l, e.ok g.F
  em : ∀ e ∈ g.m, e.ok g.F
  data : ∀ e ∈ g.l, e.data.length ≤ 1000000
  tb : lgLastTerm ix tm g.l ≤ 40 + g.i
end Go.SX
namespace Go.SX
open Go Go.Proofs
set_option maxRecDepth 4000
theorem enV_one {F : Fz} {l : List En} (h : ∀ e ∈ l, e.ok F) : (enV l).all oneCellB = true := by
  rw [List.all_eq_true]
  intro c hc
  obtain ⟨e, he, hce⟩ := List.mem_flatMap.1 hc
  exact List.all_eq_true.1 (h e he).one c hce
theorem sl_CloneE (O : World) (F : Fz) (v : Value) (l : List En) (Fr : List Ent) (hv : Sl F Fr 4 v l.length (enV l)) (hok : ∀ e ∈ l, e.ok F) (hl : l.length ≤ 1000000) :
    Does Tryz.prog O 70 #[v] F Fr (fun r F' H' => F' = F ∧ ∃ bf : Bf, bf.ok l.length ∧ r = bf.val l.length ∧ H' = bf.ents 4 (enV l) ++ Fr) := by
  obtain ⟨a0, cap, rfl, hcap⟩ := Sl.shape hv
  refine does_of_run (args := [_]) Tryz.func70 rfl rfl ?_
  cases a0 with
  | none =>
    have hl0 : l = [] := by
      cases l with
      | nil => rfl
      | cons x r =>
        obtain ⟨a1, c1, h1, _, _, h4, h5⟩ := hv
        obtain ⟨b, off, hb, _⟩ := h5 0 (.int .u64 x.ix) rfl
        simp only [Value.slice.injEq] at h1
        rw [hb] at h1
        cases h1.1
    subst hl0
    refine r_seq (r_region rfl (o_vl rfl rfl (v_assign rfl) (o_end (r_seq (r_seq (r_region rfl (o_vl rfl rfl (v_move rfl) (o_vl rfl rfl (v_slnil rfl rfl rfl) (o_end (r_true rfl (r_seq (r_region rfl (o_vl rfl rfl (v_assign rfl) ?_)))))))))))))
    refine o_end ?_
    exact r_ret1 Tryz.func70 rfl rfl ⟨⟨rfl, .nil, rfl, rfl, rfl⟩, Fz.le_refl _⟩
  | some x =>
    refine r_seq (r_region rfl (o_vl rfl rfl (v_assign rfl) (o_end (r_seq (r_seq (r_region rfl (o_vl rfl rfl (v_move rfl) (o_vl rfl rfl (v_slnil rfl rfl rfl) (o_end (r_false rfl (r_skip (r_seq (r_region rfl ?_)))))))))))))
    refine o_act rfl rfl rfl rfl (a_buildS0 rfl rfl) ?_
    rintro v' H' ⟨b, rfl, rfl⟩
    refine o_vl rfl rfl (v_move rfl) (o_act rfl rfl rfl rfl (a_append (bf := .at b 0) (n := 0) (sz := 4) (bytes := 48) (xs := []) ⟨⟨_, _, _, rfl, rfl, rfl, rfl, rfl, rfl⟩, by decide⟩ rfl (Nat.le_refl _) rfl rfl rfl (hv.mono (Fz.le_refl _) (by simp)) (enV_one hok) (by unfold maxLen; omega) (by omega)) ?_)
    rintro v' H' ⟨bf, rfl, hok, rfl⟩
    rw [Nat.zero_add] at hok ⊢
    refine o_vl rfl rfl (v_assign rfl) (o_end ?_)
    exact r_ret1 Tryz.func70 rfl rfl ⟨⟨rfl, bf, hok, rfl, rfl⟩, Fz.le_refl _⟩
theorem lg_Compact (O : World) (F : Fz) (a ix tm vt : Nat) (bf : Bf) (l : List En) (i : Nat) (Fr : List Ent) (hb : ix + l.length < 18446744073709551616) (hok : bf.ok l.length) (hi : i < 18446744073709551616) (hle : ∀ e ∈ l, e.ok F) (hn : l.length ≤ 1000000)
    (hdl : ∀ e ∈ l, e.data.length ≤ 1000000) (h1 : ix ≤ i) (h2 : i ≤ ix + l.length) :
    Does Tryz.prog O 62 #[ptrV a, .int .u64 i] F (LgH a ix tm vt bf l Fr)
      (fun r F' H' => r = .int .i64 0 ∧ F' = F ∧ ∃ bf' : Bf, bf'.ok (l.drop (i - ix)).length ∧ H' = LgH a i (lgTerm ix tm l i).1 (lgVotersAt vt l i) bf' (l.drop (i - ix)) Fr) := by
  have hT : (lgTerm ix tm l i).2 = true := by
    unfold lgTerm
    rw [if_neg (by omega)]
    split <;> rfl
  refine does_of_run (args := [_, _]) Tryz.func62 rfl rfl ?_
  refine r_seq (r_region rfl (o_vl rfl rfl (v_assign rfl) (o_end (r_seq (r_region rfl (o_vl rfl rfl (v_move rfl) (o_vl rfl rfl (v_move rfl) (o_call rfl rfl rfl rfl (c_call callable31 rfl) (lg_Term _ _ a ix tm vt bf l i _ hb hok hi) ?_))))))))
  rintro v' F H' ⟨rfl, rfl, rfl⟩ _
  rw [hT]
  refine o_vl rfl rfl (v_move rfl) (o_vl rfl rfl (v_extract rfl rfl) (o_vl rfl rfl (v_extract rfl rfl) (o_vl rfl rfl (v_assign rfl) (o_vl rfl rfl (v_assign rfl) (o_end (r_seq (r_seq (r_region rfl (o_vl rfl rfl (v_move rfl) (o_vl rfl rfl (v_not rfl) (o_end (r_false rfl (r_skip ?_)))))))))))))
  refine r_seq (r_region rfl (o_vl rfl rfl (v_move rfl) (o_vl rfl rfl (v_move rfl) (o_call rfl rfl rfl rfl (c_call callable60 rfl) (lg_VotersAt _ _ a ix tm vt bf l i _ hn hok hle hdl) ?_))))
  rintro v' F H' ⟨rfl, rfl, rfl⟩ _
  generalize (lgTerm ix tm l i).1 = T
  generalize lgVotersAt vt l i = V
  have hsl : ∀ H, bf.ents 4 (enV l) ⊆ H → Sl F H 4 (Go.sliced bf.addr (i - ix) l.length bf.cp 4) (l.drop (i - ix)).length (enV (l.drop (i - ix))) := fun H hH => by
    have := Sl.sliced (l := i - ix) (h := l.length) (Bf.reads (bf := bf) (sz := 4) (n := l.length) (F := F) (H := H) hok (by rw [enV_length]) hH) (by omega) (Nat.le_refl _)
    rw [enV_drop, List.take_of_length_le (by rw [enV_length, List.length_drop]; omega)] at this
    rw [List.length_drop]
    exact this
  refine j_heap (H' := LgE a ix tm vt bf l.length :: (bf.ents 4 (enV l) ++ Fr)) rfl ?_
  refine o_vl rfl rfl (v_assign rfl) (o_end (r_seq (d_region 15 rfl ([LgE a ix tm vt bf l.length]) ?_)))
  refine d_tk (i := 0) rfl rfl (by simp) (v_move rfl) (d_tk (i := 1) rfl rfl (by simp) (v_move rfl) (d_tk (i := 2) rfl rfl (by simp) (v_nilCheck rfl) (d_tk (i := 3) rfl rfl (by simp) (v_field (k := 3) rfl rfl rfl) (d_tk (i := 4) rfl rfl (by simp) (v_load rfl rfl (cell_at (j := 0) rfl rfl)) (d_tk (i := 5) rfl rfl (by simp) (v_move rfl) (d_tk (i := 6) rfl rfl (by simp) (v_move rfl) (d_tk (i := 7) rfl rfl (by simp) (v_nilCheck rfl) (d_tk (i := 8) rfl rfl (by simp) (v_field (k := 0) rfl rfl rfl) (d_tk (i := 9) rfl rfl (by simp) (v_load rfl rfl (cell_at (j := 0) rfl rfl)) (d_tk (i := 10) rfl rfl (by simp) (v_sub rfl rfl (r := ((i - ix : Nat) : Int)) ((wrap_u64 (by omega) (by omega)).trans (by omega))) (d_tk (i := 11) rfl rfl (by simp) (v_sliceL (sz := 4) rfl rfl rfl rfl rfl (by omega)) (d_one (i := 12) (by decide +kernel) (d1_call rfl rfl rfl rfl (c_call callable70 rfl) (sl_CloneE _ _ _ (l.drop (i - ix)) _ (hsl _ (by intro q hq; exact List.mem_cons_of_mem _ (List.mem_append_left _ hq))) (fun e he => hle e (List.mem_of_mem_drop he)) (by simp; omega)) ?_)))))))))))))
  rintro v' F H' ⟨rfl, bf2, hok2, rfl, rfl⟩ _
  refine ⟨fun w hw => held_of hw (by first | exact Fz.le_refl _ | assumption) (by simp), ?_⟩
  refine j_sel (H' := LgE a ix tm vt bf l.length :: (bf2.ents 4 (enV (l.drop (i - ix))) ++ (Fr))) [bf2.ents 4 (enV (l.drop (i - ix))), [LgE a ix tm vt bf l.length], bf.ents 4 (enV l), Fr] [1, 0, 3] rfl rfl rfl ?_
  refine d_tk (i := 13) rfl rfl (by simp) (v_nilCheck rfl) (d_tk (i := 14) rfl rfl (by simp) (v_field (k := 3) rfl rfl rfl) (d_one (i := 15) (by decide +kernel) ?_))
  refine d1_last 1000000 ([]) rfl rfl rfl (a_store1 0 rfl rfl rfl rfl rfl (Nat.le_of_ble_eq_true rfl)) ?_
  refine d_end (by decide +kernel) (r_seq (r_region rfl (o_vl rfl rfl (v_move rfl) (o_vl rfl rfl (v_move rfl) (o_vl rfl rfl (v_move rfl) (o_vl rfl rfl (v_move rfl) (o_vl rfl rfl (v_move rfl) (o_vl rfl rfl (v_move rfl) (o_vl rfl rfl (v_nilCheck rfl) (o_vl rfl rfl (v_field (k := 0) rfl rfl rfl) (o_act0 rfl rfl rfl (a_store1 0 rfl rfl rfl rfl rfl (Nat.le_of_ble_eq_true rfl)) ?_)))))))))))
  refine o_vl rfl rfl (v_nilCheck rfl) (o_vl rfl rfl (v_field (k := 1) rfl rfl rfl) (o_act0 rfl rfl rfl (a_store1 0 rfl rfl rfl rfl rfl (Nat.le_of_ble_eq_true rfl)) ?_))
  refine o_vl rfl rfl (v_nilCheck rfl) (o_vl rfl rfl (v_field (k := 2) rfl rfl rfl) (o_act0 rfl rfl rfl (a_store1 0 rfl rfl rfl rfl rfl (Nat.le_of_ble_eq_true rfl)) ?_))
  refine j_heap (H' := LgH a i T V bf2 (l.drop (i - ix)) Fr) rfl ?_
  refine o_end (r_seq (r_region rfl (o_vl rfl rfl (v_assign rfl) (o_end ?_))))
  exact r_ret1 Tryz.func62 rfl rfl ⟨⟨rfl, rfl, bf2, hok2, rfl⟩, Fz.le_refl _⟩
theorem lg_Reset (O : World) (F : Fz) (a ix tm vt : Nat) (bf : Bf) (l : List En) (Fr : List Ent) (ix' tm' vt' : Nat) (dv : Value) :
    Does Tryz.prog O 108 #[ptrV a, .agg #[.int .u64 ix', .int .u64 tm', .int .u64 vt', dv]] F (LgH a ix tm vt bf l Fr) (fun r F' H' => F' = F ∧ H' = LgH a ix' tm' vt' .nil [] Fr) := by
  refine does_of_run (args := [_, _]) Tryz.func108 rfl rfl ?_
  refine r_seq (r_region rfl (o_act rfl rfl rfl rfl (a_box rfl) ?_))
  rintro v' H' ⟨x, rfl, rfl⟩
  refine o_end (r_seq (r_region rfl (o_vl rfl rfl (v_move rfl) (o_vl rfl rfl (v_pneqnil rfl rfl rfl) (o_end (r_true rfl ?_))))))
  refine j_heap (H' := Ent.mem x [.int .u64 ix', .int .u64 tm', .int .u64 vt', dv] 4 :: LgE a ix tm vt bf l.length :: (bf.ents 4 (enV l) ++ Fr)) rfl ?_
  refine r_region rfl (o_vl rfl rfl (v_move rfl) (o_vl rfl rfl (v_field (k := 0) rfl rfl rfl) (o_vl rfl rfl (v_load rfl rfl (cell_at (j := 0) rfl rfl)) (o_vl rfl rfl (v_field (k := 1) rfl rfl rfl) (o_vl rfl rfl (v_load rfl rfl (cell_at (j := 0) rfl rfl)) (o_vl rfl rfl (v_field (k := 2) rfl rfl rfl) (o_vl rfl rfl (v_load rfl rfl (cell_at (j := 0) rfl rfl)) (o_vl rfl rfl (v_build rfl rfl) (o_vl rfl rfl (v_nilCheck rfl) (o_act0 rfl rfl rfl (a_store (sz := 4) 1 rfl rfl rfl rfl rfl rfl (Nat.le_of_ble_eq_true rfl)) ?_))))))))))
  refine j_heap (H' := Ent.mem x [.int .u64 ix', .int .u64 tm', .int .u64 vt', dv] 4 :: LgE a ix' tm' vt' .nil 0 :: (bf.ents 4 (enV l) ++ Fr)) rfl ?_
  refine j_sel (H' := LgE a ix' tm' vt' .nil 0 :: (Fr)) [[Ent.mem x [.int .u64 ix', .int .u64 tm', .int .u64 vt', dv] 4], [LgE a ix' tm' vt' .nil 0], bf.ents 4 (enV l), Fr] [1, 3] rfl rfl rfl ?_
  refine o_end ?_
  exact r_fall0 Tryz.func108 rfl ⟨⟨rfl, rfl⟩, Fz.le_refl _⟩
end Go.SX
