/-
  Contracts of package wal: records; what is to be kept; an image.
-/
import Derived.Test.YtmpbgnffdpppbaaOct3
import Derived.Test.YtmpbgnffdpppbaaSxApp
import Derived.Test.YtmpbgnffdpppbaaSxNew
import Derived.Test.YtmpbgnffdpppbaaSxPerm
import Derived.Test.YtmpbgnffdpppbaaDisk
namespace Go.SX
open Go Go.Proofs
set_option maxRecDepth 4000
set_option linter.unusedSimpArgs false
set_option linter.unusedVariables false

/-- An entry: its numbers, the value of its bytes, and they. -/
structure En where
  ix : Nat
  tm : Nat
  kd : Nat
  dv : Value
  data : List UInt8
def En.cells (e : En) : List Value := [.int .u64 e.ix, .int .u64 e.tm, .int .u8 e.kd, e.dv]
abbrev enV (l : List En) : List Value := l.flatMap En.cells
structure En.ok (F : Fz) (e : En) : Prop where
  ix : e.ix < 18446744073709551616
  tm : e.tm < 18446744073709551616
  kd : e.kd < 256
  dv : SlB F [] e.dv e.data
  len : e.data.length ≤ 1048576
theorem En.cl (e : En) : e.cells.length = 4 := rfl
theorem En.ok.frz {F F' : Fz} {e : En} (h : e.ok F) (hF : F.le F') : e.ok F' := ⟨h.ix, h.tm, h.kd, h.dv.frz hF, h.len⟩
theorem En.ok.one {F : Fz} {e : En} (h : e.ok F) : e.cells.all oneCellB = true := by
  obtain ⟨a, c, hd, _⟩ := Sl.shape h.dv
  simp [En.cells, hd, oneCellB]
theorem en_len (l : List En) : (enV l).length = l.length * 4 := vec_len (c := En.cells) En.cl l
theorem en_one {F : Fz} {l : List En} (h : ∀ e ∈ l, e.ok F) : (enV l).all oneCellB = true := vec_one (c := En.cells) l fun e he => (h e he).one
theorem sl_lit {F : Fz} {H : List Ent} {b : Nat} {e : En} (hm : Ent.mem b e.cells 4 ∈ H) : Sl F H 4 (.slice (some ⟨b, 0, none⟩) 1 1) 1 (enV [e]) :=
  ⟨_, 1, rfl, by simp [enV, En.cells], Nat.le_refl _, by simp, fun j c hj => ⟨b, 0, rfl, cell_own (cs := e.cells) (n := 4) hm (by simpa [enV] using hj)⟩⟩
theorem sl_cells {F : Fz} {H : List Ent} {v : Value} {l : List En} {i : Nat} (hv : Sl F H 4 v l.length (enV l)) (hi : i < l.length) :
    ∃ b off cap, v = .slice (some ⟨b, off, none⟩) l.length cap ∧ ∀ j c, l[i].cells[j]? = some c → Cell F H b (off + i * 4 + j) c := by
  obtain ⟨b, off, cap, hab, _, hcell⟩ := Sl.view hv (by omega)
  refine ⟨b, off, cap, hab, fun j c hj => ?_⟩
  have hj4 : j < 4 := by
    rcases Nat.lt_or_ge j 4 with h | h
    · exact h
    · rw [List.getElem?_eq_none (by simp [En.cells]; exact h)] at hj; cases hj
  have := hcell (i * 4 + j) c (by rw [vec_get (c := En.cells) En.cl l i hi j hj4]; exact hj)
  rw [← Nat.add_assoc] at this
  exact this

def recB (k : Nat) (p : List UInt8) : List UInt8 := sealB (leB 4 p.length ++ leB 1 k ++ p)
@[simp] theorem recB_length (k : Nat) (p : List UInt8) : (recB k p).length = p.length + 9 := by simp [recB]; omega
def hardP (t w : Nat) : List UInt8 := leB 8 t ++ leB 2 w
@[simp] theorem hardP_length (t w : Nat) : (hardP t w).length = 10 := by simp [hardP]
def entP (ix tm kd : Nat) (d : List UInt8) : List UInt8 := leB 8 ix ++ leB 8 tm ++ leB 1 kd ++ lenB d
@[simp] theorem entP_length (ix tm kd : Nat) (d : List UInt8) : (entP ix tm kd d).length = 21 + d.length := by simp [entP, lenB]; omega
def snapP (ix tm vt : Nat) (d : List UInt8) : List UInt8 := leB 8 ix ++ leB 8 tm ++ leB 8 vt ++ lenB d
@[simp] theorem snapP_length (ix tm vt : Nat) (d : List UInt8) : (snapP ix tm vt d).length = 28 + d.length := by simp [snapP, lenB]; omega
structure PE where
  ix : Nat
  tm : Nat
  kd : Nat
  data : List UInt8
def En.pure (e : En) : PE := ⟨e.ix, e.tm, e.kd, e.data⟩
def PE.bs (e : PE) : List UInt8 := recB 2 (entP e.ix e.tm e.kd e.data)
abbrev entsB (l : List PE) : List UInt8 := l.flatMap PE.bs
theorem entsB_le {F : Fz} : ∀ l : List En, (∀ e ∈ l, e.ok F) → (entsB (l.map En.pure)).length ≤ l.length * 1048700
  | [], _ => by simp
  | e :: r, h => by
    have h1 := entsB_le r fun x hx => h x (List.mem_cons_of_mem _ hx)
    have h2 := (h e (List.mem_cons_self ..)).len
    have h3 : (PE.bs e.pure).length = e.data.length + 30 := by simp [PE.bs, En.pure]; omega
    simp only [List.map_cons, entsB, List.flatMap_cons, List.length_append, List.length_cons] at h1 ⊢
    omega
/-- What is to be kept, as bytes. -/
def hdrB (h : Bool) (t : Nat) (vo : Int) : List UInt8 := if h = true then recB 1 (hardP t (vo + 1).toNat) else []
def saveB (h : Bool) (t : Nat) (vo : Int) (l : List PE) : List UInt8 := hdrB h t vo ++ entsB l
theorem hdrB_le (h : Bool) (t : Nat) (vo : Int) : (hdrB h t vo).length ≤ 19 := by unfold hdrB; split <;> simp
theorem cells_of {F : Fz} {H : List Ent} {j b N : Nat} {cs : List Value} (off : Nat) (sub : List Value) (hm : H[j]? = some (.mem b cs N)) (hs : (cs.drop off).take sub.length = sub) : ∀ i c, sub[i]? = some c → Cell F H b (off + i) c := fun i c hc => by
  refine cell_at hm ?_
  have hi : i < sub.length := by
    rcases Nat.lt_or_ge i sub.length with h | h
    · exact h
    · rw [List.getElem?_eq_none h] at hc; cases hc
  rw [← hs, List.getElem?_take, if_pos hi, List.getElem?_drop] at hc
  exact hc
theorem bf_reads {F : Fz} {bf : Bf} {l : List UInt8} {H : List Ent} (h : bf.ok l.length) (hH : bf.ents 1 (bytesV l) ⊆ H) : SlB F H (bf.val l.length) l := Bf.reads (bf := bf) (sz := 1) h (by simp) hH

theorem wal_frame (O : World) (F : Fz) (k : Nat) (v : Value) (p : List UInt8) (Fr : List Ent) (hk : k < 256) (hv : SlB F Fr v p) (hn : p.length ≤ 140737488350000) :
    Does Try.prog O 38 #[.int .u8 k, v] F Fr (fun r F' H' => F' = F ∧ ∃ bf : Bf, bf.ok (recB k p).length ∧ r = bf.val (recB k p).length ∧ H' = bf.ents 1 (bytesV (recB k p)) ++ Fr) := by
  obtain ⟨a0, cap, rfl, hcap⟩ := Sl.shape hv
  refine does_of_run (args := [_, _]) Try.func38 rfl rfl ?_
  refine r_seq ?_
  refine r_region rfl ?_
  refine o_val rfl rfl rfl rfl (v_assign rfl) ?_
  refine o_end ?_
  refine r_seq ?_
  refine r_region rfl ?_
  refine o_val rfl rfl rfl rfl (v_build rfl rfl) ?_
  refine o_act rfl rfl rfl rfl (a_box rfl) ?_
  rintro v' H' ⟨a, rfl, rfl⟩
  refine j_heap (H' := .mem a [Bf.nil.val ([] : List UInt8).length] 1 :: (Bf.nil.ents 1 (bytesV []) ++ Fr)) rfl ?_
  refine o_val rfl rfl rfl rfl (v_assign rfl) ?_
  refine o_end ?_
  refine r_seq ?_
  refine r_region rfl ?_
  refine o_val rfl rfl rfl rfl (v_move rfl) ?_
  refine o_val rfl rfl rfl rfl (v_move rfl) ?_
  refine o_val rfl rfl rfl rfl (v_len rfl rfl) ?_
  refine o_val rfl rfl rfl rfl (v_conv rfl rfl rfl (wrap_u64 (by omega) (by omega))) ?_
  refine o_call rfl rfl rfl rfl (c_call callable53 rfl) (oct_Num _ _ a .nil [] p.length 4 _ rfl (by omega) (by simp)) ?_
  rintro v' F H' ⟨rfl, rfl, b1, ok1, rfl⟩ _
  refine o_val rfl rfl rfl rfl (v_move rfl) ?_
  refine o_val rfl rfl rfl rfl (v_conv rfl rfl rfl (wrap_u64 (by omega) (by omega))) ?_
  refine o_call rfl rfl rfl rfl (c_call callable53 rfl) (oct_Num _ _ a b1 _ k 1 _ ok1 (by omega) (by simp)) ?_
  rintro v' F H' ⟨rfl, rfl, b2, ok2, rfl⟩ _
  refine o_end ?_
  refine r_seq ?_
  refine r_region rfl ?_
  refine o_val rfl rfl rfl rfl (v_move rfl) ?_
  refine o_call rfl rfl rfl rfl (c_call callable55 rfl) (oct_Done _ _ _ _ _) ?_
  rintro v' F H' ⟨rfl, rfl, rfl⟩ _
  simp only [List.nil_append] at ok2 ⊢
  refine o_val rfl rfl rfl rfl (v_move rfl) ?_
  refine o_act rfl rfl rfl rfl (a_appendP (bf := b2) (sz := 1) (bytes := 1) (m := p.length) [_] ⟨⟨_, _, _, rfl, rfl, rfl, rfl, rfl, rfl⟩, by decide⟩ rfl ok2 (by simp) rfl rfl (hv.mono (Fz.le_refl _) (by intro q hq; simp [hq])) (bytes_one p) (by unfold maxLen; simp; omega) (by simp; omega)) ?_
  rintro v' H' ⟨b3, rfl, ok3, rfl⟩
  rw [← bytesV_append, ← List.length_append] at *
  refine j_drop (H' := b3.ents 1 (bytesV (leB 4 p.length ++ leB 1 k ++ p)) ++ Fr) (List.sublist_cons_self _ _) ?_
  refine o_call rfl rfl rfl rfl (c_call callable54 rfl) (oct_Seal _ _ _ (leB 4 p.length ++ leB 1 k ++ p) _ (bf_reads ok3 (by intro q hq; exact List.mem_append_left _ hq)) (by simp; omega)) ?_
  rintro v' F H' ⟨rfl, b4, ok4, rfl, rfl⟩ _
  refine j_sel (H' := b4.ents 1 (bytesV (recB k p)) ++ (Fr)) [b4.ents 1 (bytesV (recB k p)), b3.ents 1 (bytesV (leB 4 p.length ++ leB 1 k ++ p)), Fr] [0, 2] rfl rfl rfl ?_
  refine o_val rfl rfl rfl rfl (v_assign rfl) ?_
  refine o_end ?_
  exact r_ret1 Try.func38 rfl rfl ⟨⟨rfl, b4, ok4, rfl, rfl⟩, Fz.le_refl _⟩

theorem wal_hard (O : World) (F : Fz) (t : Nat) (vo : Int) (Fr : List Ent) (h1 : -1 ≤ vo) (h2 : vo < 65535) :
    Does Try.prog O 39 #[.agg #[.int .u64 t, .int .i64 vo]] F Fr (fun r F' H' => F' = F ∧ ∃ bf : Bf, bf.ok 10 ∧ r = bf.val 10 ∧ H' = bf.ents 1 (bytesV (hardP t (vo + 1).toNat)) ++ Fr) := by
  obtain ⟨w, hw⟩ := Int.eq_ofNat_of_zero_le (show 0 ≤ vo + 1 by omega)
  refine does_of_run (args := [_]) Try.func39 rfl rfl ?_
  refine r_seq ?_
  refine r_region rfl ?_
  refine o_act rfl rfl rfl rfl (a_box rfl) ?_
  rintro v' H' ⟨s0, rfl, rfl⟩
  refine o_val rfl rfl rfl rfl (v_assign rfl) ?_
  refine o_end ?_
  refine r_seq ?_
  refine r_region rfl ?_
  refine o_val rfl rfl rfl rfl (v_build rfl rfl) ?_
  refine o_act rfl rfl rfl rfl (a_box rfl) ?_
  rintro v' H' ⟨a, rfl, rfl⟩
  refine j_heap (H' := .mem a [Bf.nil.val ([] : List UInt8).length] 1 :: (Bf.nil.ents 1 (bytesV []) ++ .mem s0 [.int .u64 t, .int .i64 vo] 2 :: Fr)) rfl ?_
  refine o_val rfl rfl rfl rfl (v_assign rfl) ?_
  refine o_end ?_
  refine r_seq ?_
  refine d_region 1000000 rfl ([.mem s0 [.int .u64 t, .int .i64 vo] 2]) ?_
  refine d_take (i := 0) rfl rfl rfl (by decide +kernel) (by decide +kernel) (by decide +kernel) (Fz.le_refl _) (by intro e he; simp only [List.mem_cons, List.not_mem_nil, or_false] at he; subst he; simp) rfl (v_move rfl) ?_
  refine d_take (i := 1) rfl rfl rfl (by decide +kernel) (by decide +kernel) (by decide +kernel) (Fz.le_refl _) (by intro e he; simp only [List.mem_cons, List.not_mem_nil, or_false] at he; subst he; simp) rfl (v_field (k := 0) rfl rfl rfl) ?_
  refine d_take (i := 2) rfl rfl rfl (by decide +kernel) (by decide +kernel) (by decide +kernel) (Fz.le_refl _) (by intro e he; simp only [List.mem_cons, List.not_mem_nil, or_false] at he; subst he; simp) rfl (v_load (v := .int .u64 t) rfl rfl (cell_at (j := 0) rfl rfl)) ?_
  refine d_take (i := 4) rfl rfl rfl (by decide +kernel) (by decide +kernel) (by decide +kernel) (Fz.le_refl _) (by intro e he; simp only [List.mem_cons, List.not_mem_nil, or_false] at he; subst he; simp) rfl (v_field (k := 1) rfl rfl rfl) ?_
  refine d_take (i := 5) rfl rfl rfl (by decide +kernel) (by decide +kernel) (by decide +kernel) (Fz.le_refl _) (by intro e he; simp only [List.mem_cons, List.not_mem_nil, or_false] at he; subst he; simp) rfl (v_load (v := .int .i64 vo) rfl rfl (cell_at (j := 0) rfl rfl)) ?_
  refine d_take (i := 6) rfl rfl rfl (by decide +kernel) (by decide +kernel) (by decide +kernel) (Fz.le_refl _) (by intro e he; simp only [List.mem_cons, List.not_mem_nil, or_false] at he; subst he; simp) rfl (v_add rfl rfl (r := (w : Int)) ((wrap_i64 (by omega) (by omega)).trans (by omega))) ?_
  refine d_take (i := 7) rfl rfl rfl (by decide +kernel) (by decide +kernel) (by decide +kernel) (Fz.le_refl _) (by intro e he; simp only [List.mem_cons, List.not_mem_nil, or_false] at he; subst he; simp) rfl (v_conv rfl rfl rfl (wrap_u64 (by omega) (by omega))) ?_
  refine d_one (i := 3) (by decide +kernel) ?_
  refine d1_call rfl rfl rfl rfl (c_call callable53 rfl) (oct_Num _ _ a .nil [] t 8 _ rfl (by omega) (by simp)) ?_
  rintro v' F H' ⟨rfl, rfl, b1, ok1, rfl⟩ _
  refine ⟨fun w hw => held_of hw (by first | exact Fz.le_refl _ | assumption) (by intro e he; simp only [List.mem_cons, List.not_mem_nil, or_false] at he; subst he; simp), ?_⟩
  refine d_one (i := 8) (by decide +kernel) ?_
  refine d1_call rfl rfl rfl rfl (c_call callable53 rfl) (oct_Num _ _ a b1 _ w 2 _ ok1 (by omega) (by simp)) ?_
  rintro v' F H' ⟨rfl, rfl, b2, ok2, rfl⟩ _
  refine ⟨fun w hw => held_of hw (by first | exact Fz.le_refl _ | assumption) (by intro e he; simp only [List.mem_cons, List.not_mem_nil, or_false] at he; subst he; simp), ?_⟩
  refine d_one (i := 9) (by decide +kernel) ?_
  refine d1_call rfl rfl rfl rfl (c_call callable55 rfl) (oct_Done _ _ _ _ _) ?_
  rintro v' F H' ⟨rfl, rfl, rfl⟩ _
  refine ⟨fun w hw => held_of hw (by first | exact Fz.le_refl _ | assumption) (by intro e he; simp only [List.mem_cons, List.not_mem_nil, or_false] at he; subst he; simp), ?_⟩
  simp only [List.nil_append] at ok2 ⊢
  refine d_take (i := 10) rfl rfl rfl (by decide +kernel) (by decide +kernel) (by decide +kernel) (Fz.le_refl _) (by intro e he; simp only [List.mem_cons, List.not_mem_nil, or_false] at he; subst he; simp) rfl (v_assign rfl) ?_
  refine d_end (by decide +kernel) ?_
  refine j_sel (H' := b2.ents 1 (bytesV (leB 8 t ++ leB 2 w)) ++ (Fr)) [[Ent.mem a [b2.val (leB 8 t ++ leB 2 w).length] 1], b2.ents 1 (bytesV (leB 8 t ++ leB 2 w)), [Ent.mem s0 [.int .u64 t, .int .i64 vo] 2], Fr] [1, 3] rfl rfl rfl ?_
  rw [hw]
  exact r_ret1 Try.func39 rfl rfl ⟨⟨rfl, b2, by simpa using ok2, by simp, rfl⟩, Fz.le_refl _⟩

theorem wal_entry (O : World) (F : Fz) (e : En) (Fr : List Ent) (he : e.ok F) :
    Does Try.prog O 40 #[.agg e.cells.toArray] F Fr (fun r F' H' => F' = F ∧ ∃ bf : Bf, bf.ok (entP e.ix e.tm e.kd e.data).length ∧ r = bf.val (entP e.ix e.tm e.kd e.data).length ∧ H' = bf.ents 1 (bytesV (entP e.ix e.tm e.kd e.data)) ++ Fr) := by
  obtain ⟨h1, h2, h3, h4, h5⟩ := he
  obtain ⟨ix, tm, kd, dv, data⟩ := e
  dsimp only at *
  refine does_of_run (args := [_]) Try.func40 rfl rfl ?_
  refine r_seq ?_
  refine r_region rfl ?_
  refine o_act rfl rfl rfl rfl (a_box rfl) ?_
  rintro v' H' ⟨s0, rfl, rfl⟩
  refine o_val rfl rfl rfl rfl (v_assign rfl) ?_
  refine o_end ?_
  refine r_seq ?_
  refine r_region rfl ?_
  refine o_val rfl rfl rfl rfl (v_build rfl rfl) ?_
  refine o_act rfl rfl rfl rfl (a_box rfl) ?_
  rintro v' H' ⟨a, rfl, rfl⟩
  refine j_heap (H' := .mem a [Bf.nil.val ([] : List UInt8).length] 1 :: (Bf.nil.ents 1 (bytesV []) ++ .mem s0 [.int .u64 ix, .int .u64 tm, .int .u8 kd, dv] 4 :: Fr)) rfl ?_
  refine o_val rfl rfl rfl rfl (v_assign rfl) ?_
  refine o_end ?_
  refine r_seq ?_
  refine d_region 1000000 rfl ([.mem s0 [.int .u64 ix, .int .u64 tm, .int .u8 kd, dv] 4]) ?_
  refine d_take (i := 0) rfl rfl rfl (by decide +kernel) (by decide +kernel) (by decide +kernel) (Fz.le_refl _) (by intro e he; simp only [List.mem_cons, List.not_mem_nil, or_false] at he; subst he; simp) rfl (v_move rfl) ?_
  refine d_take (i := 1) rfl rfl rfl (by decide +kernel) (by decide +kernel) (by decide +kernel) (Fz.le_refl _) (by intro e he; simp only [List.mem_cons, List.not_mem_nil, or_false] at he; subst he; simp) rfl (v_field (k := 0) rfl rfl rfl) ?_
  refine d_take (i := 2) rfl rfl rfl (by decide +kernel) (by decide +kernel) (by decide +kernel) (Fz.le_refl _) (by intro e he; simp only [List.mem_cons, List.not_mem_nil, or_false] at he; subst he; simp) rfl (v_load (v := .int .u64 ix) rfl rfl (cell_at (j := 0) rfl rfl)) ?_
  refine d_take (i := 4) rfl rfl rfl (by decide +kernel) (by decide +kernel) (by decide +kernel) (Fz.le_refl _) (by intro e he; simp only [List.mem_cons, List.not_mem_nil, or_false] at he; subst he; simp) rfl (v_field (k := 1) rfl rfl rfl) ?_
  refine d_take (i := 5) rfl rfl rfl (by decide +kernel) (by decide +kernel) (by decide +kernel) (Fz.le_refl _) (by intro e he; simp only [List.mem_cons, List.not_mem_nil, or_false] at he; subst he; simp) rfl (v_load (v := .int .u64 tm) rfl rfl (cell_at (j := 0) rfl rfl)) ?_
  refine d_take (i := 7) rfl rfl rfl (by decide +kernel) (by decide +kernel) (by decide +kernel) (Fz.le_refl _) (by intro e he; simp only [List.mem_cons, List.not_mem_nil, or_false] at he; subst he; simp) rfl (v_field (k := 2) rfl rfl rfl) ?_
  refine d_take (i := 8) rfl rfl rfl (by decide +kernel) (by decide +kernel) (by decide +kernel) (Fz.le_refl _) (by intro e he; simp only [List.mem_cons, List.not_mem_nil, or_false] at he; subst he; simp) rfl (v_load (v := .int .u8 kd) rfl rfl (cell_at (j := 0) rfl rfl)) ?_
  refine d_take (i := 9) rfl rfl rfl (by decide +kernel) (by decide +kernel) (by decide +kernel) (Fz.le_refl _) (by intro e he; simp only [List.mem_cons, List.not_mem_nil, or_false] at he; subst he; simp) rfl (v_conv rfl rfl rfl (wrap_u64 (by omega) (by omega))) ?_
  refine d_take (i := 11) rfl rfl rfl (by decide +kernel) (by decide +kernel) (by decide +kernel) (Fz.le_refl _) (by intro e he; simp only [List.mem_cons, List.not_mem_nil, or_false] at he; subst he; simp) rfl (v_field (k := 3) rfl rfl rfl) ?_
  refine d_take (i := 12) rfl rfl rfl (by decide +kernel) (by decide +kernel) (by decide +kernel) (Fz.le_refl _) (by intro e he; simp only [List.mem_cons, List.not_mem_nil, or_false] at he; subst he; simp) rfl (v_load (v := dv) rfl rfl (cell_at (j := 0) rfl rfl)) ?_
  refine d_one (i := 3) (by decide +kernel) ?_
  refine d1_call rfl rfl rfl rfl (c_call callable53 rfl) (oct_Num _ _ a .nil [] ix 8 _ rfl (by omega) (by simp)) ?_
  rintro v' F H' ⟨rfl, rfl, b1, ok1, rfl⟩ _
  refine ⟨fun w hw => held_of hw (by first | exact Fz.le_refl _ | assumption) (by intro e he; simp only [List.mem_cons, List.not_mem_nil, or_false] at he; subst he; simp), ?_⟩
  refine d_one (i := 6) (by decide +kernel) ?_
  refine d1_call rfl rfl rfl rfl (c_call callable53 rfl) (oct_Num _ _ a b1 _ tm 8 _ ok1 (by omega) (by simp)) ?_
  rintro v' F H' ⟨rfl, rfl, b2, ok2, rfl⟩ _
  refine ⟨fun w hw => held_of hw (by first | exact Fz.le_refl _ | assumption) (by intro e he; simp only [List.mem_cons, List.not_mem_nil, or_false] at he; subst he; simp), ?_⟩
  refine d_one (i := 10) (by decide +kernel) ?_
  refine d1_call rfl rfl rfl rfl (c_call callable53 rfl) (oct_Num _ _ a b2 _ kd 1 _ ok2 (by omega) (by simp)) ?_
  rintro v' F H' ⟨rfl, rfl, b3, ok3, rfl⟩ _
  refine ⟨fun w hw => held_of hw (by first | exact Fz.le_refl _ | assumption) (by intro e he; simp only [List.mem_cons, List.not_mem_nil, or_false] at he; subst he; simp), ?_⟩
  refine d_one (i := 13) (by decide +kernel) ?_
  refine d1_call rfl rfl rfl rfl (c_call callable56 rfl) (oct_WBytes _ _ a b3 _ data dv _ ok3 (h4.frz (Fz.le_refl _)) (by simp; omega)) ?_
  rintro v' F H' ⟨rfl, rfl, b4, ok4, rfl⟩ _
  refine ⟨fun w hw => held_of hw (by first | exact Fz.le_refl _ | assumption) (by intro e he; simp only [List.mem_cons, List.not_mem_nil, or_false] at he; subst he; simp), ?_⟩
  refine d_one (i := 14) (by decide +kernel) ?_
  refine d1_call rfl rfl rfl rfl (c_call callable55 rfl) (oct_Done _ _ _ _ _) ?_
  rintro v' F H' ⟨rfl, rfl, rfl⟩ _
  refine ⟨fun w hw => held_of hw (by first | exact Fz.le_refl _ | assumption) (by intro e he; simp only [List.mem_cons, List.not_mem_nil, or_false] at he; subst he; simp), ?_⟩
  simp only [List.nil_append] at ok4 ⊢
  refine d_take (i := 15) rfl rfl rfl (by decide +kernel) (by decide +kernel) (by decide +kernel) (Fz.le_refl _) (by intro e he; simp only [List.mem_cons, List.not_mem_nil, or_false] at he; subst he; simp) rfl (v_assign rfl) ?_
  refine d_end (by decide +kernel) ?_
  have e4 : leB 8 ix ++ leB 8 tm ++ leB 1 kd ++ lenB data = entP ix tm kd data := rfl
  rw [e4] at ok4 ⊢
  refine j_sel (H' := b4.ents 1 (bytesV (entP ix tm kd data)) ++ (Fr)) [[Ent.mem a [b4.val (entP ix tm kd data).length] 1], b4.ents 1 (bytesV (entP ix tm kd data)), [Ent.mem s0 [.int .u64 ix, .int .u64 tm, .int .u8 kd, dv] 4], Fr] [1, 3] rfl rfl rfl ?_
  exact r_ret1 Try.func40 rfl rfl ⟨⟨rfl, b4, ok4, rfl, rfl⟩, Fz.le_refl _⟩

theorem wal_snap (O : World) (F : Fz) (ix tm vt : Nat) (dv : Value) (data : List UInt8) (Fr : List Ent) (hd : SlB F [] dv data) (hl : data.length ≤ 140737488350000) :
    Does Try.prog O 41 #[.agg #[.int .u64 ix, .int .u64 tm, .int .u64 vt, dv]] F Fr (fun r F' H' => F' = F ∧ ∃ bf : Bf, bf.ok (snapP ix tm vt data).length ∧ r = bf.val (snapP ix tm vt data).length ∧ H' = bf.ents 1 (bytesV (snapP ix tm vt data)) ++ Fr) := by
  refine does_of_run (args := [_]) Try.func41 rfl rfl ?_
  refine r_seq ?_
  refine r_region rfl ?_
  refine o_act rfl rfl rfl rfl (a_box rfl) ?_
  rintro v' H' ⟨s0, rfl, rfl⟩
  refine o_val rfl rfl rfl rfl (v_assign rfl) ?_
  refine o_end ?_
  refine r_seq ?_
  refine r_region rfl ?_
  refine o_val rfl rfl rfl rfl (v_build rfl rfl) ?_
  refine o_act rfl rfl rfl rfl (a_box rfl) ?_
  rintro v' H' ⟨a, rfl, rfl⟩
  refine j_heap (H' := .mem a [Bf.nil.val ([] : List UInt8).length] 1 :: (Bf.nil.ents 1 (bytesV []) ++ .mem s0 [.int .u64 ix, .int .u64 tm, .int .u64 vt, dv] 4 :: Fr)) rfl ?_
  refine o_val rfl rfl rfl rfl (v_assign rfl) ?_
  refine o_end ?_
  refine r_seq ?_
  refine d_region 1000000 rfl ([.mem s0 [.int .u64 ix, .int .u64 tm, .int .u64 vt, dv] 4]) ?_
  refine d_take (i := 0) rfl rfl rfl (by decide +kernel) (by decide +kernel) (by decide +kernel) (Fz.le_refl _) (by intro e he; simp only [List.mem_cons, List.not_mem_nil, or_false] at he; subst he; simp) rfl (v_move rfl) ?_
  refine d_take (i := 1) rfl rfl rfl (by decide +kernel) (by decide +kernel) (by decide +kernel) (Fz.le_refl _) (by intro e he; simp only [List.mem_cons, List.not_mem_nil, or_false] at he; subst he; simp) rfl (v_field (k := 0) rfl rfl rfl) ?_
  refine d_take (i := 2) rfl rfl rfl (by decide +kernel) (by decide +kernel) (by decide +kernel) (Fz.le_refl _) (by intro e he; simp only [List.mem_cons, List.not_mem_nil, or_false] at he; subst he; simp) rfl (v_load (v := .int .u64 ix) rfl rfl (cell_at (j := 0) rfl rfl)) ?_
  refine d_take (i := 4) rfl rfl rfl (by decide +kernel) (by decide +kernel) (by decide +kernel) (Fz.le_refl _) (by intro e he; simp only [List.mem_cons, List.not_mem_nil, or_false] at he; subst he; simp) rfl (v_field (k := 1) rfl rfl rfl) ?_
  refine d_take (i := 5) rfl rfl rfl (by decide +kernel) (by decide +kernel) (by decide +kernel) (Fz.le_refl _) (by intro e he; simp only [List.mem_cons, List.not_mem_nil, or_false] at he; subst he; simp) rfl (v_load (v := .int .u64 tm) rfl rfl (cell_at (j := 0) rfl rfl)) ?_
  refine d_take (i := 7) rfl rfl rfl (by decide +kernel) (by decide +kernel) (by decide +kernel) (Fz.le_refl _) (by intro e he; simp only [List.mem_cons, List.not_mem_nil, or_false] at he; subst he; simp) rfl (v_field (k := 2) rfl rfl rfl) ?_
  refine d_take (i := 8) rfl rfl rfl (by decide +kernel) (by decide +kernel) (by decide +kernel) (Fz.le_refl _) (by intro e he; simp only [List.mem_cons, List.not_mem_nil, or_false] at he; subst he; simp) rfl (v_load (v := .int .u64 vt) rfl rfl (cell_at (j := 0) rfl rfl)) ?_
  refine d_take (i := 10) rfl rfl rfl (by decide +kernel) (by decide +kernel) (by decide +kernel) (Fz.le_refl _) (by intro e he; simp only [List.mem_cons, List.not_mem_nil, or_false] at he; subst he; simp) rfl (v_field (k := 3) rfl rfl rfl) ?_
  refine d_take (i := 11) rfl rfl rfl (by decide +kernel) (by decide +kernel) (by decide +kernel) (Fz.le_refl _) (by intro e he; simp only [List.mem_cons, List.not_mem_nil, or_false] at he; subst he; simp) rfl (v_load (v := dv) rfl rfl (cell_at (j := 0) rfl rfl)) ?_
  refine d_one (i := 3) (by decide +kernel) ?_
  refine d1_call rfl rfl rfl rfl (c_call callable53 rfl) (oct_Num _ _ a .nil [] ix 8 _ rfl (by omega) (by simp)) ?_
  rintro v' F H' ⟨rfl, rfl, b1, ok1, rfl⟩ _
  refine ⟨fun w hw => held_of hw (by first | exact Fz.le_refl _ | assumption) (by intro e he; simp only [List.mem_cons, List.not_mem_nil, or_false] at he; subst he; simp), ?_⟩
  refine d_one (i := 6) (by decide +kernel) ?_
  refine d1_call rfl rfl rfl rfl (c_call callable53 rfl) (oct_Num _ _ a b1 _ tm 8 _ ok1 (by omega) (by simp)) ?_
  rintro v' F H' ⟨rfl, rfl, b2, ok2, rfl⟩ _
  refine ⟨fun w hw => held_of hw (by first | exact Fz.le_refl _ | assumption) (by intro e he; simp only [List.mem_cons, List.not_mem_nil, or_false] at he; subst he; simp), ?_⟩
  refine d_one (i := 9) (by decide +kernel) ?_
  refine d1_call rfl rfl rfl rfl (c_call callable53 rfl) (oct_Num _ _ a b2 _ vt 8 _ ok2 (by omega) (by simp)) ?_
  rintro v' F H' ⟨rfl, rfl, b3, ok3, rfl⟩ _
  refine ⟨fun w hw => held_of hw (by first | exact Fz.le_refl _ | assumption) (by intro e he; simp only [List.mem_cons, List.not_mem_nil, or_false] at he; subst he; simp), ?_⟩
  refine d_one (i := 12) (by decide +kernel) ?_
  refine d1_call rfl rfl rfl rfl (c_call callable56 rfl) (oct_WBytes _ _ a b3 _ data dv _ ok3 (hd.frz (Fz.le_refl _)) (by simp; omega)) ?_
  rintro v' F H' ⟨rfl, rfl, b4, ok4, rfl⟩ _
  refine ⟨fun w hw => held_of hw (by first | exact Fz.le_refl _ | assumption) (by intro e he; simp only [List.mem_cons, List.not_mem_nil, or_false] at he; subst he; simp), ?_⟩
  refine d_one (i := 13) (by decide +kernel) ?_
  refine d1_call rfl rfl rfl rfl (c_call callable55 rfl) (oct_Done _ _ _ _ _) ?_
  rintro v' F H' ⟨rfl, rfl, rfl⟩ _
  refine ⟨fun w hw => held_of hw (by first | exact Fz.le_refl _ | assumption) (by intro e he; simp only [List.mem_cons, List.not_mem_nil, or_false] at he; subst he; simp), ?_⟩
  simp only [List.nil_append] at ok4 ⊢
  refine d_take (i := 14) rfl rfl rfl (by decide +kernel) (by decide +kernel) (by decide +kernel) (Fz.le_refl _) (by intro e he; simp only [List.mem_cons, List.not_mem_nil, or_false] at he; subst he; simp) rfl (v_assign rfl) ?_
  refine d_end (by decide +kernel) ?_
  have e4 : leB 8 ix ++ leB 8 tm ++ leB 8 vt ++ lenB data = snapP ix tm vt data := rfl
  rw [e4] at ok4 ⊢
  refine j_sel (H' := b4.ents 1 (bytesV (snapP ix tm vt data)) ++ (Fr)) [[Ent.mem a [b4.val (snapP ix tm vt data).length] 1], b4.ents 1 (bytesV (snapP ix tm vt data)), [Ent.mem s0 [.int .u64 ix, .int .u64 tm, .int .u64 vt, dv] 4], Fr] [1, 3] rfl rfl rfl ?_
  exact r_ret1 Try.func41 rfl rfl ⟨⟨rfl, b4, ok4, rfl, rfl⟩, Fz.le_refl _⟩

theorem wal_Bytes (O : World) (F : Fz) (h : Bool) (t : Nat) (vo : Int) (lv : Value) (l : List En) (Fr : List Ent) (hv : Sl F Fr 4 lv l.length (enV l)) (hl : ∀ e ∈ l, e.ok F) (hn : l.length ≤ 1000) (h1 : -1 ≤ vo) (h2 : vo < 65535) :
    Does Try.prog O 17 #[.agg #[.bool h, .int .u64 t, .int .i64 vo, lv]] F Fr (fun r F' H' => F' = F ∧ ∃ bf : Bf, bf.ok (saveB h t vo (l.map En.pure)).length ∧ r = bf.val (saveB h t vo (l.map En.pure)).length ∧ H' = bf.ents 1 (bytesV (saveB h t vo (l.map En.pure))) ++ Fr) := by
  obtain ⟨a0, cap, rfl, hcap⟩ := Sl.shape hv
  have hle : ∀ i, (entsB ((l.take i).map En.pure)).length ≤ 1048700000 := fun i => by
    have := entsB_le (l.take i) fun e he => hl e (List.mem_of_mem_take he)
    have h3 : (l.take i).length ≤ 1000 := by simp; omega
    have := Nat.mul_le_mul_right 1048700 h3
    omega
  have hhl := hdrB_le h t vo
  refine does_of_run (args := [_]) Try.func17 rfl rfl ?_
  refine r_seq ?_
  refine r_region rfl ?_
  refine o_act rfl rfl rfl rfl (a_box rfl) ?_
  rintro v' H' ⟨s0, rfl, rfl⟩
  refine j_heap (H' := .mem s0 [.bool h, .int .u64 t, .int .i64 vo, .slice a0 l.length cap] 4 :: (Bf.nil.ents 1 (bytesV []) ++ Fr)) rfl ?_
  refine o_val rfl rfl rfl rfl (v_assign rfl) ?_
  refine o_end ?_
  refine r_seq ?_
  refine r_region rfl ?_
  refine o_val rfl rfl rfl rfl (v_assign rfl) ?_
  refine o_end ?_
  refine r_seq ?_
  refine r_join (fun bf : Bf => bf.ok (hdrB h t vo).length) (fun bf => [(1, ptrV s0), (3, bf.val (hdrB h t vo).length)]) (fun _ => F) (fun bf => .mem s0 [.bool h, .int .u64 t, .int .i64 vo, .slice a0 l.length cap] 4 :: (bf.ents 1 (bytesV (hdrB h t vo)) ++ Fr)) ?_ ?_
  · intro J
    refine r_seq ?_
    refine r_region rfl ?_
    refine o_val rfl rfl rfl rfl (v_field (k := 0) rfl rfl rfl) ?_
    refine o_val rfl rfl rfl rfl (v_load (v := .bool h) rfl rfl (cell_at (j := 0) rfl rfl)) ?_
    refine o_end ?_
    cases h with
    | true =>
      refine r_true rfl ?_
      refine r_region rfl ?_
      refine o_val rfl rfl rfl rfl (v_move rfl) ?_
      refine o_val rfl rfl rfl rfl (v_field (k := 1) rfl rfl rfl) ?_
      refine o_val rfl rfl rfl rfl (v_loadAgg (sz := 2) (cs := [.int .u64 t, .int .i64 vo]) rfl rfl rfl rfl (cells_of (j := 0) _ _ rfl rfl)) ?_
      refine o_call rfl rfl rfl rfl (c_call callable39 rfl) (wal_hard _ _ t vo _ h1 h2) ?_
      rintro v' F H' ⟨rfl, b1, ok1, rfl, rfl⟩ _
      have e1 : (hardP t (vo + 1).toNat).length = 10 := by simp
      rw [← e1] at ok1 ⊢
      refine o_call rfl rfl rfl rfl (c_call callable38 rfl) (wal_frame _ _ 1 _ (hardP t (vo + 1).toNat) _ (by decide) (bf_reads ok1 (by intro q hq; exact List.mem_append_left _ hq)) (by simp)) ?_
      rintro v' F H' ⟨rfl, b2, ok2, rfl, rfl⟩ _
      have e2 : hdrB true t vo = recB 1 (hardP t (vo + 1).toNat) := rfl
      rw [← e2] at ok2 ⊢
      refine j_sel (H' := Ent.mem s0 [.bool true, .int .u64 t, .int .i64 vo, .slice a0 l.length cap] 4 :: (b2.ents 1 (bytesV (hdrB true t vo)) ++ (Fr))) [b2.ents 1 (bytesV (hdrB true t vo)), b1.ents 1 (bytesV (hardP t (vo + 1).toNat)), [Ent.mem s0 [.bool true, .int .u64 t, .int .i64 vo, .slice a0 l.length cap] 4], Fr] [2, 0, 3] rfl rfl rfl ?_
      have r2 : SlB F (b2.ents 1 (bytesV (hdrB true t vo)) ++ Fr) (b2.val (hdrB true t vo).length) (hdrB true t vo) := bf_reads ok2 (by intro q hq; exact List.mem_append_left _ hq)
      refine o_act rfl rfl rfl rfl (a_appendP (bf := .nil) (n := 0) (xs := []) (sz := 1) (bytes := 1) (m := (hdrB true t vo).length) (H1 := b2.ents 1 (bytesV (hdrB true t vo)) ++ Fr) [_] ⟨⟨_, _, _, rfl, rfl, rfl, rfl, rfl, rfl⟩, by decide⟩ rfl rfl rfl rfl rfl (r2.mono (Fz.le_refl _) (by intro q hq; exact List.mem_cons_of_mem _ hq)) (bytes_one _) (by unfold maxLen; omega) (by omega)) ?_
      rintro v' H' ⟨b3, rfl, ok3, rfl⟩
      rw [List.nil_append]
      rw [Nat.zero_add] at ok3 ⊢
      refine j_sel (H' := Ent.mem s0 [.bool true, .int .u64 t, .int .i64 vo, .slice a0 l.length cap] 4 :: (b3.ents 1 (bytesV (hdrB true t vo)) ++ (Fr))) [[Ent.mem s0 [.bool true, .int .u64 t, .int .i64 vo, .slice a0 l.length cap] 4], b3.ents 1 (bytesV (hdrB true t vo)), b2.ents 1 (bytesV (hdrB true t vo)), Fr] [0, 1, 3] rfl rfl rfl ?_
      refine o_val rfl rfl rfl rfl (v_assign rfl) ?_
      refine o_end ?_
      refine j_keep ?_ (J b3 ok3)
      exact ⟨rfl, rfl, trivial⟩
    | false =>
      refine r_false rfl ?_
      refine r_skip ?_
      refine j_keep ?_ (J .nil rfl)
      exact ⟨rfl, rfl, trivial⟩
  · rintro bf hbf
    refine r_seq ?_
    refine r_seq ?_
    refine r_region rfl ?_
    refine o_val rfl rfl rfl rfl (v_field (k := 3) rfl rfl rfl) ?_
    refine o_val rfl rfl rfl rfl (v_load (v := .slice a0 l.length cap) rfl rfl (cell_at (j := 0) rfl rfl)) ?_
    refine o_val rfl rfl rfl rfl (v_len rfl rfl) ?_
    refine o_val rfl rfl rfl rfl (v_move rfl) ?_
    refine o_end ?_
    refine r_block ?_
    refine j_drop (List.sublist_cons_self _ _) ?_
    have hz : hdrB h t vo ++ entsB ((l.take 0).map En.pure) = hdrB h t vo := by simp
    refine r_loop (fun g : Nat × Bf => g.1 ≤ l.length ∧ g.2.ok (hdrB h t vo ++ entsB ((l.take g.1).map En.pure)).length) (fun g => [(3, g.2.val (hdrB h t vo ++ entsB ((l.take g.1).map En.pure)).length), (15, .slice a0 l.length cap), (16, .int .i64 l.length), (17, .int .i64 g.1)]) (fun _ => F) (fun g => g.2.ents 1 (bytesV (hdrB h t vo ++ entsB ((l.take g.1).map En.pure))) ++ Fr) (fun g => l.length - g.1) (0, bf) ⟨Nat.zero_le _, by dsimp only; rw [hz]; exact hbf⟩ ⟨by dsimp only; rw [hz]; rfl, rfl, rfl, rfl, trivial⟩ rfl (by dsimp only; rw [hz]) ?_
    rintro ⟨i, bg⟩ ⟨hi, hok⟩ IH
    dsimp only at hi hok ⊢
    have hll : (hdrB h t vo ++ entsB ((l.take i).map En.pure)).length ≤ 1048700019 := by
      have := hle i
      simp only [List.length_append]
      omega
    refine r_seq ?_
    refine r_region rfl ?_
    refine o_val rfl rfl rfl rfl (v_lss rfl rfl) ?_
    refine o_end ?_
    refine r_seq ?_
    refine r_if rfl (fun g => ?_) (fun g => ?_)
    · have hil : i < l.length := by omega
      obtain ⟨b0, off0, c0, hab, hc⟩ := sl_cells hv hil
      simp only [Value.slice.injEq] at hab
      obtain ⟨rfl, _, rfl⟩ := hab
      have he := hl l[i] (List.getElem_mem _)
      have htk : hdrB h t vo ++ entsB ((l.take (i + 1)).map En.pure) = (hdrB h t vo ++ entsB ((l.take i).map En.pure)) ++ (PE.bs l[i].pure) := by
        rw [List.take_succ_eq_append_getElem hil]
        simp only [List.map_append, List.map_cons, List.map_nil, entsB, List.flatMap_append, List.flatMap_cons, List.flatMap_nil, List.append_nil, List.append_assoc]
      have hpl : (PE.bs l[i].pure).length = l[i].data.length + 30 := by simp [PE.bs, En.pure]; omega
      have hdl := he.len
      generalize hdrB h t vo ++ entsB ((l.take i).map En.pure) = pre at *
      generalize l[i] = e at *
      refine r_skip ?_
      refine r_seq ?_
      refine r_block ?_
      refine r_seq ?_
      refine r_region rfl ?_
      refine o_val rfl rfl rfl rfl (v_indexN (sz := 4) rfl rfl rfl rfl hil) ?_
      refine o_val rfl rfl rfl rfl (v_loadAgg (sz := 4) (cs := e.cells) rfl rfl rfl rfl (fun j c hj => (hc j c hj).mono (Fz.le_refl _) (fun q hq => List.mem_append_right _ hq))) ?_
      refine o_act rfl rfl rfl rfl (a_alloc rfl) ?_
      rintro v' H' ⟨x, rfl, rfl⟩
      refine o_act0 rfl rfl rfl (a_store (sz := 4) 0 rfl rfl rfl (by obtain ⟨ad, cd, hd, _⟩ := Sl.shape he.dv; simp [Value.cells, En.cells, hd, oneCellB]) rfl rfl (Nat.le_of_ble_eq_true rfl)) ?_
      refine j_heap (H' := .mem x e.cells 4 :: (bg.ents 1 (bytesV pre) ++ Fr)) rfl ?_
      refine o_end ?_
      refine r_region rfl ?_
      refine o_val rfl rfl rfl rfl (v_move rfl) ?_
      refine o_val rfl rfl rfl rfl (v_loadAgg (sz := 4) (cs := e.cells) rfl rfl rfl rfl (cells_of (j := 0) _ _ rfl rfl)) ?_
      refine o_call rfl rfl rfl rfl (c_call callable40 rfl) (wal_entry _ _ e _ he) ?_
      rintro v' F H' ⟨rfl, b1, ok1, rfl, rfl⟩ _
      refine o_call rfl rfl rfl rfl (c_call callable38 rfl) (wal_frame _ _ 2 _ (entP e.ix e.tm e.kd e.data) _ (by decide) (bf_reads ok1 (by intro q hq; exact List.mem_append_left _ hq)) (by simp; omega)) ?_
      rintro v' F H' ⟨rfl, b2, ok2, rfl, rfl⟩ _
      have e2 : recB 2 (entP e.ix e.tm e.kd e.data) = PE.bs e.pure := rfl
      rw [e2] at ok2 ⊢
      refine j_sel (H' := bg.ents 1 (bytesV pre) ++ (b2.ents 1 (bytesV (PE.bs e.pure)) ++ (Fr))) [b2.ents 1 (bytesV (PE.bs e.pure)), b1.ents 1 (bytesV (entP e.ix e.tm e.kd e.data)), [Ent.mem x e.cells 4], bg.ents 1 (bytesV pre), Fr] [3, 0, 4] rfl rfl rfl ?_
      have r2 : SlB F (b2.ents 1 (bytesV (PE.bs e.pure)) ++ Fr) (b2.val (PE.bs e.pure).length) (PE.bs e.pure) := bf_reads ok2 (by intro q hq; exact List.mem_append_left _ hq)
      refine o_act rfl rfl rfl rfl (a_append (bf := bg) (sz := 1) (bytes := 1) (m := (PE.bs e.pure).length) ⟨⟨_, _, _, rfl, rfl, rfl, rfl, rfl, rfl⟩, by decide⟩ rfl hok (by simp) rfl rfl (r2.mono (Fz.le_refl _) (by intro q hq; exact List.mem_append_right _ hq)) (bytes_one _) (by unfold maxLen; omega) (by omega)) ?_
      rintro v' H' ⟨b3, rfl, ok3, rfl⟩
      rw [← List.length_append, ← htk] at ok3 ⊢
      rw [← bytesV_append, ← htk]
      refine j_sel (H' := b3.ents 1 (bytesV (hdrB h t vo ++ entsB ((l.take (i + 1)).map En.pure))) ++ (Fr)) [b3.ents 1 (bytesV (hdrB h t vo ++ entsB ((l.take (i + 1)).map En.pure))), b2.ents 1 (bytesV (PE.bs e.pure)), Fr] [0, 2] rfl rfl rfl ?_
      refine o_val rfl rfl rfl rfl (v_assign rfl) ?_
      refine o_end ?_
      refine r_inBlock ?_
      refine r_region rfl ?_
      refine o_val rfl rfl rfl rfl (v_add rfl rfl (wrap_i64 (by omega) (by omega))) ?_
      refine o_val rfl rfl rfl rfl (v_move rfl) ?_
      refine o_end ?_
      refine j_keep ?_ (IH (i + 1, b3) ⟨by dsimp only; omega, ok3⟩ (by dsimp only; omega))
      exact ⟨rfl, rfl, rfl, rfl, trivial⟩
    · obtain rfl : i = l.length := by omega
      rw [List.take_length] at hok ⊢
      refine r_exit rfl ?_
      refine r_seq ?_
      refine r_region rfl ?_
      refine o_val rfl rfl rfl rfl (v_move rfl) ?_
      refine o_val rfl rfl rfl rfl (v_assign rfl) ?_
      refine o_end ?_
      exact r_ret1 Try.func17 rfl rfl ⟨⟨rfl, bg, hok, rfl, rfl⟩, Fz.le_refl _⟩

/-- An image: what it says, and the values of its slices. -/
structure Im where
  term : Nat
  vote : Int
  ix : Nat
  tm : Nat
  vt : Nat
  dv : Value
  data : List UInt8
  lv : Value
  l : List En
def Im.cells (p : Im) : List Value := [.int .u64 p.term, .int .i64 p.vote, .int .u64 p.ix, .int .u64 p.tm, .int .u64 p.vt, p.dv, p.lv]
structure Im.ok (F : Fz) (p : Im) : Prop where
  term : p.term < 18446744073709551616
  vote1 : -1 ≤ p.vote
  vote2 : p.vote < 65535
  ix : p.ix < 18446744073709551616
  tm : p.tm < 18446744073709551616
  vt : p.vt < 18446744073709551616
  dv : SlB F [] p.dv p.data
  dl : p.data.length ≤ 1048576
  lv : Sl F [] 4 p.lv p.l.length (enV p.l)
  l : ∀ e ∈ p.l, e.ok F
theorem Im.ok.frz {F F' : Fz} {p : Im} (h : p.ok F) (hF : F.le F') : p.ok F' := ⟨h.term, h.vote1, h.vote2, h.ix, h.tm, h.vt, h.dv.frz hF, h.dl, h.lv.frz hF, fun e he => (h.l e he).frz hF⟩
theorem Im.ok.one {F : Fz} {p : Im} (h : p.ok F) : p.cells.all oneCellB = true := by
  obtain ⟨a, c, hd, _⟩ := Sl.shape h.dv
  obtain ⟨a', c', hd', _⟩ := Sl.shape h.lv
  simp [Im.cells, hd, hd', oneCellB]
structure PI where
  term : Nat
  vote : Int
  ix : Nat
  tm : Nat
  vt : Nat
  data : List UInt8
  l : List PE
def Im.pure (p : Im) : PI := ⟨p.term, p.vote, p.ix, p.tm, p.vt, p.data, p.l.map En.pure⟩
def snB (ix tm vt : Nat) (data : List UInt8) : List UInt8 := if 0 < ix ∨ vt ≠ 0 then recB 3 (snapP ix tm vt data) else []
def PI.whole (p : PI) : List UInt8 := snB p.ix p.tm p.vt p.data ++ saveB true p.term p.vote p.l
theorem saveB_le {F : Fz} (h : Bool) (t : Nat) (vo : Int) (l : List En) (hl : ∀ e ∈ l, e.ok F) (hn : l.length ≤ 1000) : (saveB h t vo (l.map En.pure)).length ≤ 1048700019 := by
  have h1 := entsB_le l hl
  have h2 := hdrB_le h t vo
  have := Nat.mul_le_mul_right 1048700 hn
  simp only [saveB, List.length_append]
  omega

theorem wal_Whole (O : World) (F : Fz) (p : Im) (Fr : List Ent) (hp : p.ok F) (hn : p.l.length ≤ 1000) :
    Does Try.prog O 18 #[.agg p.cells.toArray] F Fr (fun r F' H' => F' = F ∧ ∃ bf : Bf, bf.ok p.pure.whole.length ∧ r = bf.val p.pure.whole.length ∧ H' = bf.ents 1 (bytesV p.pure.whole) ++ Fr) := by
  obtain ⟨q1, q2, q3, q4, q5, q6, hd, hdl, hv, hl⟩ := hp
  obtain ⟨term, vote, ix, tm, vt, dv, data, lv, l⟩ := p
  dsimp only at *
  have hsl := saveB_le true term vote l hl hn
  have hw : (⟨term, vote, ix, tm, vt, dv, data, lv, l⟩ : Im).pure.whole = snB ix tm vt data ++ saveB true term vote (l.map En.pure) := rfl
  rw [hw]
  obtain ⟨a0, cap, rfl, hcap⟩ := Sl.shape hv
  have hsn : (snB ix tm vt data).length ≤ 1048700 := by unfold snB; split <;> simp; omega
  generalize hcs : [Value.int .u64 term, .int .i64 vote, .int .u64 ix, .int .u64 tm, .int .u64 vt, dv, .slice a0 l.length cap] = cs
  have hcs' : (⟨term, vote, ix, tm, vt, dv, data, .slice a0 l.length cap, l⟩ : Im).cells = cs := hcs
  rw [hcs']
  refine does_of_run (args := [_]) Try.func18 rfl rfl ?_
  refine r_seq ?_
  refine r_region rfl ?_
  refine o_act rfl rfl rfl rfl (a_box rfl) ?_
  rintro v' H' ⟨s0, rfl, rfl⟩
  subst hcs
  refine j_heap (H' := .mem s0 [Value.int .u64 term, .int .i64 vote, .int .u64 ix, .int .u64 tm, .int .u64 vt, dv, .slice a0 l.length cap] 7 :: Fr) rfl ?_
  refine o_val rfl rfl rfl rfl (v_assign rfl) ?_
  refine o_end ?_
  refine r_seq ?_
  refine r_region rfl ?_
  refine o_val rfl rfl rfl rfl (v_assign rfl) ?_
  refine o_end ?_
  refine r_seq ?_
  refine r_join (fun bf : Bf => bf.ok (snB ix tm vt data).length) (fun bf => [(1, ptrV s0), (3, bf.val (snB ix tm vt data).length)]) (fun _ => F) (fun bf => .mem s0 [Value.int .u64 term, .int .i64 vote, .int .u64 ix, .int .u64 tm, .int .u64 vt, dv, .slice a0 l.length cap] 7 :: (bf.ents 1 (bytesV (snB ix tm vt data)) ++ Fr)) ?_ ?_
  · intro J
    refine r_seq ?_
    refine r_region rfl ?_
    refine o_val rfl rfl rfl rfl (v_field (k := 2) rfl rfl rfl) ?_
    refine o_val rfl rfl rfl rfl (v_field (k := 0) rfl rfl rfl) ?_
    refine o_val rfl rfl rfl rfl (v_load (v := .int .u64 ix) rfl rfl (cell_at (j := 0) rfl rfl)) ?_
    refine o_val rfl rfl rfl rfl (v_gtr rfl rfl) ?_
    have some_ : (0 < ix ∨ vt ≠ 0) → snB ix tm vt data = recB 3 (snapP ix tm vt data) := fun h => by simp only [snB, if_pos h]
    have none_ : ¬ (0 < ix ∨ vt ≠ 0) → snB ix tm vt data = [] := fun h => by simp only [snB, if_neg h]
    refine j_prop 7 rfl (fun g1 => ?_) (fun g1 => ?_)
    · have hh : 0 < ix ∨ vt ≠ 0 := .inl (by omega)
      refine o_val rfl rfl rfl rfl (v_move rfl) ?_
      refine o_skip rfl rfl rfl rfl ?_
      refine o_skip rfl rfl rfl rfl ?_
      refine o_skip rfl rfl rfl rfl ?_
      refine o_skip rfl rfl rfl rfl ?_
      refine o_val rfl rfl rfl rfl (v_pick1 rfl rfl) ?_
      refine o_end ?_
      refine r_true rfl ?_
      refine r_region rfl ?_
      refine o_val rfl rfl rfl rfl (v_field (k := 2) rfl rfl rfl) ?_
      refine o_val rfl rfl rfl rfl (v_loadAgg (sz := 4) (cs := [.int .u64 ix, .int .u64 tm, .int .u64 vt, dv]) rfl rfl rfl rfl (cells_of (j := 0) _ _ rfl rfl)) ?_
      refine o_call rfl rfl rfl rfl (c_call callable41 rfl) (wal_snap _ _ ix tm vt dv data _ hd (by omega)) ?_
      rintro v' F H' ⟨rfl, b1, ok1, rfl, rfl⟩ _
      refine o_call rfl rfl rfl rfl (c_call callable38 rfl) (wal_frame _ _ 3 _ (snapP ix tm vt data) _ (by decide) (bf_reads ok1 (by intro q hq; exact List.mem_append_left _ hq)) (by simp; omega)) ?_
      rintro v' F H' ⟨rfl, b2, ok2, rfl, rfl⟩ _
      rw [← some_ hh] at ok2 ⊢
      refine j_sel (H' := Ent.mem s0 [Value.int .u64 term, .int .i64 vote, .int .u64 ix, .int .u64 tm, .int .u64 vt, dv, .slice a0 l.length cap] 7 :: (b2.ents 1 (bytesV (snB ix tm vt data)) ++ (Fr))) [b2.ents 1 (bytesV (snB ix tm vt data)), b1.ents 1 (bytesV (snapP ix tm vt data)), [Ent.mem s0 [Value.int .u64 term, .int .i64 vote, .int .u64 ix, .int .u64 tm, .int .u64 vt, dv, .slice a0 l.length cap] 7], Fr] [2, 0, 3] rfl rfl rfl ?_
      refine o_val rfl rfl rfl rfl (v_assign rfl) ?_
      refine o_end ?_
      refine j_keep ?_ (J b2 ok2)
      exact ⟨rfl, rfl, trivial⟩
    · refine o_val rfl rfl rfl rfl (v_move rfl) ?_
      refine o_val rfl rfl rfl rfl (v_field (k := 2) rfl rfl rfl) ?_
      refine o_val rfl rfl rfl rfl (v_field (k := 2) rfl rfl rfl) ?_
      refine o_val rfl rfl rfl rfl (v_load (v := .int .u64 vt) rfl rfl (cell_at (j := 0) rfl rfl)) ?_
      refine o_val rfl rfl rfl rfl (v_neq rfl rfl) ?_
      refine o_val rfl rfl rfl rfl (v_pick0 rfl rfl) ?_
      refine o_end ?_
      refine j_prop 13 rfl (fun g2 => ?_) (fun g2 => ?_)
      · have hh : 0 < ix ∨ vt ≠ 0 := .inr (by omega)
        refine r_true rfl ?_
        refine r_region rfl ?_
        refine o_val rfl rfl rfl rfl (v_field (k := 2) rfl rfl rfl) ?_
        refine o_val rfl rfl rfl rfl (v_loadAgg (sz := 4) (cs := [.int .u64 ix, .int .u64 tm, .int .u64 vt, dv]) rfl rfl rfl rfl (cells_of (j := 0) _ _ rfl rfl)) ?_
        refine o_call rfl rfl rfl rfl (c_call callable41 rfl) (wal_snap _ _ ix tm vt dv data _ hd (by omega)) ?_
        rintro v' F H' ⟨rfl, b1, ok1, rfl, rfl⟩ _
        refine o_call rfl rfl rfl rfl (c_call callable38 rfl) (wal_frame _ _ 3 _ (snapP ix tm vt data) _ (by decide) (bf_reads ok1 (by intro q hq; exact List.mem_append_left _ hq)) (by simp; omega)) ?_
        rintro v' F H' ⟨rfl, b2, ok2, rfl, rfl⟩ _
        rw [← some_ hh] at ok2 ⊢
        refine j_sel (H' := Ent.mem s0 [Value.int .u64 term, .int .i64 vote, .int .u64 ix, .int .u64 tm, .int .u64 vt, dv, .slice a0 l.length cap] 7 :: (b2.ents 1 (bytesV (snB ix tm vt data)) ++ (Fr))) [b2.ents 1 (bytesV (snB ix tm vt data)), b1.ents 1 (bytesV (snapP ix tm vt data)), [Ent.mem s0 [Value.int .u64 term, .int .i64 vote, .int .u64 ix, .int .u64 tm, .int .u64 vt, dv, .slice a0 l.length cap] 7], Fr] [2, 0, 3] rfl rfl rfl ?_
        refine o_val rfl rfl rfl rfl (v_assign rfl) ?_
        refine o_end ?_
        refine j_keep ?_ (J b2 ok2)
        exact ⟨rfl, rfl, trivial⟩
      · have hh := none_ (by omega)
        refine r_false rfl ?_
        refine r_skip ?_
        refine j_keep ?_ (J .nil (by rw [hh]; rfl))
        exact ⟨rfl, by rw [hh]; rfl, trivial⟩
  · rintro bf hbf
    refine r_seq ?_
    refine r_region rfl ?_
    refine o_val rfl rfl rfl rfl (v_move rfl) ?_
    refine o_val rfl rfl rfl rfl (v_field (k := 0) rfl rfl rfl) ?_
    refine o_val rfl rfl rfl rfl (v_loadAgg (sz := 2) (cs := [.int .u64 term, .int .i64 vote]) rfl rfl rfl rfl (cells_of (j := 0) _ _ rfl rfl)) ?_
    refine o_val rfl rfl rfl rfl (v_field (k := 6) rfl rfl rfl) ?_
    refine o_val rfl rfl rfl rfl (v_load (v := .slice a0 l.length cap) rfl rfl (cell_at (j := 0) rfl rfl)) ?_
    refine o_val rfl rfl rfl rfl (v_build rfl rfl) ?_
    refine o_call rfl rfl rfl rfl (c_call callable17 rfl) (wal_Bytes _ _ true term vote (.slice a0 l.length cap) l _ (hv.frz (Fz.le_refl _)) hl hn q2 q3) ?_
    rintro v' F H' ⟨rfl, b2, ok2, rfl, rfl⟩ _
    refine j_sel (H' := bf.ents 1 (bytesV (snB ix tm vt data)) ++ (b2.ents 1 (bytesV (saveB true term vote (l.map En.pure))) ++ (Fr))) [b2.ents 1 (bytesV (saveB true term vote (l.map En.pure))), [Ent.mem s0 [Value.int .u64 term, .int .i64 vote, .int .u64 ix, .int .u64 tm, .int .u64 vt, dv, .slice a0 l.length cap] 7], bf.ents 1 (bytesV (snB ix tm vt data)), Fr] [2, 0, 3] rfl rfl rfl ?_
    have r2 : SlB F (b2.ents 1 (bytesV (saveB true term vote (l.map En.pure))) ++ Fr) (b2.val (saveB true term vote (l.map En.pure)).length) (saveB true term vote (l.map En.pure)) := bf_reads ok2 (by intro q hq; exact List.mem_append_left _ hq)
    refine o_act rfl rfl rfl rfl (a_append (bf := bf) (sz := 1) (bytes := 1) (m := (saveB true term vote (l.map En.pure)).length) ⟨⟨_, _, _, rfl, rfl, rfl, rfl, rfl, rfl⟩, by decide⟩ rfl hbf (by simp) rfl rfl (r2.mono (Fz.le_refl _) (by intro q hq; exact List.mem_append_right _ hq)) (bytes_one _) (by unfold maxLen; omega) (by omega)) ?_
    rintro v' H' ⟨b3, rfl, ok3, rfl⟩
    rw [← List.length_append] at ok3 ⊢
    rw [← bytesV_append]
    refine j_sel (H' := b3.ents 1 (bytesV (snB ix tm vt data ++ saveB true term vote (l.map En.pure))) ++ (Fr)) [b3.ents 1 (bytesV (snB ix tm vt data ++ saveB true term vote (l.map En.pure))), b2.ents 1 (bytesV (saveB true term vote (l.map En.pure))), Fr] [0, 2] rfl rfl rfl ?_
    refine o_val rfl rfl rfl rfl (v_assign rfl) ?_
    refine o_end ?_
    exact r_ret1 Try.func18 rfl rfl ⟨⟨rfl, b3, ok3, rfl, rfl⟩, Fz.le_refl _⟩
end Go.SX
