/-
  Contracts of package frame (and of its reference): frames, and a message's.
-/
import Derived.Test.YtdmpnpcpnhcioaaOct3
import Derived.Test.YtdmpnpcpnhcioaaSxApp
import Derived.Test.YtdmpnpcpnhcioaaSxRows
namespace Go.SX
open Go Go.Proofs
set_option maxRecDepth 4000
set_option linter.unusedSimpArgs false
set_option linter.unusedVariables false

/-- What a frame tells, ahead of the noughts. -/
def hdB (id at_ of_ : Nat) (p : List UInt8) : List UInt8 := leB 1 1 ++ leB 8 id ++ leB 2 at_ ++ leB 2 of_ ++ leB 2 p.length ++ p
@[simp] theorem hdB_length (id at_ of_ : Nat) (p : List UInt8) : (hdB id at_ of_ p).length = 15 + p.length := by simp [hdB]; omega
def frBody (n id at_ of_ : Nat) (p : List UInt8) : List UInt8 := hdB id at_ of_ p ++ List.replicate (n - 19 - p.length) 0
def frB (n id at_ of_ : Nat) (p : List UInt8) : List UInt8 := sealB (frBody n id at_ of_ p)
theorem frBody_length {n id at_ of_ : Nat} {p : List UInt8} (h : p.length + 19 ≤ n) : (frBody n id at_ of_ p).length = n - 4 := by simp [frBody]; omega
theorem frB_length {n id at_ of_ : Nat} {p : List UInt8} (h : p.length + 19 ≤ n) : (frB n id at_ of_ p).length = n := by rw [frB, sealB_length, frBody_length h]; omega
def dumB (n : Nat) : List UInt8 := sealB (List.replicate (n - 4) 0)
theorem zeros_bytes (m : Nat) : zeros [byteV 0] m = bytesV (List.replicate m 0) := by rw [zeros_one]; simp [bytesV]
def partsN (n p : Nat) : Nat := max 1 ((p + (n - 19) - 1) / (n - 19))
theorem byteZ (P : Program) : True := trivial

theorem fr_Room (O : World) (F : Fz) (n : Nat) (Fr : List Ent) (h1 : 19 ≤ n) (h2 : n ≤ 4096) : Does Try.prog O 14 #[.int .i64 n] F Fr (fun r F' H' => r = .int .i64 (n - 19 : Nat) ∧ F' = F ∧ H' = Fr) := by
  refine does_of_run (args := [_]) Try.func14 rfl rfl ?_
  refine r_seq ?_
  refine r_region rfl ?_
  refine o_val rfl rfl rfl rfl (v_assign rfl) ?_
  refine o_end ?_
  refine r_seq ?_
  refine r_region rfl ?_
  refine o_val rfl rfl rfl rfl (v_move rfl) ?_
  refine o_val rfl rfl rfl rfl (v_sub rfl rfl (r := ((n - 15 : Nat) : Int)) ((wrap_i64 (by omega) (by omega)).trans (by omega))) ?_
  refine o_val rfl rfl rfl rfl (v_sub rfl rfl (r := ((n - 19 : Nat) : Int)) ((wrap_i64 (by omega) (by omega)).trans (by omega))) ?_
  refine o_val rfl rfl rfl rfl (v_assign rfl) ?_
  refine o_end ?_
  exact r_ret1 Try.func14 rfl rfl ⟨⟨rfl, rfl, rfl⟩, Fz.le_refl _⟩
theorem quo_nat {a b : Nat} (hb : 0 < b) (ha : a ≤ 9223372036854775807) : IntKind.i64.wrap ((a : Int).tdiv (b : Int)) = ((a / b : Nat) : Int) := by
  have h : (a : Int).tdiv (b : Int) = ((a / b : Nat) : Int) := rfl
  rw [h]
  have := Nat.div_le_self a b
  generalize a / b = q at *
  exact wrap_i64 (by omega) (by omega)
theorem fr_Parts (O : World) (F : Fz) (n p : Nat) (Fr : List Ent) (h1 : 64 ≤ n) (h2 : n ≤ 4096) (hp : p ≤ 140737488355328) : Does Try.prog O 13 #[.int .i64 n, .int .i64 p] F Fr (fun r F' H' => r = .int .i64 (partsN n p) ∧ F' = F ∧ H' = Fr) := by
  refine does_of_run (args := [_, _]) Try.func13 rfl rfl ?_
  refine r_seq ?_
  refine r_region rfl ?_
  refine o_val rfl rfl rfl rfl (v_assign rfl) ?_
  refine o_end ?_
  refine r_seq ?_
  refine r_region rfl ?_
  refine o_val rfl rfl rfl rfl (v_move rfl) ?_
  refine o_val rfl rfl rfl rfl (v_move rfl) ?_
  refine o_call rfl rfl rfl rfl (c_call callable14 rfl) (fr_Room _ _ n _ (by omega) h2) ?_
  rintro v' F H' ⟨rfl, rfl, rfl⟩ _
  refine o_val rfl rfl rfl rfl (v_add rfl rfl (r := ((p + (n - 19) : Nat) : Int)) (wrap_i64 (by omega) (by omega))) ?_
  refine o_val rfl rfl rfl rfl (v_sub rfl rfl (r := ((p + (n - 19) - 1 : Nat) : Int)) ((wrap_i64 (by omega) (by omega)).trans (by omega))) ?_
  refine o_val rfl rfl rfl rfl (v_move rfl) ?_
  refine o_call rfl rfl rfl rfl (c_call callable14 rfl) (fr_Room _ _ n _ (by omega) h2) ?_
  rintro v' F H' ⟨rfl, rfl, rfl⟩ _
  refine o_val rfl rfl rfl rfl (v_quo rfl rfl (by omega) (quo_nat (by omega) (by omega))) ?_
  refine o_val rfl rfl rfl rfl (v_max rfl rfl) ?_
  refine o_val rfl rfl rfl rfl (v_assign rfl) ?_
  refine o_end ?_
  have he : (if (((p + (n - 19) - 1) / (n - 19) : Nat) : Int) > 1 then (((p + (n - 19) - 1) / (n - 19) : Nat) : Int) else 1) = ((partsN n p : Nat) : Int) := by
    unfold partsN
    split <;> omega
  rw [he]
  exact r_ret1 Try.func13 rfl rfl ⟨⟨rfl, rfl, rfl⟩, Fz.le_refl _⟩

theorem fr_part (O : World) (F : Fz) (n id at_ of_ : Nat) (v : Value) (p : List UInt8) (Fr : List Ent) (hv : SlB F Fr v p) (hn : p.length + 19 ≤ n) (hn2 : n ≤ 4096) (hat : at_ < 1000000) (hof : of_ < 1000000) :
    Does Try.prog O 21 #[.int .i64 n, .int .u64 id, .int .i64 at_, .int .i64 of_, v] F Fr (fun r F' H' => F' = F ∧ ∃ bf : Bf, bf.ok (frB n id at_ of_ p).length ∧ r = bf.val (frB n id at_ of_ p).length ∧ H' = bf.ents 1 (bytesV (frB n id at_ of_ p)) ++ Fr) := by
  obtain ⟨a0, cap, rfl, hcap⟩ := Sl.shape hv
  refine does_of_run (args := [_, _, _, _, _]) Try.func21 rfl rfl ?_
  refine r_seq ?_
  refine r_region rfl ?_
  refine o_val rfl rfl rfl rfl (v_assign rfl) ?_
  refine o_end ?_
  refine r_seq ?_
  refine r_region rfl ?_
  refine o_val rfl rfl rfl rfl (v_build rfl rfl) ?_
  refine o_act rfl rfl rfl rfl (a_box rfl) ?_
  rintro v' H' ⟨a, rfl, rfl⟩
  refine j_heap (H' := .mem a [Bf.nil.val ([] : List UInt8).length] 1 :: (Bf.nil.ents 1 (bytesV []) ++ Fr)) rfl ?_
  refine o_val rfl rfl rfl rfl (v_assign rfl) ?_
  refine o_end ?_
  refine r_seq ?_
  refine r_region rfl ?_
  refine o_val rfl rfl rfl rfl (v_move rfl) ?_
  refine o_call rfl rfl rfl rfl (c_call callable39 rfl) (oct_Num _ _ a .nil [] 1 1 _ rfl (by omega) (by simp)) ?_
  rintro v' F H' ⟨rfl, rfl, b1, ok1, rfl⟩ _
  refine o_val rfl rfl rfl rfl (v_move rfl) ?_
  refine o_call rfl rfl rfl rfl (c_call callable39 rfl) (oct_Num _ _ a b1 _ id 8 _ ok1 (by omega) (by simp)) ?_
  rintro v' F H' ⟨rfl, rfl, b2, ok2, rfl⟩ _
  refine o_val rfl rfl rfl rfl (v_move rfl) ?_
  refine o_val rfl rfl rfl rfl (v_conv rfl rfl rfl (wrap_u64 (by omega) (by omega))) ?_
  refine o_call rfl rfl rfl rfl (c_call callable39 rfl) (oct_Num _ _ a b2 _ at_ 2 _ ok2 (by omega) (by simp)) ?_
  rintro v' F H' ⟨rfl, rfl, b3, ok3, rfl⟩ _
  refine o_val rfl rfl rfl rfl (v_move rfl) ?_
  refine o_val rfl rfl rfl rfl (v_conv rfl rfl rfl (wrap_u64 (by omega) (by omega))) ?_
  refine o_call rfl rfl rfl rfl (c_call callable39 rfl) (oct_Num _ _ a b3 _ of_ 2 _ ok3 (by omega) (by simp)) ?_
  rintro v' F H' ⟨rfl, rfl, b4, ok4, rfl⟩ _
  refine o_val rfl rfl rfl rfl (v_move rfl) ?_
  refine o_val rfl rfl rfl rfl (v_len rfl rfl) ?_
  refine o_val rfl rfl rfl rfl (v_conv rfl rfl rfl (wrap_u64 (by omega) (by omega))) ?_
  refine o_call rfl rfl rfl rfl (c_call callable39 rfl) (oct_Num _ _ a b4 _ p.length 2 _ ok4 (by omega) (by simp)) ?_
  rintro v' F H' ⟨rfl, rfl, b5, ok5, rfl⟩ _
  refine o_end ?_
  refine r_seq ?_
  refine r_region rfl ?_
  refine o_val rfl rfl rfl rfl (v_move rfl) ?_
  refine o_call rfl rfl rfl rfl (c_call callable40 rfl) (oct_Done _ _ _ _ _) ?_
  rintro v' F H' ⟨rfl, rfl, rfl⟩ _
  refine o_val rfl rfl rfl rfl (v_move rfl) ?_
  simp only [List.nil_append] at ok5 ⊢
  refine o_act rfl rfl rfl rfl (a_appendP (bf := b5) (sz := 1) (bytes := 1) (m := p.length) [_] ⟨⟨_, _, _, rfl, rfl, rfl, rfl, rfl, rfl⟩, by decide⟩ rfl ok5 (by simp) rfl rfl (hv.mono (Fz.le_refl _) (by intro q hq; simp [hq])) (bytes_one p) (by unfold maxLen; simp; omega) (by simp; omega)) ?_
  rintro v' H' ⟨b6, rfl, ok6, rfl⟩
  rw [← bytesV_append]
  have e6 : leB 1 1 ++ leB 8 id ++ leB 2 at_ ++ leB 2 of_ ++ leB 2 p.length ++ p = hdB id at_ of_ p := rfl
  have e7 : (leB 1 1 ++ leB 8 id ++ leB 2 at_ ++ leB 2 of_ ++ leB 2 p.length).length + p.length = 15 + p.length := by simp
  rw [e7] at ok6 ⊢
  rw [e6]
  refine j_drop (H' := b6.ents 1 (bytesV (hdB id at_ of_ p)) ++ Fr) (List.sublist_cons_self _ _) ?_
  refine o_val rfl rfl rfl rfl (v_assign rfl) ?_
  refine o_end ?_
  refine r_seq ?_
  refine r_region rfl ?_
  refine o_val rfl rfl rfl rfl (v_move rfl) ?_
  refine o_val rfl rfl rfl rfl (v_move rfl) ?_
  refine o_val rfl rfl rfl rfl (v_sub rfl rfl (r := ((n - 4 : Nat) : Int)) ((wrap_i64 (by omega) (by omega)).trans (by omega))) ?_
  refine o_val rfl rfl rfl rfl (v_move rfl) ?_
  refine o_val rfl rfl rfl rfl (v_len rfl rfl) ?_
  refine o_val rfl rfl rfl rfl (v_sub rfl rfl (r := ((n - 19 - p.length : Nat) : Int)) ((wrap_i64 (by omega) (by omega)).trans (by omega))) ?_
  refine o_act rfl rfl rfl rfl (a_appendZ [] (bf := b6) (n := 15 + p.length) (m := n - 19 - p.length) (zc := [byteV 0]) (bytes := 1) ⟨⟨_, _, _, rfl, rfl, rfl, rfl, rfl, rfl⟩, by decide⟩ rfl rfl ok6 (by simp) rfl rfl rfl rfl (by omega) (by omega)) ?_
  rintro v' H' ⟨b7, rfl, ok7, rfl⟩
  rw [zeros_bytes, ← bytesV_append]
  have e8 : hdB id at_ of_ p ++ List.replicate (n - 19 - p.length) 0 = frBody n id at_ of_ p := rfl
  have e9 : 15 + p.length + (n - 19 - p.length) = (frBody n id at_ of_ p).length := by rw [frBody_length hn]; omega
  rw [e9] at ok7 ⊢
  rw [e8]
  refine j_heap (H' := b7.ents 1 (bytesV (frBody n id at_ of_ p)) ++ Fr) rfl ?_
  refine o_call rfl rfl rfl rfl (c_call callable23 rfl) (oct_Seal _ _ _ (frBody n id at_ of_ p) _ (Bf.reads (bf := b7) (sz := 1) ok7 (by simp) (by intro q hq; exact List.mem_append_left _ hq)) (by rw [frBody_length hn]; omega)) ?_
  rintro v' F H' ⟨rfl, b8, ok8, rfl, rfl⟩ _
  refine j_sel (H' := b8.ents 1 (bytesV (frB n id at_ of_ p)) ++ (Fr)) [b8.ents 1 (bytesV (frB n id at_ of_ p)), b7.ents 1 (bytesV (frBody n id at_ of_ p)), Fr] [0, 2] rfl rfl rfl ?_
  refine o_val rfl rfl rfl rfl (v_assign rfl) ?_
  refine o_end ?_
  exact r_ret1 Try.func21 rfl rfl ⟨⟨rfl, b8, ok8, rfl, rfl⟩, Fz.le_refl _⟩

theorem ref_Frame (O : World) (F : Fz) (n id at_ of_ : Nat) (v : Value) (p : List UInt8) (Fr : List Ent) (hv : SlB F Fr v p) (hn : p.length + 19 ≤ n) (hn2 : n ≤ 4096) (hat : at_ < 1000000) (hof : of_ < 1000000) :
    Does Try.prog O 22 #[.int .i64 n, .int .u64 id, .int .i64 at_, .int .i64 of_, v] F Fr (fun r F' H' => F' = F ∧ ∃ bf : Bf, bf.ok (frB n id at_ of_ p).length ∧ r = bf.val (frB n id at_ of_ p).length ∧ H' = bf.ents 1 (bytesV (frB n id at_ of_ p)) ++ Fr) := by
  obtain ⟨a0, cap, rfl, hcap⟩ := Sl.shape hv
  refine does_of_run (args := [_, _, _, _, _]) Try.func22 rfl rfl ?_
  have rd : ∀ (b : Bf) (l : List UInt8), b.ok l.length → SlB F (b.ents 1 (bytesV l) ++ Fr) (b.val l.length) l := fun b l h => Bf.reads (bf := b) (sz := 1) h (by simp) (by intro q hq; exact List.mem_append_left _ hq)
  refine r_seq ?_
  refine r_region rfl ?_
  refine o_val rfl rfl rfl rfl (v_assign rfl) ?_
  refine o_end ?_
  refine r_seq ?_
  refine r_region rfl ?_
  refine o_call rfl rfl rfl rfl (c_call callable41 rfl) (ref_Num _ _ _ [] 1 1 _ (Sl.nil _ _ _) (by omega) (by simp)) ?_
  rintro v' F H' ⟨rfl, b1, ok1, rfl, rfl⟩ _
  refine o_val rfl rfl rfl rfl (v_assign rfl) ?_
  refine o_end ?_
  refine r_seq ?_
  refine r_region rfl ?_
  refine o_val rfl rfl rfl rfl (v_move rfl) ?_
  refine o_val rfl rfl rfl rfl (v_move rfl) ?_
  refine o_call rfl rfl rfl rfl (c_call callable41 rfl) (ref_Num _ _ _ _ id 8 _ (rd b1 _ ok1) (by omega) (by simp)) ?_
  rintro v' F H' ⟨rfl, b2, ok2, rfl, rfl⟩ _
  refine j_sel (H' := b2.ents 1 (bytesV (([] ++ leB 1 1) ++ leB 8 id)) ++ (Fr)) [b2.ents 1 (bytesV (([] ++ leB 1 1) ++ leB 8 id)), b1.ents 1 (bytesV ([] ++ leB 1 1)), Fr] [0, 2] rfl rfl rfl ?_
  refine o_val rfl rfl rfl rfl (v_assign rfl) ?_
  refine o_end ?_
  refine r_seq ?_
  refine r_region rfl ?_
  refine o_val rfl rfl rfl rfl (v_move rfl) ?_
  refine o_val rfl rfl rfl rfl (v_move rfl) ?_
  refine o_val rfl rfl rfl rfl (v_conv rfl rfl rfl (wrap_u64 (by omega) (by omega))) ?_
  refine o_call rfl rfl rfl rfl (c_call callable41 rfl) (ref_Num _ _ _ _ at_ 2 _ (rd b2 _ ok2) (by omega) (by simp)) ?_
  rintro v' F H' ⟨rfl, b3, ok3, rfl, rfl⟩ _
  refine j_sel (H' := b3.ents 1 (bytesV (([] ++ leB 1 1) ++ leB 8 id ++ leB 2 at_)) ++ (Fr)) [b3.ents 1 (bytesV (([] ++ leB 1 1) ++ leB 8 id ++ leB 2 at_)), b2.ents 1 (bytesV (([] ++ leB 1 1) ++ leB 8 id)), Fr] [0, 2] rfl rfl rfl ?_
  refine o_val rfl rfl rfl rfl (v_assign rfl) ?_
  refine o_end ?_
  refine r_seq ?_
  refine r_region rfl ?_
  refine o_val rfl rfl rfl rfl (v_move rfl) ?_
  refine o_val rfl rfl rfl rfl (v_move rfl) ?_
  refine o_val rfl rfl rfl rfl (v_conv rfl rfl rfl (wrap_u64 (by omega) (by omega))) ?_
  refine o_call rfl rfl rfl rfl (c_call callable41 rfl) (ref_Num _ _ _ _ of_ 2 _ (rd b3 _ ok3) (by omega) (by simp)) ?_
  rintro v' F H' ⟨rfl, b4, ok4, rfl, rfl⟩ _
  refine j_sel (H' := b4.ents 1 (bytesV (([] ++ leB 1 1) ++ leB 8 id ++ leB 2 at_ ++ leB 2 of_)) ++ (Fr)) [b4.ents 1 (bytesV (([] ++ leB 1 1) ++ leB 8 id ++ leB 2 at_ ++ leB 2 of_)), b3.ents 1 (bytesV (([] ++ leB 1 1) ++ leB 8 id ++ leB 2 at_)), Fr] [0, 2] rfl rfl rfl ?_
  refine o_val rfl rfl rfl rfl (v_assign rfl) ?_
  refine o_end ?_
  refine r_seq ?_
  refine r_region rfl ?_
  refine o_val rfl rfl rfl rfl (v_move rfl) ?_
  refine o_val rfl rfl rfl rfl (v_move rfl) ?_
  refine o_val rfl rfl rfl rfl (v_len rfl rfl) ?_
  refine o_val rfl rfl rfl rfl (v_conv rfl rfl rfl (wrap_u64 (by omega) (by omega))) ?_
  refine o_call rfl rfl rfl rfl (c_call callable41 rfl) (ref_Num _ _ _ _ p.length 2 _ (rd b4 _ ok4) (by omega) (by simp)) ?_
  rintro v' F H' ⟨rfl, b5, ok5, rfl, rfl⟩ _
  refine j_sel (H' := b5.ents 1 (bytesV (([] ++ leB 1 1) ++ leB 8 id ++ leB 2 at_ ++ leB 2 of_ ++ leB 2 p.length)) ++ (Fr)) [b5.ents 1 (bytesV (([] ++ leB 1 1) ++ leB 8 id ++ leB 2 at_ ++ leB 2 of_ ++ leB 2 p.length)), b4.ents 1 (bytesV (([] ++ leB 1 1) ++ leB 8 id ++ leB 2 at_ ++ leB 2 of_)), Fr] [0, 2] rfl rfl rfl ?_
  refine o_val rfl rfl rfl rfl (v_assign rfl) ?_
  refine o_end ?_
  refine r_seq ?_
  refine r_region rfl ?_
  refine o_val rfl rfl rfl rfl (v_move rfl) ?_
  refine o_val rfl rfl rfl rfl (v_move rfl) ?_
  simp only [List.nil_append] at ok5 ⊢
  refine o_act rfl rfl rfl rfl (a_append (bf := b5) (sz := 1) (bytes := 1) (m := p.length) ⟨⟨_, _, _, rfl, rfl, rfl, rfl, rfl, rfl⟩, by decide⟩ rfl ok5 (by simp) rfl rfl (hv.mono (Fz.le_refl _) (by intro q hq; simp [hq])) (bytes_one p) (by unfold maxLen; simp; omega) (by simp; omega)) ?_
  rintro v' H' ⟨b6, rfl, ok6, rfl⟩
  rw [← bytesV_append]
  have e6 : leB 1 1 ++ leB 8 id ++ leB 2 at_ ++ leB 2 of_ ++ leB 2 p.length ++ p = hdB id at_ of_ p := rfl
  have e7 : (leB 1 1 ++ leB 8 id ++ leB 2 at_ ++ leB 2 of_ ++ leB 2 p.length).length + p.length = 15 + p.length := by simp
  rw [e7] at ok6 ⊢
  rw [e6]
  have hjn : ∀ j, (hdB id at_ of_ p ++ List.replicate j 0).length = 15 + p.length + j := fun j => by simp
  refine o_val rfl rfl rfl rfl (v_assign rfl) ?_
  refine o_end ?_
  refine r_seq ?_
  refine r_block ?_
  refine r_loop (fun g : Nat × Bf => 15 + p.length + g.1 ≤ n - 4 ∧ g.2.ok (15 + p.length + g.1)) (fun g => [(0, .int .i64 n), (11, g.2.val (15 + p.length + g.1))]) (fun _ => F) (fun g => g.2.ents 1 (bytesV (hdB id at_ of_ p ++ List.replicate g.1 0)) ++ Fr) (fun g => n - g.1) (0, b6) ⟨by dsimp only; omega, ok6⟩ ⟨rfl, rfl, trivial⟩ rfl (by simp) ?_
  rintro ⟨j, b7⟩ ⟨hj, ok7⟩ IH
  dsimp only at hj ok7 ⊢
  refine r_seq ?_
  refine r_seq ?_
  refine r_region rfl ?_
  refine o_val rfl rfl rfl rfl (v_move rfl) ?_
  refine o_val rfl rfl rfl rfl (v_len rfl rfl) ?_
  refine o_val rfl rfl rfl rfl (v_move rfl) ?_
  refine o_val rfl rfl rfl rfl (v_sub rfl rfl (r := ((n - 4 : Nat) : Int)) ((wrap_i64 (by omega) (by omega)).trans (by omega))) ?_
  refine o_val rfl rfl rfl rfl (v_lss rfl rfl) ?_
  refine o_end ?_
  refine r_if rfl (fun h => ?_) (fun h => ?_)
  · refine r_skip ?_
    refine r_block ?_
    refine r_region rfl ?_
    refine o_val rfl rfl rfl rfl (v_move rfl) ?_
    refine o_act rfl rfl rfl rfl (a_buildS (sz := 1) (cs := [byteV 0]) [.const (.int .u8 0)] rfl rfl rfl rfl rfl rfl rfl rfl rfl rfl) ?_
    rintro v' H' ⟨y, rfl, rfl⟩
    refine o_act rfl rfl rfl rfl (a_appendP (bf := b7) (n := 15 + p.length + j) (m := 1) (ys := [byteV 0]) (sz := 1) (bytes := 1) [_] ⟨⟨_, _, _, rfl, rfl, rfl, rfl, rfl, rfl⟩, by decide⟩ rfl ok7 (by simp) rfl rfl ⟨_, 1, rfl, rfl, by simp, by simp, fun j c hj => ⟨y, 0, rfl, cell_at (j := 0) rfl (by simpa using hj)⟩⟩ rfl (by unfold maxLen; omega) (by omega)) ?_
    rintro v' H' ⟨b8, rfl, ok8, rfl⟩
    have e8 : bytesV (hdB id at_ of_ p ++ List.replicate j 0) ++ [byteV 0] = bytesV (hdB id at_ of_ p ++ List.replicate (j + 1) 0) := by
      rw [List.replicate_succ', ← List.append_assoc, bytesV_append (hdB id at_ of_ p ++ List.replicate j 0)]
      rfl
    rw [e8]
    refine j_drop (List.sublist_cons_self _ _) ?_
    refine o_val rfl rfl rfl rfl (v_assign rfl) ?_
    refine o_end ?_
    refine r_inBlock ?_
    refine j_keep ?_ (IH (j + 1, b8) ⟨by dsimp only; omega, ok8⟩ (by dsimp only; omega))
    exact ⟨rfl, rfl, trivial⟩
  · obtain rfl : j = n - 19 - p.length := by omega
    have e8 : hdB id at_ of_ p ++ List.replicate (n - 19 - p.length) 0 = frBody n id at_ of_ p := rfl
    have e9 : 15 + p.length + (n - 19 - p.length) = (frBody n id at_ of_ p).length := by rw [frBody_length hn]; omega
    rw [e9] at ok7 ⊢
    rw [e8]
    clear IH
    refine r_exit rfl ?_
    refine r_seq ?_
    refine r_region rfl ?_
    refine o_val rfl rfl rfl rfl (v_move rfl) ?_
    refine o_call rfl rfl rfl rfl (c_call callable24 rfl) (ref_Seal _ _ _ (frBody n id at_ of_ p) _ (rd b7 _ ok7) (by rw [frBody_length hn]; omega)) ?_
    rintro v' F H' ⟨rfl, b8, ok8, rfl, rfl⟩ _
    refine j_sel (H' := b8.ents 1 (bytesV (frB n id at_ of_ p)) ++ (Fr)) [b8.ents 1 (bytesV (frB n id at_ of_ p)), b7.ents 1 (bytesV (frBody n id at_ of_ p)), Fr] [0, 2] rfl rfl rfl ?_
    refine o_val rfl rfl rfl rfl (v_assign rfl) ?_
    refine o_end ?_
    exact r_ret1 Try.func22 rfl rfl ⟨⟨rfl, b8, ok8, rfl, rfl⟩, Fz.le_refl _⟩
end Go.SX
