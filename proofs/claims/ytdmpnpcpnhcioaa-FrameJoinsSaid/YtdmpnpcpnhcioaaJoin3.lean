/-
  Contracts of the reference's joiner: numbers out of a frame.
-/
import Derived.Test.YtdmpnpcpnhcioaaJoin2
namespace Go.SX
open Go Go.Proofs
set_option maxRecDepth 4000
set_option linter.unusedSimpArgs false
set_option linter.unusedVariables false

theorem u64_shl8 (x : Nat) (h : x < 72057594037927936) : IntKind.u64.wrap ((x : Int) * 2 ^ (min (8 : Int).toNat IntKind.u64.bits)) = ((x * 256 : Nat) : Int) := by
  have h1 : min (8 : Int).toNat IntKind.u64.bits = 8 := by decide
  rw [h1]
  have h2 : (x : Int) * 2 ^ 8 = ((x * 256 : Nat) : Int) := by omega
  rw [h2]
  exact wrap_u64 (by omega) (by omega)
theorem u64_orLow (x b : Nat) (hx : x < 72057594037927936) (hb : b < 256) : bitOp .or .u64 ((x * 256 : Nat) : Int) (b : Int) = ((b + 256 * x : Nat) : Int) := by
  show IntKind.u64.wrap ((BitVec.ofInt 64 ((x * 256 : Nat) : Int) ||| BitVec.ofInt 64 (b : Int)).toNat : Int) = _
  rw [BitVec.toNat_or, BitVec.ofInt_natCast, BitVec.ofInt_natCast, BitVec.toNat_ofNat, BitVec.toNat_ofNat, Nat.mod_eq_of_lt (by omega), Nat.mod_eq_of_lt (by omega)]
  have h7 : x * 256 ||| b = b + 256 * x := by
    have := Nat.two_pow_add_eq_or_of_lt (i := 8) (show b < 2 ^ 8 by omega) x
    rw [Nat.mul_comm x 256]
    have h9 : (2 : Nat) ^ 8 = 256 := by decide
    rw [h9] at this
    omega
  rw [h7]
  exact wrap_u64 (by omega) (by omega)

theorem ref_num (O : World) (F : Fz) (v : Value) (l : List UInt8) (at_ n : Nat) (H : List Ent) (hv : SlB F H v l) (hn : n ≤ 8) (ha : at_ + n ≤ l.length) (hl : l.length ≤ 140737488355328) :
    Does Try.prog O 48 #[v, .int .i64 at_, .int .i64 n] F H (fun r F' H' => r = .int .u64 (leN ((l.drop at_).take n)) ∧ F' = F ∧ H' = H) := by
  obtain ⟨a0, cap, rfl, hcap⟩ := Sl.shape hv
  refine does_of_run (args := [_, _, _]) Try.func48 rfl rfl ?_
  refine r_seq ?_
  refine r_region rfl ?_
  refine o_val rfl rfl rfl rfl (v_assign rfl) ?_
  refine o_end ?_
  refine r_seq ?_
  refine r_region rfl ?_
  refine o_val rfl rfl rfl rfl (v_assign rfl) ?_
  refine o_end ?_
  refine r_seq ?_
  refine r_seq ?_
  refine r_region rfl ?_
  refine o_val rfl rfl rfl rfl (v_move rfl) ?_
  refine o_val rfl rfl rfl rfl (v_sub rfl rfl (r := (n : Int) - 1) (wrap_i64 (by omega) (by omega))) ?_
  refine o_val rfl rfl rfl rfl (v_assign rfl) ?_
  refine o_end ?_
  refine r_block ?_
  refine r_loop (fun k : Nat => k ≤ n) (fun k => [(0, .slice a0 l.length cap), (1, .int .i64 at_), (7, .int .u64 (leN ((l.drop (at_ + (n - k))).take k))), (8, .int .i64 ((n : Int) - 1 - k))]) (fun _ => F) (fun _ => H) (fun k => n - k) 0 (Nat.zero_le _) ⟨rfl, rfl, rfl, by simp; rfl, trivial⟩ rfl rfl ?_
  intro k hk IH
  have hlt := leN_lt ((l.drop (at_ + (n - k))).take k)
  have hlen : ((l.drop (at_ + (n - k))).take k).length = k := by simp; omega
  rw [hlen] at hlt
  refine r_seq ?_
  refine r_seq ?_
  refine r_region rfl ?_
  refine o_val rfl rfl rfl rfl (v_move rfl) ?_
  refine o_val rfl rfl rfl rfl (v_geq rfl rfl) ?_
  refine o_end ?_
  refine r_if rfl (fun h => ?_) (fun h => ?_)
  · have hkn : k < n := by omega
    have hil : at_ + (n - k - 1) < l.length := by omega
    have hx : leN ((l.drop (at_ + (n - k))).take k) < 72057594037927936 := by
      have : (256 : Nat) ^ k ≤ 256 ^ 7 := Nat.pow_le_pow_right (by decide) (by omega)
      have h9 : (256 : Nat) ^ 7 = 72057594037927936 := by decide
      omega
    have hs : leN ((l.drop (at_ + (n - (k + 1)))).take (k + 1)) = l[at_ + (n - k - 1)].toNat + 256 * leN ((l.drop (at_ + (n - k))).take k) := by
      have e1 : at_ + (n - (k + 1)) = at_ + (n - k - 1) := by omega
      have e2 : at_ + (n - k - 1) + 1 = at_ + (n - k) := by omega
      rw [e1, List.drop_eq_getElem_cons hil, List.take_succ_cons, e2]
      rfl
    obtain ⟨b, off, cap', hab, _, hcell⟩ := Sl.view hv (by omega)
    simp only [Value.slice.injEq] at hab
    obtain ⟨rfl, _, rfl⟩ := hab
    have hb := l[at_ + (n - k - 1)].toNat_lt
    have hc := hcell (at_ + (n - k - 1)) (byteV l[at_ + (n - k - 1)]) (by rw [bytesV_get, List.getElem?_eq_getElem hil]; rfl)
    generalize leN ((l.drop (at_ + (n - k))).take k) = x at *
    refine r_skip ?_
    refine r_seq ?_
    refine r_block ?_
    refine r_region rfl ?_
    refine o_val rfl rfl rfl rfl (v_move rfl) ?_
    refine o_val rfl rfl rfl rfl (v_shl rfl rfl (by decide) (u64_shl8 x hx)) ?_
    refine o_val rfl rfl rfl rfl (v_move rfl) ?_
    refine o_val rfl rfl rfl rfl (v_move rfl) ?_
    refine o_val rfl rfl rfl rfl (v_move rfl) ?_
    refine o_val rfl rfl rfl rfl (v_add rfl rfl (r := ((at_ + (n - k - 1) : Nat) : Int)) ((wrap_i64 (by omega) (by omega)).trans (by omega))) ?_
    refine o_val rfl rfl rfl rfl (v_index1 rfl rfl rfl rfl hil) ?_
    refine o_val rfl rfl rfl rfl (v_load (v := byteV l[at_ + (n - k - 1)]) rfl rfl hc) ?_
    refine o_val rfl rfl rfl rfl (v_conv rfl rfl rfl (wrap_u64 (by omega) (by omega))) ?_
    refine o_val rfl rfl rfl rfl (v_or rfl rfl (u64_orLow x _ hx (by omega))) ?_
    refine o_val rfl rfl rfl rfl (v_assign rfl) ?_
    refine o_end ?_
    refine r_inBlock ?_
    refine r_region rfl ?_
    refine o_val rfl rfl rfl rfl (v_move rfl) ?_
    refine o_val rfl rfl rfl rfl (v_sub rfl rfl (r := (n : Int) - 1 - (k + 1 : Nat)) ((wrap_i64 (by omega) (by omega)).trans (by omega))) ?_
    refine o_val rfl rfl rfl rfl (v_assign rfl) ?_
    refine o_end ?_
    refine j_keep ?_ (IH (k + 1) (by omega) (by omega))
    exact ⟨rfl, rfl, by rw [hs]; rfl, rfl, trivial⟩
  · obtain rfl : k = n := by omega
    rw [Nat.sub_self, Nat.add_zero]
    refine r_exit rfl ?_
    refine r_seq ?_
    refine r_region rfl ?_
    refine o_val rfl rfl rfl rfl (v_move rfl) ?_
    refine o_val rfl rfl rfl rfl (v_assign rfl) ?_
    refine o_end ?_
    exact r_ret1 Try.func48 rfl rfl ⟨⟨rfl, rfl, rfl⟩, Fz.le_refl _⟩

theorem hdB_at (id at_ of_ : Nat) (p : List UInt8) (z : List UInt8) : hdB id at_ of_ p ++ z = leB 1 1 ++ (leB 8 id ++ (leB 2 at_ ++ (leB 2 of_ ++ (leB 2 p.length ++ (p ++ z))))) := by simp [hdB]
structure FrOk (n id at_ of_ : Nat) (data : List UInt8) : Prop where
  n1 : 64 ≤ n
  n2 : n ≤ 4096
  idb : id < 18446744073709551616
  lt : at_ < of_
  ofb : of_ < 65536
  dl : data.length + 19 ≤ n
  full : data.length = n - 19 ∨ at_ + 1 = of_
theorem frBody_nums {n id at_ of_ : Nat} {data : List UInt8} (h : FrOk n id at_ of_ data) :
    leN (((frBody n id at_ of_ data).drop 1).take 8) = id ∧ leN (((frBody n id at_ of_ data).drop 9).take 2) = at_ ∧ leN (((frBody n id at_ of_ data).drop 11).take 2) = of_ ∧ leN (((frBody n id at_ of_ data).drop 13).take 2) = data.length ∧ ((frBody n id at_ of_ data).drop 15).take data.length = data := by
  have h1 := h.idb
  have h2 := h.lt
  have h3 := h.ofb
  have h4 := h.dl
  have h5 := h.n2
  unfold frBody
  rw [hdB_at]
  generalize List.replicate (n - 19 - data.length) (0 : UInt8) = z
  have a1 : ∀ r : List UInt8, (leB 1 1 ++ r).drop 1 = r := fun r => List.drop_left' (leB_length 1 1)
  have a8 : ∀ (x : Nat) (r : List UInt8), (leB 8 x ++ r).drop 8 = r := fun x r => List.drop_left' (leB_length 8 x)
  have a2 : ∀ (x : Nat) (r : List UInt8), (leB 2 x ++ r).drop 2 = r := fun x r => List.drop_left' (leB_length 2 x)
  have d9 : ∀ l : List UInt8, l.drop 9 = (l.drop 1).drop 8 := fun l => by rw [List.drop_drop]
  have d11 : ∀ l : List UInt8, l.drop 11 = ((l.drop 1).drop 8).drop 2 := fun l => by rw [List.drop_drop, List.drop_drop]
  have d13 : ∀ l : List UInt8, l.drop 13 = (((l.drop 1).drop 8).drop 2).drop 2 := fun l => by rw [List.drop_drop, List.drop_drop, List.drop_drop]
  have d15 : ∀ l : List UInt8, l.drop 15 = ((((l.drop 1).drop 8).drop 2).drop 2).drop 2 := fun l => by rw [List.drop_drop, List.drop_drop, List.drop_drop, List.drop_drop]
  refine ⟨?_, ?_, ?_, ?_, ?_⟩
  · rw [a1, List.take_left' (leB_length 8 id)]
    exact leN_leB 8 _ h1
  · rw [d9, a1, a8, List.take_left' (leB_length 2 at_)]
    exact leN_leB 2 _ (by omega)
  · rw [d11, a1, a8, a2, List.take_left' (leB_length 2 of_)]
    exact leN_leB 2 _ (by omega)
  · rw [d13, a1, a8, a2, a2, List.take_left' (leB_length 2 data.length)]
    exact leN_leB 2 _ (by omega)
  · rw [d15, a1, a8, a2, a2, a2, List.take_left' rfl]
theorem frB_ne_dum {n id at_ of_ : Nat} {data : List UInt8} : frB n id at_ of_ data ≠ dumB n := by
  intro h
  have h1 : openB (frB n id at_ of_ data) = (0, frBody n id at_ of_ data) := openB_seal _
  have h2 : openB (dumB n) = (0, List.replicate (n - 4) 0) := openB_seal _
  rw [h, h2] at h1
  have h3 : List.replicate (n - 4) (0 : UInt8) = frBody n id at_ of_ data := congrArg Prod.snd h1
  have h4 : (1 : UInt8) ∈ frBody n id at_ of_ data := by
    unfold frBody
    rw [hdB_at]
    exact List.mem_append_left _ (by show (1 : UInt8) ∈ [UInt8.ofNat 1]; simp)
  rw [← h3] at h4
  have := List.eq_of_mem_replicate h4
  exact absurd this (by decide)

theorem ref_ReadOk (O : World) (F : Fz) (v : Value) (n id at_ of_ : Nat) (data : List UInt8) (Fr : List Ent) (hk : FrOk n id at_ of_ data) (hv : SlB F [] v (frB n id at_ of_ data)) :
    Does Try.prog O 38 #[v] F Fr (fun r F' H' => F.le F' ∧ H' = Fr ∧ ∃ dv, r = .tuple #[.agg #[.int .u64 id, .int .i64 at_, .int .i64 of_, dv], .int .i64 0] ∧ SlB F' [] dv data) := by
  have hk' := hk
  obtain ⟨n1, n2, i1, i2, i3, i4, i5⟩ := hk'
  have hfl : (frB n id at_ of_ data).length = n := frB_length i4
  have hbl : (frBody n id at_ of_ data).length = n - 4 := frBody_length i4
  have hop : openB (frB n id at_ of_ data) = (0, frBody n id at_ of_ data) := openB_seal _
  obtain ⟨m1, m2, m3, m4, m5⟩ := frBody_nums hk
  have hdum : dummyB (n : Int) = dumB n := by unfold dummyB; simp; omega
  have hne := frB_ne_dum (n := n) (id := id) (at_ := at_) (of_ := of_) (data := data)
  generalize hp : frB n id at_ of_ data = p at *
  subst hfl
  obtain ⟨a0, cap, rfl, hcap⟩ := Sl.shape hv
  refine does_of_run (args := [_]) Try.func38 rfl rfl ?_
  refine r_seq ?_
  refine r_region rfl ?_
  refine o_act rfl rfl rfl rfl (a_alloc rfl) ?_
  rintro v' H' ⟨x, rfl, rfl⟩
  refine j_heap (H' := .mem x [.int .u64 0, .int .i64 0, .int .i64 0, .slice none 0 0] 4 :: Fr) rfl ?_
  refine o_val rfl rfl rfl rfl (v_assign rfl) ?_
  refine o_end ?_
  refine r_seq ?_
  refine r_region rfl ?_
  refine o_val rfl rfl rfl rfl (v_move rfl) ?_
  refine o_call rfl rfl rfl rfl (c_call callable47 rfl) (ref_Open _ _ _ p _ hv (by omega)) ?_
  rintro v' F1 H' ⟨hF1, rfl, v1, rfl, hv1⟩ _
  rw [hop] at hv1 ⊢
  dsimp only at hv1
  have hv1 := hv1.frz hF1 (H := [])
  generalize hB : frBody p.length id at_ of_ data = B at *
  obtain ⟨a1, c1, rfl, hc1⟩ := Sl.shape hv1
  refine o_val rfl rfl rfl rfl (v_move rfl) ?_
  refine o_val rfl rfl rfl rfl (v_extract rfl rfl) ?_
  refine o_val rfl rfl rfl rfl (v_extract rfl rfl) ?_
  refine o_val rfl rfl rfl rfl (v_assign rfl) ?_
  refine o_val rfl rfl rfl rfl (v_assign rfl) ?_
  refine o_end ?_
  refine r_seq ?_
  refine r_seq ?_
  refine r_region rfl ?_
  refine o_val rfl rfl rfl rfl (v_move rfl) ?_
  refine o_val rfl rfl rfl rfl (v_neq rfl rfl) ?_
  refine o_end ?_
  refine r_false rfl ?_
  refine r_skip ?_
  refine r_seq ?_
  refine r_seq ?_
  refine r_region rfl ?_
  refine o_val rfl rfl rfl rfl (v_move rfl) ?_
  refine o_val rfl rfl rfl rfl (v_len rfl rfl) ?_
  refine o_val rfl rfl rfl rfl (v_lss rfl rfl) ?_
  refine j_slot 19 rfl (v' := .bool false) (by rw [decide_eq_false (by omega)]) ?_
  refine o_val rfl rfl rfl rfl (v_move rfl) ?_
  refine o_val rfl rfl rfl rfl (v_move rfl) ?_
  refine o_val rfl rfl rfl rfl (v_len rfl rfl) ?_
  refine o_val rfl rfl rfl rfl (v_gtr rfl rfl) ?_
  refine j_slot 23 rfl (v' := .bool false) (by rw [decide_eq_false (by omega)]) ?_
  refine o_val rfl rfl rfl rfl (v_pick0 rfl rfl) ?_
  refine o_end ?_
  refine r_false rfl ?_
  have hvF := hv.frz hF1 (H := [])
  refine r_skip ?_
  refine r_seq ?_
  refine r_seq ?_
  refine d_region 1000000 rfl ([]) ?_
  refine d_take (i := 0) rfl rfl rfl (by decide +kernel) (by decide +kernel) (by decide +kernel) (Fz.le_refl _) (by simp) rfl (v_move rfl) ?_
  refine d_take (i := 1) rfl rfl rfl (by decide +kernel) (by decide +kernel) (by decide +kernel) (Fz.le_refl _) (by simp) rfl (v_bytesString rfl rfl rfl rfl (l := p) (hvF.frz (Fz.le_refl _))) ?_
  refine d_take (i := 2) rfl rfl rfl (by decide +kernel) (by decide +kernel) (by decide +kernel) (Fz.le_refl _) (by simp) rfl (v_move rfl) ?_
  refine d_take (i := 3) rfl rfl rfl (by decide +kernel) (by decide +kernel) (by decide +kernel) (Fz.le_refl _) (by simp) rfl (v_len rfl rfl) ?_
  refine d_one (i := 4) (by decide +kernel) ?_
  refine d1_call rfl rfl rfl rfl (c_call callable16 rfl) (ref_Dummy _ _ (p.length : Int) _) ?_
  rintro v' F1 H' ⟨rfl, b2, ok2, rfl, rfl⟩ _
  refine ⟨fun w hw => held_of hw (by first | exact Fz.le_refl _ | assumption) (by simp), ?_⟩
  rw [hdum] at ok2 ⊢
  refine j_freezeBf (n := (dumB p.length).length) ok2 (by simp) fun F2 hF2 hs2 => ?_
  refine d_more ([]) (by first | assumption | exact Fz.le_refl _) (by simp) ?_
  refine d_take (i := 5) rfl rfl rfl (by decide +kernel) (by decide +kernel) (by decide +kernel) (Fz.le_refl _) (by simp) rfl (v_bytesString rfl rfl rfl rfl (l := dumB p.length) (Sl.frz hs2 (Fz.le_refl _))) ?_
  refine d_take (i := 6) rfl rfl rfl (by decide +kernel) (by decide +kernel) (by decide +kernel) (Fz.le_refl _) (by simp) rfl (v_seql rfl rfl) ?_
  refine j_slot 32 rfl (v' := .bool false) (by rw [decide_eq_false hne]) ?_
  refine d_end (by decide +kernel) ?_
  refine r_false rfl ?_
  have hv2 := hv1.frz hF2 (H := [])
  have hF12 := Fz.le_trans hF1 hF2
  refine r_skip ?_
  refine r_seq ?_
  refine r_region rfl ?_
  refine o_val rfl rfl rfl rfl (v_move rfl) ?_
  refine o_call rfl rfl rfl rfl (c_call callable48 rfl) (ref_num _ _ _ B 1 8 _ (hv2.frz (Fz.le_refl _)) (by decide) (by omega) (by omega)) ?_
  rintro v' F2 H' ⟨rfl, rfl, rfl⟩ _
  rw [m1]
  refine o_val rfl rfl rfl rfl (v_move rfl) ?_
  refine o_call rfl rfl rfl rfl (c_call callable48 rfl) (ref_num _ _ _ B 9 2 _ (hv2.frz (Fz.le_refl _)) (by decide) (by omega) (by omega)) ?_
  rintro v' F2 H' ⟨rfl, rfl, rfl⟩ _
  rw [m2]
  refine o_val rfl rfl rfl rfl (v_conv rfl rfl rfl (wrap_i64 (by omega) (by omega))) ?_
  refine o_val rfl rfl rfl rfl (v_move rfl) ?_
  refine o_call rfl rfl rfl rfl (c_call callable48 rfl) (ref_num _ _ _ B 11 2 _ (hv2.frz (Fz.le_refl _)) (by decide) (by omega) (by omega)) ?_
  rintro v' F2 H' ⟨rfl, rfl, rfl⟩ _
  rw [m3]
  refine o_val rfl rfl rfl rfl (v_conv rfl rfl rfl (wrap_i64 (by omega) (by omega))) ?_
  refine o_val rfl rfl rfl rfl (v_build rfl rfl) ?_
  refine o_act rfl rfl rfl rfl (a_alloc rfl) ?_
  rintro v' H' ⟨y, rfl, rfl⟩
  refine o_act0 rfl rfl rfl (a_store (sz := 4) 0 rfl rfl rfl rfl rfl rfl (Nat.le_of_ble_eq_true rfl)) ?_
  refine j_heap (H' := .mem y [.int .u64 id, .int .i64 at_, .int .i64 of_, .slice none 0 0] 4 :: .mem x [.int .u64 0, .int .i64 0, .int .i64 0, .slice none 0 0] 4 :: Fr) rfl ?_
  refine o_end ?_
  refine r_seq ?_
  refine r_region rfl ?_
  refine o_val rfl rfl rfl rfl (v_move rfl) ?_
  refine o_call rfl rfl rfl rfl (c_call callable48 rfl) (ref_num _ _ _ B 13 2 _ (hv2.frz (Fz.le_refl _)) (by decide) (by omega) (by omega)) ?_
  rintro v' F2 H' ⟨rfl, rfl, rfl⟩ _
  rw [m4]
  refine o_val rfl rfl rfl rfl (v_conv rfl rfl rfl (wrap_i64 (by omega) (by omega))) ?_
  refine o_val rfl rfl rfl rfl (v_assign rfl) ?_
  refine o_end ?_
  refine r_seq ?_
  refine r_seq ?_
  refine r_region rfl ?_
  refine o_val rfl rfl rfl rfl (v_move rfl) ?_
  refine o_val rfl rfl rfl rfl (v_move rfl) ?_
  refine o_val rfl rfl rfl rfl (v_len rfl rfl) ?_
  refine o_val rfl rfl rfl rfl (v_sub rfl rfl (r := ((p.length - 19 : Nat) : Int)) ((wrap_i64 (by omega) (by omega)).trans (by omega))) ?_
  refine o_val rfl rfl rfl rfl (v_gtr rfl rfl) ?_
  refine j_slot 50 rfl (v' := .bool false) (by rw [decide_eq_false (by omega)]) ?_
  refine o_val rfl rfl rfl rfl (v_move rfl) ?_
  refine o_val rfl rfl rfl rfl (v_field (k := 1) rfl rfl rfl) ?_
  refine o_val rfl rfl rfl rfl (v_load (v := .int .i64 at_) rfl rfl (cell_at (j := 0) rfl rfl)) ?_
  refine o_val rfl rfl rfl rfl (v_field (k := 2) rfl rfl rfl) ?_
  refine o_val rfl rfl rfl rfl (v_load (v := .int .i64 of_) rfl rfl (cell_at (j := 0) rfl rfl)) ?_
  refine o_val rfl rfl rfl rfl (v_geq rfl rfl) ?_
  refine j_slot 56 rfl (v' := .bool false) (by rw [decide_eq_false (by omega)]) ?_
  refine o_val rfl rfl rfl rfl (v_pick0 rfl rfl) ?_
  refine o_val rfl rfl rfl rfl (v_move rfl) ?_
  refine o_val rfl rfl rfl rfl (v_move rfl) ?_
  refine o_val rfl rfl rfl rfl (v_move rfl) ?_
  refine o_val rfl rfl rfl rfl (v_len rfl rfl) ?_
  refine o_val rfl rfl rfl rfl (v_sub rfl rfl (r := ((p.length - 19 : Nat) : Int)) ((wrap_i64 (by omega) (by omega)).trans (by omega))) ?_
  refine o_val rfl rfl rfl rfl (v_lss rfl rfl) ?_
  by_cases hfull : data.length < p.length - 19
  · refine j_slot 63 rfl (v' := .bool true) (by rw [decide_eq_true (by omega)]) ?_
    refine o_val rfl rfl rfl rfl (v_move rfl) ?_
    refine o_val rfl rfl rfl rfl (v_field (k := 1) rfl rfl rfl) ?_
    refine o_val rfl rfl rfl rfl (v_load (v := .int .i64 at_) rfl rfl (cell_at (j := 0) rfl rfl)) ?_
    refine o_val rfl rfl rfl rfl (v_field (k := 2) rfl rfl rfl) ?_
    refine o_val rfl rfl rfl rfl (v_load (v := .int .i64 of_) rfl rfl (cell_at (j := 0) rfl rfl)) ?_
    refine o_val rfl rfl rfl rfl (v_sub rfl rfl (r := ((of_ - 1 : Nat) : Int)) ((wrap_i64 (by omega) (by omega)).trans (by omega))) ?_
    refine o_val rfl rfl rfl rfl (v_neq rfl rfl) ?_
    refine j_slot 70 rfl (v' := .bool false) (by rw [decide_eq_false (by omega)]) ?_
    refine o_val rfl rfl rfl rfl (v_pick1 rfl rfl) ?_
    refine o_val rfl rfl rfl rfl (v_pick0 rfl rfl) ?_
    refine o_end ?_
    refine r_false rfl ?_
    obtain ⟨dv, hdv⟩ : ∃ dv : Value, dv = Go.sliced a1 15 (15 + data.length) c1 1 := ⟨_, rfl⟩
    have hds : SlB F2 [] dv data := by
      have h1 := Sl.sliced hv2 (show 15 ≤ 15 + data.length by omega) (by omega)
      have h2 : 15 + data.length - 15 = data.length := by omega
      rw [h2, Nat.mul_one, Nat.mul_one, ← hdv] at h1
      have h3 : ((bytesV B).drop 15).take data.length = bytesV data := by
        conv => rhs; rw [← m5]
        simp [bytesV]
      rw [h3] at h1
      exact h1
    obtain ⟨a3, c3, hdv3, hc3⟩ := Sl.shape hds
    refine r_skip ?_
    refine r_seq ?_
    refine r_region rfl ?_
    refine o_val rfl rfl rfl rfl (v_move rfl) ?_
    refine o_val rfl rfl rfl rfl (v_move rfl) ?_
    refine o_val rfl rfl rfl rfl (v_add rfl rfl (r := ((15 + data.length : Nat) : Int)) (wrap_i64 (by omega) (by omega))) ?_
    refine o_val rfl rfl rfl rfl (v_slice2 (sz := 1) (l := 15) rfl rfl rfl rfl rfl rfl rfl (by omega) (by omega)) ?_
    refine o_val rfl rfl rfl rfl (v_field (k := 3) rfl rfl rfl) ?_
    refine j_slot 77 rfl (v' := .slice a3 data.length c3) (by rw [← hdv3, hdv]) ?_
    rw [hdv3] at hds
    refine o_act0 rfl rfl rfl (a_store1 0 rfl rfl rfl rfl rfl (Nat.le_of_ble_eq_true rfl)) ?_
    refine j_heap (H' := .mem y [.int .u64 id, .int .i64 at_, .int .i64 of_, .slice a3 data.length c3] 4 :: .mem x [.int .u64 0, .int .i64 0, .int .i64 0, .slice none 0 0] 4 :: Fr) rfl ?_
    have hvF2 := hvF.frz hF2 (H := [])
    refine o_end ?_
    refine r_seq ?_
    refine r_seq ?_
    refine d_region 1000000 rfl ([.mem y [.int .u64 id, .int .i64 at_, .int .i64 of_, .slice a3 data.length c3] 4]) ?_
    refine d_take (i := 0) rfl rfl rfl (by decide +kernel) (by decide +kernel) (by decide +kernel) (Fz.le_refl _) (by intro q hq; simp only [List.mem_cons, List.not_mem_nil, or_false] at hq; subst hq; simp) rfl (v_move rfl) ?_
    refine d_take (i := 1) rfl rfl rfl (by decide +kernel) (by decide +kernel) (by decide +kernel) (Fz.le_refl _) (by intro q hq; simp only [List.mem_cons, List.not_mem_nil, or_false] at hq; subst hq; simp) rfl (v_len rfl rfl) ?_
    refine d_take (i := 2) rfl rfl rfl (by decide +kernel) (by decide +kernel) (by decide +kernel) (Fz.le_refl _) (by intro q hq; simp only [List.mem_cons, List.not_mem_nil, or_false] at hq; subst hq; simp) rfl (v_field (k := 0) rfl rfl rfl) ?_
    refine d_take (i := 3) rfl rfl rfl (by decide +kernel) (by decide +kernel) (by decide +kernel) (Fz.le_refl _) (by intro q hq; simp only [List.mem_cons, List.not_mem_nil, or_false] at hq; subst hq; simp) rfl (v_load (v := .int .u64 id) rfl rfl (cell_at (j := 0) rfl rfl)) ?_
    refine d_take (i := 4) rfl rfl rfl (by decide +kernel) (by decide +kernel) (by decide +kernel) (Fz.le_refl _) (by intro q hq; simp only [List.mem_cons, List.not_mem_nil, or_false] at hq; subst hq; simp) rfl (v_field (k := 1) rfl rfl rfl) ?_
    refine d_take (i := 5) rfl rfl rfl (by decide +kernel) (by decide +kernel) (by decide +kernel) (Fz.le_refl _) (by intro q hq; simp only [List.mem_cons, List.not_mem_nil, or_false] at hq; subst hq; simp) rfl (v_load (v := .int .i64 at_) rfl rfl (cell_at (j := 0) rfl rfl)) ?_
    refine d_take (i := 6) rfl rfl rfl (by decide +kernel) (by decide +kernel) (by decide +kernel) (Fz.le_refl _) (by intro q hq; simp only [List.mem_cons, List.not_mem_nil, or_false] at hq; subst hq; simp) rfl (v_field (k := 2) rfl rfl rfl) ?_
    refine d_take (i := 7) rfl rfl rfl (by decide +kernel) (by decide +kernel) (by decide +kernel) (Fz.le_refl _) (by intro q hq; simp only [List.mem_cons, List.not_mem_nil, or_false] at hq; subst hq; simp) rfl (v_load (v := .int .i64 of_) rfl rfl (cell_at (j := 0) rfl rfl)) ?_
    refine d_take (i := 8) rfl rfl rfl (by decide +kernel) (by decide +kernel) (by decide +kernel) (Fz.le_refl _) (by intro q hq; simp only [List.mem_cons, List.not_mem_nil, or_false] at hq; subst hq; simp) rfl (v_field (k := 3) rfl rfl rfl) ?_
    refine d_take (i := 9) rfl rfl rfl (by decide +kernel) (by decide +kernel) (by decide +kernel) (Fz.le_refl _) (by intro q hq; simp only [List.mem_cons, List.not_mem_nil, or_false] at hq; subst hq; simp) rfl (v_load (v := .slice a3 data.length c3) rfl rfl (cell_at (j := 0) rfl rfl)) ?_
    refine d_take (i := 12) rfl rfl rfl (by decide +kernel) (by decide +kernel) (by decide +kernel) (Fz.le_refl _) (by intro q hq; simp only [List.mem_cons, List.not_mem_nil, or_false] at hq; subst hq; simp) rfl (v_move rfl) ?_
    refine d_take (i := 13) rfl rfl rfl (by decide +kernel) (by decide +kernel) (by decide +kernel) (Fz.le_refl _) (by intro q hq; simp only [List.mem_cons, List.not_mem_nil, or_false] at hq; subst hq; simp) rfl (v_bytesString rfl rfl rfl rfl (l := p) (hvF2.frz (Fz.le_refl _))) ?_
    refine d_one (i := 10) (by decide +kernel) ?_
    refine d1_call rfl rfl rfl rfl (c_call callable22 rfl) (ref_Frame _ _ p.length id at_ of_ _ data _ (hds.frz (Fz.le_refl _)) i4 n2 (by omega) (by omega)) ?_
    rintro v' F2 H' ⟨rfl, b3, ok3, rfl, rfl⟩ _
    refine ⟨fun w hw => held_of hw (by first | exact Fz.le_refl _ | assumption) (by intro q hq; simp only [List.mem_cons, List.not_mem_nil, or_false] at hq; subst hq; simp), ?_⟩
    rw [hp] at ok3 ⊢
    refine j_freezeBf (n := p.length) ok3 (by simp) fun F3 hF3 hs3 => ?_
    refine d_more ([.mem y [.int .u64 id, .int .i64 at_, .int .i64 of_, .slice a3 data.length c3] 4]) (by first | assumption | exact Fz.le_refl _) (by intro q hq; simp only [List.mem_cons, List.not_mem_nil, or_false] at hq; subst hq; simp) ?_
    refine d_take (i := 11) rfl rfl rfl (by decide +kernel) (by decide +kernel) (by decide +kernel) (Fz.le_refl _) (by intro q hq; simp only [List.mem_cons, List.not_mem_nil, or_false] at hq; subst hq; simp) rfl (v_bytesString rfl rfl rfl rfl (l := p) (Sl.frz hs3 (Fz.le_refl _))) ?_
    refine d_take (i := 14) rfl rfl rfl (by decide +kernel) (by decide +kernel) (by decide +kernel) (Fz.le_refl _) (by intro q hq; simp only [List.mem_cons, List.not_mem_nil, or_false] at hq; subst hq; simp) rfl (v_sneq rfl rfl) ?_
    refine j_slot 93 rfl (v' := .bool false) (by simp) ?_
    refine d_end (by decide +kernel) ?_
    refine r_false rfl ?_
    refine r_skip ?_
    refine r_seq ?_
    refine r_region rfl ?_
    refine o_val rfl rfl rfl rfl (v_loadAgg (sz := 4) (cs := [.int .u64 id, .int .i64 at_, .int .i64 of_, .slice a3 data.length c3]) rfl rfl rfl rfl (fun j c hj => cell_at (j := 0) rfl (by rw [Nat.zero_add]; exact hj))) ?_
    refine o_act0 rfl rfl rfl (a_store (sz := 4) 1 rfl rfl rfl rfl rfl rfl (Nat.le_of_ble_eq_true rfl)) ?_
    refine o_val rfl rfl rfl rfl (v_assign rfl) ?_
    refine o_end ?_
    exact r_retC1 (sz := 4) (cs := [.int .u64 id, .int .i64 at_, .int .i64 of_, .slice a3 data.length c3]) Try.func38 rfl rfl rfl rfl rfl rfl (fun j c hj => cell_at (j := 1) rfl (by rw [Nat.zero_add]; exact hj)) ((List.sublist_cons_self _ _).trans (List.sublist_cons_self _ _)) ⟨⟨Fz.le_trans hF12 hF3, rfl, _, rfl, hds.frz hF3⟩, Fz.le_trans hF12 hF3⟩
  · refine j_slot 63 rfl (v' := .bool false) (by rw [decide_eq_false (by omega)]) ?_
    refine o_val rfl rfl rfl rfl (v_move rfl) ?_
    refine o_skip rfl rfl rfl rfl ?_
    refine o_skip rfl rfl rfl rfl ?_
    refine o_skip rfl rfl rfl rfl ?_
    refine o_skip rfl rfl rfl rfl ?_
    refine o_skip rfl rfl rfl rfl ?_
    refine o_skip rfl rfl rfl rfl ?_
    refine o_val rfl rfl rfl rfl (v_pick0 rfl rfl) ?_
    refine o_val rfl rfl rfl rfl (v_pick0 rfl rfl) ?_
    refine o_end ?_
    refine r_false rfl ?_
    obtain ⟨dv, hdv⟩ : ∃ dv : Value, dv = Go.sliced a1 15 (15 + data.length) c1 1 := ⟨_, rfl⟩
    have hds : SlB F2 [] dv data := by
      have h1 := Sl.sliced hv2 (show 15 ≤ 15 + data.length by omega) (by omega)
      have h2 : 15 + data.length - 15 = data.length := by omega
      rw [h2, Nat.mul_one, Nat.mul_one, ← hdv] at h1
      have h3 : ((bytesV B).drop 15).take data.length = bytesV data := by
        conv => rhs; rw [← m5]
        simp [bytesV]
      rw [h3] at h1
      exact h1
    obtain ⟨a3, c3, hdv3, hc3⟩ := Sl.shape hds
    refine r_skip ?_
    refine r_seq ?_
    refine r_region rfl ?_
    refine o_val rfl rfl rfl rfl (v_move rfl) ?_
    refine o_val rfl rfl rfl rfl (v_move rfl) ?_
    refine o_val rfl rfl rfl rfl (v_add rfl rfl (r := ((15 + data.length : Nat) : Int)) (wrap_i64 (by omega) (by omega))) ?_
    refine o_val rfl rfl rfl rfl (v_slice2 (sz := 1) (l := 15) rfl rfl rfl rfl rfl rfl rfl (by omega) (by omega)) ?_
    refine o_val rfl rfl rfl rfl (v_field (k := 3) rfl rfl rfl) ?_
    refine j_slot 77 rfl (v' := .slice a3 data.length c3) (by rw [← hdv3, hdv]) ?_
    rw [hdv3] at hds
    refine o_act0 rfl rfl rfl (a_store1 0 rfl rfl rfl rfl rfl (Nat.le_of_ble_eq_true rfl)) ?_
    refine j_heap (H' := .mem y [.int .u64 id, .int .i64 at_, .int .i64 of_, .slice a3 data.length c3] 4 :: .mem x [.int .u64 0, .int .i64 0, .int .i64 0, .slice none 0 0] 4 :: Fr) rfl ?_
    have hvF2 := hvF.frz hF2 (H := [])
    refine o_end ?_
    refine r_seq ?_
    refine r_seq ?_
    refine d_region 1000000 rfl ([.mem y [.int .u64 id, .int .i64 at_, .int .i64 of_, .slice a3 data.length c3] 4]) ?_
    refine d_take (i := 0) rfl rfl rfl (by decide +kernel) (by decide +kernel) (by decide +kernel) (Fz.le_refl _) (by intro q hq; simp only [List.mem_cons, List.not_mem_nil, or_false] at hq; subst hq; simp) rfl (v_move rfl) ?_
    refine d_take (i := 1) rfl rfl rfl (by decide +kernel) (by decide +kernel) (by decide +kernel) (Fz.le_refl _) (by intro q hq; simp only [List.mem_cons, List.not_mem_nil, or_false] at hq; subst hq; simp) rfl (v_len rfl rfl) ?_
    refine d_take (i := 2) rfl rfl rfl (by decide +kernel) (by decide +kernel) (by decide +kernel) (Fz.le_refl _) (by intro q hq; simp only [List.mem_cons, List.not_mem_nil, or_false] at hq; subst hq; simp) rfl (v_field (k := 0) rfl rfl rfl) ?_
    refine d_take (i := 3) rfl rfl rfl (by decide +kernel) (by decide +kernel) (by decide +kernel) (Fz.le_refl _) (by intro q hq; simp only [List.mem_cons, List.not_mem_nil, or_false] at hq; subst hq; simp) rfl (v_load (v := .int .u64 id) rfl rfl (cell_at (j := 0) rfl rfl)) ?_
    refine d_take (i := 4) rfl rfl rfl (by decide +kernel) (by decide +kernel) (by decide +kernel) (Fz.le_refl _) (by intro q hq; simp only [List.mem_cons, List.not_mem_nil, or_false] at hq; subst hq; simp) rfl (v_field (k := 1) rfl rfl rfl) ?_
    refine d_take (i := 5) rfl rfl rfl (by decide +kernel) (by decide +kernel) (by decide +kernel) (Fz.le_refl _) (by intro q hq; simp only [List.mem_cons, List.not_mem_nil, or_false] at hq; subst hq; simp) rfl (v_load (v := .int .i64 at_) rfl rfl (cell_at (j := 0) rfl rfl)) ?_
    refine d_take (i := 6) rfl rfl rfl (by decide +kernel) (by decide +kernel) (by decide +kernel) (Fz.le_refl _) (by intro q hq; simp only [List.mem_cons, List.not_mem_nil, or_false] at hq; subst hq; simp) rfl (v_field (k := 2) rfl rfl rfl) ?_
    refine d_take (i := 7) rfl rfl rfl (by decide +kernel) (by decide +kernel) (by decide +kernel) (Fz.le_refl _) (by intro q hq; simp only [List.mem_cons, List.not_mem_nil, or_false] at hq; subst hq; simp) rfl (v_load (v := .int .i64 of_) rfl rfl (cell_at (j := 0) rfl rfl)) ?_
    refine d_take (i := 8) rfl rfl rfl (by decide +kernel) (by decide +kernel) (by decide +kernel) (Fz.le_refl _) (by intro q hq; simp only [List.mem_cons, List.not_mem_nil, or_false] at hq; subst hq; simp) rfl (v_field (k := 3) rfl rfl rfl) ?_
    refine d_take (i := 9) rfl rfl rfl (by decide +kernel) (by decide +kernel) (by decide +kernel) (Fz.le_refl _) (by intro q hq; simp only [List.mem_cons, List.not_mem_nil, or_false] at hq; subst hq; simp) rfl (v_load (v := .slice a3 data.length c3) rfl rfl (cell_at (j := 0) rfl rfl)) ?_
    refine d_take (i := 12) rfl rfl rfl (by decide +kernel) (by decide +kernel) (by decide +kernel) (Fz.le_refl _) (by intro q hq; simp only [List.mem_cons, List.not_mem_nil, or_false] at hq; subst hq; simp) rfl (v_move rfl) ?_
    refine d_take (i := 13) rfl rfl rfl (by decide +kernel) (by decide +kernel) (by decide +kernel) (Fz.le_refl _) (by intro q hq; simp only [List.mem_cons, List.not_mem_nil, or_false] at hq; subst hq; simp) rfl (v_bytesString rfl rfl rfl rfl (l := p) (hvF2.frz (Fz.le_refl _))) ?_
    refine d_one (i := 10) (by decide +kernel) ?_
    refine d1_call rfl rfl rfl rfl (c_call callable22 rfl) (ref_Frame _ _ p.length id at_ of_ _ data _ (hds.frz (Fz.le_refl _)) i4 n2 (by omega) (by omega)) ?_
    rintro v' F2 H' ⟨rfl, b3, ok3, rfl, rfl⟩ _
    refine ⟨fun w hw => held_of hw (by first | exact Fz.le_refl _ | assumption) (by intro q hq; simp only [List.mem_cons, List.not_mem_nil, or_false] at hq; subst hq; simp), ?_⟩
    rw [hp] at ok3 ⊢
    refine j_freezeBf (n := p.length) ok3 (by simp) fun F3 hF3 hs3 => ?_
    refine d_more ([.mem y [.int .u64 id, .int .i64 at_, .int .i64 of_, .slice a3 data.length c3] 4]) (by first | assumption | exact Fz.le_refl _) (by intro q hq; simp only [List.mem_cons, List.not_mem_nil, or_false] at hq; subst hq; simp) ?_
    refine d_take (i := 11) rfl rfl rfl (by decide +kernel) (by decide +kernel) (by decide +kernel) (Fz.le_refl _) (by intro q hq; simp only [List.mem_cons, List.not_mem_nil, or_false] at hq; subst hq; simp) rfl (v_bytesString rfl rfl rfl rfl (l := p) (Sl.frz hs3 (Fz.le_refl _))) ?_
    refine d_take (i := 14) rfl rfl rfl (by decide +kernel) (by decide +kernel) (by decide +kernel) (Fz.le_refl _) (by intro q hq; simp only [List.mem_cons, List.not_mem_nil, or_false] at hq; subst hq; simp) rfl (v_sneq rfl rfl) ?_
    refine j_slot 93 rfl (v' := .bool false) (by simp) ?_
    refine d_end (by decide +kernel) ?_
    refine r_false rfl ?_
    refine r_skip ?_
    refine r_seq ?_
    refine r_region rfl ?_
    refine o_val rfl rfl rfl rfl (v_loadAgg (sz := 4) (cs := [.int .u64 id, .int .i64 at_, .int .i64 of_, .slice a3 data.length c3]) rfl rfl rfl rfl (fun j c hj => cell_at (j := 0) rfl (by rw [Nat.zero_add]; exact hj))) ?_
    refine o_act0 rfl rfl rfl (a_store (sz := 4) 1 rfl rfl rfl rfl rfl rfl (Nat.le_of_ble_eq_true rfl)) ?_
    refine o_val rfl rfl rfl rfl (v_assign rfl) ?_
    refine o_end ?_
    exact r_retC1 (sz := 4) (cs := [.int .u64 id, .int .i64 at_, .int .i64 of_, .slice a3 data.length c3]) Try.func38 rfl rfl rfl rfl rfl rfl (fun j c hj => cell_at (j := 1) rfl (by rw [Nat.zero_add]; exact hj)) ((List.sublist_cons_self _ _).trans (List.sublist_cons_self _ _)) ⟨⟨Fz.le_trans hF12 hF3, rfl, _, rfl, hds.frz hF3⟩, Fz.le_trans hF12 hF3⟩

theorem ref_ReadBad (O : World) (F : Fz) (v : Value) (p : List UInt8) (Fr : List Ent) (hb : (openB p).1 ≠ 0) (hv : SlB F [] v p) (hl : p.length ≤ 140737488350000) :
    Does Try.prog O 38 #[v] F Fr (fun r F' H' => F.le F' ∧ H' = Fr ∧ r = .tuple #[.agg #[.int .u64 0, .int .i64 0, .int .i64 0, .slice none 0 0], .int .i64 (openB p).1]) := by
  obtain ⟨a0, cap, rfl, hcap⟩ := Sl.shape hv
  refine does_of_run (args := [_]) Try.func38 rfl rfl ?_
  refine r_seq ?_
  refine r_region rfl ?_
  refine o_act rfl rfl rfl rfl (a_alloc rfl) ?_
  rintro v' H' ⟨x, rfl, rfl⟩
  refine j_heap (H' := .mem x [.int .u64 0, .int .i64 0, .int .i64 0, .slice none 0 0] 4 :: Fr) rfl ?_
  refine o_val rfl rfl rfl rfl (v_assign rfl) ?_
  refine o_end ?_
  refine r_seq ?_
  refine r_region rfl ?_
  refine o_val rfl rfl rfl rfl (v_move rfl) ?_
  refine o_call rfl rfl rfl rfl (c_call callable47 rfl) (ref_Open _ _ _ p _ hv hl) ?_
  rintro v' F1 H' ⟨hF1, rfl, v1, rfl, hv1⟩ _
  generalize (openB p).1 = e at *
  refine o_val rfl rfl rfl rfl (v_move rfl) ?_
  refine o_val rfl rfl rfl rfl (v_extract rfl rfl) ?_
  refine o_val rfl rfl rfl rfl (v_extract rfl rfl) ?_
  refine o_val rfl rfl rfl rfl (v_assign rfl) ?_
  refine o_val rfl rfl rfl rfl (v_assign rfl) ?_
  refine o_end ?_
  refine r_seq ?_
  refine r_seq ?_
  refine r_region rfl ?_
  refine o_val rfl rfl rfl rfl (v_move rfl) ?_
  refine o_val rfl rfl rfl rfl (v_neq rfl rfl) ?_
  refine j_slot 14 rfl (v' := .bool true) (by rw [decide_eq_true (by omega)]) ?_
  refine o_end ?_
  refine r_true rfl ?_
  refine r_seq ?_
  refine r_region rfl ?_
  refine o_val rfl rfl rfl rfl (v_build rfl rfl) ?_
  refine o_val rfl rfl rfl rfl (v_move rfl) ?_
  refine o_act0 rfl rfl rfl (a_store (sz := 4) 0 rfl rfl rfl rfl rfl rfl (Nat.le_of_ble_eq_true rfl)) ?_
  refine o_val rfl rfl rfl rfl (v_assign rfl) ?_
  refine o_end ?_
  exact r_retC1 (sz := 4) (cs := [.int .u64 0, .int .i64 0, .int .i64 0, .slice none 0 0]) Try.func38 rfl rfl rfl rfl rfl rfl (fun j c hj => cell_at (j := 0) rfl (by rw [Nat.zero_add]; exact hj)) (List.sublist_cons_self _ _) ⟨⟨hF1, rfl, rfl⟩, hF1⟩

theorem ref_ReadDum (O : World) (F : Fz) (v : Value) (n : Nat) (Fr : List Ent) (n1 : 64 ≤ n) (n2 : n ≤ 4096) (hv : SlB F [] v (dumB n)) :
    Does Try.prog O 38 #[v] F Fr (fun r F' H' => F.le F' ∧ H' = Fr ∧ r = .tuple #[.agg #[.int .u64 0, .int .i64 0, .int .i64 0, .slice none 0 0], .int .i64 2]) := by
  have hdl : (dumB n).length = n := by simp [dumB]; omega
  have hop : openB (dumB n) = (0, List.replicate (n - 4) 0) := openB_seal _
  have hdum : dummyB (n : Int) = dumB n := by unfold dummyB; simp; omega
  generalize hp : dumB n = p at *
  subst hdl
  obtain ⟨a0, cap, rfl, hcap⟩ := Sl.shape hv
  refine does_of_run (args := [_]) Try.func38 rfl rfl ?_
  refine r_seq ?_
  refine r_region rfl ?_
  refine o_act rfl rfl rfl rfl (a_alloc rfl) ?_
  rintro v' H' ⟨x, rfl, rfl⟩
  refine j_heap (H' := .mem x [.int .u64 0, .int .i64 0, .int .i64 0, .slice none 0 0] 4 :: Fr) rfl ?_
  refine o_val rfl rfl rfl rfl (v_assign rfl) ?_
  refine o_end ?_
  refine r_seq ?_
  refine r_region rfl ?_
  refine o_val rfl rfl rfl rfl (v_move rfl) ?_
  refine o_call rfl rfl rfl rfl (c_call callable47 rfl) (ref_Open _ _ _ p _ hv (by omega)) ?_
  rintro v' F1 H' ⟨hF1, rfl, v1, rfl, hv1⟩ _
  rw [hop]
  refine o_val rfl rfl rfl rfl (v_move rfl) ?_
  refine o_val rfl rfl rfl rfl (v_extract rfl rfl) ?_
  refine o_val rfl rfl rfl rfl (v_extract rfl rfl) ?_
  refine o_val rfl rfl rfl rfl (v_assign rfl) ?_
  refine o_val rfl rfl rfl rfl (v_assign rfl) ?_
  refine o_end ?_
  refine r_seq ?_
  refine r_seq ?_
  refine r_region rfl ?_
  refine o_val rfl rfl rfl rfl (v_move rfl) ?_
  refine o_val rfl rfl rfl rfl (v_neq rfl rfl) ?_
  refine o_end ?_
  refine r_false rfl ?_
  refine r_skip ?_
  refine r_seq ?_
  refine r_seq ?_
  refine r_region rfl ?_
  refine o_val rfl rfl rfl rfl (v_move rfl) ?_
  refine o_val rfl rfl rfl rfl (v_len rfl rfl) ?_
  refine o_val rfl rfl rfl rfl (v_lss rfl rfl) ?_
  refine j_slot 19 rfl (v' := .bool false) (by rw [decide_eq_false (by omega)]) ?_
  refine o_val rfl rfl rfl rfl (v_move rfl) ?_
  refine o_val rfl rfl rfl rfl (v_move rfl) ?_
  refine o_val rfl rfl rfl rfl (v_len rfl rfl) ?_
  refine o_val rfl rfl rfl rfl (v_gtr rfl rfl) ?_
  refine j_slot 23 rfl (v' := .bool false) (by rw [decide_eq_false (by omega)]) ?_
  refine o_val rfl rfl rfl rfl (v_pick0 rfl rfl) ?_
  refine o_end ?_
  refine r_false rfl ?_
  have hvF := hv.frz hF1 (H := [])
  refine r_skip ?_
  refine r_seq ?_
  refine r_seq ?_
  refine d_region 1000000 rfl ([]) ?_
  refine d_take (i := 0) rfl rfl rfl (by decide +kernel) (by decide +kernel) (by decide +kernel) (Fz.le_refl _) (by simp) rfl (v_move rfl) ?_
  refine d_take (i := 1) rfl rfl rfl (by decide +kernel) (by decide +kernel) (by decide +kernel) (Fz.le_refl _) (by simp) rfl (v_bytesString rfl rfl rfl rfl (l := p) (hvF.frz (Fz.le_refl _))) ?_
  refine d_take (i := 2) rfl rfl rfl (by decide +kernel) (by decide +kernel) (by decide +kernel) (Fz.le_refl _) (by simp) rfl (v_move rfl) ?_
  refine d_take (i := 3) rfl rfl rfl (by decide +kernel) (by decide +kernel) (by decide +kernel) (Fz.le_refl _) (by simp) rfl (v_len rfl rfl) ?_
  refine d_one (i := 4) (by decide +kernel) ?_
  refine d1_call rfl rfl rfl rfl (c_call callable16 rfl) (ref_Dummy _ _ (p.length : Int) _) ?_
  rintro v' F1 H' ⟨rfl, b2, ok2, rfl, rfl⟩ _
  refine ⟨fun w hw => held_of hw (by first | exact Fz.le_refl _ | assumption) (by simp), ?_⟩
  rw [hdum] at ok2 ⊢
  refine j_freezeBf (n := p.length) ok2 (by simp) fun F2 hF2 hs2 => ?_
  refine d_more ([]) (by first | assumption | exact Fz.le_refl _) (by simp) ?_
  refine d_take (i := 5) rfl rfl rfl (by decide +kernel) (by decide +kernel) (by decide +kernel) (Fz.le_refl _) (by simp) rfl (v_bytesString rfl rfl rfl rfl (l := p) (Sl.frz hs2 (Fz.le_refl _))) ?_
  refine d_take (i := 6) rfl rfl rfl (by decide +kernel) (by decide +kernel) (by decide +kernel) (Fz.le_refl _) (by simp) rfl (v_seql rfl rfl) ?_
  refine j_slot 32 rfl (v' := .bool true) (by simp) ?_
  refine d_end (by decide +kernel) ?_
  refine r_true rfl ?_
  refine r_seq ?_
  refine r_region rfl ?_
  refine o_val rfl rfl rfl rfl (v_build rfl rfl) ?_
  refine o_act0 rfl rfl rfl (a_store (sz := 4) 0 rfl rfl rfl rfl rfl rfl (Nat.le_of_ble_eq_true rfl)) ?_
  refine o_val rfl rfl rfl rfl (v_assign rfl) ?_
  refine o_end ?_
  exact r_retC1 (sz := 4) (cs := [.int .u64 0, .int .i64 0, .int .i64 0, .slice none 0 0]) Try.func38 rfl rfl rfl rfl rfl rfl (fun j c hj => cell_at (j := 0) rfl (by rw [Nat.zero_add]; exact hj)) (List.sublist_cons_self _ _) ⟨⟨Fz.le_trans hF1 hF2, rfl, rfl⟩, Fz.le_trans hF1 hF2⟩
end Go.SX
