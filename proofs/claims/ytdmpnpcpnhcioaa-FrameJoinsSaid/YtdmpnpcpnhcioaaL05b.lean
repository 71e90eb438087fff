/-
  Chapter 05: what Read tells of frames; the law FrameDummies.
-/
import Derived.Test.YtdmpnpcpnhcioaaFrame4
import Derived.Test.YtdmpnpcpnhcioaaL05a
namespace Go.SX
open Go Go.Proofs
set_option maxRecDepth 4000
set_option linter.unusedSimpArgs false
set_option linter.unusedVariables false

theorem rdNum_cat (l m : List UInt8) (hk : l.length ≤ 8) : rdNum (l ++ m) false (l.length : Int) = (leN l, m, false) := by
  unfold rdNum
  rw [if_neg (by rintro (h | h | h); · cases h
                 · omega
                 · simp at h; omega)]
  simp only [Int.toNat_natCast, Nat.min_eq_left hk]
  simp
theorem rdNum_leB (k n : Nat) (m : List UInt8) (hk : k ≤ 8) (hn : n < 256 ^ k) : rdNum (leB k n ++ m) false (k : Int) = (n, m, false) := by
  have := rdNum_cat (leB k n) m (by simpa using hk)
  rw [leB_length, leN_leB k n hn] at this
  exact this
theorem readB_frame {n id a o : Nat} {d : List UInt8} (hd : d.length + 19 ≤ n) (h1 : 64 ≤ n) (h2 : n ≤ 4096) (hid : id < 18446744073709551616) (hao : a < o) (ho : o < 65536) (hf : d.length = n - 19 ∨ a + 1 = o) :
    readB (frB n id a o d) = (0, id, a, o, d) := by
  have hop : openB (frB n id a o d) = (0, frBody n id a o d) := openB_seal _
  have hpl : (frB n id a o d).length = n := frB_length hd
  have hb : frBody n id a o d = leB 1 1 ++ (leB 8 id ++ (leB 2 a ++ (leB 2 o ++ (leB 2 d.length ++ (d ++ List.replicate (n - 19 - d.length) 0))))) := by simp [frBody, hdB]
  have hK : rdK (frBody n id a o d) = (1, leB 8 id ++ (leB 2 a ++ (leB 2 o ++ (leB 2 d.length ++ (d ++ List.replicate (n - 19 - d.length) 0)))), false) := by
    rw [hb]; exact rdNum_leB 1 1 _ (by decide) (by decide)
  have hI : rdI (frBody n id a o d) = (id, leB 2 a ++ (leB 2 o ++ (leB 2 d.length ++ (d ++ List.replicate (n - 19 - d.length) 0))), false) := by
    unfold rdI; rw [hK]; exact rdNum_leB 8 id _ (by decide) hid
  have hA : rdA (frBody n id a o d) = (a, leB 2 o ++ (leB 2 d.length ++ (d ++ List.replicate (n - 19 - d.length) 0)), false) := by
    unfold rdA; rw [hI]; exact rdNum_leB 2 a _ (by decide) (by omega)
  have hO : rdO (frBody n id a o d) = (o, leB 2 d.length ++ (d ++ List.replicate (n - 19 - d.length) 0), false) := by
    unfold rdO; rw [hA]; exact rdNum_leB 2 o _ (by decide) (by omega)
  have hN : rdN (frBody n id a o d) = (d.length, d ++ List.replicate (n - 19 - d.length) 0, false) := by
    unfold rdN; rw [hO]; exact rdNum_leB 2 d.length _ (by decide) (by omega)
  have hD : rdData (frBody n id a o d) = d := by
    unfold rdData
    rw [hN]
    have e : frBody n id a o d = (leB 1 1 ++ leB 8 id ++ leB 2 a ++ leB 2 o ++ leB 2 d.length) ++ (d ++ List.replicate (n - 19 - d.length) 0) := by simp [frBody, hdB]
    have e2 : (leB 1 1 ++ leB 8 id ++ leB 2 a ++ leB 2 o ++ leB 2 d.length).length = 15 := by simp
    rw [e, ← e2, List.drop_left]
    simp
  unfold readB
  rw [hop]
  dsimp only
  rw [if_neg (by simp), if_neg (by unfold rdDum; rw [hK]; simp), if_neg (by unfold rdBad; rw [hK, hN, hO, hA, hpl]; simp; omega), hpl, hI, hA, hO, hD, if_pos rfl]
theorem readB_dum {n : Nat} (h1 : 64 ≤ n) (h2 : n ≤ 4096) : readB (dumB n) = (2, 0, 0, 0, []) := by
  have hop : openB (dumB n) = (0, List.replicate (n - 4) 0) := openB_seal _
  have hpl : (dumB n).length = n := by simp [dumB]; omega
  have hK : rdK (List.replicate (n - 4) 0) = (0, List.replicate (n - 5) 0, false) := by
    have e : List.replicate (n - 4) (0 : UInt8) = leB 1 0 ++ List.replicate (n - 5) 0 := by
      have : n - 4 = (n - 5) + 1 := by omega
      rw [this, List.replicate_succ]
      rfl
    rw [e]
    exact rdNum_leB 1 0 _ (by decide) (by decide)
  unfold readB
  rw [hop]
  dsimp only
  rw [if_neg (by simp), if_pos (by unfold rdDum; rw [hK, hpl]; exact ⟨rfl, rfl, h1, h2, fun c hc => (List.mem_replicate.1 hc).2⟩)]
theorem dummyB_ok {n : Nat} (h1 : 64 ≤ n) (h2 : n ≤ 4096) : dummyB n = dumB n := by unfold dummyB; rw [if_neg (by omega)]; rfl
theorem dummyB_len (n : Int) : (dummyB n).length ≤ 4096 := by
  unfold dummyB
  split
  · simp
  · simp [dumB]; omega

theorem law_FrameDummies (O : World) (F : Fz) (n : Int) (small : Nat) (hs : small < 65536) :
    Does Try.prog O 4 #[.int .i64 n, .int .u16 small] F [] (fun r _ _ => r = .bool true) := by
  refine does_of_run (args := [_, _]) Try.func4 rfl rfl ?_
  refine r_seq ?_
  refine r_region rfl ?_
  refine o_val rfl rfl rfl rfl (v_assign rfl) ?_
  refine o_end ?_
  refine r_seq ?_
  refine r_seq ?_
  refine r_region rfl ?_
  refine o_call rfl rfl rfl rfl (c_call callable8 rfl) (law5_awake _ _ _) ?_
  rintro v' F1 H' ⟨rfl, rfl⟩ hF1
  refine o_val rfl rfl rfl rfl (v_not rfl) ?_
  refine o_end ?_
  refine r_false rfl ?_
  refine r_skip ?_
  refine r_seq ?_
  refine r_seq ?_
  refine d_region 1000000 rfl ([]) ?_
  refine d_take (i := 0) rfl rfl rfl (by decide +kernel) (by decide +kernel) (by decide +kernel) (Fz.le_refl _) (by simp) rfl (v_move rfl) ?_
  refine d_take (i := 3) rfl rfl rfl (by decide +kernel) (by decide +kernel) (by decide +kernel) (Fz.le_refl _) (by simp) rfl (v_move rfl) ?_
  refine d_one (i := 1) (by decide +kernel) ?_
  refine d1_call rfl rfl rfl rfl (c_call callable15 rfl) (fr_Dummy _ _ n _) ?_
  rintro v' F1 H' ⟨rfl, bf, hok, rfl, rfl⟩ _
  refine ⟨fun w hw => held_of hw (by first | exact Fz.le_refl _ | assumption) (by simp), ?_⟩
  refine j_freezeBf hok (by simp) fun F2 hF2 hs2 => ?_
  refine d_more ([]) hF2 (by simp) ?_
  refine d_take (i := 2) rfl rfl rfl (by decide +kernel) (by decide +kernel) (by decide +kernel) (Fz.le_refl _) (by simp) rfl (v_bytesString rfl rfl rfl rfl (l := dummyB n) (hs2.frz (Fz.le_refl _))) ?_
  refine d_one (i := 4) (by decide +kernel) ?_
  refine d1_call rfl rfl rfl rfl (c_call callable16 rfl) (ref_Dummy _ _ n _) ?_
  rintro v' F2 H' ⟨rfl, bq, hoq, rfl, rfl⟩ _
  refine ⟨fun w hw => held_of hw (by first | exact Fz.le_refl _ | assumption) (by simp), ?_⟩
  refine j_freezeBf hoq (by simp) fun F3 hF3 hs3 => ?_
  refine d_more ([]) hF3 (by simp) ?_
  refine d_take (i := 5) rfl rfl rfl (by decide +kernel) (by decide +kernel) (by decide +kernel) (Fz.le_refl _) (by simp) rfl (v_bytesString rfl rfl rfl rfl (l := dummyB n) (hs3.frz (Fz.le_refl _))) ?_
  refine d_take (i := 6) rfl rfl rfl (by decide +kernel) (by decide +kernel) (by decide +kernel) (Fz.le_refl _) (by simp) rfl (v_sneq rfl rfl) ?_
  refine j_slot 16 rfl (v' := .bool false) (by simp) ?_
  refine d_end (by decide +kernel) ?_
  refine r_false rfl ?_
  refine r_skip ?_
  refine r_seq ?_
  refine r_region rfl ?_
  refine o_val rfl rfl rfl rfl (v_move rfl) ?_
  refine o_call rfl rfl rfl rfl (c_call callable12 rfl) (law5_size _ _ small _ hs) ?_
  rintro v' F3 H' ⟨rfl, rfl, rfl⟩ _
  obtain ⟨m, hm⟩ : ∃ m, m = 64 + small % 300 := ⟨_, rfl⟩
  rw [← hm]
  refine o_call rfl rfl rfl rfl (c_call callable15 rfl) (fr_Dummy _ _ m _) ?_
  rintro v' F3 H' ⟨rfl, bd, hod, rfl, rfl⟩ _
  rw [dummyB_ok (by omega) (by omega)] at hod ⊢
  refine j_freezeBf hod (by simp) fun F4 hF4 hs4 => ?_
  have hml : (dumB m).length = m := by simp [dumB]; omega
  refine o_val rfl rfl rfl rfl (v_assign rfl) ?_
  refine o_end ?_
  refine r_seq ?_
  refine r_region rfl ?_
  refine o_val rfl rfl rfl rfl (v_move rfl) ?_
  refine o_call rfl rfl rfl rfl (c_call callable17 rfl) (fr_Read _ _ _ (dumB m) _ (hs4.frz (Fz.le_refl _)) (by omega)) ?_
  rintro v' F5 H' ⟨hF5, rfl, dv, rfl, hdv⟩ _
  rw [readB_dum (by omega) (by omega)]
  obtain ⟨ad, cd, rfl, _⟩ := Sl.shape hdv
  refine o_val rfl rfl rfl rfl (v_move rfl) ?_
  refine o_val rfl rfl rfl rfl (v_extract rfl rfl) ?_
  refine o_val rfl rfl rfl rfl (v_extract rfl rfl) ?_
  refine o_act rfl rfl rfl rfl (a_alloc rfl) ?_
  rintro v' H' ⟨y, rfl, rfl⟩
  refine o_act0 rfl rfl rfl (a_store (sz := 4) 0 rfl rfl rfl rfl rfl rfl (Nat.le_of_ble_eq_true rfl)) ?_
  refine o_val rfl rfl rfl rfl (v_assign rfl) ?_
  refine o_end ?_
  refine r_seq ?_
  refine r_region rfl ?_
  refine o_val rfl rfl rfl rfl (v_move rfl) ?_
  refine o_val rfl rfl rfl rfl (v_len rfl rfl) ?_
  refine o_val rfl rfl rfl rfl (v_move rfl) ?_
  refine o_call rfl rfl rfl rfl (c_call callable12 rfl) (law5_size _ _ small _ hs) ?_
  rintro v' F5 H' ⟨rfl, rfl, rfl⟩ _
  rw [← hm]
  refine o_val rfl rfl rfl rfl (v_eql rfl rfl) ?_
  refine j_slot 29 rfl (v' := .bool true) (by rw [hml, decide_eq_true rfl]) ?_
  refine o_val rfl rfl rfl rfl (v_move rfl) ?_
  refine o_val rfl rfl rfl rfl (v_move rfl) ?_
  refine o_val rfl rfl rfl rfl (v_eql rfl rfl) ?_
  refine o_val rfl rfl rfl rfl (v_pick1 rfl rfl) ?_
  refine o_val rfl rfl rfl rfl (v_assign rfl) ?_
  refine o_end ?_
  exact r_ret1 Try.func4 rfl rfl ⟨rfl, Fz.le_trans hF1 (Fz.le_trans hF2 (Fz.le_trans hF3 (Fz.le_trans hF4 hF5)))⟩
theorem in_FrameDummies (W : World) (n : Int) (hn : (Lit.int .i64 n).wf = true) (s : Int) (hs : (Lit.int .u16 s).wf = true) :
    Calls Try.prog 4 #[.int .i64 n, .int .u16 s] W fun e w' => e = .returned (.bool true) ∧ Go.RowKit.Below W.heap.size W w' := by
  simp [Lit.wf, IntKind.min, IntKind.max, IntKind.signed, IntKind.bits] at hs
  obtain ⟨s, rfl⟩ := Int.eq_ofNat_of_zero_le hs.1
  exact below_of_does (law_FrameDummies _ _ n s (by omega))
end Go.SX
