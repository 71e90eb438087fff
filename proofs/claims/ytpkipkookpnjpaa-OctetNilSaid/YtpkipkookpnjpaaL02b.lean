/-
  Chapter 02: the laws OctetOpens and OctetNil.
-/
import Derived.Test.YtpkipkookpnjpaaOct3
import Derived.Test.YtpkipkookpnjpaaL02a
namespace Go.SX
open Go Go.Proofs

theorem law_OctetOpens (O : World) (F : Fz) (v : Value) (l : List UInt8) (hv : SlB F [] v l) (hl : l.length ≤ 140737488351232) : Does Try.prog O 4 #[v] F [] (fun r _ _ => r = .bool true) := by
  obtain ⟨a0, cap, rfl, hcap⟩ := Sl.shape hv
  refine does_of_run (args := [_]) Try.func4 rfl rfl ?_
  refine r_seq ?_
  refine r_region rfl ?_
  refine o_val rfl rfl rfl rfl (v_assign rfl) ?_
  refine o_end ?_
  refine r_seq ?_
  refine r_seq ?_
  refine r_region rfl ?_
  refine o_call rfl rfl rfl rfl (c_call callable9 rfl) (law_awake _ _ _) ?_
  rintro v' F1 H' ⟨rfl, rfl⟩ hF1
  refine o_val rfl rfl rfl rfl (v_not rfl) ?_
  refine o_val rfl rfl rfl rfl (v_move rfl) ?_
  refine o_val rfl rfl rfl rfl (v_move rfl) ?_
  refine o_val rfl rfl rfl rfl (v_len rfl rfl) ?_
  refine o_val rfl rfl rfl rfl (v_gtr rfl rfl) ?_
  refine o_val rfl rfl rfl rfl (v_pick0 rfl rfl) ?_
  refine o_end ?_
  refine r_if rfl (fun h => ?_) (fun h => ?_)
  · refine r_seq ?_
    refine r_region rfl ?_
    refine o_call rfl rfl rfl rfl (c_call callable9 rfl) (law_awake _ _ _) ?_
    rintro v' F2 H' ⟨rfl, rfl⟩ hF2
    refine o_val rfl rfl rfl rfl (v_assign rfl) ?_
    refine o_end ?_
    exact r_ret1 Try.func4 rfl rfl ⟨rfl, Fz.le_trans hF1 hF2⟩
  · have hl2 : l.length ≤ 3000 := by omega
    have hv1 : SlB F1 [] (.slice a0 l.length cap) l := hv.frz hF1
    refine r_skip ?_
    refine r_seq ?_
    refine r_region rfl ?_
    refine o_val rfl rfl rfl rfl (v_move rfl) ?_
    refine o_call rfl rfl rfl rfl (c_call callable14 rfl) (oct_Open _ _ _ l _ hv1 (by omega)) ?_
    rintro v' F2 H' ⟨rfl, rfl, vb, rfl, hvb⟩ _
    refine o_val rfl rfl rfl rfl (v_move rfl) ?_
    refine o_val rfl rfl rfl rfl (v_extract rfl rfl) ?_
    refine o_val rfl rfl rfl rfl (v_extract rfl rfl) ?_
    refine o_val rfl rfl rfl rfl (v_assign rfl) ?_
    refine o_val rfl rfl rfl rfl (v_assign rfl) ?_
    refine o_end ?_
    refine r_seq ?_
    refine r_region rfl ?_
    refine o_val rfl rfl rfl rfl (v_move rfl) ?_
    refine o_call rfl rfl rfl rfl (c_call callable15 rfl) (ref_Open _ _ _ l _ hv1 (by omega)) ?_
    rintro v' F3 H' ⟨hF3, rfl, vc, rfl, hvc⟩ _
    refine o_val rfl rfl rfl rfl (v_move rfl) ?_
    refine o_val rfl rfl rfl rfl (v_extract rfl rfl) ?_
    refine o_val rfl rfl rfl rfl (v_extract rfl rfl) ?_
    refine o_val rfl rfl rfl rfl (v_assign rfl) ?_
    refine o_val rfl rfl rfl rfl (v_assign rfl) ?_
    refine o_end ?_
    refine r_seq ?_
    refine r_region rfl ?_
    refine o_val rfl rfl rfl rfl (v_move rfl) ?_
    refine o_call rfl rfl rfl rfl (c_call callable12 rfl) (oct_Seal _ _ _ l [] (hv1.frz hF3) (by omega)) ?_
    rintro v' F4 H' ⟨rfl, bf, hok, rfl, rfl⟩ _
    refine j_freezeBf hok (by simp) fun F5 hF5 hs5 => ?_
    have hs5' : SlB F5 [] (bf.val (sealB l).length) (sealB l) := by unfold SlB; simpa using hs5
    refine o_call rfl rfl rfl rfl (c_call callable14 rfl) (oct_Open _ _ _ (sealB l) _ hs5' (by simp; omega)) ?_
    rintro v' F6 H' ⟨rfl, rfl, vd, rfl, hvd⟩ _
    rw [openB_seal] at hvd ⊢
    refine o_val rfl rfl rfl rfl (v_move rfl) ?_
    refine o_val rfl rfl rfl rfl (v_extract rfl rfl) ?_
    refine o_val rfl rfl rfl rfl (v_extract rfl rfl) ?_
    refine o_val rfl rfl rfl rfl (v_assign rfl) ?_
    refine o_val rfl rfl rfl rfl (v_assign rfl) ?_
    refine o_end ?_
    refine r_seq ?_
    refine r_region rfl ?_
    refine o_val rfl rfl rfl rfl (v_move rfl) ?_
    refine o_val rfl rfl rfl rfl (v_move rfl) ?_
    refine o_val rfl rfl rfl rfl (v_eql rfl rfl) ?_
    refine o_val rfl rfl rfl rfl (v_move rfl) ?_
    refine j_slot 36 rfl (v' := .bool true) (dec_true rfl) ?_
    refine o_val rfl rfl rfl rfl (v_move rfl) ?_
    refine o_val rfl rfl rfl rfl (v_bytesString rfl rfl rfl rfl (hvb.frz (Fz.le_trans hF3 hF5))) ?_
    refine o_val rfl rfl rfl rfl (v_move rfl) ?_
    refine o_val rfl rfl rfl rfl (v_bytesString rfl rfl rfl rfl (hvc.frz (Fz.le_trans hF3 hF5))) ?_
    refine o_val rfl rfl rfl rfl (v_seql rfl rfl) ?_
    refine o_val rfl rfl rfl rfl (v_pick1 rfl rfl) ?_
    refine o_val rfl rfl rfl rfl (v_move rfl) ?_
    refine j_slot 43 rfl (v' := .bool true) (dec_true rfl) ?_
    refine o_val rfl rfl rfl rfl (v_move rfl) ?_
    refine o_val rfl rfl rfl rfl (v_eql rfl rfl) ?_
    refine o_val rfl rfl rfl rfl (v_pick1 rfl rfl) ?_
    refine o_val rfl rfl rfl rfl (v_move rfl) ?_
    refine j_slot 47 rfl (v' := .bool true) (dec_true rfl) ?_
    refine o_val rfl rfl rfl rfl (v_move rfl) ?_
    refine o_val rfl rfl rfl rfl (v_bytesString rfl rfl rfl rfl hvd) ?_
    refine o_val rfl rfl rfl rfl (v_move rfl) ?_
    refine o_val rfl rfl rfl rfl (v_bytesString rfl rfl rfl rfl (hv1.frz (Fz.le_trans hF3 hF5))) ?_
    refine o_val rfl rfl rfl rfl (v_seql rfl rfl) ?_
    refine o_val rfl rfl rfl rfl (v_pick1 rfl rfl) ?_
    refine o_val rfl rfl rfl rfl (v_assign rfl) ?_
    refine o_end ?_
    exact r_ret1 Try.func4 rfl rfl ⟨dec_true rfl, Fz.le_trans hF1 (Fz.le_trans hF3 hF5)⟩

theorem in_OctetOpens (W : World) (v : Value) (zs : List Int) (h : InInts .u8 W v zs) (hn : zs.length * 1 ≤ 140737488351232) :
    Calls Try.prog 4 #[v] W fun e w' => e = .returned (.bool true) ∧ Go.RowKit.Below W.heap.size W w' := by
  obtain ⟨l, hl, hv⟩ := inBytes h
  exact below_of_does (law_OctetOpens _ _ _ l hv (by omega))

theorem law_OctetNil (O : World) (F : Fz) (v : Value) (l : List UInt8) (n : Int) (hv : SlB F [] v l) (hl : l.length ≤ 140737488351232) (hn0 : -9223372036854775808 ≤ n) (hn1 : n ≤ 9223372036854775807) :
    Does Try.prog O 7 #[v, .int .i64 n] F [] (fun r _ _ => r = .bool true) := by
  obtain ⟨a0, cap, rfl, hcap⟩ := Sl.shape hv
  refine does_of_run (args := [_, _]) Try.func7 rfl rfl ?_
  refine r_seq ?_
  refine r_region rfl ?_
  refine o_val rfl rfl rfl rfl (v_assign rfl) ?_
  refine o_end ?_
  refine r_seq ?_
  refine r_seq ?_
  refine r_region rfl ?_
  refine o_call rfl rfl rfl rfl (c_call callable9 rfl) (law_awake _ _ _) ?_
  rintro v' F1 H' ⟨rfl, rfl⟩ hF1
  refine o_val rfl rfl rfl rfl (v_not rfl) ?_
  refine o_val rfl rfl rfl rfl (v_move rfl) ?_
  refine o_val rfl rfl rfl rfl (v_move rfl) ?_
  refine o_val rfl rfl rfl rfl (v_len rfl rfl) ?_
  refine o_val rfl rfl rfl rfl (v_gtr rfl rfl) ?_
  refine o_val rfl rfl rfl rfl (v_pick0 rfl rfl) ?_
  refine o_end ?_
  refine r_if rfl (fun h => ?_) (fun h => ?_)
  · refine r_seq ?_
    refine r_region rfl ?_
    refine o_call rfl rfl rfl rfl (c_call callable9 rfl) (law_awake _ _ _) ?_
    rintro v' F2 H' ⟨rfl, rfl⟩ hF2
    refine o_val rfl rfl rfl rfl (v_assign rfl) ?_
    refine o_end ?_
    exact r_ret1 Try.func7 rfl rfl ⟨rfl, Fz.le_trans hF1 hF2⟩
  · have hl2 : l.length ≤ 1000 := by omega
    have hv1 : SlB F1 [] (.slice a0 l.length cap) l := hv.frz hF1
    refine r_skip ?_
    refine r_seq ?_
    refine r_region rfl ?_
    refine o_val rfl rfl rfl rfl (v_assign rfl) ?_
    refine o_end ?_
    refine r_seq ?_
    refine r_region rfl ?_
    refine o_val rfl rfl rfl rfl (v_move rfl) ?_
    refine o_call rfl rfl rfl rfl (c_call callable16 rfl) (oct_Read _ _ _ l _ hv1) ?_
    rintro v' F2 H' ⟨rfl, a, rfl, rfl⟩ _
    refine o_val rfl rfl rfl rfl (v_assign rfl) ?_
    refine o_end ?_
    refine r_seq ?_
    refine r_join (fun m : Int => -9223372036854775808 ≤ m ∧ m ≤ 0) (fun m => [(1, .int .i64 m), (0, .slice a0 l.length cap), (5, nilP), (6, ptrV a)]) (fun _ => F2) (fun _ => [.mem a [.slice a0 l.length cap, .bool false] 2]) ?_ ?_
    · intro J
      refine r_seq ?_
      refine r_region rfl ?_
      refine o_val rfl rfl rfl rfl (v_move rfl) ?_
      refine o_val rfl rfl rfl rfl (v_gtr rfl rfl) ?_
      refine o_end ?_
      refine r_if rfl (fun h1 => ?_) (fun h1 => ?_)
      · refine r_region rfl ?_
        refine o_val rfl rfl rfl rfl (v_move rfl) ?_
        refine o_val rfl rfl rfl rfl (v_neg rfl (wrap_i64 (by omega) (by omega))) ?_
        refine o_val rfl rfl rfl rfl (v_assign rfl) ?_
        refine o_end ?_
        refine j_keep ?_ (J (0 - n) (by omega))
        exact ⟨rfl, rfl, rfl, rfl, trivial⟩
      · refine r_skip ?_
        refine j_keep ?_ (J n (by omega))
        exact ⟨rfl, rfl, rfl, rfl, trivial⟩
    · rintro m ⟨hm0, hm1⟩
      refine r_seq ?_
      refine r_join (fun m : Int => -9223372036854775808 ≤ m ∧ m < 0) (fun m => [(1, .int .i64 m), (0, .slice a0 l.length cap), (5, nilP), (6, ptrV a)]) (fun _ => F2) (fun _ => [.mem a [.slice a0 l.length cap, .bool false] 2]) ?_ ?_
      · intro J
        refine r_seq ?_
        refine r_region rfl ?_
        refine o_val rfl rfl rfl rfl (v_move rfl) ?_
        refine o_val rfl rfl rfl rfl (v_eql rfl rfl) ?_
        refine o_end ?_
        refine r_if rfl (fun h1 => ?_) (fun h1 => ?_)
        · refine r_region rfl ?_
          refine o_val rfl rfl rfl rfl (v_assign rfl) ?_
          refine o_end ?_
          refine j_keep ?_ (J (-1) (by omega))
          exact ⟨rfl, rfl, rfl, rfl, trivial⟩
        · refine r_skip ?_
          refine j_keep ?_ (J m (by omega))
          exact ⟨rfl, rfl, rfl, rfl, trivial⟩
      · clear hm0 hm1
        clear m
        rintro m ⟨hm0, hm1⟩
        have hneg : ∀ q : List UInt8, rdNum q false m = (0, q, true) := fun q => by unfold rdNum; rw [if_pos (.inr (.inl hm1))]
        refine r_seq ?_
        refine r_region rfl ?_
        refine o_val rfl rfl rfl rfl (v_move rfl) ?_
        refine o_val rfl rfl rfl rfl (v_move rfl) ?_
        refine o_call rfl rfl rfl rfl (c_call callable17 rfl) (oct_RNum _ _ _ _ l false m _ hv1 (by omega)) ?_
        rintro v' F3 H' ⟨rfl, rfl, v1, hv2, rfl⟩ _
        rw [hneg] at hv2 ⊢
        refine o_val rfl rfl rfl rfl (v_assign rfl) ?_
        refine o_end ?_
        refine r_seq ?_
        refine r_region rfl ?_
        refine o_val rfl rfl rfl rfl (v_move rfl) ?_
        refine o_call rfl rfl rfl rfl (c_call callable24 rfl) (ref_Bytes _ _ _ _ [] l _ (Sl.nil _ _ _) (hv1.frz (Fz.le_refl _)) (by simp; omega)) ?_
        rintro v' F4 H' ⟨rfl, bf, hok, rfl, rfl⟩ _
        refine j_freezeBf hok (by simp) fun F5 hF5 hs5 => ?_
        simp only [List.nil_append] at hs5 ⊢
        have hs5' : SlB F5 [] (bf.val (lenB l).length) (lenB l) := by unfold SlB; simpa using hs5
        refine o_call rfl rfl rfl rfl (c_call callable16 rfl) (oct_Read _ _ _ (lenB l) _ hs5') ?_
        rintro v' F6 H' ⟨rfl, a2, rfl, rfl⟩ _
        refine o_val rfl rfl rfl rfl (v_assign rfl) ?_
        refine o_end ?_
        refine r_seq ?_
        refine r_region rfl ?_
        refine o_val rfl rfl rfl rfl (v_move rfl) ?_
        refine o_val rfl rfl rfl rfl (v_move rfl) ?_
        refine o_call rfl rfl rfl rfl (c_call callable18 rfl) (oct_RBytes _ _ _ _ (lenB l) false m _ hs5' (by simp [lenB]; omega) (by omega)) ?_
        rintro v' F7 H' ⟨hF7, hq, v7, hv7, rfl⟩ _
        have hbad : rdBytes (lenB l) false m = ([], (rdNum (lenB l) false 4).2.1, true) := by
          unfold rdBytes
          rw [if_pos (.inr (.inl hm1))]
        rw [hbad] at hq hv7 ⊢
        obtain ⟨aq, cq, rfl, _⟩ := Sl.shape hq
        refine o_val rfl rfl rfl rfl (v_assign rfl) ?_
        refine o_end ?_
        refine r_seq ?_
        refine r_region rfl ?_
        refine o_val rfl rfl rfl rfl (v_move rfl) ?_
        refine o_call rfl rfl rfl rfl (c_call callable21 rfl) (oct_RBad0 _ _ _) ?_
        rintro v' F8 H' ⟨rfl, rfl, rfl⟩ _
        refine o_val rfl rfl rfl rfl (v_move rfl) ?_
        refine o_val rfl rfl rfl rfl (v_move rfl) ?_
        refine o_call rfl rfl rfl rfl (c_call callable23 rfl) (oct_REnd0 _ _ _) ?_
        rintro v' F8 H' ⟨rfl, rfl, rfl⟩ _
        refine o_val rfl rfl rfl rfl (v_not rfl) ?_
        refine o_val rfl rfl rfl rfl (v_pick1 rfl rfl) ?_
        refine o_val rfl rfl rfl rfl (v_move rfl) ?_
        refine o_val rfl rfl rfl rfl (v_move rfl) ?_
        refine o_call rfl rfl rfl rfl (c_call callable17 rfl) (oct_RNum0 _ _ _ _) ?_
        rintro v' F8 H' ⟨rfl, rfl, rfl⟩ _
        refine o_val rfl rfl rfl rfl (v_eql rfl rfl) ?_
        refine o_val rfl rfl rfl rfl (v_pick1 rfl rfl) ?_
        refine o_val rfl rfl rfl rfl (v_move rfl) ?_
        refine o_val rfl rfl rfl rfl (v_move rfl) ?_
        refine o_call rfl rfl rfl rfl (c_call callable18 rfl) (oct_RBytes0 _ _ _ _) ?_
        rintro v' F8 H' ⟨rfl, rfl, rfl⟩ _
        refine o_val rfl rfl rfl rfl (v_len rfl rfl) ?_
        refine o_val rfl rfl rfl rfl (v_eql rfl rfl) ?_
        refine o_val rfl rfl rfl rfl (v_pick1 rfl rfl) ?_
        refine o_val rfl rfl rfl rfl (v_move rfl) ?_
        refine o_val rfl rfl rfl rfl (v_move rfl) ?_
        refine o_call rfl rfl rfl rfl (c_call callable19 rfl) (oct_RFlag0 _ _ _) ?_
        rintro v' F8 H' ⟨rfl, rfl, rfl⟩ _
        refine o_val rfl rfl rfl rfl (v_not rfl) ?_
        refine o_val rfl rfl rfl rfl (v_pick1 rfl rfl) ?_
        refine o_val rfl rfl rfl rfl (v_move rfl) ?_
        refine o_val rfl rfl rfl rfl (v_move rfl) ?_
        refine o_call rfl rfl rfl rfl (c_call callable20 rfl) (oct_RCount0 _ _ _ _) ?_
        rintro v' F8 H' ⟨rfl, rfl, rfl⟩ _
        refine o_val rfl rfl rfl rfl (v_eql rfl rfl) ?_
        refine o_val rfl rfl rfl rfl (v_pick1 rfl rfl) ?_
        refine o_val rfl rfl rfl rfl (v_move rfl) ?_
        refine o_val rfl rfl rfl rfl (v_move rfl) ?_
        refine o_call rfl rfl rfl rfl (c_call callable22 rfl) (oct_RLeft0 _ _ _) ?_
        rintro v' F8 H' ⟨rfl, rfl, rfl⟩ _
        refine o_val rfl rfl rfl rfl (v_eql rfl rfl) ?_
        refine o_val rfl rfl rfl rfl (v_pick1 rfl rfl) ?_
        refine o_val rfl rfl rfl rfl (v_move rfl) ?_
        refine o_val rfl rfl rfl rfl (v_move rfl) ?_
        refine o_val rfl rfl rfl rfl (v_eql rfl rfl) ?_
        refine o_val rfl rfl rfl rfl (v_pick1 rfl rfl) ?_
        refine o_val rfl rfl rfl rfl (v_move rfl) ?_
        refine o_val rfl rfl rfl rfl (v_move rfl) ?_
        refine j_perm (List.Perm.swap _ _ _) ?_
        refine o_call rfl rfl rfl rfl (c_call callable21 rfl) (oct_RBad _ _ _ _ _ _) ?_
        rintro v' F8 H' ⟨rfl, rfl, rfl⟩ _
        refine j_perm (List.Perm.swap _ _ _) ?_
        refine o_val rfl rfl rfl rfl (v_pick1 rfl rfl) ?_
        refine o_val rfl rfl rfl rfl (v_move rfl) ?_
        refine o_val rfl rfl rfl rfl (v_move rfl) ?_
        refine o_val rfl rfl rfl rfl (v_len rfl rfl) ?_
        refine o_val rfl rfl rfl rfl (v_eql rfl rfl) ?_
        refine o_val rfl rfl rfl rfl (v_pick1 rfl rfl) ?_
        refine o_val rfl rfl rfl rfl (v_move rfl) ?_
        refine o_val rfl rfl rfl rfl (v_move rfl) ?_
        refine o_call rfl rfl rfl rfl (c_call callable21 rfl) (oct_RBad _ _ _ _ _ _) ?_
        rintro v' F8 H' ⟨rfl, rfl, rfl⟩ _
        refine o_val rfl rfl rfl rfl (v_pick1 rfl rfl) ?_
        refine o_val rfl rfl rfl rfl (v_assign rfl) ?_
        refine o_end ?_
        exact r_ret1 Try.func7 rfl rfl ⟨rfl, Fz.le_trans hF1 (Fz.le_trans hF5 hF7)⟩

theorem in_OctetNil (W : World) (v : Value) (zs : List Int) (h : InInts .u8 W v zs) (hn : zs.length * 1 ≤ 140737488351232) (n : Int) (hw : (Lit.int .i64 n).wf = true) :
    Calls Try.prog 7 #[v, .int .i64 n] W fun e w' => e = .returned (.bool true) ∧ Go.RowKit.Below W.heap.size W w' := by
  obtain ⟨l, hl, hv⟩ := inBytes h
  simp [Lit.wf, IntKind.min, IntKind.max, IntKind.signed, IntKind.bits] at hw
  exact below_of_does (law_OctetNil _ _ _ l n hv (by omega) (by omega) (by omega))
end Go.SX
