/-
  Chapter 05: the law FrameJoins.
-/
import Derived.Test.YtdmpnpcpnhcioaaJoin5
import Derived.Test.YtdmpnpcpnhcioaaL05c
namespace Go.SX
open Go Go.Proofs
set_option maxRecDepth 4000
set_option linter.unusedSimpArgs false
set_option linter.unusedVariables false

/-- Bytes that both read alike. -/
def RdOk (p : List UInt8) : Prop :=
  ∃ (e : Int) (id a o : Nat) (d : List UInt8),
    (∀ O F v Fr, SlB F [] v p → Does Try.prog O 38 #[v] F Fr (fun r F' H' => F.le F' ∧ H' = Fr ∧ ∃ dv, r = .tuple #[.agg #[.int .u64 id, .int .i64 a, .int .i64 o, dv], .int .i64 e] ∧ SlB F' [] dv d)) ∧
    (e ≠ 0 → (readB p).1 ≠ 0) ∧ (e = 0 → readB p = (0, id, a, o, d) ∧ a < o ∧ o < 65536 ∧ id < 18446744073709551616 ∧ d.length ≤ 4096) ∧ p.length ≤ 140737488350000
theorem rdok_frame {n id a o : Nat} {d : List UInt8} (h : FrOk n id a o d) : RdOk (frB n id a o d) := by
  have n2 := h.n2
  have dl := h.dl
  refine ⟨0, id, a, o, d, fun O F v Fr hv => ref_ReadOk O F v n id a o d Fr h hv, fun h => absurd rfl h, fun _ => ⟨readB_frame h.dl h.n1 h.n2 h.idb h.lt h.ofb h.full, h.lt, h.ofb, h.idb, by omega⟩, ?_⟩
  rw [frB_length h.dl]
  omega
theorem rdok_dum {n : Nat} (h1 : 64 ≤ n) (h2 : n ≤ 4096) : RdOk (dumB n) := by
  refine ⟨2, 0, 0, 0, [], fun O F v Fr hv => (ref_ReadDum O F v n Fr h1 h2 hv).mono fun r F' H' _ h => ⟨h.1, h.2.1, .slice none 0 0, h.2.2, Sl.nil _ _ _⟩, fun _ => by rw [readB_dum h1 h2]; decide, fun h => absurd h (by decide), ?_⟩
  have : (dumB n).length = n := by simp [dumB]; omega
  omega
theorem rdok_bad {p : List UInt8} (hb : (openB p).1 ≠ 0) (hl : p.length ≤ 140737488350000) : RdOk p := by
  refine ⟨(openB p).1, 0, 0, 0, [], fun O F v Fr hv => (ref_ReadBad O F v p Fr hb hv hl).mono fun r F' H' _ h => ⟨h.1, h.2.1, .slice none 0 0, h.2.2, Sl.nil _ _ _⟩, fun _ => ?_, fun h => absurd h (by omega), hl⟩
  unfold readB
  rw [if_pos hb]
  exact hb
theorem RdOk.hat {p : List UInt8} (h : RdOk p) (h0 : (readB p).1 = 0) : (readB p).2.2.1 < (readB p).2.2.2.1 ∧ (readB p).2.2.2.1 < 65536 ∧ (readB p).2.1 < 18446744073709551616 ∧ (readB p).2.2.2.2.length ≤ 4096 := by
  obtain ⟨e, id, a, o, d, _, h1, h2, _⟩ := h
  by_cases he : e = 0
  · obtain ⟨h3, h4⟩ := h2 he
    rw [h3]
    exact ⟨h4.1, h4.2.1, h4.2.2.1, h4.2.2.2⟩
  · exact absurd h0 (h1 he)
theorem split_ok {n id : Nat} {p : List UInt8} (h1 : 64 ≤ n) (h2 : n ≤ 4096) (hid : id < 18446744073709551616) (hm : partsN n p.length < 65536) {q : List UInt8} (hq : q ∈ splitL n id p) : RdOk q := by
  unfold splitL at hq
  obtain ⟨j, hj, rfl⟩ := List.mem_map.1 hq
  have hj := List.mem_range.1 hj
  have hc := chunk_len n j p
  exact rdok_frame ⟨h1, h2, hid, hj, hm, by omega, chunk_full rfl h1 hj⟩
theorem inNats16 {W : World} {v : Value} {zs : List Int} (h : InInts .u16 W v zs) : ∃ ns : List Nat, ns.length = zs.length ∧ Sl (allOf W) [] 1 v ns.length (ns.map fun (n : Nat) => .int .u16 (n : Int)) ∧ ∀ n ∈ ns, n < 65536 := by
  have hb : ∀ n ∈ zs, 0 ≤ n ∧ n < 65536 := fun n hn => by
    have := h.2 n hn
    simp [Lit.wf, IntKind.min, IntKind.max, IntKind.signed, IntKind.bits] at this
    omega
  refine ⟨zs.map Int.toNat, by simp, ?_, fun n hn => ?_⟩
  · have e : (zs.map Int.toNat).map (fun (n : Nat) => Value.int .u16 (n : Int)) = zs.map (.int .u16) := by
      rw [List.map_map]
      apply List.map_congr_left
      intro n hn
      have := hb n hn
      simp only [Function.comp]
      congr 1
      omega
    rw [e, List.length_map]
    exact h.1
  · obtain ⟨m, hm, rfl⟩ := List.mem_map.1 hn
    have := hb m hm
    omega
theorem rows_one {F : Fz} {rs : List Row} (h : ∀ r ∈ rs, SlB F [] r.1 r.2) : (rs.map (·.1)).all oneCellB = true := by
  rw [List.all_eq_true]
  intro v hv
  obtain ⟨r, hr, rfl⟩ := List.mem_map.1 hv
  obtain ⟨a, c, hx, _⟩ := Sl.shape (h r hr)
  rw [hx]
  rfl

structure FA where
  i : Nat
  A : List Row
  bf : Bf
  F : Fz
structure FB where
  i : Nat
  bf : Bf
  hs : List Hf
  wf : Wf
  gs : List Rm
  F : Fz
set_option maxRecDepth 4000 in
set_option maxHeartbeats 4000000 in
theorem law_FrameJoins (O : World) (F : Fz) (v u : Value) (rs : List Row) (us : List Nat) (small : Nat) (hv : Sl F [] 1 v rs.length (rs.map (·.1))) (hrs : ∀ r ∈ rs, SlB F [] r.1 r.2)
    (hu : Sl F [] 1 u us.length (us.map fun (n : Nat) => .int .u16 (n : Int))) (hus : ∀ n ∈ us, n < 65536) (hs : small < 65536) :
    Does Try.prog O 5 #[v, u, .int .u16 small] F [] (fun r _ _ => r = .bool true) := by
  obtain ⟨a0, cap, rfl, hcap⟩ := Sl.shape hv
  obtain ⟨a1, cap1, rfl, hcap1⟩ := Sl.shape hu
  refine does_of_run (args := [_, _, _]) Try.func5 rfl rfl ?_
  refine r_seq ?_
  refine r_region rfl ?_
  refine o_val rfl rfl rfl rfl (v_assign rfl) ?_
  refine o_end ?_
  refine r_seq ?_
  refine r_seq ?_
  refine r_region rfl ?_
  refine o_call rfl rfl rfl rfl (c_call callable8 rfl) (law5_awake _ _ _) ?_
  rintro v' F1 H' ⟨rfl, rfl⟩ hF1
  refine o_val rfl rfl rfl rfl (v_not rfl) ?_
  refine o_val rfl rfl rfl rfl (v_move rfl) ?_
  refine o_val rfl rfl rfl rfl (v_move rfl) ?_
  refine o_val rfl rfl rfl rfl (v_len rfl rfl) ?_
  refine o_val rfl rfl rfl rfl (v_gtr rfl rfl) ?_
  refine o_val rfl rfl rfl rfl (v_pick0 rfl rfl) ?_
  refine j_prop 25 rfl (fun h => ?_) (fun h => ?_)
  · refine o_val rfl rfl rfl rfl (v_move rfl) ?_
    refine o_skip rfl rfl rfl rfl ?_
    refine o_skip rfl rfl rfl rfl ?_
    refine o_skip rfl rfl rfl rfl ?_
    refine o_val rfl rfl rfl rfl (v_pick1 rfl rfl) ?_
    refine o_end ?_
    refine r_true rfl ?_
    refine r_seq ?_
    refine r_region rfl ?_
    refine o_call rfl rfl rfl rfl (c_call callable8 rfl) (law5_awake _ _ _) ?_
    rintro v' F2 H' ⟨rfl, rfl⟩ hF2
    refine o_val rfl rfl rfl rfl (v_assign rfl) ?_
    refine o_end ?_
    exact r_ret1 Try.func5 rfl rfl ⟨rfl, Fz.le_trans hF1 hF2⟩
  · skip
    refine o_val rfl rfl rfl rfl (v_move rfl) ?_
    refine o_val rfl rfl rfl rfl (v_move rfl) ?_
    refine o_val rfl rfl rfl rfl (v_len rfl rfl) ?_
    refine o_val rfl rfl rfl rfl (v_gtr rfl rfl) ?_
    refine o_val rfl rfl rfl rfl (v_pick0 rfl rfl) ?_
    refine o_end ?_
    refine r_if rfl (fun h2 => ?_) (fun h2 => ?_)
    · refine r_seq ?_
      refine r_region rfl ?_
      refine o_call rfl rfl rfl rfl (c_call callable8 rfl) (law5_awake _ _ _) ?_
      rintro v' F2 H' ⟨rfl, rfl⟩ hF2
      refine o_val rfl rfl rfl rfl (v_assign rfl) ?_
      refine o_end ?_
      exact r_ret1 Try.func5 rfl rfl ⟨rfl, Fz.le_trans hF1 hF2⟩
    · obtain ⟨n, hn⟩ : ∃ n, n = 64 + small % 300 := ⟨_, rfl⟩
      have hn1 : 64 ≤ n := by omega
      have hn2 : n ≤ 400 := by omega
      refine r_skip ?_
      refine r_seq ?_
      refine r_region rfl ?_
      refine o_val rfl rfl rfl rfl (v_assign rfl) ?_
      refine o_end ?_
      refine r_seq ?_
      refine r_seq ?_
      refine r_region rfl ?_
      refine o_val rfl rfl rfl rfl (v_assign rfl) ?_
      refine o_end ?_
      refine r_block ?_
      refine r_loop (fun g : FA => F1.le g.F ∧ g.i ≤ rs.length ∧ g.bf.ok g.A.length ∧ g.A.length ≤ g.i * 10 ∧ ∀ r ∈ g.A, SlB g.F [] r.1 r.2 ∧ RdOk r.2) (fun g => [(0, .slice a0 rs.length cap), (1, .slice a1 us.length cap1), (2, .int .u16 small), (7, g.bf.val g.A.length), (8, .int .i64 g.i)]) (fun g => g.F) (fun g => g.bf.ents 1 (g.A.map (·.1)) ++ []) (fun g => rs.length - g.i)
        ⟨0, [], .nil, F1⟩ ⟨Fz.le_refl _, Nat.zero_le _, rfl, Nat.zero_le _, by simp⟩ ⟨rfl, rfl, rfl, rfl, rfl, trivial⟩ rfl rfl ?_
      rintro ⟨i, A, bf, F2⟩ ⟨hF2, hi, hbf, hAl, hA⟩ IH
      dsimp only at hF2 hi hbf hAl hA ⊢
      have hF12 := Fz.le_trans hF1 hF2
      refine r_seq ?_
      refine r_seq ?_
      refine r_region rfl ?_
      refine o_val rfl rfl rfl rfl (v_move rfl) ?_
      refine o_val rfl rfl rfl rfl (v_move rfl) ?_
      refine o_val rfl rfl rfl rfl (v_len rfl rfl) ?_
      refine o_val rfl rfl rfl rfl (v_lss rfl rfl) ?_
      refine o_end ?_
      refine r_if rfl (fun h3 => ?_) (fun h3 => ?_)
      · have hil : i < rs.length := by omega
        obtain ⟨b3, off3, c3, hab3, hc3⟩ := row_cell (hv.frz (F' := F2) (H := []) hF12) hil
        have hri := (hrs rs[i] (List.getElem_mem _)).frz (F' := F2) (H := []) hF12
        obtain ⟨y, hy⟩ : ∃ y, y = rs[i] := ⟨_, rfl⟩
        rw [← hy] at hri hc3
        obtain ⟨ay, cy, hy1, _⟩ := Sl.shape hri
        rw [hy1] at hc3 hri
        rw [hab3] at IH ⊢
        refine r_skip ?_
        refine r_seq ?_
        refine r_block ?_
        refine r_seq ?_
        refine r_seq ?_
        refine r_region rfl ?_
        refine o_val rfl rfl rfl rfl (v_move rfl) ?_
        refine o_val rfl rfl rfl rfl (v_move rfl) ?_
        refine o_val rfl rfl rfl rfl (v_index1 rfl rfl rfl rfl hil) ?_
        refine o_val rfl rfl rfl rfl (v_load rfl rfl (hc3.mono (Fz.le_refl _) (by simp))) ?_
        refine o_val rfl rfl rfl rfl (v_len rfl rfl) ?_
        refine o_val rfl rfl rfl rfl (v_gtr rfl rfl) ?_
        refine o_end ?_
        refine r_if rfl (fun h4 => ?_) (fun h4 => ?_)
        · refine r_seq ?_
          refine r_region rfl ?_
          refine o_val rfl rfl rfl rfl (v_assign rfl) ?_
          refine o_end ?_
          exact r_ret1 Try.func5 rfl rfl ⟨rfl, hF12⟩
        · have hpl : y.2.length ≤ 400 := by omega
          have hpm : partsN n y.2.length ≤ 9 := by
            unfold partsN
            have h5 : (y.2.length + (n - 19) - 1) / (n - 19) < 10 := by
              rw [Nat.div_lt_iff_lt_mul (by omega)]
              omega
            omega
          have he : splitE n y.2 = 0 := by
            unfold splitE
            rw [if_neg (by omega), if_neg (by rw [Int.toNat_natCast]; omega)]
          refine r_skip ?_
          refine r_seq ?_
          refine d_region 1000000 rfl ([]) ?_
          refine d_take (i := 0) rfl rfl rfl (by decide +kernel) (by decide +kernel) (by decide +kernel) (Fz.le_refl _) (by simp) rfl (v_move rfl) ?_
          refine d_take (i := 2) rfl rfl rfl (by decide +kernel) (by decide +kernel) (by decide +kernel) (Fz.le_refl _) (by simp) rfl (v_move rfl) ?_
          refine d_take (i := 3) rfl rfl rfl (by decide +kernel) (by decide +kernel) (by decide +kernel) (Fz.le_refl _) (by simp) rfl (v_conv (r := (i : Int)) rfl rfl rfl (wrap_u64 (by omega) (by omega))) ?_
          refine d_take (i := 4) rfl rfl rfl (by decide +kernel) (by decide +kernel) (by decide +kernel) (Fz.le_refl _) (by simp) rfl (v_move rfl) ?_
          refine d_take (i := 5) rfl rfl rfl (by decide +kernel) (by decide +kernel) (by decide +kernel) (Fz.le_refl _) (by simp) rfl (v_move rfl) ?_
          refine d_take (i := 6) rfl rfl rfl (by decide +kernel) (by decide +kernel) (by decide +kernel) (Fz.le_refl _) (by simp) rfl (v_index1 rfl rfl rfl rfl hil) ?_
          refine d_take (i := 7) rfl rfl rfl (by decide +kernel) (by decide +kernel) (by decide +kernel) (Fz.le_refl _) (by simp) rfl (v_load rfl rfl (hc3.mono (Fz.le_refl _) (by simp))) ?_
          refine d_one (i := 1) (by decide +kernel) ?_
          refine d1_call rfl rfl rfl rfl (c_call callable12 rfl) (law5_size _ _ small _ hs) ?_
          rintro v' F2 H' ⟨rfl, rfl, rfl⟩ _
          refine ⟨fun w hw => held_of hw (by first | exact Fz.le_refl _ | assumption) (by simp), ?_⟩
          rw [← hn]
          refine d_one (i := 8) (by decide +kernel) ?_
          refine d1_call rfl rfl rfl rfl (c_call callable10 rfl) (ref_Split _ _ n i _ y.2 _ hri (by omega)) ?_
          rintro v' F3 H' ⟨hF3, rs2, bs, hok, rfl, hrows, hfz, rfl⟩ _
          refine ⟨fun w hw => held_of hw (by first | exact Fz.le_refl _ | assumption) (by simp), ?_⟩
          rw [he]
          have hrl : rs2.length = partsN n y.2.length := by
            have := congrArg List.length hrows
            unfold splitR splitL at this
            rw [if_pos he] at this
            simpa using this
          have hrd : ∀ r ∈ rs2, RdOk r.2 := fun r hr => by
            have h1 : r.2 ∈ splitR n i y.2 := by rw [← hrows]; exact List.mem_map.2 ⟨r, hr, rfl⟩
            unfold splitR at h1
            rw [if_pos he, Int.toNat_natCast] at h1
            exact split_ok hn1 (by omega) (by omega) (by omega) h1
          refine d_take (i := 9) rfl rfl rfl (by decide +kernel) (by decide +kernel) (by decide +kernel) hF3 (by simp) rfl (v_move rfl) ?_
          refine d_take (i := 10) rfl rfl rfl (by decide +kernel) (by decide +kernel) (by decide +kernel) hF3 (by simp) rfl (v_extract rfl rfl) ?_
          refine d_take (i := 11) rfl rfl rfl (by decide +kernel) (by decide +kernel) (by decide +kernel) hF3 (by simp) rfl (v_extract rfl rfl) ?_
          refine d_take (i := 12) rfl rfl rfl (by decide +kernel) (by decide +kernel) (by decide +kernel) hF3 (by simp) rfl (v_assign rfl) ?_
          refine d_take (i := 13) rfl rfl rfl (by decide +kernel) (by decide +kernel) (by decide +kernel) hF3 (by simp) rfl (v_assign rfl) ?_
          refine d_end (by decide +kernel) ?_
          refine r_region rfl ?_
          refine o_val rfl rfl rfl rfl (v_move rfl) ?_
          refine o_val rfl rfl rfl rfl (v_move rfl) ?_
          refine o_act rfl rfl rfl rfl (a_appendP (bf := bf) (n := A.length) (m := rs2.length) (ys := rs2.map (·.1)) (sz := 1) (bytes := 24) (bs.ents 1 (rs2.map (·.1))) ⟨⟨_, _, _, rfl, rfl, rfl, rfl, rfl, rfl⟩, by decide⟩ rfl hbf (by simp) rfl rfl (Bf.reads (bf := bs) (sz := 1) (n := rs2.length) hok (by simp) (by intro q hq; exact List.mem_append_left _ hq)) (rows_one hfz) (by unfold maxLen; omega) (by omega)) ?_
          rintro v' H' ⟨bf2, rfl, hbf2, rfl⟩
          have hle : A.length + rs2.length = (A ++ rs2).length := by simp
          rw [← List.map_append]
          rw [hle] at hbf2 ⊢
          refine j_sel (H' := bf2.ents 1 ((A ++ rs2).map (·.1)) ++ ([])) [bs.ents 1 (rs2.map (·.1)), bf2.ents 1 ((A ++ rs2).map (·.1)), []] [1, 2] rfl rfl rfl ?_
          refine o_val rfl rfl rfl rfl (v_assign rfl) ?_
          refine o_end ?_
          refine r_inBlock ?_
          refine r_region rfl ?_
          refine o_val rfl rfl rfl rfl (v_move rfl) ?_
          refine o_val rfl rfl rfl rfl (v_add rfl rfl (wrap_i64 (by omega) (by omega))) ?_
          refine o_val rfl rfl rfl rfl (v_assign rfl) ?_
          refine o_end ?_
          refine j_keep ?_ (IH ⟨i + 1, A ++ rs2, bf2, F3⟩ ⟨Fz.le_trans hF2 hF3, hil, hbf2, by simp; omega, fun r hr => ?_⟩ (by dsimp only; omega))
          · exact ⟨rfl, rfl, rfl, rfl, rfl, trivial⟩
          · rcases List.mem_append.1 hr with hr | hr
            · exact ⟨(hA r hr).1.frz hF3, (hA r hr).2⟩
            · exact ⟨hfz r hr, hrd r hr⟩
      · clear IH
        have hlen : rs.length ≤ 30 := by omega
        refine r_exit rfl ?_
        refine r_seq ?_
        refine r_region rfl ?_
        refine o_val rfl rfl rfl rfl (v_move rfl) ?_
        refine o_val rfl rfl rfl rfl (v_move rfl) ?_
        refine o_call rfl rfl rfl rfl (c_call callable12 rfl) (law5_size _ _ small _ hs) ?_
        rintro v' F2 H' ⟨rfl, rfl, rfl⟩ _
        rw [← hn]
        have hdum : dummyB (n : Int) = dumB n := by unfold dummyB; rw [if_neg (by omega), Int.toNat_natCast]
        have hdl : (dumB n).length = n := by simp [dumB]; omega
        refine o_call rfl rfl rfl rfl (c_call callable16 rfl) (ref_Dummy _ _ (n : Int) _) ?_
        rintro v' F2 H' ⟨rfl, bd, hbd, rfl, rfl⟩ _
        rw [hdum] at hbd ⊢
        refine j_freezeBf hbd (by simp) fun F3 hF3 hsd => ?_
        refine o_act rfl rfl rfl rfl (a_buildS (sz := 1) (cs := [byteV 110, byteV 111, byteV 110, byteV 101]) [.const (.int .u8 110), .const (.int .u8 111), .const (.int .u8 110), .const (.int .u8 101)] rfl rfl rfl rfl rfl rfl rfl rfl rfl rfl) ?_
        rintro v' H' ⟨y, rfl, rfl⟩
        refine o_actF rfl rfl rfl rfl (a_same 0 rfl rfl rfl rfl) ?_
        rintro v' F4 H' ⟨rfl, ⟨all, el, fz, hb, hall⟩, hH'⟩ hF4
        obtain rfl : H' = bf.ents 1 (A.map (·.1)) ++ [] := hH'
        have hsn : SlB F4 [] (.slice (some ⟨y, 0, none⟩) 4 4) [110, 111, 110, 101] := ⟨_, _, rfl, rfl, by decide, by simp, fun i c hc => ⟨y, 0, rfl, cell_frz hb (by simpa using hall i c hc)⟩⟩
        obtain ⟨ad, cd, had, _⟩ := Sl.shape hsd
        obtain ⟨r1, hr1⟩ : ∃ r1 : Row, r1 = (bd.val (dumB n).length, dumB n) := ⟨_, rfl⟩
        obtain ⟨r2, hr2⟩ : ∃ r2 : Row, r2 = (.slice (some ⟨y, 0, none⟩) 4 4, [110, 111, 110, 101]) := ⟨_, rfl⟩
        have hF34 := Fz.le_trans hF3 hF4
        have hA2 : ∀ r ∈ [r1, r2], SlB F4 [] r.1 r.2 ∧ RdOk r.2 := fun r hr => by
          simp only [List.mem_cons, List.not_mem_nil, or_false] at hr
          rcases hr with rfl | rfl
          · rw [hr1]
            exact ⟨hsd.frz hF4, rdok_dum hn1 (by omega)⟩
          · rw [hr2]
            exact ⟨hsn, rdok_bad (p := [110, 111, 110, 101]) (by decide) (by simp)⟩
        refine o_act rfl rfl rfl rfl (a_buildS (sz := 1) (cs := [bd.val (dumB n).length, .slice (some ⟨y, 0, none⟩) 4 4]) [.tmp 62, .tmp 64] rfl rfl rfl rfl rfl rfl rfl rfl rfl rfl) ?_
        rintro v' H' ⟨z, rfl, rfl⟩
        have hrv : [bd.val (dumB n).length, .slice (some ⟨y, 0, none⟩) 4 4] = [r1, r2].map (·.1) := by rw [hr1, hr2]; rfl
        rw [hrv]
        refine o_act rfl rfl rfl rfl (a_appendP (bf := bf) (n := A.length) (m := 2) (ys := [r1, r2].map (·.1)) (sz := 1) (bytes := 24) [.mem z ([r1, r2].map (·.1)) 2] ⟨⟨_, _, _, rfl, rfl, rfl, rfl, rfl, rfl⟩, by decide⟩ rfl hbf (by simp) rfl rfl ⟨_, 2, rfl, rfl, Nat.le_refl _, by simp, fun j c hj => ⟨z, 0, rfl, cell_own (cs := [r1, r2].map (·.1)) (n := 2) (List.mem_cons_self ..) (by simpa using hj)⟩⟩ (rows_one fun r hr => (hA2 r hr).1) (by unfold maxLen; omega) (by omega)) ?_
        rintro v' H' ⟨bf2, rfl, hbf2, rfl⟩
        rw [← List.map_append]
        obtain ⟨B, hB⟩ : ∃ B, B = A ++ [r1, r2] := ⟨_, rfl⟩
        have hle : A.length + 2 = B.length := by rw [hB]; simp
        rw [hle] at hbf2 ⊢
        rw [← hB]
        have hBok : ∀ r ∈ B, SlB F4 [] r.1 r.2 ∧ RdOk r.2 := fun r hr => by
          rw [hB] at hr
          rcases List.mem_append.1 hr with hr | hr
          · exact ⟨(hA r hr).1.frz hF34, (hA r hr).2⟩
          · exact hA2 r hr
        refine j_sel (H' := bf2.ents 1 (B.map (·.1)) ++ ([])) [[.mem z ([r1, r2].map (·.1)) 2], bf2.ents 1 (B.map (·.1)), []] [1, 2] rfl rfl rfl ?_
        refine j_freezeBf hbf2 (by simp) fun F5 hF5 hsB => ?_
        have hF15 := Fz.le_trans hF12 (Fz.le_trans hF34 hF5)
        have hF45 := hF5
        refine o_val rfl rfl rfl rfl (v_assign rfl) ?_
        refine o_end ?_
        refine r_seq ?_
        refine r_region rfl ?_
        refine o_val rfl rfl rfl rfl (v_build rfl rfl) ?_
        refine o_act rfl rfl rfl rfl (a_box rfl) ?_
        rintro v' H' ⟨j, rfl, rfl⟩
        refine o_val rfl rfl rfl rfl (v_assign rfl) ?_
        refine o_end ?_
        refine r_seq ?_
        refine r_region rfl ?_
        refine o_val rfl rfl rfl rfl (v_assign rfl) ?_
        refine o_end ?_
        refine r_seq ?_
        refine r_seq ?_
        refine r_region rfl ?_
        refine o_val rfl rfl rfl rfl (v_assign rfl) ?_
        refine o_end ?_
        refine r_block ?_
        refine r_loop (fun g : FB => F5.le g.F ∧ g.i ≤ us.length ∧ g.hs.map Hf.abs = g.gs.map Rm.abs ∧ (∀ h ∈ g.hs, h.ok g.F) ∧ g.bf.ok g.hs.length ∧ g.hs.length ≤ 16 ∧ (∀ h ∈ g.gs, h.okF g.F) ∧ rmD g.gs ∧ g.wf.ok 3 g.gs.length) (fun g => [(1, .slice a1 us.length cap1), (7, bf2.val B.length), (11, ptrV j), (12, g.wf.val g.gs.length), (13, .int .i64 g.i)]) (fun g => g.F) (fun g => JH j g.bf g.hs (RH g.wf g.gs [])) (fun g => us.length - g.i)
          ⟨0, .nil, [], .nil, [], F5⟩ ⟨Fz.le_refl _, Nat.zero_le _, rfl, by simp, rfl, by simp, by simp, List.Pairwise.nil, rfl⟩ ⟨rfl, rfl, rfl, rfl, rfl, trivial⟩ rfl rfl ?_
        rintro ⟨i, bf, hs, wf, gs, F6⟩ ⟨hF6, hi, habs, hhs, hbf, hhl, hgs, hD, hwf⟩ IH
        dsimp only at hF6 hi habs hhs hbf hhl hgs hD hwf ⊢
        have hF16 := Fz.le_trans hF15 hF6
        refine r_seq ?_
        refine r_seq ?_
        refine r_region rfl ?_
        refine o_val rfl rfl rfl rfl (v_move rfl) ?_
        refine o_val rfl rfl rfl rfl (v_move rfl) ?_
        refine o_val rfl rfl rfl rfl (v_len rfl rfl) ?_
        refine o_val rfl rfl rfl rfl (v_lss rfl rfl) ?_
        refine o_end ?_
        refine r_if rfl (fun h6 => ?_) (fun h6 => ?_)
        · have hil : i < us.length := by omega
          have hgl : gs.length = hs.length := by
            have := congrArg List.length habs
            simpa using this.symm
          obtain ⟨b1, off1, c1, hab1, _, hc1⟩ := (hu.frz (F' := F6) (H := []) hF16).view (by omega)
          simp only [Value.slice.injEq] at hab1
          obtain ⟨rfl, _, rfl⟩ := hab1
          have hcu := hc1 i (.int .u16 us[i]) (by rw [List.getElem?_map, List.getElem?_eq_getElem hil]; rfl)
          have hui := hus us[i] (List.getElem_mem _)
          generalize us[i] = ui at *
          obtain ⟨k, hk⟩ : ∃ k, k = ui % B.length := ⟨_, rfl⟩
          have hB0 : 0 < B.length := by omega
          have hkl : k < B.length := by rw [hk]; exact Nat.mod_lt _ hB0
          have hmod : (ui : Int).tmod B.length = (k : Int) := by rw [hk]; rfl
          obtain ⟨b3, off3, c3, hab3, hc3⟩ := row_cell (hsB.frz (F' := F6) (H := []) hF6) hkl
          obtain ⟨hrk, hrd⟩ := hBok B[k] (List.getElem_mem _)
          have hrk := hrk.frz (F' := F6) (H := []) (Fz.le_trans hF5 hF6)
          generalize B[k] = y at *
          obtain ⟨ay, cy, hy, _⟩ := Sl.shape hrk
          rw [hy] at hc3 hrk
          have hat := hrd.hat
          obtain ⟨e, id, a, o, d, hread, hb1, hb0, hyl⟩ := hrd
          rw [hab3] at IH ⊢
          refine r_skip ?_
          refine r_seq ?_
          refine r_block ?_
          refine r_seq ?_
          refine r_region rfl ?_
          refine o_val rfl rfl rfl rfl (v_move rfl) ?_
          refine o_val rfl rfl rfl rfl (v_move rfl) ?_
          refine o_val rfl rfl rfl rfl (v_move rfl) ?_
          refine o_val rfl rfl rfl rfl (v_index1 rfl rfl rfl rfl hil) ?_
          refine o_val rfl rfl rfl rfl (v_load rfl rfl (hcu.mono (Fz.le_refl _) (by simp))) ?_
          refine o_val rfl rfl rfl rfl (v_conv (r := (ui : Int)) rfl rfl rfl (wrap_i64 (by omega) (by omega))) ?_
          refine o_val rfl rfl rfl rfl (v_move rfl) ?_
          refine o_val rfl rfl rfl rfl (v_len rfl rfl) ?_
          refine o_val rfl rfl rfl rfl (v_rem rfl rfl (by omega) hmod) ?_
          refine o_val rfl rfl rfl rfl (v_index1 rfl rfl rfl rfl hkl) ?_
          refine o_val rfl rfl rfl rfl (v_load rfl rfl (hc3.mono (Fz.le_refl _) (by simp))) ?_
          refine o_val rfl rfl rfl rfl (v_assign rfl) ?_
          refine o_end ?_
          refine r_seq ?_
          refine r_region rfl ?_
          refine o_val rfl rfl rfl rfl (v_move rfl) ?_
          refine o_val rfl rfl rfl rfl (v_move rfl) ?_
          refine o_call rfl rfl rfl rfl (c_call callable18 rfl) (j_Take _ _ j bf hs _ y.2 (RH wf gs []) hbf hhs hhl hrk hyl hat) ?_
          rintro v' F7 H' ⟨hF7, hs', bf', rv, rfl, hrv, habs', hhs', hbf', hl', rfl⟩ _
          obtain ⟨arv, crv, rfl, _⟩ := Sl.shape hrv
          refine j_sel (H' := wf.ents (rmV gs) ++ (gs.map Rm.blk ++ (JE j bf' hs'.length :: (bf'.ents 4 (hfV hs') ++ (hs'.map Hf.blk ++ ([])))))) [[JE j bf' hs'.length], bf'.ents 4 (hfV hs'), hs'.map Hf.blk, wf.ents (rmV gs), gs.map Rm.blk, []] [3, 4, 0, 1, 2, 5] rfl rfl rfl ?_
          refine o_val rfl rfl rfl rfl (v_move rfl) ?_
          refine o_val rfl rfl rfl rfl (v_extract rfl rfl) ?_
          refine o_val rfl rfl rfl rfl (v_extract rfl rfl) ?_
          refine o_val rfl rfl rfl rfl (v_assign rfl) ?_
          refine o_val rfl rfl rfl rfl (v_assign rfl) ?_
          refine o_end ?_
          refine r_seq ?_
          refine r_region rfl ?_
          refine o_val rfl rfl rfl rfl (v_assign rfl) ?_
          refine o_end ?_
          refine r_seq ?_
          refine r_region rfl ?_
          refine o_val rfl rfl rfl rfl (v_assign rfl) ?_
          refine o_end ?_
          refine r_seq ?_
          refine r_region rfl ?_
          refine o_val rfl rfl rfl rfl (v_move rfl) ?_
          refine o_val rfl rfl rfl rfl (v_move rfl) ?_
          refine o_call rfl rfl rfl rfl (c_call callable19 rfl) (ref_Take _ _ wf gs _ y.2 _ e id a o d hwf (fun g hg => (hgs g hg).frz hF7) hD (by omega) (hrk.frz hF7) (fun Fr => hread _ _ _ Fr (hrk.frz hF7)) hb1 hb0) ?_
          rintro v' F8 H' ⟨hF8, gs', wf', rw', rfl, hrw, habs2, hgs', hD', hwf', hl2, rfl⟩ _
          obtain ⟨arw, crw, rfl, _⟩ := Sl.shape hrw
          rw [habs] at hrv habs' ⊢
          generalize joinT (gs.map Rm.abs) y.2 = JT at *
          have hgl' : gs'.length = hs'.length := by
            have := congrArg List.length (habs2.trans habs'.symm)
            simpa using this
          refine j_sel (H' := JE j bf' hs'.length :: (bf'.ents 4 (hfV hs') ++ (hs'.map Hf.blk ++ (wf'.ents (rmV gs') ++ (gs'.map Rm.blk ++ ([])))))) [wf'.ents (rmV gs'), gs'.map Rm.blk, [JE j bf' hs'.length], bf'.ents 4 (hfV hs'), hs'.map Hf.blk, []] [2, 3, 4, 0, 1, 5] rfl rfl rfl ?_
          refine o_val rfl rfl rfl rfl (v_move rfl) ?_
          refine o_val rfl rfl rfl rfl (v_extract rfl rfl) ?_
          refine o_val rfl rfl rfl rfl (v_extract rfl rfl) ?_
          refine o_val rfl rfl rfl rfl (v_extract rfl rfl) ?_
          refine o_val rfl rfl rfl rfl (v_assign rfl) ?_
          refine o_val rfl rfl rfl rfl (v_assign rfl) ?_
          refine o_val rfl rfl rfl rfl (v_assign rfl) ?_
          refine o_end ?_
          refine r_seq ?_
          refine r_region rfl ?_
          refine o_val rfl rfl rfl rfl (v_move rfl) ?_
          refine o_val rfl rfl rfl rfl (v_move rfl) ?_
          refine o_val rfl rfl rfl rfl (v_bneq rfl rfl rfl) ?_
          refine j_slot 101 rfl (v' := .bool false) (by simp) ?_
          refine o_val rfl rfl rfl rfl (v_move rfl) ?_
          refine o_val rfl rfl rfl rfl (v_move rfl) ?_
          refine o_val rfl rfl rfl rfl (v_bytesString rfl rfl rfl rfl (l := JT.2.getD []) (hrv.frz hF8)) ?_
          refine o_val rfl rfl rfl rfl (v_move rfl) ?_
          refine o_val rfl rfl rfl rfl (v_bytesString rfl rfl rfl rfl (l := JT.2.getD []) (hrw.frz (Fz.le_refl _))) ?_
          refine o_val rfl rfl rfl rfl (v_sneq rfl rfl) ?_
          refine j_slot 107 rfl (v' := .bool false) (by simp) ?_
          refine o_val rfl rfl rfl rfl (v_pick0 rfl rfl) ?_
          refine o_val rfl rfl rfl rfl (v_move rfl) ?_
          refine o_val rfl rfl rfl rfl (v_move rfl) ?_
          refine o_call rfl rfl rfl rfl (c_call callable20 rfl) (j_Len _ _ j bf' hs'.length _) ?_
          rintro v' F8 H' ⟨rfl, rfl, rfl⟩ _
          refine o_val rfl rfl rfl rfl (v_move rfl) ?_
          refine o_val rfl rfl rfl rfl (v_len rfl rfl) ?_
          refine o_val rfl rfl rfl rfl (v_neq rfl rfl) ?_
          refine j_slot 114 rfl (v' := .bool false) (by rw [hgl']; simp) ?_
          refine o_val rfl rfl rfl rfl (v_pick0 rfl rfl) ?_
          refine o_end ?_
          refine r_false rfl ?_
          refine r_skip ?_
          refine r_inBlock ?_
          refine r_region rfl ?_
          refine o_val rfl rfl rfl rfl (v_move rfl) ?_
          refine o_val rfl rfl rfl rfl (v_add rfl rfl (wrap_i64 (by omega) (by omega))) ?_
          refine o_val rfl rfl rfl rfl (v_assign rfl) ?_
          refine o_end ?_
          refine j_keep ?_ (IH ⟨i + 1, bf', hs', wf', gs', F8⟩ ⟨Fz.le_trans hF6 (Fz.le_trans hF7 hF8), hil, habs'.trans habs2.symm, fun h hh => (hhs' h hh).frz hF8, hbf', hl', hgs', hD', hwf'⟩ (by dsimp only; omega))
          exact ⟨rfl, rfl, rfl, rfl, rfl, trivial⟩
        · refine r_exit rfl ?_
          refine r_seq ?_
          refine r_region rfl ?_
          refine o_val rfl rfl rfl rfl (v_assign rfl) ?_
          refine o_end ?_
          exact r_ret1 Try.func5 rfl rfl ⟨rfl, hF16⟩
theorem in_FrameJoins (W : World) (t : Value) (rs : List (Value × List UInt8)) (ht : InRows W t rs) (hr : rs.length ≤ 9223372036854775807) (v : Value) (zs : List Int) (h : InInts .u16 W v zs) (hz : zs.length * 2 ≤ 140737488351232) (s : Int) (hs : (Lit.int .u16 s).wf = true) :
    Calls Try.prog 5 #[t, v, .int .u16 s] W fun e w' => e = .returned (.bool true) ∧ Go.RowKit.Below W.heap.size W w' := by
  obtain ⟨us, _, hu, hus⟩ := inNats16 h
  simp [Lit.wf, IntKind.min, IntKind.max, IntKind.signed, IntKind.bits] at hs
  obtain ⟨s, rfl⟩ := Int.eq_ofNat_of_zero_le hs.1
  exact below_of_does (law_FrameJoins _ _ _ _ rs us s ht.1 ht.2 hu hus (by omega))
end Go.SX
