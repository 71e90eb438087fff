/-
  Contracts of package wal over a disk.
-/
import Derived.Test.YtmpbgnffdpppbaaWal9
namespace Go.SX
open Go Go.Proofs
set_option maxRecDepth 4000
set_option linter.unusedSimpArgs false
set_option linter.unusedVariables false

theorem wal_Keep (O : World) (F : Fz) (a : Nat) (bf : Bf) (b : List UInt8) (sure ops : Nat) (h : Bool) (t : Nat) (vo : Int) (lv : Value) (l : List En) (Fr : List Ent) (hok : bf.ok b.length) (hb : b.length ≤ 100000000000) (ho : ops ≤ 9223372036854775806)
    (hv : Sl F [] 4 lv l.length (enV l)) (hl : ∀ e ∈ l, e.ok F) (hn : l.length ≤ 1000) (h1 : -1 ≤ vo) (h2 : vo < 65535) :
    Does Try.prog O 21 #[ptrV a, .agg #[.bool h, .int .u64 t, .int .i64 vo, lv]] F (DkE a bf b sure ops :: (bf.ents 1 (bytesV b) ++ Fr)) (fun r F' H' => r = .int .i64 0 ∧ F' = F ∧ ∃ bf' : Bf, bf'.ok (b ++ saveB h t vo (l.map En.pure)).length ∧
      H' = DkE a bf' (b ++ saveB h t vo (l.map En.pure)) sure (ops + 1) :: (bf'.ents 1 (bytesV (b ++ saveB h t vo (l.map En.pure))) ++ Fr)) := by
  obtain ⟨a0, cap, rfl, hcap⟩ := Sl.shape hv
  have hsl := saveB_le h t vo l hl hn
  refine does_of_run (args := [_, _]) Try.func21 rfl rfl ?_
  refine r_seq ?_
  refine r_region rfl ?_
  refine o_act rfl rfl rfl rfl (a_box rfl) ?_
  rintro v' H' ⟨s0, rfl, rfl⟩
  refine o_val rfl rfl rfl rfl (v_assign rfl) ?_
  refine o_end ?_
  refine r_seq ?_
  refine r_region rfl ?_
  refine o_val rfl rfl rfl rfl (v_move rfl) ?_
  refine o_val rfl rfl rfl rfl (v_loadAgg (sz := 4) (cs := [.bool h, .int .u64 t, .int .i64 vo, .slice a0 l.length cap]) rfl rfl rfl rfl (cells_of (j := 0) _ _ rfl rfl)) ?_
  refine o_call rfl rfl rfl rfl (c_call callable17 rfl) (wal_Bytes _ _ h t vo (.slice a0 l.length cap) l _ (hv.frz (Fz.le_refl _)) hl hn h1 h2) ?_
  rintro v' F H' ⟨rfl, bs, oks, rfl, rfl⟩ _
  generalize saveB h t vo (l.map En.pure) = m at *
  refine j_sel (H' := DkE a bf b sure ops :: (bf.ents 1 (bytesV b) ++ (bs.ents 1 (bytesV m) ++ Fr))) [bs.ents 1 (bytesV m), [Ent.mem s0 [.bool h, .int .u64 t, .int .i64 vo, .slice a0 l.length cap] 4], [DkE a bf b sure ops], bf.ents 1 (bytesV b), Fr] [2, 3, 0, 4] rfl rfl rfl ?_
  refine o_call rfl rfl rfl rfl (c_call callable29 rfl) (dk_Append _ _ a bf b m sure ops _ (bs.ents 1 (bytesV m) ++ Fr) hok (bf_reads oks (by intro q hq; exact List.mem_append_left _ hq)) (by omega) ho) ?_
  rintro v' F H' ⟨rfl, rfl, bf', hok', rfl⟩ _
  refine o_val rfl rfl rfl rfl (v_assign rfl) ?_
  refine o_end ?_
  refine j_sel (H' := DkE a bf' (b ++ m) sure (ops + 1) :: (bf'.ents 1 (bytesV (b ++ m)) ++ Fr)) [[DkE a bf' (b ++ m) sure (ops + 1)], bf'.ents 1 (bytesV (b ++ m)), bs.ents 1 (bytesV m), Fr] [0, 1, 3] rfl rfl rfl ?_
  exact r_ret1 Try.func21 rfl rfl ⟨⟨rfl, rfl, bf', hok', rfl⟩, Fz.le_refl _⟩

theorem wal_Compact (O : World) (F : Fz) (a : Nat) (bf : Bf) (b : List UInt8) (sure ops : Nat) (p : Im) (Fr : List Ent) (ho : ops ≤ 9223372036854775806) (hp : p.ok F) (hn : p.l.length ≤ 1000) :
    Does Try.prog O 22 #[ptrV a, .agg p.cells.toArray] F (DkE a bf b sure ops :: (bf.ents 1 (bytesV b) ++ Fr)) (fun r F' H' => r = .int .i64 0 ∧ F' = F ∧ ∃ bf' : Bf, bf'.ok p.pure.whole.length ∧ H' = DkE a bf' p.pure.whole p.pure.whole.length (ops + 1) :: (bf'.ents 1 (bytesV p.pure.whole) ++ Fr)) := by
  have hsl := saveB_le true p.term p.vote p.l hp.l hn
  have hwl : p.pure.whole.length ≤ 1049800000 := by
    have hsn : (snB p.ix p.tm p.vt p.data).length ≤ 1048700 := by
      have := hp.dl
      unfold snB; split <;> simp; omega
    show (snB p.ix p.tm p.vt p.data ++ saveB true p.term p.vote (p.l.map En.pure)).length ≤ _
    rw [List.length_append]
    omega
  refine does_of_run (args := [_, _]) Try.func22 rfl rfl ?_
  refine r_seq ?_
  refine r_region rfl ?_
  refine o_act rfl rfl rfl rfl (a_box rfl) ?_
  rintro v' H' ⟨s0, rfl, rfl⟩
  refine j_heap (H' := .mem s0 p.cells 7 :: DkE a bf b sure ops :: (bf.ents 1 (bytesV b) ++ Fr)) rfl ?_
  refine o_val rfl rfl rfl rfl (v_assign rfl) ?_
  refine o_end ?_
  refine r_seq ?_
  refine r_region rfl ?_
  refine o_val rfl rfl rfl rfl (v_move rfl) ?_
  refine o_val rfl rfl rfl rfl (v_loadAgg (sz := 7) (cs := p.cells) rfl rfl rfl rfl (cells_of (j := 0) _ _ rfl rfl)) ?_
  refine o_call rfl rfl rfl rfl (c_call callable18 rfl) (wal_Whole _ _ p _ hp hn) ?_
  rintro v' F H' ⟨rfl, bs, oks, rfl, rfl⟩ _
  generalize p.pure.whole = m at *
  refine j_sel (H' := DkE a bf b sure ops :: (bf.ents 1 (bytesV b) ++ (bs.ents 1 (bytesV m) ++ Fr))) [bs.ents 1 (bytesV m), [Ent.mem s0 p.cells 7], [DkE a bf b sure ops], bf.ents 1 (bytesV b), Fr] [2, 3, 0, 4] rfl rfl rfl ?_
  refine o_call rfl rfl rfl rfl (c_call callable43 rfl) (dk_Put _ _ a bf b m sure ops _ (bs.ents 1 (bytesV m) ++ Fr) (bf_reads oks (by intro q hq; exact List.mem_append_left _ hq)) (by omega) ho) ?_
  rintro v' F H' ⟨rfl, rfl, bf', hok', rfl⟩ _
  refine o_val rfl rfl rfl rfl (v_assign rfl) ?_
  refine o_end ?_
  refine j_sel (H' := DkE a bf' m m.length (ops + 1) :: (bf'.ents 1 (bytesV m) ++ Fr)) [[DkE a bf' m m.length (ops + 1)], bf'.ents 1 (bytesV m), bs.ents 1 (bytesV m), Fr] [0, 1, 3] rfl rfl rfl ?_
  exact r_ret1 Try.func22 rfl rfl ⟨⟨rfl, rfl, bf', hok', rfl⟩, Fz.le_refl _⟩

theorem wal_Open (O : World) (F : Fz) (a : Nat) (bf : Bf) (l : List UInt8) (sure ops : Nat) (Fr : List Ent) (hok : bf.ok l.length) (hl : l.length ≤ 1000000) (ho : ops ≤ 9223372036854775806) :
    Does Try.prog O 20 #[ptrV a] F (DkE a bf l sure ops :: (bf.ents 1 (bytesV l) ++ Fr)) (fun r F' H' => F.le F' ∧ ∃ (p : Im) (bf2 : Bf) (sure2 ops2 : Nat), p.ok F' ∧ p.l.length ≤ l.length ∧ p.pure = (scanP nilI l).1 ∧ r = .tuple #[.agg p.cells.toArray, .int .i64 0] ∧ bf2.ok (l.take (scanP nilI l).2).length ∧ ((scanP nilI l).2 = l.length → sure2 = sure) ∧
      H' = DkE a bf2 (l.take (scanP nilI l).2) sure2 ops2 :: (bf2.ents 1 (bytesV (l.take (scanP nilI l).2)) ++ Fr)) := by
  refine does_of_run (args := [_]) Try.func20 rfl rfl ?_
  obtain ⟨hsc1, _⟩ := scanP_again l.length nilI l (Nat.le_refl _)
  refine r_seq ?_
  refine r_region rfl ?_
  refine o_act rfl rfl rfl rfl (a_alloc rfl) ?_
  rintro v' H' ⟨x, rfl, rfl⟩
  obtain ⟨z0, hz0⟩ : ∃ z0 : Im, z0 = ⟨0, 0, 0, 0, 0, .slice none 0 0, [], .slice none 0 0, []⟩ := ⟨_, rfl⟩
  refine j_heap (H' := .mem x z0.cells 7 :: DkE a bf l sure ops :: (bf.ents 1 (bytesV l) ++ Fr)) (by rw [hz0]; rfl) ?_
  refine j_sel (H' := DkE a bf l sure ops :: (bf.ents 1 (bytesV l) ++ (.mem x z0.cells 7 :: Fr))) [[Ent.mem x z0.cells 7], [DkE a bf l sure ops], bf.ents 1 (bytesV l), Fr] [1, 2, 0, 3] rfl rfl rfl ?_
  refine o_val rfl rfl rfl rfl (v_assign rfl) ?_
  refine o_end ?_
  refine r_seq ?_
  refine r_seq ?_
  refine r_region rfl ?_
  refine o_val rfl rfl rfl rfl (v_move rfl) ?_
  refine o_val rfl rfl rfl rfl (v_peqnil rfl rfl rfl) ?_
  refine o_end ?_
  refine r_false rfl ?_
  refine r_skip ?_
  refine r_seq ?_
  refine r_region rfl ?_
  refine o_val rfl rfl rfl rfl (v_move rfl) ?_
  refine o_call rfl rfl rfl rfl (c_call callable42 rfl) (dk_Read _ _ a bf l sure ops _ hok (by omega)) ?_
  rintro v' F H' ⟨rfl, bc, okc, rfl, rfl⟩ _
  refine j_freezeBf (n := l.length) okc (by simp) fun F1 hF1 hs1 => ?_
  have hs1' : SlB F1 [] (bc.val l.length) l := hs1
  refine o_val rfl rfl rfl rfl (v_assign rfl) ?_
  refine o_end ?_
  refine r_seq ?_
  refine r_region rfl ?_
  refine o_val rfl rfl rfl rfl (v_move rfl) ?_
  refine o_call rfl rfl rfl rfl (c_call callable12 rfl) (wal_Scan _ _ _ l _ hs1' hl) ?_
  rintro v' F2 H' ⟨hF2, rfl, p, hp, hpl, hpp, rfl⟩ _
  have hpo := hp.one
  generalize hn : (scanP nilI l).2 = n at *
  refine o_val rfl rfl rfl rfl (v_move rfl) ?_
  refine o_val rfl rfl rfl rfl (v_extract rfl rfl) ?_
  refine o_val rfl rfl rfl rfl (v_extract rfl rfl) ?_
  refine o_act rfl rfl rfl rfl (a_alloc rfl) ?_
  rintro v' H' ⟨y, rfl, rfl⟩
  refine o_act0 rfl rfl rfl (a_store (sz := 7) 0 rfl rfl rfl (by simpa [Value.cells] using hpo) rfl rfl (Nat.le_of_ble_eq_true rfl)) ?_
  refine j_heap (H' := .mem y p.cells 7 :: DkE a bf l sure ops :: (bf.ents 1 (bytesV l) ++ (.mem x z0.cells 7 :: Fr))) rfl ?_
  refine j_sel (H' := DkE a bf l sure ops :: (bf.ents 1 (bytesV l) ++ (.mem y p.cells 7 :: .mem x z0.cells 7 :: Fr))) [[Ent.mem y p.cells 7], [DkE a bf l sure ops], bf.ents 1 (bytesV l), [Ent.mem x z0.cells 7], Fr] [1, 2, 0, 3, 4] rfl rfl rfl ?_
  refine o_val rfl rfl rfl rfl (v_assign rfl) ?_
  refine o_end ?_
  refine r_seq ?_
  refine r_seq ?_
  refine r_region rfl ?_
  refine o_val rfl rfl rfl rfl (v_move rfl) ?_
  refine o_val rfl rfl rfl rfl (v_move rfl) ?_
  refine o_val rfl rfl rfl rfl (v_len rfl rfl) ?_
  refine o_val rfl rfl rfl rfl (v_lss rfl rfl) ?_
  refine o_end ?_
  refine r_if rfl (fun g => ?_) (fun g => ?_)
  · have hvt : SlB F2 [] (Go.sliced bc.addr 0 n bc.cp 1) (l.take n) := SlB.take (hs1'.frz hF2) (by omega)
    refine r_region rfl ?_
    refine o_val rfl rfl rfl rfl (v_move rfl) ?_
    refine o_val rfl rfl rfl rfl (v_move rfl) ?_
    refine o_val rfl rfl rfl rfl (v_move rfl) ?_
    refine o_val rfl rfl rfl rfl (v_sliceH (sz := 1) rfl rfl rfl rfl rfl (by have := Bf.ok_cp okc; omega)) ?_
    refine o_call rfl rfl rfl rfl (c_call callable43 rfl) (dk_Put _ _ a bf l (l.take n) sure ops _ (.mem y p.cells 7 :: .mem x z0.cells 7 :: Fr) (hvt.frz (Fz.le_refl _)) (by simp; omega) ho) ?_
    rintro v' F2 H' ⟨rfl, rfl, bf', hok', rfl⟩ _
    generalize hD1 : DkE a bf' (l.take n) (l.take n).length (ops + 1) = D1
    generalize hB1 : bf'.ents 1 (bytesV (l.take n)) = B1
    refine o_end ?_
    refine r_seq ?_
    refine r_region rfl ?_
    refine j_sel (H' := .mem y p.cells 7 :: .mem x z0.cells 7 :: D1 :: (B1 ++ Fr)) [[D1], B1, [Ent.mem y p.cells 7], [Ent.mem x z0.cells 7], Fr] [2, 3, 0, 1, 4] rfl rfl rfl ?_
    refine o_val rfl rfl rfl rfl (v_loadAgg (sz := 7) (cs := p.cells) rfl rfl rfl rfl (cells_of (j := 0) _ _ rfl rfl)) ?_
    refine o_act0 rfl rfl rfl (a_store (sz := 7) 1 rfl rfl rfl (by simpa [Value.cells] using hpo) rfl rfl (by rw [hz0]; exact Nat.le_of_ble_eq_true rfl)) ?_
    refine j_heap (H' := .mem y p.cells 7 :: .mem x p.cells 7 :: D1 :: (B1 ++ Fr)) (by rw [hz0]; rfl) ?_
    refine o_val rfl rfl rfl rfl (v_assign rfl) ?_
    refine o_end ?_
    subst hD1 hB1
    exact r_retC1 Try.func20 rfl rfl rfl rfl rfl rfl (cells_of (j := 1) _ _ rfl rfl) (H' := DkE a bf' (l.take n) (l.take n).length (ops + 1) :: (bf'.ents 1 (bytesV (l.take n)) ++ Fr)) ((List.sublist_cons_self _ _).trans (List.sublist_cons_self _ _)) ⟨⟨Fz.le_trans hF1 hF2, p, bf', _, _, hp, hpl, hpp, rfl, hok', fun h => by omega, rfl⟩, Fz.le_trans hF1 hF2⟩
  · have hnl : n = l.length := by omega
    generalize hD1 : DkE a bf l sure ops = D1
    generalize hB1 : bf.ents 1 (bytesV l) = B1
    refine r_skip ?_
    refine r_seq ?_
    refine r_region rfl ?_
    refine j_sel (H' := .mem y p.cells 7 :: .mem x z0.cells 7 :: D1 :: (B1 ++ Fr)) [[D1], B1, [Ent.mem y p.cells 7], [Ent.mem x z0.cells 7], Fr] [2, 3, 0, 1, 4] rfl rfl rfl ?_
    refine o_val rfl rfl rfl rfl (v_loadAgg (sz := 7) (cs := p.cells) rfl rfl rfl rfl (cells_of (j := 0) _ _ rfl rfl)) ?_
    refine o_act0 rfl rfl rfl (a_store (sz := 7) 1 rfl rfl rfl (by simpa [Value.cells] using hpo) rfl rfl (by rw [hz0]; exact Nat.le_of_ble_eq_true rfl)) ?_
    refine j_heap (H' := .mem y p.cells 7 :: .mem x p.cells 7 :: D1 :: (B1 ++ Fr)) (by rw [hz0]; rfl) ?_
    refine o_val rfl rfl rfl rfl (v_assign rfl) ?_
    refine o_end ?_
    subst hD1 hB1
    have htl : l.take n = l := by rw [hnl, List.take_length]
    exact r_retC1 Try.func20 rfl rfl rfl rfl rfl rfl (cells_of (j := 1) _ _ rfl rfl) (H' := DkE a bf l sure ops :: (bf.ents 1 (bytesV l) ++ Fr)) ((List.sublist_cons_self _ _).trans (List.sublist_cons_self _ _)) ⟨⟨Fz.le_trans hF1 hF2, p, bf, sure, ops, hp, hpl, hpp, rfl, by rw [htl]; exact hok, fun _ => rfl, by rw [htl]⟩, Fz.le_trans hF1 hF2⟩
end Go.SX
