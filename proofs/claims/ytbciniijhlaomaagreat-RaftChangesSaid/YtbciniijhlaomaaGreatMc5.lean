/-
  Contracts and plain laws, laid together: part 5.
-/
import Derived.Calls
import Derived.Orders
import Derived.OrdersHeld
import Derived.Tactics
import Derived.OwnWalk
import Derived.Laws.Small
import Derived.Laws.Strings
import Derived.Laws.Pointers
import Derived.Laws.CopyRow
import Derived.Laws.Append
import Derived.Laws.AppendOwn
import Derived.Laws.BytesArg
import Derived.Laws.Slices
import Derived.Laws.MakeOwn
import Derived.Laws.Tables
import Derived.Great.BuildSlice
import Derived.Laws.Cover3
import Derived.Laws.Concat
import Derived.Test.YtbciniijhlaomaaGreatProg
import Derived.Below
import Derived.SizedLaws
import Derived.ChangeSlices
import Derived.ChangeOld
import Derived.Laws.StructEq
import Derived.Deep.Matrix
import Derived.Deep.SlicePairs
import Derived.Deep.Grids
import Derived.MapKept
import Derived.Carry
import Derived.WideLaws
import Derived.Laws.Externs
import Derived.Laws.FloatArith
import Derived.Test.YtbciniijhlaomaaGreatMc4
namespace Go.SX
open Go Go.Proofs
set_option maxRecDepth 4000
set_option linter.unusedSimpArgs false
set_option linter.unusedVariables false
def PR.setA (p : PR) : PR := if p.rs = true then ({ p with rs := false } : PR).saved else p
def PR.diskA (p : PR) (d : List UInt8 × Nat) : List UInt8 × Nat := if p.rs = true then (p.image.whole, p.image.whole.length) else d
theorem setA_saved (p : PR) : p.setA.saved = p.settled := by
  unfold PR.setA PR.saved PR.settled
  split
  · rfl
  · rename_i h
    have h : p.rs = false := by simpa using h
    rw [h]
theorem saved_ok {F : Fz} {r : Rf} (hr : r.ok F) : ({ r with p := r.p.saved } : Rf).ok F := hr.set _ { hr.B with fresh := Nat.zero_le _ } rfl rfl rfl rfl
theorem disk_eq (p : PR) (d : List UInt8 × Nat) : p.disk d = if p.setA.saves = true then ((p.diskA d).1 ++ saveB p.setA.chg p.setA.term p.setA.vote p.setA.saveE, (p.diskA d).2) else p.diskA d := by
  unfold PR.disk PR.setA PR.diskA
  cases h : p.rs with
  | true => rfl
  | false => rfl
def PR.leads (p : PR) (i : Nat) (ld : List (Nat × Nat)) (dn : List (Nat × PE)) (bad : Bool) : List (Nat × Nat) × Bool :=
  if p.role = 3 then (putN ld p.term i, overB p (putN ld p.term i) dn (leadB i p ld bad)) else (ld, bad)
def pureD (dn : List (Nat × En)) : List (Nat × PE) := dn.map fun q => (q.1, q.2.pure)
theorem pureD_put (dn : List (Nat × En)) (k : Nat) (e : En) : pureD (putN dn k e) = putN (pureD dn) k e.pure := putN_map _ _ _ _
theorem pureD_look (dn : List (Nat × En)) (k : Nat) : lookN (pureD dn) k = (lookN dn k).map En.pure := lookN_map _ _ _
set_option maxHeartbeats 4000000 in
theorem g_settle1 (O : World) (F : Fz) (x : Fx) (i k : Nat) (r : Rf) (bad : Bool) (ld : List (Nat × Nat)) (dn : List (Nat × En)) (d : Dk) (Fr : List Ent)
    (hr : r.ok F) (hdn : ∀ q ∈ dn, q.2.ok F) (hd : d.ok k) (hk : k ≤ 90000) (hs : r.p.saveOk = true) (hi : i < 7) {lb n N c : Nat} {cs : List Value} (hlv : x.lv = .slice (some ⟨lb, 0, none⟩) n c) (hin : i < n) (hcs : cs[i]? = some (ptrV x.ma)) (hmem : Ent.mem lb cs N ∈ Fr) :
    Does Tryz.prog O 40 #[ptrV x.ga, .int .i64 i] F (FoH x r bad ld dn d Fr) (fun v F' H' => v = noneV ∧ ∃ (r' : Rf) (d' : Dk) (bad' : Bool) (dn' : List (Nat × En)), r'.ok F' ∧ r'.p = r.p.settled ∧ d'.ok (k + 1) ∧ d'.pure = r.p.disk d.pure ∧ (∀ q ∈ dn', q.2.ok F') ∧
      (pureD dn', bad') = cmtF r.p (r.p.cm - r.p.lix) (r.p.lix + 1) (pureD dn) (r.p.leads i ld (pureD dn) bad).2 ∧ H' = FoH x r' bad' (r.p.leads i ld (pureD dn) bad).1 dn' d' Fr) := by
  refine does_of_run (args := [_, _]) Tryz.func40 rfl rfl ?_
  unfold PR.saveOk at hs
  rw [Bool.and_eq_true, Bool.and_eq_true, Bool.or_eq_true, decide_eq_true_eq, decide_eq_true_eq, decide_eq_true_eq, Bool.or_eq_true, decide_eq_true_eq] at hs
  obtain ⟨⟨hfr, hse⟩, hrl⟩ := hs
  unfold FoH
  refine r_seq ?_
  refine r_region rfl ?_
  refine o_val rfl rfl rfl rfl (v_move rfl) ?_
  refine o_val rfl rfl rfl rfl (v_nilCheck rfl) ?_
  refine o_val rfl rfl rfl rfl (v_field (k := 0) rfl rfl rfl) ?_
  refine o_val rfl rfl rfl rfl (v_load (v := .slice (some ⟨lb, 0, none⟩) n c) rfl rfl (by rw [← hlv]; exact gcell (x := x) (bad := bad) 0 (by simp [RfH_eq]) rfl)) ?_
  refine o_val rfl rfl rfl rfl (v_move rfl) ?_
  refine o_val rfl rfl rfl rfl (v_index1 rfl rfl rfl rfl hin) ?_
  refine o_val rfl rfl rfl rfl (v_load (v := ptrV x.ma) rfl rfl (cell_own (cs := cs) (n := N) (by simp [RfH_eq, hmem]) (by rw [Nat.zero_add]; exact hcs))) ?_
  refine o_val rfl rfl rfl rfl (v_assign rfl) ?_
  refine o_end ?_
  refine r_seq ?_
  refine r_region rfl ?_
  refine o_val rfl rfl rfl rfl (v_move rfl) ?_
  refine o_val rfl rfl rfl rfl (v_nilCheck rfl) ?_
  refine o_val rfl rfl rfl rfl (v_field (k := 0) rfl rfl rfl) ?_
  refine o_val rfl rfl rfl rfl (v_load rfl rfl (mcell (x := x) 0 (by simp [FoH, RfH_eq]) rfl)) ?_
  refine o_call rfl rfl rfl rfl (c_call callable63 rfl) (r_Restore _ _ x.ra r _ hr) ?_
  rintro v' F H' ⟨rfl, ⟨c4, hc4, h14, rfl⟩, rfl⟩ _
  have hc4' : ∃ c1 c2 c3 c5, c4 = [c1, c2, c3, c5] := by
    match c4, hc4 with
    | [c1, c2, c3, c5], _ => exact ⟨_, _, _, _, rfl⟩
  obtain ⟨c1, c2, c3, c5, rfl⟩ := hc4'
  clear hc4
  refine o_val rfl rfl rfl rfl (v_move rfl) ?_
  refine o_val rfl rfl rfl rfl (v_extract rfl rfl) ?_
  refine o_val rfl rfl rfl rfl (v_extract rfl rfl) ?_
  refine o_act rfl rfl rfl rfl (a_alloc rfl) ?_
  rintro v' H' ⟨y, rfl, rfl⟩
  refine o_act0 rfl rfl rfl (a_store (sz := 4) (v := .agg #[c1, c2, c3, c5]) 0 rfl rfl rfl h14 rfl rfl (Nat.le_of_ble_eq_true rfl)) ?_
  refine j_drop (List.sublist_cons_self _ _) ?_
  obtain ⟨r1, hr1⟩ : ∃ r1 : Rf, r1 = { r with p := { r.p with rs := false } } := ⟨_, rfl⟩
  have hr1ok : r1.ok F := by rw [hr1]; exact hr.set _ { hr.B with } rfl rfl rfl rfl
  rw [← hr1]
  refine o_val rfl rfl rfl rfl (v_assign rfl) ?_
  refine o_end ?_
  refine r_seq ?_
  refine r_join (fun g : Rf × Dk × Fz => F.le g.2.2 ∧ g.1.ok g.2.2 ∧ g.1.p = r.p.setA ∧ g.2.1.bf.ok g.2.1.b.length ∧ g.2.1.b.length ≤ 1100000000 * (k + 1) ∧ g.2.1.ops ≤ 8 * (k + 1) + 1 ∧ g.2.1.sure ≤ g.2.1.b.length ∧ g.2.1.pure = r.p.diskA d.pure) (fun _ => [(0, ptrV x.ga), (1, .int .i64 i), (4, ptrV x.ma)]) (fun g => g.2.2) (fun g => RfH x.ra g.1 (ME x :: GE x bad :: LE x ld :: DE x dn :: g.2.1.E x :: (g.2.1.bs ++ Fr))) ?_ ?_
  · intro J
    refine r_seq ?_
    refine r_region rfl ?_
    refine o_val rfl rfl rfl rfl (v_move rfl) ?_
    refine o_end ?_
    refine r_cond rfl (fun h => ?_) (fun h => ?_)
    · rw [h] at hrl
      have hrl2 : r.p.l.length ≤ 1000 := by
        rcases hrl with h | h
        · cases h
        · exact h
      refine r_seq ?_
      refine r_region rfl ?_
      refine o_val rfl rfl rfl rfl (v_move rfl) ?_
      refine o_val rfl rfl rfl rfl (v_nilCheck rfl) ?_
      refine o_val rfl rfl rfl rfl (v_field (k := 0) rfl rfl rfl) ?_
      refine o_val rfl rfl rfl rfl (v_load rfl rfl (mcell (x := x) 0 (by simp [FoH, RfH_eq]) rfl)) ?_
      refine o_call rfl rfl rfl rfl (c_call callable38 rfl) (r_Save' _ _ x.ra r1 _ hr1ok (by rw [hr1]; show 0 < r.p.fresh → r.p.fresh ≤ r.p.last; omega)) ?_
      rintro v' F2 H' ⟨hF2', rfl⟩ hF2
      obtain ⟨r2, hr2⟩ : ∃ r2 : Rf, r2 = { r1 with p := r1.p.saved } := ⟨_, rfl⟩
      have hr2ok : r2.ok F2 := by rw [hr2]; exact (saved_ok hr1ok).frz hF2
      rw [← hr2]
      refine o_end ?_
      refine d_region 1000000 rfl ([ME x]) ?_
      refine d_take (i := 0) rfl rfl rfl (by decide +kernel) (by decide +kernel) (by decide +kernel) (Fz.le_refl _) (by simp [RfH_eq]) rfl (v_move rfl) ?_
      refine d_take (i := 1) rfl rfl rfl (by decide +kernel) (by decide +kernel) (by decide +kernel) (Fz.le_refl _) (by simp [RfH_eq]) rfl (v_nilCheck rfl) ?_
      refine d_take (i := 2) rfl rfl rfl (by decide +kernel) (by decide +kernel) (by decide +kernel) (Fz.le_refl _) (by simp [RfH_eq]) rfl (v_field (k := 1) rfl rfl rfl) ?_
      refine d_take (i := 3) rfl rfl rfl (by decide +kernel) (by decide +kernel) (by decide +kernel) (Fz.le_refl _) (by simp [RfH_eq]) rfl (v_load rfl rfl (mcell (x := x) 1 (by simp [FoH, RfH_eq]) rfl)) ?_
      refine d_take (i := 4) rfl rfl rfl (by decide +kernel) (by decide +kernel) (by decide +kernel) (Fz.le_refl _) (by simp [RfH_eq]) rfl (v_move rfl) ?_
      refine d_take (i := 5) rfl rfl rfl (by decide +kernel) (by decide +kernel) (by decide +kernel) (Fz.le_refl _) (by simp [RfH_eq]) rfl (v_nilCheck rfl) ?_
      refine d_take (i := 6) rfl rfl rfl (by decide +kernel) (by decide +kernel) (by decide +kernel) (Fz.le_refl _) (by simp [RfH_eq]) rfl (v_field (k := 0) rfl rfl rfl) ?_
      refine d_take (i := 7) rfl rfl rfl (by decide +kernel) (by decide +kernel) (by decide +kernel) (Fz.le_refl _) (by simp [RfH_eq]) rfl (v_load rfl rfl (mcell (x := x) 0 (by simp [FoH, RfH_eq]) rfl)) ?_
      refine d_one (i := 8) (by decide +kernel) ?_
      refine d1_call rfl rfl rfl rfl (c_call callable21 rfl) (r_Image _ _ x.ra r2 _ hr2ok) ?_
      rintro v' F3 H' ⟨hF3', ⟨q, hq, hqp, rfl⟩, rfl⟩ hF3
      refine ⟨fun w hw => held_of hw (by first | exact Fz.le_refl _ | assumption) (by simp [RfH_eq]), ?_⟩
      have hqw : q.pure.whole = r.p.image.whole := by rw [hqp, hr2, hr1]; rfl
      have hql : q.l.length ≤ 1000 := by
        have h1 : (q.l.map En.pure).length = (r.p.from_ (r.p.lix + 1) r.p.l.length).length := by
          show q.pure.l.length = _
          rw [hqp, hr2, hr1]
          rfl
        rw [List.length_map] at h1
        have h2 : (r.p.from_ (r.p.lix + 1) r.p.l.length).length ≤ r.p.l.length := by
          unfold PR.from_
          split <;> simp
          try omega
        omega
      refine j_perm (dk_front x.ra r2 [ME x, GE x bad, LE x ld, DE x dn] (d.E x) d.bs Fr) ?_
      refine d_one (i := 9) (by decide +kernel) ?_
      refine d1_call rfl rfl rfl rfl (c_call callable28 rfl) (wal_Compact _ _ x.da d.bf d.b d.sure d.ops q _ (by have := hd.ops; omega) hq hql) ?_
      rintro v' F3 H' ⟨rfl, rfl, bf', hok', rfl⟩ _
      refine ⟨fun w hw => held_of hw hF3 (by simp [RfH_eq]), ?_⟩
      have hwl := whole_le hq hql
      obtain ⟨d2, hd2⟩ : ∃ d2 : Dk, d2 = ⟨bf', q.pure.whole, q.pure.whole.length, d.ops + 1⟩ := ⟨_, rfl⟩
      refine j_heap (H' := d2.E x :: (d2.bs ++ RfH x.ra r2 ([ME x, GE x bad, LE x ld, DE x dn] ++ Fr))) (by rw [hd2]; rfl) ?_
      refine j_perm (dk_front x.ra r2 [ME x, GE x bad, LE x ld, DE x dn] (d2.E x) d2.bs Fr).symm ?_
      refine d_end (by decide +kernel) ?_
      refine j_keep ?_ (J (r2, d2, F3) ⟨Fz.le_trans hF2 hF3, hr2ok.frz hF3, ?_, ?_, ?_, ?_, ?_, ?_⟩)
      · exact ⟨rfl, rfl, rfl, trivial⟩
      · rw [hr2, hr1]; unfold PR.setA; rw [if_pos h]
      · rw [hd2]; exact hok'
      · rw [hd2]; dsimp only; omega
      · rw [hd2]; have := hd.ops; dsimp only; omega
      · rw [hd2]; exact Nat.le_refl _
      · rw [hd2]; unfold PR.diskA Dk.pure; rw [if_pos h, hqw]
    · have hrr : r1 = r := by rw [hr1, ← h]
      rw [hrr]
      refine r_skip ?_
      refine j_keep ?_ (J (r, d, F) ⟨Fz.le_refl _, hr, ?_, hd.bf, hd.len, ?_, hd.sure, ?_⟩)
      · exact ⟨rfl, rfl, rfl, trivial⟩
      · unfold PR.setA; rw [if_neg (by rw [h]; simp)]
      · have := hd.ops; dsimp only; omega
      · unfold PR.diskA; rw [if_neg (by rw [h]; simp)]
  · rintro ⟨q, d1, F1⟩ ⟨hF1, hq, hqp, hdbf, hdlen, hdops, hdsure, hdp⟩
    dsimp only at hF1 hq hqp hdbf hdlen hdops hdsure hdp ⊢
    have hqfr : 0 < q.p.fresh → q.p.fresh ≤ q.p.last := by
      rw [hqp]
      unfold PR.setA
      split
      · exact fun h => absurd h (Nat.lt_irrefl 0)
      · intro h
        omega
    have hqse : q.p.saveE.length ≤ 1000 := by
      rw [hqp]
      unfold PR.setA
      split
      · exact Nat.zero_le _
      · exact hse
    refine r_seq ?_
    refine r_region rfl ?_
    refine o_val rfl rfl rfl rfl (v_move rfl) ?_
    refine o_val rfl rfl rfl rfl (v_nilCheck rfl) ?_
    refine o_val rfl rfl rfl rfl (v_field (k := 0) rfl rfl rfl) ?_
    refine o_val rfl rfl rfl rfl (v_load rfl rfl (mcell (x := x) 0 (by simp [FoH, RfH_eq]) rfl)) ?_
    refine o_call rfl rfl rfl rfl (c_call callable38 rfl) (r_Save2 _ _ x.ra q _ hq hqfr) ?_
    rintro v' F2 H' ⟨hF2', ⟨h, t, vo, es, ev, rfl, hev, hesm, hsv⟩, rfl⟩ hF2
    obtain ⟨ae, ce, rfl, _⟩ := Sl.shape hev
    have hpd : r.p.disk d.pure = if q.p.saves = true then (d1.b ++ saveB q.p.chg q.p.term q.p.vote q.p.saveE, d1.sure) else d1.pure := by
      rw [disk_eq, hqp, ← hdp]
      rfl
    have hvo1 := hq.B.v1
    have hvo2 := hq.B.v2
    have heso : ∀ e ∈ es, e.ok F2 := fun e he => (hq.lok e (hesm e he)).frz hF2
    obtain ⟨q2, hq2⟩ : ∃ q2 : Rf, q2 = { q with p := q.p.saved } := ⟨_, rfl⟩
    have hq2ok : q2.ok F2 := by rw [hq2]; exact (saved_ok hq).frz hF2
    have hq2p : q2.p = r.p.settled := by rw [hq2]; show q.p.saved = _; rw [hqp, setA_saved]
    rw [← hq2]
    refine o_val rfl rfl rfl rfl (v_move rfl) ?_
    refine o_val rfl rfl rfl rfl (v_extract rfl rfl) ?_
    refine o_val rfl rfl rfl rfl (v_extract rfl rfl) ?_
    refine o_act rfl rfl rfl rfl (a_alloc rfl) ?_
    rintro v' H' ⟨y, rfl, rfl⟩
    refine o_act0 rfl rfl rfl (a_store (sz := 4) (v := .agg #[.bool h, .int .u64 t, .int .i64 vo, .slice ae es.length ce]) 0 rfl rfl rfl rfl rfl rfl (Nat.le_of_ble_eq_true rfl)) ?_
    obtain ⟨Yc, hYc⟩ : ∃ Yc : List Value, Yc = [.bool h, .int .u64 t, .int .i64 vo, .slice ae es.length ce] := ⟨_, rfl⟩
    refine j_heap (H' := .mem y Yc 4 :: RfH x.ra q2 (ME x :: GE x bad :: LE x ld :: DE x dn :: d1.E x :: (d1.bs ++ Fr))) (by rw [hYc]; rfl) ?_
    refine j_perm (box_in x.ra q2 _ _) ?_
    refine o_val rfl rfl rfl rfl (v_assign rfl) ?_
    refine o_end ?_
    refine r_seq ?_
    refine r_join (fun d2 : Dk => d2.ok (k + 1) ∧ d2.pure = r.p.disk d.pure) (fun _ => [(0, ptrV x.ga), (1, .int .i64 i), (4, ptrV x.ma)]) (fun _ => F2) (fun d2 => RfH x.ra q2 (ME x :: GE x bad :: LE x ld :: DE x dn :: d2.E x :: (d2.bs ++ Fr))) ?_ ?_
    · intro J
      refine r_seq ?_
      refine r_region rfl ?_
      refine o_val rfl rfl rfl rfl (v_move rfl) ?_
      refine o_end ?_
      refine r_cond rfl (fun g => ?_) (fun g => ?_)
      · obtain ⟨rfl, rfl, rfl, hes⟩ := hsv g
        have hesl : es.length ≤ 1000 := by
          have : (es.map En.pure).length = q.p.saveE.length := by rw [hes]
          rw [List.length_map] at this
          omega
        have hsl := saveB_le q.p.chg q.p.term q.p.vote es heso hesl
        rw [if_pos g] at hpd
        refine d_region 1000000 rfl ([ME x, .mem y Yc 4]) ?_
        refine d_take (i := 0) rfl rfl rfl (by decide +kernel) (by decide +kernel) (by decide +kernel) (Fz.le_refl _) (by intro z hz; simp only [List.mem_cons, List.not_mem_nil, or_false] at hz; rcases hz with rfl | rfl <;> simp [RfH_eq]) rfl (v_move rfl) ?_
        refine d_take (i := 1) rfl rfl rfl (by decide +kernel) (by decide +kernel) (by decide +kernel) (Fz.le_refl _) (by intro z hz; simp only [List.mem_cons, List.not_mem_nil, or_false] at hz; rcases hz with rfl | rfl <;> simp [RfH_eq]) rfl (v_nilCheck rfl) ?_
        refine d_take (i := 2) rfl rfl rfl (by decide +kernel) (by decide +kernel) (by decide +kernel) (Fz.le_refl _) (by intro z hz; simp only [List.mem_cons, List.not_mem_nil, or_false] at hz; rcases hz with rfl | rfl <;> simp [RfH_eq]) rfl (v_field (k := 1) rfl rfl rfl) ?_
        refine d_take (i := 3) rfl rfl rfl (by decide +kernel) (by decide +kernel) (by decide +kernel) (Fz.le_refl _) (by intro z hz; simp only [List.mem_cons, List.not_mem_nil, or_false] at hz; rcases hz with rfl | rfl <;> simp [RfH_eq]) rfl (v_load rfl rfl (mcell (x := x) 1 (by simp [FoH, RfH_eq]) rfl)) ?_
        refine d_take (i := 4) rfl rfl rfl (by decide +kernel) (by decide +kernel) (by decide +kernel) (Fz.le_refl _) (by intro z hz; simp only [List.mem_cons, List.not_mem_nil, or_false] at hz; rcases hz with rfl | rfl <;> simp [RfH_eq]) rfl (v_loadAgg (sz := 4) (cs := [.bool q.p.chg, .int .u64 q.p.term, .int .i64 q.p.vote, .slice ae es.length ce]) rfl rfl rfl rfl (fun j c hc => by rw [Nat.zero_add]; exact cell_own (cs := Yc) (n := 4) (by simp) (by rw [hYc]; exact hc))) ?_
        refine j_perm (dk_front x.ra q2 [.mem y Yc 4, ME x, GE x bad, LE x ld, DE x dn] (d1.E x) d1.bs Fr) ?_
        refine d_one (i := 5) (by decide +kernel) ?_
        refine d1_call rfl rfl rfl rfl (c_call callable64 rfl) (wal_Keep2 _ _ x.da d1.bf d1.b d1.sure d1.ops q.p.chg q.p.term q.p.vote (.slice ae es.length ce) es _ hdbf (by omega) (by omega) hev heso hesl hvo1 (by omega)) ?_
        rintro v' F2 H' ⟨rfl, rfl, bf', hok', rfl⟩ _
        refine ⟨fun w hw => held_of hw (by first | exact Fz.le_refl _ | assumption) (by intro z hz; simp only [List.mem_cons, List.not_mem_nil, or_false] at hz; rcases hz with rfl | rfl <;> simp [RfH_eq]), ?_⟩
        rw [hes] at hok' hsl ⊢
        obtain ⟨d2, hd2⟩ : ∃ d2 : Dk, d2 = ⟨bf', d1.b ++ saveB q.p.chg q.p.term q.p.vote q.p.saveE, d1.sure, d1.ops + 1⟩ := ⟨_, rfl⟩
        refine j_heap (H' := d2.E x :: (d2.bs ++ RfH x.ra q2 ([.mem y Yc 4, ME x, GE x bad, LE x ld, DE x dn] ++ Fr))) (by rw [hd2]; rfl) ?_
        refine j_perm (dk_front x.ra q2 [.mem y Yc 4, ME x, GE x bad, LE x ld, DE x dn] (d2.E x) d2.bs Fr).symm ?_
        refine j_drop (box_out x.ra q2 (.mem y Yc 4) _) ?_
        refine d_end (by decide +kernel) ?_
        refine j_keep ?_ (J d2 ⟨⟨?_, ?_, ?_, ?_⟩, ?_⟩)
        · exact ⟨rfl, rfl, rfl, trivial⟩
        · rw [hd2]; exact hok'
        · rw [hd2]; dsimp only; rw [List.length_append]; omega
        · rw [hd2]; dsimp only; omega
        · rw [hd2]; dsimp only; rw [List.length_append]; omega
        · rw [hpd, hd2]; rfl
      · rw [if_neg (by rw [g]; simp)] at hpd
        refine j_drop (box_out x.ra q2 (.mem y Yc 4) _) ?_
        refine r_skip ?_
        refine j_keep ?_ (J d1 ⟨⟨hdbf, by omega, by omega, hdsure⟩, hpd.symm⟩)
        exact ⟨rfl, rfl, rfl, trivial⟩
    · rintro d2 ⟨hd2, hd2p⟩
      have hdn2 : ∀ e ∈ dn, e.2.ok F2 := fun e he => (hdn e he).frz (Fz.le_trans hF1 hF2)
      have hrole : q2.p.role = r.p.role := by rw [hq2p]; rfl
      have hterm : q2.p.term = r.p.term := by rw [hq2p]; rfl
      have hlead : q2.p.lead = r.p.lead := by rw [hq2p]; rfl
      have hlast : q2.p.last = r.p.last := by rw [hq2p]; rfl
      refine r_seq ?_
      refine r_join (fun _ : Unit => True) (fun _ => [(0, ptrV x.ga), (1, .int .i64 i), (4, ptrV x.ma)]) (fun _ => F2) (fun _ => RfH x.ra q2 (ME x :: GE x (r.p.leads i ld (pureD dn) bad).2 :: LE x (r.p.leads i ld (pureD dn) bad).1 :: DE x dn :: d2.E x :: (d2.bs ++ Fr))) ?_ ?_
      · intro J
        refine r_seq ?_
        refine r_region rfl ?_
        refine o_val rfl rfl rfl rfl (v_move rfl) ?_
        refine o_val rfl rfl rfl rfl (v_nilCheck rfl) ?_
        refine o_val rfl rfl rfl rfl (v_field (k := 0) rfl rfl rfl) ?_
        refine o_val rfl rfl rfl rfl (v_load rfl rfl (mcell (x := x) 0 (by simp [FoH, RfH_eq]) rfl)) ?_
        refine o_call rfl rfl rfl rfl (c_call callable26 rfl) (r_Leads _ _ x.ra q2 _) ?_
        rintro v' F2 H' ⟨rfl, rfl, rfl⟩ _
        refine o_end ?_
        refine r_if rfl (fun hl => ?_) (fun hl => ?_)
        · have hl' : r.p.role = 3 := by rw [← hrole]; exact hl
          have hres : r.p.leads i ld (pureD dn) bad = (putN ld r.p.term i, overB r.p (putN ld r.p.term i) (pureD dn) (leadB i r.p ld bad)) := by
            unfold PR.leads
            rw [if_pos hl']
          have hq2b := hq2ok.B
          have htb := hq2b.term
          have hB : leadB i r.p ld bad = (bad || (match lookN ld q2.p.term with | some k => decide (k ≠ i) | none => false) || decide (q2.p.lead ≠ i)) := by rw [hterm, hlead]; rfl
          refine r_seq ?_
          refine d_region 1000000 rfl ([GE x bad, ME x, LE x ld]) ?_
          refine d_take (i := 0) rfl rfl rfl (by decide +kernel) (by decide +kernel) (by decide +kernel) (Fz.le_refl _) (by intro z hz; simp only [List.mem_cons, List.not_mem_nil, or_false] at hz; rcases hz with rfl | rfl | rfl <;> simp [RfH_eq]) rfl (v_move rfl) ?_
          refine d_take (i := 1) rfl rfl rfl (by decide +kernel) (by decide +kernel) (by decide +kernel) (Fz.le_refl _) (by intro z hz; simp only [List.mem_cons, List.not_mem_nil, or_false] at hz; rcases hz with rfl | rfl | rfl <;> simp [RfH_eq]) rfl (v_nilCheck rfl) ?_
          refine d_take (i := 2) rfl rfl rfl (by decide +kernel) (by decide +kernel) (by decide +kernel) (Fz.le_refl _) (by intro z hz; simp only [List.mem_cons, List.not_mem_nil, or_false] at hz; rcases hz with rfl | rfl | rfl <;> simp [RfH_eq]) rfl (v_field (k := 2) rfl rfl rfl) ?_
          refine d_take (i := 3) rfl rfl rfl (by decide +kernel) (by decide +kernel) (by decide +kernel) (Fz.le_refl _) (by intro z hz; simp only [List.mem_cons, List.not_mem_nil, or_false] at hz; rcases hz with rfl | rfl | rfl <;> simp [RfH_eq]) rfl (v_load rfl rfl (gcell (x := x) (bad := bad) 2 (by simp [FoH, RfH_eq]) rfl)) ?_
          refine d_take (i := 4) rfl rfl rfl (by decide +kernel) (by decide +kernel) (by decide +kernel) (Fz.le_refl _) (by intro z hz; simp only [List.mem_cons, List.not_mem_nil, or_false] at hz; rcases hz with rfl | rfl | rfl <;> simp [RfH_eq]) rfl (v_move rfl) ?_
          refine d_take (i := 5) rfl rfl rfl (by decide +kernel) (by decide +kernel) (by decide +kernel) (Fz.le_refl _) (by intro z hz; simp only [List.mem_cons, List.not_mem_nil, or_false] at hz; rcases hz with rfl | rfl | rfl <;> simp [RfH_eq]) rfl (v_nilCheck rfl) ?_
          refine d_take (i := 6) rfl rfl rfl (by decide +kernel) (by decide +kernel) (by decide +kernel) (Fz.le_refl _) (by intro z hz; simp only [List.mem_cons, List.not_mem_nil, or_false] at hz; rcases hz with rfl | rfl | rfl <;> simp [RfH_eq]) rfl (v_field (k := 0) rfl rfl rfl) ?_
          refine d_take (i := 7) rfl rfl rfl (by decide +kernel) (by decide +kernel) (by decide +kernel) (Fz.le_refl _) (by intro z hz; simp only [List.mem_cons, List.not_mem_nil, or_false] at hz; rcases hz with rfl | rfl | rfl <;> simp [RfH_eq]) rfl (v_load rfl rfl (mcell (x := x) 0 (by simp [FoH, RfH_eq]) rfl)) ?_
          refine d_one (i := 8) (by decide +kernel) ?_
          refine d1_call rfl rfl rfl rfl (c_call callable14 rfl) (r_Term _ _ x.ra q2 _) ?_
          rintro v' F2 H' ⟨rfl, rfl, rfl⟩ _
          refine ⟨fun w hw => held_of hw (by first | exact Fz.le_refl _ | assumption) (by intro z hz; simp only [List.mem_cons, List.not_mem_nil, or_false] at hz; rcases hz with rfl | rfl | rfl <;> simp [RfH_eq]), ?_⟩
          refine d_take (i := 9) rfl rfl rfl (by decide +kernel) (by decide +kernel) (by decide +kernel) (Fz.le_refl _) (by intro z hz; simp only [List.mem_cons, List.not_mem_nil, or_false] at hz; rcases hz with rfl | rfl | rfl <;> simp [RfH_eq]) rfl (v_lookL (f := x) (ld := ld) (k := q2.p.term) (by simp) rfl rfl rfl rfl rfl rfl) ?_
          refine d_take (i := 10) rfl rfl rfl (by decide +kernel) (by decide +kernel) (by decide +kernel) (Fz.le_refl _) (by intro z hz; simp only [List.mem_cons, List.not_mem_nil, or_false] at hz; rcases hz with rfl | rfl | rfl <;> simp [RfH_eq]) rfl (v_move rfl) ?_
          refine d_take (i := 11) rfl rfl rfl (by decide +kernel) (by decide +kernel) (by decide +kernel) (Fz.le_refl _) (by intro z hz; simp only [List.mem_cons, List.not_mem_nil, or_false] at hz; rcases hz with rfl | rfl | rfl <;> simp [RfH_eq]) rfl (v_extract rfl rfl) ?_
          refine d_take (i := 12) rfl rfl rfl (by decide +kernel) (by decide +kernel) (by decide +kernel) (Fz.le_refl _) (by intro z hz; simp only [List.mem_cons, List.not_mem_nil, or_false] at hz; rcases hz with rfl | rfl | rfl <;> simp [RfH_eq]) rfl (v_extract rfl rfl) ?_
          refine d_take (i := 13) rfl rfl rfl (by decide +kernel) (by decide +kernel) (by decide +kernel) (Fz.le_refl _) (by intro z hz; simp only [List.mem_cons, List.not_mem_nil, or_false] at hz; rcases hz with rfl | rfl | rfl <;> simp [RfH_eq]) rfl (v_assign rfl) ?_
          refine d_take (i := 14) rfl rfl rfl (by decide +kernel) (by decide +kernel) (by decide +kernel) (Fz.le_refl _) (by intro z hz; simp only [List.mem_cons, List.not_mem_nil, or_false] at hz; rcases hz with rfl | rfl | rfl <;> simp [RfH_eq]) rfl (v_assign rfl) ?_
          refine d_end (by decide +kernel) ?_
          generalize hb1 : leadB i r.p ld bad = b1 at *
          refine r_seq ?_
          refine r_join (fun _ : Unit => True) (fun _ => [(0, ptrV x.ga), (1, .int .i64 i), (4, ptrV x.ma)]) (fun _ => F2) (fun _ => RfH x.ra q2 (ME x :: GE x b1 :: LE x ld :: DE x dn :: d2.E x :: (d2.bs ++ Fr))) ?_ ?_
          · intro K
            cases bad with
            | true =>
              refine r_region rfl ?_
              refine o_val rfl rfl rfl rfl (v_move rfl) ?_
              refine o_val rfl rfl rfl rfl (v_move rfl) ?_
              refine o_val rfl rfl rfl rfl (v_nilCheck rfl) ?_
              refine o_val rfl rfl rfl rfl (v_field (k := 4) rfl rfl rfl) ?_
              refine o_val rfl rfl rfl rfl (v_load rfl rfl (gcell (x := x) (bad := true) 4 (by simp [FoH, RfH_eq]) rfl)) ?_
              refine o_val rfl rfl rfl rfl (v_move rfl) ?_
              refine o_skip rfl rfl rfl rfl ?_
              refine o_skip rfl rfl rfl rfl ?_
              refine o_skip rfl rfl rfl rfl ?_
              refine o_skip rfl rfl rfl rfl ?_
              refine o_skip rfl rfl rfl rfl ?_
              refine o_skip rfl rfl rfl rfl ?_
              refine o_val rfl rfl rfl rfl (v_pick1 rfl rfl) ?_
              refine o_val rfl rfl rfl rfl (v_move rfl) ?_
              refine o_skip rfl rfl rfl rfl ?_
              refine o_skip rfl rfl rfl rfl ?_
              refine o_skip rfl rfl rfl rfl ?_
              refine o_skip rfl rfl rfl rfl ?_
              refine o_skip rfl rfl rfl rfl ?_
              refine o_skip rfl rfl rfl rfl ?_
              refine o_skip rfl rfl rfl rfl ?_
              refine o_val rfl rfl rfl rfl (v_pick1 rfl rfl) ?_
              refine o_val rfl rfl rfl rfl (v_move rfl) ?_
              refine o_skip rfl rfl rfl rfl ?_
              refine o_skip rfl rfl rfl rfl ?_
              refine o_skip rfl rfl rfl rfl ?_
              refine o_skip rfl rfl rfl rfl ?_
              refine o_skip rfl rfl rfl rfl ?_
              refine o_skip rfl rfl rfl rfl ?_
              refine o_val rfl rfl rfl rfl (v_pick1 rfl rfl) ?_
              refine o_val rfl rfl rfl rfl (v_nilCheck rfl) ?_
              refine o_val rfl rfl rfl rfl (v_field (k := 4) rfl rfl rfl) ?_
              refine o_act0 rfl rfl rfl (a_bad (b' := b1) [ME x] _ rfl rfl (by rw [hB]; rfl)) ?_
              refine o_end ?_
              refine j_keep ?_ (K () trivial)
              exact ⟨rfl, rfl, rfl, trivial⟩
            | false =>
              rw [Bool.false_or] at hB
              cases hw : lookN ld q2.p.term with
              | none =>
                rw [hw, Bool.false_or] at hB
                refine r_region rfl ?_
                refine o_val rfl rfl rfl rfl (v_move rfl) ?_
                refine o_val rfl rfl rfl rfl (v_move rfl) ?_
                refine o_val rfl rfl rfl rfl (v_nilCheck rfl) ?_
                refine o_val rfl rfl rfl rfl (v_field (k := 4) rfl rfl rfl) ?_
                refine o_val rfl rfl rfl rfl (v_load rfl rfl (gcell (x := x) (bad := false) 4 (by simp [FoH, RfH_eq]) rfl)) ?_
                refine o_val rfl rfl rfl rfl (v_move rfl) ?_
                refine o_val rfl rfl rfl rfl (v_move rfl) ?_
                refine o_val rfl rfl rfl rfl (v_move rfl) ?_
                refine o_skip rfl rfl rfl rfl ?_
                refine o_skip rfl rfl rfl rfl ?_
                refine o_skip rfl rfl rfl rfl ?_
                refine o_val rfl rfl rfl rfl (v_pick0 rfl rfl) ?_
                refine o_val rfl rfl rfl rfl (v_pick0 rfl rfl) ?_
                refine o_val rfl rfl rfl rfl (v_move rfl) ?_
                refine o_val rfl rfl rfl rfl (v_move rfl) ?_
                refine o_val rfl rfl rfl rfl (v_nilCheck rfl) ?_
                refine o_val rfl rfl rfl rfl (v_field (k := 0) rfl rfl rfl) ?_
                refine o_val rfl rfl rfl rfl (v_load rfl rfl (mcell (x := x) 0 (by simp [FoH, RfH_eq]) rfl)) ?_
                refine o_call rfl rfl rfl rfl (c_call callable13 rfl) (r_Leader _ _ x.ra q2 _) ?_
                rintro v' F2 H' ⟨rfl, rfl, rfl⟩ _
                refine o_val rfl rfl rfl rfl (v_move rfl) ?_
                refine o_val rfl rfl rfl rfl (v_neq rfl rfl) ?_
                refine j_prop 102 rfl (fun h3 => ?_) (fun h3 => ?_)
                · rw [decide_eq_true (show q2.p.lead ≠ i by omega)] at hB
                  refine o_val rfl rfl rfl rfl (v_pick0 rfl rfl) ?_
                  refine o_val rfl rfl rfl rfl (v_move rfl) ?_
                  refine o_skip rfl rfl rfl rfl ?_
                  refine o_skip rfl rfl rfl rfl ?_
                  refine o_skip rfl rfl rfl rfl ?_
                  refine o_skip rfl rfl rfl rfl ?_
                  refine o_skip rfl rfl rfl rfl ?_
                  refine o_skip rfl rfl rfl rfl ?_
                  refine o_val rfl rfl rfl rfl (v_pick1 rfl rfl) ?_
                  refine o_val rfl rfl rfl rfl (v_nilCheck rfl) ?_
                  refine o_val rfl rfl rfl rfl (v_field (k := 4) rfl rfl rfl) ?_
                  refine o_act0 rfl rfl rfl (a_bad (b' := b1) [ME x] _ rfl rfl (by rw [hB]; rfl)) ?_
                  refine o_end ?_
                  refine j_keep ?_ (K () trivial)
                  exact ⟨rfl, rfl, rfl, trivial⟩
                · rw [decide_eq_false (show ¬ q2.p.lead ≠ i by omega)] at hB
                  refine o_val rfl rfl rfl rfl (v_pick0 rfl rfl) ?_
                  refine o_val rfl rfl rfl rfl (v_move rfl) ?_
                  refine o_val rfl rfl rfl rfl (v_move rfl) ?_
                  refine o_val rfl rfl rfl rfl (v_nilCheck rfl) ?_
                  refine o_val rfl rfl rfl rfl (v_field (k := 0) rfl rfl rfl) ?_
                  refine o_val rfl rfl rfl rfl (v_load rfl rfl (mcell (x := x) 0 (by simp [FoH, RfH_eq]) rfl)) ?_
                  refine o_call rfl rfl rfl rfl (c_call callable25 rfl) (r_Role _ _ x.ra q2 _) ?_
                  rintro v' F2 H' ⟨rfl, rfl, rfl⟩ _
                  refine o_val rfl rfl rfl rfl (v_neq rfl rfl) ?_
                  refine j_slot 110 rfl (v' := .bool false) (by rw [hl]; rfl) ?_
                  refine o_val rfl rfl rfl rfl (v_pick0 rfl rfl) ?_
                  refine o_val rfl rfl rfl rfl (v_nilCheck rfl) ?_
                  refine o_val rfl rfl rfl rfl (v_field (k := 4) rfl rfl rfl) ?_
                  refine o_act0 rfl rfl rfl (a_bad (b' := b1) [ME x] _ rfl rfl (by rw [hB]; rfl)) ?_
                  refine o_end ?_
                  refine j_keep ?_ (K () trivial)
                  exact ⟨rfl, rfl, rfl, trivial⟩
              | some k0 =>
                rw [hw] at hB
                dsimp only at hB
                refine r_region rfl ?_
                refine o_val rfl rfl rfl rfl (v_move rfl) ?_
                refine o_val rfl rfl rfl rfl (v_move rfl) ?_
                refine o_val rfl rfl rfl rfl (v_nilCheck rfl) ?_
                refine o_val rfl rfl rfl rfl (v_field (k := 4) rfl rfl rfl) ?_
                refine o_val rfl rfl rfl rfl (v_load rfl rfl (gcell (x := x) (bad := false) 4 (by simp [FoH, RfH_eq]) rfl)) ?_
                refine o_val rfl rfl rfl rfl (v_move rfl) ?_
                refine o_val rfl rfl rfl rfl (v_move rfl) ?_
                refine o_val rfl rfl rfl rfl (v_move rfl) ?_
                refine o_val rfl rfl rfl rfl (v_move rfl) ?_
                refine o_val rfl rfl rfl rfl (v_move rfl) ?_
                refine o_val rfl rfl rfl rfl (v_neq rfl rfl) ?_
                refine j_prop 92 rfl (fun h2 => ?_) (fun h2 => ?_)
                · have h2 : (k0 : Int) ≠ (i : Int) := h2
                  rw [decide_eq_true (show k0 ≠ i by omega), Bool.true_or] at hB
                  refine o_val rfl rfl rfl rfl (v_pick1 rfl rfl) ?_
                  refine o_val rfl rfl rfl rfl (v_pick0 rfl rfl) ?_
                  refine o_val rfl rfl rfl rfl (v_move rfl) ?_
                  refine o_skip rfl rfl rfl rfl ?_
                  refine o_skip rfl rfl rfl rfl ?_
                  refine o_skip rfl rfl rfl rfl ?_
                  refine o_skip rfl rfl rfl rfl ?_
                  refine o_skip rfl rfl rfl rfl ?_
                  refine o_skip rfl rfl rfl rfl ?_
                  refine o_skip rfl rfl rfl rfl ?_
                  refine o_val rfl rfl rfl rfl (v_pick1 rfl rfl) ?_
                  refine o_val rfl rfl rfl rfl (v_move rfl) ?_
                  refine o_skip rfl rfl rfl rfl ?_
                  refine o_skip rfl rfl rfl rfl ?_
                  refine o_skip rfl rfl rfl rfl ?_
                  refine o_skip rfl rfl rfl rfl ?_
                  refine o_skip rfl rfl rfl rfl ?_
                  refine o_skip rfl rfl rfl rfl ?_
                  refine o_val rfl rfl rfl rfl (v_pick1 rfl rfl) ?_
                  refine o_val rfl rfl rfl rfl (v_nilCheck rfl) ?_
                  refine o_val rfl rfl rfl rfl (v_field (k := 4) rfl rfl rfl) ?_
                  refine o_act0 rfl rfl rfl (a_bad (b' := b1) [ME x] _ rfl rfl (by rw [hB]; rfl)) ?_
                  refine o_end ?_
                  refine j_keep ?_ (K () trivial)
                  exact ⟨rfl, rfl, rfl, trivial⟩
                · have h2 : ¬ (k0 : Int) ≠ (i : Int) := h2
                  rw [decide_eq_false (show ¬ k0 ≠ i by omega), Bool.false_or] at hB
                  refine o_val rfl rfl rfl rfl (v_pick1 rfl rfl) ?_
                  refine o_val rfl rfl rfl rfl (v_pick0 rfl rfl) ?_
                  refine o_val rfl rfl rfl rfl (v_move rfl) ?_
                  refine o_val rfl rfl rfl rfl (v_move rfl) ?_
                  refine o_val rfl rfl rfl rfl (v_nilCheck rfl) ?_
                  refine o_val rfl rfl rfl rfl (v_field (k := 0) rfl rfl rfl) ?_
                  refine o_val rfl rfl rfl rfl (v_load rfl rfl (mcell (x := x) 0 (by simp [FoH, RfH_eq]) rfl)) ?_
                  refine o_call rfl rfl rfl rfl (c_call callable13 rfl) (r_Leader _ _ x.ra q2 _) ?_
                  rintro v' F2 H' ⟨rfl, rfl, rfl⟩ _
                  refine o_val rfl rfl rfl rfl (v_move rfl) ?_
                  refine o_val rfl rfl rfl rfl (v_neq rfl rfl) ?_
                  refine j_prop 102 rfl (fun h3 => ?_) (fun h3 => ?_)
                  · rw [decide_eq_true (show q2.p.lead ≠ i by omega)] at hB
                    refine o_val rfl rfl rfl rfl (v_pick0 rfl rfl) ?_
                    refine o_val rfl rfl rfl rfl (v_move rfl) ?_
                    refine o_skip rfl rfl rfl rfl ?_
                    refine o_skip rfl rfl rfl rfl ?_
                    refine o_skip rfl rfl rfl rfl ?_
                    refine o_skip rfl rfl rfl rfl ?_
                    refine o_skip rfl rfl rfl rfl ?_
                    refine o_skip rfl rfl rfl rfl ?_
                    refine o_val rfl rfl rfl rfl (v_pick1 rfl rfl) ?_
                    refine o_val rfl rfl rfl rfl (v_nilCheck rfl) ?_
                    refine o_val rfl rfl rfl rfl (v_field (k := 4) rfl rfl rfl) ?_
                    refine o_act0 rfl rfl rfl (a_bad (b' := b1) [ME x] _ rfl rfl (by rw [hB]; rfl)) ?_
                    refine o_end ?_
                    refine j_keep ?_ (K () trivial)
                    exact ⟨rfl, rfl, rfl, trivial⟩
                  · rw [decide_eq_false (show ¬ q2.p.lead ≠ i by omega)] at hB
                    refine o_val rfl rfl rfl rfl (v_pick0 rfl rfl) ?_
                    refine o_val rfl rfl rfl rfl (v_move rfl) ?_
                    refine o_val rfl rfl rfl rfl (v_move rfl) ?_
                    refine o_val rfl rfl rfl rfl (v_nilCheck rfl) ?_
                    refine o_val rfl rfl rfl rfl (v_field (k := 0) rfl rfl rfl) ?_
                    refine o_val rfl rfl rfl rfl (v_load rfl rfl (mcell (x := x) 0 (by simp [FoH, RfH_eq]) rfl)) ?_
                    refine o_call rfl rfl rfl rfl (c_call callable25 rfl) (r_Role _ _ x.ra q2 _) ?_
                    rintro v' F2 H' ⟨rfl, rfl, rfl⟩ _
                    refine o_val rfl rfl rfl rfl (v_neq rfl rfl) ?_
                    refine j_slot 110 rfl (v' := .bool false) (by rw [hl]; rfl) ?_
                    refine o_val rfl rfl rfl rfl (v_pick0 rfl rfl) ?_
                    refine o_val rfl rfl rfl rfl (v_nilCheck rfl) ?_
                    refine o_val rfl rfl rfl rfl (v_field (k := 4) rfl rfl rfl) ?_
                    refine o_act0 rfl rfl rfl (a_bad (b' := b1) [ME x] _ rfl rfl (by rw [hB]; rfl)) ?_
                    refine o_end ?_
                    refine j_keep ?_ (K () trivial)
                    exact ⟨rfl, rfl, rfl, trivial⟩
          · rintro ⟨⟩ -
            refine r_seq ?_
            refine d_region 1000000 rfl ([GE x b1, ME x]) ?_
            refine d_take (i := 0) rfl rfl rfl (by decide +kernel) (by decide +kernel) (by decide +kernel) (Fz.le_refl _) (by intro z hz; simp only [List.mem_cons, List.not_mem_nil, or_false] at hz; rcases hz with rfl | rfl <;> simp [RfH_eq]) rfl (v_move rfl) ?_
            refine d_take (i := 1) rfl rfl rfl (by decide +kernel) (by decide +kernel) (by decide +kernel) (Fz.le_refl _) (by intro z hz; simp only [List.mem_cons, List.not_mem_nil, or_false] at hz; rcases hz with rfl | rfl <;> simp [RfH_eq]) rfl (v_nilCheck rfl) ?_
            refine d_take (i := 2) rfl rfl rfl (by decide +kernel) (by decide +kernel) (by decide +kernel) (Fz.le_refl _) (by intro z hz; simp only [List.mem_cons, List.not_mem_nil, or_false] at hz; rcases hz with rfl | rfl <;> simp [RfH_eq]) rfl (v_field (k := 2) rfl rfl rfl) ?_
            refine d_take (i := 3) rfl rfl rfl (by decide +kernel) (by decide +kernel) (by decide +kernel) (Fz.le_refl _) (by intro z hz; simp only [List.mem_cons, List.not_mem_nil, or_false] at hz; rcases hz with rfl | rfl <;> simp [RfH_eq]) rfl (v_load rfl rfl (gcell (x := x) (bad := b1) 2 (by simp [FoH, RfH_eq]) rfl)) ?_
            refine d_take (i := 4) rfl rfl rfl (by decide +kernel) (by decide +kernel) (by decide +kernel) (Fz.le_refl _) (by intro z hz; simp only [List.mem_cons, List.not_mem_nil, or_false] at hz; rcases hz with rfl | rfl <;> simp [RfH_eq]) rfl (v_move rfl) ?_
            refine d_take (i := 5) rfl rfl rfl (by decide +kernel) (by decide +kernel) (by decide +kernel) (Fz.le_refl _) (by intro z hz; simp only [List.mem_cons, List.not_mem_nil, or_false] at hz; rcases hz with rfl | rfl <;> simp [RfH_eq]) rfl (v_nilCheck rfl) ?_
            refine d_take (i := 6) rfl rfl rfl (by decide +kernel) (by decide +kernel) (by decide +kernel) (Fz.le_refl _) (by intro z hz; simp only [List.mem_cons, List.not_mem_nil, or_false] at hz; rcases hz with rfl | rfl <;> simp [RfH_eq]) rfl (v_field (k := 0) rfl rfl rfl) ?_
            refine d_take (i := 7) rfl rfl rfl (by decide +kernel) (by decide +kernel) (by decide +kernel) (Fz.le_refl _) (by intro z hz; simp only [List.mem_cons, List.not_mem_nil, or_false] at hz; rcases hz with rfl | rfl <;> simp [RfH_eq]) rfl (v_load rfl rfl (mcell (x := x) 0 (by simp [FoH, RfH_eq]) rfl)) ?_
            refine d_take (i := 9) rfl rfl rfl (by decide +kernel) (by decide +kernel) (by decide +kernel) (Fz.le_refl _) (by intro z hz; simp only [List.mem_cons, List.not_mem_nil, or_false] at hz; rcases hz with rfl | rfl <;> simp [RfH_eq]) rfl (v_move rfl) ?_
            refine d_one (i := 8) (by decide +kernel) ?_
            refine d1_call rfl rfl rfl rfl (c_call callable14 rfl) (r_Term _ _ x.ra q2 _) ?_
            rintro v' F2 H' ⟨rfl, rfl, rfl⟩ _
            refine ⟨fun w hw => held_of hw (by first | exact Fz.le_refl _ | assumption) (by intro z hz; simp only [List.mem_cons, List.not_mem_nil, or_false] at hz; rcases hz with rfl | rfl <;> simp [RfH_eq]), ?_⟩
            refine d_one (i := 10) (by decide +kernel) ?_
            refine d1_act0 rfl rfl rfl (a_lput (f := x) (ld := ld) (k := q2.p.term) (v := i) [ME x, GE x b1] _ rfl rfl rfl rfl rfl) (fun w hw => held_of hw (Fz.le_refl _) (by intro z hz; simp only [List.mem_cons, List.not_mem_nil, or_false] at hz; rcases hz with rfl | rfl <;> simp [RfH_eq])) ?_
            obtain ⟨ld', hld'⟩ : ∃ ld', ld' = putN ld q2.p.term i := ⟨_, rfl⟩
            have hres2 : r.p.leads i ld (pureD dn) bad = (ld', overB q2.p ld' (pureD dn) b1) := by
              rw [hres, hld', hterm]
              unfold overB
              rw [hterm, hlast]
            refine j_heap (H' := RfH x.ra q2 (ME x :: GE x b1 :: LE x ld' :: DE x dn :: d2.E x :: (d2.bs ++ Fr))) (by rw [hld']; rfl) ?_
            have hLm : ∀ Y : List Ent, Ent.obj x.lm (mapObjK .u64 (kvN lkV ld')) ∈ Y ++ RfH x.ra q2 (ME x :: GE x b1 :: LE x ld' :: DE x dn :: d2.E x :: (d2.bs ++ Fr)) := fun Y => by
              show LE x ld' ∈ _
              simp [RfH_eq]
            refine d_end (by decide +kernel) ?_
            refine r_seq ?_
            refine r_region rfl ?_
            refine o_val rfl rfl rfl rfl (v_assign rfl) ?_
            refine o_end ?_
            refine r_seq ?_
            refine r_seq ?_
            refine r_region rfl ?_
            refine o_val rfl rfl rfl rfl (v_move rfl) ?_
            refine o_val rfl rfl rfl rfl (v_nilCheck rfl) ?_
            refine o_val rfl rfl rfl rfl (v_field (k := 2) rfl rfl rfl) ?_
            refine o_val rfl rfl rfl rfl (v_load rfl rfl (gcell (x := x) (bad := b1) 2 (by simp [FoH, RfH_eq]) rfl)) ?_
            refine o_act rfl rfl rfl rfl (a_range (b := x.lm) (l := kvN lkV ld') rfl (hLm []) rfl) ?_
            rintro v' H' ⟨it, rfl, rfl⟩
            refine o_end ?_
            refine r_block ?_
            obtain ⟨n1, hn1⟩ : ∃ n1, n1 = (kvN lkV ld').length := ⟨_, rfl⟩
            have hn1' : n1 = ld'.length := by rw [hn1, kvN_len]
            refine r_loop (fun s : List Nat × Nat => (∀ j (hj : j < ld'.length), j ∈ s.1 → ld'[j].1 ≤ s.2) ∧ (s.2 = 0 ∨ ∃ q ∈ ld', q.1 = s.2)) (fun s => [(0, ptrV x.ga), (1, .int .i64 i), (4, ptrV x.ma), (10, .int .u64 s.2), (128, ptrV it)]) (fun _ => F2) (fun s => .obj it (itObj x.lm (kvN lkV ld').length s.1) :: RfH x.ra q2 (ME x :: GE x b1 :: LE x ld' :: DE x dn :: d2.E x :: (d2.bs ++ Fr))) (fun s => leftN ld'.length s.1) ([], 0) ⟨by simp, .inl rfl⟩ ⟨rfl, rfl, rfl, rfl, rfl, trivial⟩ rfl rfl ?_
            rintro ⟨S, top⟩ ⟨hS, htop⟩ IH
            dsimp only at hS htop ⊢
            refine r_seq ?_
            refine r_region rfl ?_
            refine o_act rfl rfl rfl rfl (a_next (it := it) (b := x.lm) (l := kvN lkV ld') (S := S) 0 rfl (hLm [_]) rfl) ?_
            rintro v' H' (⟨rfl, hall, rfl⟩ | ⟨j, hj, hjn, rfl, rfl⟩)
            · refine o_val rfl rfl rfl rfl (v_extract rfl rfl) ?_
              refine o_end ?_
              refine r_seq ?_
              refine r_false rfl ?_
              clear IH
              have htp : topOf ld' = top := topOf_is (fun q hq => by
                obtain ⟨j, hj, rfl⟩ := List.getElem_of_mem hq
                exact hS j hj (hall j (by simpa using hj))) htop
              refine j_drop (List.sublist_cons_self _ _) ?_
              clear hLm
              have hdnP : ∀ (j : Nat) (hj : j < dn.length), ((pureD dn)[j]'(by simpa [pureD] using hj)).1 = dn[j].1 := fun j hj => by simp [pureD]
              have hDm : ∀ (Y : List Ent) (b : Bool), Ent.obj x.dm (mapObjK .u64 (kvN enA dn)) ∈ Y ++ RfH x.ra q2 (ME x :: GE x b :: LE x ld' :: DE x dn :: d2.E x :: (d2.bs ++ Fr)) := fun Y b => by
                show DE x dn ∈ _
                simp [RfH_eq]
              refine r_exit rfl ?_
              refine r_seq ?_
              refine r_region rfl ?_
              refine o_val rfl rfl rfl rfl (v_move rfl) ?_
              refine o_val rfl rfl rfl rfl (v_nilCheck rfl) ?_
              refine o_val rfl rfl rfl rfl (v_field (k := 3) rfl rfl rfl) ?_
              refine o_val rfl rfl rfl rfl (v_load rfl rfl (gcell (x := x) (bad := b1) 3 (by simp [FoH, RfH_eq]) rfl)) ?_
              refine o_act rfl rfl rfl rfl (a_range (b := x.dm) (l := kvN enA dn) rfl (hDm [] b1) rfl) ?_
              rintro v' H' ⟨it2, rfl, rfl⟩
              refine o_end ?_
              refine r_block ?_
              refine r_loop (fun s : List Nat × Bool => (s.2 = true ↔ b1 = true ∨ ∃ (j : Nat) (hj : j < dn.length), j ∈ s.1 ∧ topOf ld' = q2.p.term ∧ q2.p.last < dn[j].1)) (fun s => [(0, ptrV x.ga), (1, .int .i64 i), (4, ptrV x.ma), (10, .int .u64 top), (141, ptrV it2)]) (fun _ => F2) (fun s => .obj it2 (itObj x.dm (kvN enA dn).length s.1) :: RfH x.ra q2 (ME x :: GE x s.2 :: LE x ld' :: DE x dn :: d2.E x :: (d2.bs ++ Fr))) (fun s => leftN dn.length s.1) ([], b1) (by simp) ⟨rfl, rfl, rfl, rfl, rfl, trivial⟩ rfl rfl ?_
              rintro ⟨S2, b⟩ hb IH
              dsimp only at hb ⊢
              refine r_seq ?_
              refine r_region rfl ?_
              refine o_act rfl rfl rfl rfl (a_next (it := it2) (b := x.dm) (l := kvN enA dn) (S := S2) 0 rfl (hDm [_] b) rfl) ?_
              rintro v' H' (⟨rfl, hall2, rfl⟩ | ⟨j, hj, hjn, rfl, rfl⟩)
              · refine o_val rfl rfl rfl rfl (v_extract rfl rfl) ?_
                refine o_end ?_
                refine r_seq ?_
                refine r_false rfl ?_
                clear IH
                refine j_drop (List.sublist_cons_self _ _) ?_
                have hov : overB q2.p ld' (pureD dn) b1 = b := by
                  unfold overB
                  rw [Bool.eq_iff_iff, hb, Bool.or_eq_true, Bool.and_eq_true, decide_eq_true_eq, List.any_eq_true]
                  constructor
                  · rintro (h | ⟨h1, q, hq, h2⟩)
                    · exact .inl h
                    · obtain ⟨j, hj, rfl⟩ := List.getElem_of_mem hq
                      have hj2 : j < dn.length := by simpa [pureD] using hj
                      rw [hdnP j hj2, decide_eq_true_eq] at h2
                      exact .inr ⟨j, hj2, hall2 j (by simpa using hj2), h1, h2⟩
                  · rintro (h | ⟨j, hj2, _, h1, h2⟩)
                    · exact .inl h
                    · exact .inr ⟨h1, _, List.getElem_mem (by simpa [pureD] using hj2 : j < (pureD dn).length), by rw [hdnP j hj2]; exact decide_eq_true h2⟩
                refine r_exit rfl ?_
                refine j_keep ?_ (j_heap (by rw [hres2, hov]) (J () trivial))
                exact ⟨rfl, rfl, rfl, trivial⟩
              · have hj2 : j < dn.length := by simpa using hj
                have hkey : (kvN enA dn)[j].1 = (dn[j].1 : Int) := by rw [kvN_get]
                have hlt := leftN_lt hj2 hjn
                refine o_val rfl rfl rfl rfl (v_extract rfl rfl) ?_
                refine o_end ?_
                refine r_seq ?_
                refine r_true rfl ?_
                refine r_skip ?_
                refine r_block ?_
                refine r_seq ?_
                refine r_region rfl ?_
                refine o_val rfl rfl rfl rfl (v_entry (it := it2) (b := x.dm) (l := kvN enA dn) (S := S2) (i := j) hj (List.mem_cons_self ..) (hDm [_] b) rfl) ?_
                refine o_val rfl rfl rfl rfl (v_extract rfl rfl) ?_
                refine o_val rfl rfl rfl rfl (v_assign rfl) ?_
                refine o_end ?_
                refine j_slot 12 rfl (v' := .int .u64 (dn[j].1 : Int)) (congrArg (Value.int .u64) hkey) ?_
                have hstep : ∀ b' : Bool, (b' = true ↔ b = true ∨ (topOf ld' = q2.p.term ∧ q2.p.last < dn[j].1)) → (b' = true ↔ b1 = true ∨ ∃ (j2 : Nat) (hj : j2 < dn.length), j2 ∈ S2 ++ [j] ∧ topOf ld' = q2.p.term ∧ q2.p.last < dn[j2].1) := fun b' h => by
                  rw [h, hb]
                  constructor
                  · rintro ((h | ⟨j2, h1, h2, h3⟩) | h)
                    · exact .inl h
                    · exact .inr ⟨j2, h1, List.mem_append_left _ h2, h3⟩
                    · exact .inr ⟨j, hj2, List.mem_append_right _ (List.mem_singleton.2 rfl), h⟩
                  · rintro (h | ⟨j2, h1, h2, h3⟩)
                    · exact .inl (.inl h)
                    · rcases List.mem_append.1 h2 with h2 | h2
                      · exact .inl (.inr ⟨j2, h1, h2, h3⟩)
                      · have hjj := List.mem_singleton.1 h2
                        subst hjj
                        exact .inr h3
                obtain ⟨I, hI⟩ : ∃ I : Ent, I = .obj it2 (itObj x.dm (kvN enA dn).length (S2 ++ [j])) := ⟨_, rfl⟩
                refine j_heap (H' := I :: RfH x.ra q2 (ME x :: GE x b :: LE x ld' :: DE x dn :: d2.E x :: (d2.bs ++ Fr))) (by rw [hI]; rfl) ?_
                refine j_perm (box_in x.ra q2 _ _) ?_
                cases b with
                | true =>
                  obtain ⟨b2, hb2e⟩ : ∃ b2, b2 = true := ⟨_, rfl⟩
                  have hb2 : b2 = true ↔ true = true ∨ (topOf ld' = q2.p.term ∧ q2.p.last < dn[j].1) := by simp [hb2e]
                  refine r_region rfl ?_
                  refine o_val rfl rfl rfl rfl (v_move rfl) ?_
                  refine o_val rfl rfl rfl rfl (v_move rfl) ?_
                  refine o_val rfl rfl rfl rfl (v_nilCheck rfl) ?_
                  refine o_val rfl rfl rfl rfl (v_field (k := 4) rfl rfl rfl) ?_
                  refine o_val rfl rfl rfl rfl (v_load rfl rfl (gcell (x := x) (bad := true) 4 (by simp [FoH, RfH_eq]) rfl)) ?_
                  refine o_val rfl rfl rfl rfl (v_move rfl) ?_
                  refine o_skip rfl rfl rfl rfl ?_
                  refine o_skip rfl rfl rfl rfl ?_
                  refine o_skip rfl rfl rfl rfl ?_
                  refine o_skip rfl rfl rfl rfl ?_
                  refine o_skip rfl rfl rfl rfl ?_
                  refine o_skip rfl rfl rfl rfl ?_
                  refine o_skip rfl rfl rfl rfl ?_
                  refine o_skip rfl rfl rfl rfl ?_
                  refine o_skip rfl rfl rfl rfl ?_
                  refine o_skip rfl rfl rfl rfl ?_
                  refine o_skip rfl rfl rfl rfl ?_
                  refine o_skip rfl rfl rfl rfl ?_
                  refine o_skip rfl rfl rfl rfl ?_
                  refine o_skip rfl rfl rfl rfl ?_
                  refine o_skip rfl rfl rfl rfl ?_
                  refine o_skip rfl rfl rfl rfl ?_
                  refine o_val rfl rfl rfl rfl (v_pick1 rfl rfl) ?_
                  refine o_val rfl rfl rfl rfl (v_nilCheck rfl) ?_
                  refine o_val rfl rfl rfl rfl (v_field (k := 4) rfl rfl rfl) ?_
                  refine j_slot 168 rfl (v' := .bool b2) (by rw [hb2e]) ?_
                  refine o_act0 rfl rfl rfl (a_bad (b' := b2) [I, ME x] _ rfl rfl rfl) ?_
                  refine j_perm (box_in x.ra q2 _ _).symm ?_
                  rw [hI]
                  refine o_end ?_
                  refine r_inBlock ?_
                  refine j_keep ?_ (IH (S2 ++ [j], b2) (hstep b2 hb2) hlt)
                  exact ⟨rfl, rfl, rfl, rfl, rfl, trivial⟩
                | false =>
                  refine r_region rfl ?_
                  refine o_val rfl rfl rfl rfl (v_move rfl) ?_
                  refine o_val rfl rfl rfl rfl (v_move rfl) ?_
                  refine o_val rfl rfl rfl rfl (v_nilCheck rfl) ?_
                  refine o_val rfl rfl rfl rfl (v_field (k := 4) rfl rfl rfl) ?_
                  refine o_val rfl rfl rfl rfl (v_load rfl rfl (gcell (x := x) (bad := false) 4 (by simp [FoH, RfH_eq]) rfl)) ?_
                  refine o_val rfl rfl rfl rfl (v_move rfl) ?_
                  refine o_val rfl rfl rfl rfl (v_move rfl) ?_
                  refine o_val rfl rfl rfl rfl (v_move rfl) ?_
                  refine o_val rfl rfl rfl rfl (v_nilCheck rfl) ?_
                  refine o_val rfl rfl rfl rfl (v_field (k := 0) rfl rfl rfl) ?_
                  refine o_val rfl rfl rfl rfl (v_load rfl rfl (mcell (x := x) 0 (by simp [FoH, RfH_eq]) rfl)) ?_
                  refine o_call rfl rfl rfl rfl (c_call callable14 rfl) (r_Term _ _ x.ra q2 _) ?_
                  rintro v' F2 H' ⟨rfl, rfl, rfl⟩ _
                  refine o_val rfl rfl rfl rfl (v_eql rfl rfl) ?_
                  refine j_prop 158 rfl (fun h3 => ?_) (fun h3 => ?_)
                  · have h3' : topOf ld' = q2.p.term := by omega
                    refine o_val rfl rfl rfl rfl (v_move rfl) ?_
                    refine o_val rfl rfl rfl rfl (v_move rfl) ?_
                    refine o_val rfl rfl rfl rfl (v_move rfl) ?_
                    refine o_val rfl rfl rfl rfl (v_nilCheck rfl) ?_
                    refine o_val rfl rfl rfl rfl (v_field (k := 0) rfl rfl rfl) ?_
                    refine o_val rfl rfl rfl rfl (v_load rfl rfl (mcell (x := x) 0 (by simp [FoH, RfH_eq]) rfl)) ?_
                    refine o_call rfl rfl rfl rfl (c_call callable65 rfl) (r_Last _ _ x.ra q2 _ hq2ok) ?_
                    rintro v' F2 H' ⟨rfl, rfl, rfl⟩ _
                    obtain ⟨b2, hb2e⟩ : ∃ b2, b2 = decide (q2.p.last < dn[j].1) := ⟨_, rfl⟩
                    have hb2 : b2 = true ↔ false = true ∨ (topOf ld' = q2.p.term ∧ q2.p.last < dn[j].1) := by simp [hb2e, h3']
                    refine o_val rfl rfl rfl rfl (v_gtr rfl rfl) ?_
                    refine j_slot 166 rfl (v' := .bool b2) (congrArg Value.bool ((decide_eq_decide.2 (by omega)).trans hb2e.symm)) ?_
                    refine o_val rfl rfl rfl rfl (v_pick1 rfl rfl) ?_
                    refine o_val rfl rfl rfl rfl (v_pick0 rfl rfl) ?_
                    refine o_val rfl rfl rfl rfl (v_nilCheck rfl) ?_
                    refine o_val rfl rfl rfl rfl (v_field (k := 4) rfl rfl rfl) ?_
                    refine o_act0 rfl rfl rfl (a_bad (b' := b2) [I, ME x] _ rfl rfl rfl) ?_
                    refine j_perm (box_in x.ra q2 _ _).symm ?_
                    rw [hI]
                    refine o_end ?_
                    refine r_inBlock ?_
                    refine j_keep ?_ (IH (S2 ++ [j], b2) (hstep b2 hb2) hlt)
                    exact ⟨rfl, rfl, rfl, rfl, rfl, trivial⟩
                  · have h3' : ¬ topOf ld' = q2.p.term := by omega
                    obtain ⟨b2, hb2e⟩ : ∃ b2, b2 = false := ⟨_, rfl⟩
                    have hb2 : b2 = true ↔ false = true ∨ (topOf ld' = q2.p.term ∧ q2.p.last < dn[j].1) := by simp [hb2e, h3']
                    refine o_val rfl rfl rfl rfl (v_move rfl) ?_
                    refine o_skip rfl rfl rfl rfl ?_
                    refine o_skip rfl rfl rfl rfl ?_
                    refine o_skip rfl rfl rfl rfl ?_
                    refine o_skip rfl rfl rfl rfl ?_
                    refine o_skip rfl rfl rfl rfl ?_
                    refine o_skip rfl rfl rfl rfl ?_
                    refine o_skip rfl rfl rfl rfl ?_
                    refine o_val rfl rfl rfl rfl (v_pick0 rfl rfl) ?_
                    refine o_val rfl rfl rfl rfl (v_pick0 rfl rfl) ?_
                    refine j_slot 168 rfl (v' := .bool b2) (by rw [hb2e]) ?_
                    refine o_val rfl rfl rfl rfl (v_nilCheck rfl) ?_
                    refine o_val rfl rfl rfl rfl (v_field (k := 4) rfl rfl rfl) ?_
                    refine o_act0 rfl rfl rfl (a_bad (b' := b2) [I, ME x] _ rfl rfl rfl) ?_
                    refine j_perm (box_in x.ra q2 _ _).symm ?_
                    rw [hI]
                    refine o_end ?_
                    refine r_inBlock ?_
                    refine j_keep ?_ (IH (S2 ++ [j], b2) (hstep b2 hb2) hlt)
                    exact ⟨rfl, rfl, rfl, rfl, rfl, trivial⟩
            · have hj2 : j < ld'.length := by simpa using hj
              have hkey : (kvN lkV ld')[j].1 = (ld'[j].1 : Int) := by rw [kvN_get]
              refine o_val rfl rfl rfl rfl (v_extract rfl rfl) ?_
              refine o_end ?_
              refine r_seq ?_
              refine r_true rfl ?_
              refine r_skip ?_
              refine r_block ?_
              refine r_seq ?_
              refine r_region rfl ?_
              refine o_val rfl rfl rfl rfl (v_entry (it := it) (b := x.lm) (l := kvN lkV ld') (S := S) (i := j) hj (List.mem_cons_self ..) (hLm [_]) rfl) ?_
              refine o_val rfl rfl rfl rfl (v_extract rfl rfl) ?_
              refine o_val rfl rfl rfl rfl (v_assign rfl) ?_
              refine o_end ?_
              refine r_seq ?_
              refine r_region rfl ?_
              refine o_val rfl rfl rfl rfl (v_move rfl) ?_
              refine o_val rfl rfl rfl rfl (v_move rfl) ?_
              refine j_slot 11 rfl (v' := .int .u64 (ld'[j].1 : Int)) (congrArg (Value.int .u64) hkey) ?_
              refine j_slot 133 rfl (v' := .int .u64 (ld'[j].1 : Int)) (congrArg (Value.int .u64) hkey) ?_
              have hlt := leftN_lt hj2 hjn
              refine o_val rfl rfl rfl rfl (v_gtr rfl rfl) ?_
              refine o_end ?_
              refine r_if rfl (fun g => ?_) (fun g => ?_)
              · refine r_region rfl ?_
                refine o_val rfl rfl rfl rfl (v_move rfl) ?_
                refine o_val rfl rfl rfl rfl (v_assign rfl) ?_
                refine o_end ?_
                refine r_inBlock ?_
                refine j_keep ?_ (IH (S ++ [j], ld'[j].1) ⟨fun j2 hj2' h => ?_, .inr ⟨_, List.getElem_mem hj2, rfl⟩⟩ hlt)
                · exact ⟨rfl, rfl, rfl, rfl, rfl, trivial⟩
                · dsimp only
                  rcases List.mem_append.1 h with h | h
                  · have := hS j2 hj2' h; omega
                  · have hjj := List.mem_singleton.1 h
                    subst hjj
                    exact Nat.le_refl _
              · refine r_skip ?_
                refine r_inBlock ?_
                refine j_keep ?_ (IH (S ++ [j], top) ⟨fun j2 hj2' h => ?_, htop⟩ hlt)
                · exact ⟨rfl, rfl, rfl, rfl, rfl, trivial⟩
                · dsimp only
                  rcases List.mem_append.1 h with h | h
                  · exact hS j2 hj2' h
                  · have hjj := List.mem_singleton.1 h
                    subst hjj
                    omega
        · have hl' : ¬ r.p.role = 3 := by rw [← hrole]; exact hl
          have hres : r.p.leads i ld (pureD dn) bad = (ld, bad) := by
            unfold PR.leads
            rw [if_neg hl']
          refine r_skip ?_
          refine j_keep ?_ (j_heap (by rw [hres]) (J () trivial))
          exact ⟨rfl, rfl, rfl, trivial⟩
      · rintro ⟨⟩ -
        generalize (r.p.leads i ld (pureD dn) bad).2 = bad1
        generalize (r.p.leads i ld (pureD dn) bad).1 = ld1
        have hcm : q2.p.cm = r.p.cm := by rw [hq2p]; rfl
        have hlix : q2.p.lix = r.p.lix := by rw [hq2p]; rfl
        have hent : ∀ k, q2.p.entry k = r.p.entry k := fun k => by rw [hq2p]; rfl
        have hcb := hq2ok.B.cm
        have hlb := hq2ok.B.last
        rw [← hcm, ← hlix]
        refine r_seq ?_
        refine r_region rfl ?_
        refine o_val rfl rfl rfl rfl (v_move rfl) ?_
        refine o_val rfl rfl rfl rfl (v_nilCheck rfl) ?_
        refine o_val rfl rfl rfl rfl (v_field (k := 0) rfl rfl rfl) ?_
        refine o_val rfl rfl rfl rfl (v_load rfl rfl (mcell (x := x) 0 (by simp [FoH, RfH_eq]) rfl)) ?_
        refine o_call rfl rfl rfl rfl (c_call callable66 rfl) (r_Base _ _ x.ra q2 _) ?_
        rintro v' F2 H' ⟨rfl, rfl, rfl⟩ _
        refine o_val rfl rfl rfl rfl (v_add rfl rfl (r := ((q2.p.lix + 1 : Nat) : Int)) (wrap_u64 (by omega) (by omega))) ?_
        refine o_val rfl rfl rfl rfl (v_assign rfl) ?_
        refine o_end ?_
        refine r_block ?_
        refine r_loop (fun s : Nat × Bool × List (Nat × En) => s.1 + (q2.p.cm + 1 - s.1) = (q2.p.lix + 1) + (q2.p.cm - q2.p.lix) ∧ (∀ e ∈ s.2.2, e.2.ok F2) ∧ cmtF r.p (q2.p.cm - q2.p.lix) (q2.p.lix + 1) (pureD dn) bad1 = cmtF r.p (q2.p.cm + 1 - s.1) s.1 (pureD s.2.2) s.2.1) (fun s => [(0, ptrV x.ga), (4, ptrV x.ma), (13, .int .u64 s.1)]) (fun _ => F2) (fun s => RfH x.ra q2 (ME x :: GE x s.2.1 :: LE x ld1 :: DE x s.2.2 :: d2.E x :: (d2.bs ++ Fr))) (fun s => q2.p.cm + 1 - s.1) (q2.p.lix + 1, bad1, dn) ⟨by dsimp only; omega, hdn2, by rw [show q2.p.cm + 1 - (q2.p.lix + 1) = q2.p.cm - q2.p.lix by omega]⟩ ⟨rfl, rfl, rfl, trivial⟩ rfl rfl ?_
        rintro ⟨kk, b, dm⟩ ⟨hkk, hdm, hcf⟩ IH
        dsimp only at hkk hdm hcf ⊢
        refine r_seq ?_
        refine r_seq ?_
        refine r_region rfl ?_
        refine o_val rfl rfl rfl rfl (v_move rfl) ?_
        refine o_val rfl rfl rfl rfl (v_move rfl) ?_
        refine o_val rfl rfl rfl rfl (v_nilCheck rfl) ?_
        refine o_val rfl rfl rfl rfl (v_field (k := 0) rfl rfl rfl) ?_
        refine o_val rfl rfl rfl rfl (v_load rfl rfl (mcell (x := x) 0 (by simp [FoH, RfH_eq]) rfl)) ?_
        refine o_call rfl rfl rfl rfl (c_call callable15 rfl) (r_Commit _ _ x.ra q2 _) ?_
        rintro v' F2 H' ⟨rfl, rfl, rfl⟩ _
        refine o_val rfl rfl rfl rfl (v_leq rfl rfl) ?_
        refine o_end ?_
        refine r_if rfl (fun h3 => ?_) (fun h3 => ?_)
        · have hsub : q2.p.cm + 1 - kk = (q2.p.cm + 1 - (kk + 1)) + 1 := by omega
          rw [hsub] at hcf
          have hcf2 : cmtF r.p (q2.p.cm - q2.p.lix) (q2.p.lix + 1) (pureD dn) bad1 = cmtF r.p (q2.p.cm + 1 - (kk + 1)) (kk + 1) (putN (pureD dm) kk (r.p.ent kk)) (cmtB r.p kk (pureD dm) b) := hcf
          refine r_skip ?_
          refine r_seq ?_
          refine r_block ?_
          refine r_seq ?_
          refine r_region rfl ?_
          refine o_val rfl rfl rfl rfl (v_move rfl) ?_
          refine o_val rfl rfl rfl rfl (v_nilCheck rfl) ?_
          refine o_val rfl rfl rfl rfl (v_field (k := 0) rfl rfl rfl) ?_
          refine o_val rfl rfl rfl rfl (v_load rfl rfl (mcell (x := x) 0 (by simp [FoH, RfH_eq]) rfl)) ?_
          refine o_val rfl rfl rfl rfl (v_move rfl) ?_
          refine o_call rfl rfl rfl rfl (c_call callable67 rfl) (r_Entry _ _ x.ra q2 kk _ hq2ok (by omega)) ?_
          rintro v' F2 H' ⟨rfl, ⟨e, heok, hep, rfl⟩, rfl⟩ _
          rw [hent] at hep
          rw [hent]
          have hep : e.pure = r.p.ent kk := hep
          have heone := heok.one
          refine o_val rfl rfl rfl rfl (v_move rfl) ?_
          refine o_val rfl rfl rfl rfl (v_extract rfl rfl) ?_
          refine o_val rfl rfl rfl rfl (v_extract rfl rfl) ?_
          refine o_act rfl rfl rfl rfl (a_alloc rfl) ?_
          rintro v' H' ⟨y1, rfl, rfl⟩
          refine o_act0 rfl rfl rfl (a_store (sz := 4) (v := .agg e.cells.toArray) 0 rfl rfl rfl heone rfl rfl (Nat.le_of_ble_eq_true rfl)) ?_
          refine j_heap (H' := .mem y1 e.cells 4 :: RfH x.ra q2 (ME x :: GE x b :: LE x ld1 :: DE x dm :: d2.E x :: (d2.bs ++ Fr))) rfl ?_
          refine j_perm (box_in x.ra q2 _ _) ?_
          obtain ⟨w, hw⟩ : ∃ w : En, w = (lookN dm kk).getD En.z := ⟨_, rfl⟩
          have hwok : w.ok F2 := by
            rw [hw]
            cases hl : lookN dm kk with
            | none => exact En.z_ok _
            | some w0 => exact hdm _ (lookN_mem dm kk w0 hl)
          have hwone := hwok.one
          refine o_val rfl rfl rfl rfl (v_assign rfl) ?_
          refine o_end ?_
          refine r_seq ?_
          refine r_region rfl ?_
          refine o_val rfl rfl rfl rfl (v_move rfl) ?_
          refine o_val rfl rfl rfl rfl (v_nilCheck rfl) ?_
          refine o_val rfl rfl rfl rfl (v_field (k := 3) rfl rfl rfl) ?_
          refine o_val rfl rfl rfl rfl (v_load rfl rfl (gcell (x := x) (bad := b) 3 (by simp [FoH, RfH_eq]) rfl)) ?_
          refine o_val rfl rfl rfl rfl (v_move rfl) ?_
          refine o_val rfl rfl rfl rfl (v_lookD (f := x) (dn := dm) (k := kk) (by simp [RfH_eq]) rfl rfl rfl rfl rfl rfl) ?_
          refine o_val rfl rfl rfl rfl (v_move rfl) ?_
          refine o_val rfl rfl rfl rfl (v_extract rfl rfl) ?_
          refine o_val rfl rfl rfl rfl (v_extract rfl rfl) ?_
          rw [← hw]
          refine o_act rfl rfl rfl rfl (a_alloc rfl) ?_
          rintro v' H' ⟨y2, rfl, rfl⟩
          refine o_act0 rfl rfl rfl (a_store (sz := 4) (v := .agg w.cells.toArray) 0 rfl rfl rfl hwone rfl rfl (Nat.le_of_ble_eq_true rfl)) ?_
          refine j_heap (H' := .mem y2 w.cells 4 :: RfH x.ra q2 (.mem y1 e.cells 4 :: ME x :: GE x b :: LE x ld1 :: DE x dm :: d2.E x :: (d2.bs ++ Fr))) rfl ?_
          refine j_perm (box_in x.ra q2 _ _) ?_
          have hB : cmtB r.p kk (pureD dm) b = (b || !(r.p.entry kk).isSome || decide (e.pure.ix ≠ kk) || (match (lookN dm kk).map En.pure with | some w => !e.pure.same w | none => false)) := by
            rw [hep, ← pureD_look]
            rfl
          have hpi : e.pure.ix = e.ix := rfl
          rw [hpi] at hB
          generalize hb1 : cmtB r.p kk (pureD dm) b = b1 at *
          obtain ⟨Y1, hY1⟩ : ∃ Y1 : Ent, Y1 = .mem y1 e.cells 4 := ⟨_, rfl⟩
          obtain ⟨Y2, hY2⟩ : ∃ Y2 : Ent, Y2 = .mem y2 w.cells 4 := ⟨_, rfl⟩
          rw [← hY1, ← hY2]
          have hc1 : ∀ F H j c, Y1 ∈ H → e.cells[j]? = some c → Cell F H y1 (0 + j) c := fun F H j c hm hc => by rw [Nat.zero_add]; rw [hY1] at hm; exact cell_own hm hc
          have hc2 : ∀ F H j c, Y2 ∈ H → w.cells[j]? = some c → Cell F H y2 (0 + j) c := fun F H j c hm hc => by rw [Nat.zero_add]; rw [hY2] at hm; exact cell_own hm hc
          refine o_val rfl rfl rfl rfl (v_assign rfl) ?_
          refine o_end ?_
          refine r_seq ?_
          refine r_join (fun _ : Unit => True) (fun _ => [(0, ptrV x.ga), (4, ptrV x.ma), (13, .int .u64 kk), (14, ptrV y1)]) (fun _ => F2) (fun _ => RfH x.ra q2 (Y2 :: Y1 :: ME x :: GE x b1 :: LE x ld1 :: DE x dm :: d2.E x :: (d2.bs ++ Fr))) ?_ ?_
          · intro K
            cases b with
            | true =>
              refine r_region rfl ?_
              refine o_val rfl rfl rfl rfl (v_move rfl) ?_
              refine o_val rfl rfl rfl rfl (v_move rfl) ?_
              refine o_val rfl rfl rfl rfl (v_nilCheck rfl) ?_
              refine o_val rfl rfl rfl rfl (v_field (k := 4) rfl rfl rfl) ?_
              refine o_val rfl rfl rfl rfl (v_load rfl rfl (gcell (x := x) (bad := true) 4 (by simp [FoH, RfH_eq]) rfl)) ?_
              refine o_val rfl rfl rfl rfl (v_move rfl) ?_
              refine o_skip rfl rfl rfl rfl ?_
              refine o_skip rfl rfl rfl rfl ?_
              refine o_val rfl rfl rfl rfl (v_pick1 rfl rfl) ?_
              refine o_val rfl rfl rfl rfl (v_move rfl) ?_
              refine o_skip rfl rfl rfl rfl ?_
              refine o_skip rfl rfl rfl rfl ?_
              refine o_skip rfl rfl rfl rfl ?_
              refine o_skip rfl rfl rfl rfl ?_
              refine o_val rfl rfl rfl rfl (v_pick1 rfl rfl) ?_
              refine o_val rfl rfl rfl rfl (v_move rfl) ?_
              refine o_skip rfl rfl rfl rfl ?_
              refine o_skip rfl rfl rfl rfl ?_
              refine o_skip rfl rfl rfl rfl ?_
              refine o_skip rfl rfl rfl rfl ?_
              refine o_skip rfl rfl rfl rfl ?_
              refine o_skip rfl rfl rfl rfl ?_
              refine o_skip rfl rfl rfl rfl ?_
              refine o_val rfl rfl rfl rfl (v_pick1 rfl rfl) ?_
              refine o_val rfl rfl rfl rfl (v_nilCheck rfl) ?_
              refine o_val rfl rfl rfl rfl (v_field (k := 4) rfl rfl rfl) ?_
              refine o_act0 rfl rfl rfl (a_bad (b' := b1) [Y2, Y1, ME x] _ rfl rfl (by rw [hB]; rfl)) ?_
              refine o_end ?_
              refine j_keep ?_ (K () trivial)
              exact ⟨rfl, rfl, rfl, rfl, trivial⟩
            | false =>
              rw [Bool.false_or] at hB
              refine r_region rfl ?_
              refine o_val rfl rfl rfl rfl (v_move rfl) ?_
              refine o_val rfl rfl rfl rfl (v_move rfl) ?_
              refine o_val rfl rfl rfl rfl (v_nilCheck rfl) ?_
              refine o_val rfl rfl rfl rfl (v_field (k := 4) rfl rfl rfl) ?_
              refine o_val rfl rfl rfl rfl (v_load rfl rfl (gcell (x := x) (bad := false) 4 (by simp [FoH, RfH_eq]) rfl)) ?_
              refine o_val rfl rfl rfl rfl (v_move rfl) ?_
              refine o_val rfl rfl rfl rfl (v_move rfl) ?_
              cases hen : (r.p.entry kk).isSome with
              | false =>
                rw [hen, Bool.not_false, Bool.true_or, Bool.true_or] at hB
                refine o_val rfl rfl rfl rfl (v_not rfl) ?_
                refine o_val rfl rfl rfl rfl (v_pick0 rfl rfl) ?_
                refine o_val rfl rfl rfl rfl (v_move rfl) ?_
                refine o_skip rfl rfl rfl rfl ?_
                refine o_skip rfl rfl rfl rfl ?_
                refine o_skip rfl rfl rfl rfl ?_
                refine o_skip rfl rfl rfl rfl ?_
                refine o_val rfl rfl rfl rfl (v_pick1 rfl rfl) ?_
                refine o_val rfl rfl rfl rfl (v_move rfl) ?_
                refine o_skip rfl rfl rfl rfl ?_
                refine o_skip rfl rfl rfl rfl ?_
                refine o_skip rfl rfl rfl rfl ?_
                refine o_skip rfl rfl rfl rfl ?_
                refine o_skip rfl rfl rfl rfl ?_
                refine o_skip rfl rfl rfl rfl ?_
                refine o_skip rfl rfl rfl rfl ?_
                refine o_val rfl rfl rfl rfl (v_pick1 rfl rfl) ?_
                refine o_val rfl rfl rfl rfl (v_nilCheck rfl) ?_
                refine o_val rfl rfl rfl rfl (v_field (k := 4) rfl rfl rfl) ?_
                refine o_act0 rfl rfl rfl (a_bad (b' := b1) [Y2, Y1, ME x] _ rfl rfl (by rw [hB]; rfl)) ?_
                refine o_end ?_
                refine j_keep ?_ (K () trivial)
                exact ⟨rfl, rfl, rfl, rfl, trivial⟩
              | true =>
                rw [hen, Bool.not_true, Bool.false_or] at hB
                refine o_val rfl rfl rfl rfl (v_not rfl) ?_
                refine o_val rfl rfl rfl rfl (v_pick0 rfl rfl) ?_
                refine o_val rfl rfl rfl rfl (v_move rfl) ?_
                refine o_val rfl rfl rfl rfl (v_field (k := 0) rfl rfl rfl) ?_
                refine o_val rfl rfl rfl rfl (v_load (v := .int .u64 e.ix) rfl rfl (hc1 _ _ 0 _ (by simp [RfH_eq]) rfl)) ?_
                refine o_val rfl rfl rfl rfl (v_move rfl) ?_
                refine o_val rfl rfl rfl rfl (v_neq rfl rfl) ?_
                refine j_prop 217 rfl (fun h5 => ?_) (fun h5 => ?_)
                · rw [decide_eq_true (show e.ix ≠ kk by omega), Bool.true_or] at hB
                  refine o_val rfl rfl rfl rfl (v_pick0 rfl rfl) ?_
                  refine o_val rfl rfl rfl rfl (v_move rfl) ?_
                  refine o_skip rfl rfl rfl rfl ?_
                  refine o_skip rfl rfl rfl rfl ?_
                  refine o_skip rfl rfl rfl rfl ?_
                  refine o_skip rfl rfl rfl rfl ?_
                  refine o_skip rfl rfl rfl rfl ?_
                  refine o_skip rfl rfl rfl rfl ?_
                  refine o_skip rfl rfl rfl rfl ?_
                  refine o_val rfl rfl rfl rfl (v_pick1 rfl rfl) ?_
                  refine o_val rfl rfl rfl rfl (v_nilCheck rfl) ?_
                  refine o_val rfl rfl rfl rfl (v_field (k := 4) rfl rfl rfl) ?_
                  refine o_act0 rfl rfl rfl (a_bad (b' := b1) [Y2, Y1, ME x] _ rfl rfl (by rw [hB]; rfl)) ?_
                  refine o_end ?_
                  refine j_keep ?_ (K () trivial)
                  exact ⟨rfl, rfl, rfl, rfl, trivial⟩
                · rw [decide_eq_false (show ¬ e.ix ≠ kk by omega), Bool.false_or] at hB
                  refine o_val rfl rfl rfl rfl (v_pick0 rfl rfl) ?_
                  refine o_val rfl rfl rfl rfl (v_move rfl) ?_
                  refine o_val rfl rfl rfl rfl (v_move rfl) ?_
                  cases hl : lookN dm kk with
                  | none =>
                    rw [hl] at hB
                    refine o_val rfl rfl rfl rfl (v_move rfl) ?_
                    refine o_skip rfl rfl rfl rfl ?_
                    refine o_skip rfl rfl rfl rfl ?_
                    refine o_skip rfl rfl rfl rfl ?_
                    refine o_skip rfl rfl rfl rfl ?_
                    refine o_val rfl rfl rfl rfl (v_pick0 rfl rfl) ?_
                    refine o_val rfl rfl rfl rfl (v_pick0 rfl rfl) ?_
                    refine o_val rfl rfl rfl rfl (v_nilCheck rfl) ?_
                    refine o_val rfl rfl rfl rfl (v_field (k := 4) rfl rfl rfl) ?_
                    refine o_act0 rfl rfl rfl (a_bad (b' := b1) [Y2, Y1, ME x] _ rfl rfl (by rw [hB]; rfl)) ?_
                    refine o_end ?_
                    refine j_keep ?_ (K () trivial)
                    exact ⟨rfl, rfl, rfl, rfl, trivial⟩
                  | some w0 =>
                    have hww : w0 = w := by rw [hw, hl]; rfl
                    rw [hl, hww] at hB
                    simp only [Option.map_some] at hB
                    refine o_val rfl rfl rfl rfl (v_move rfl) ?_
                    refine o_val rfl rfl rfl rfl (v_loadAgg (sz := 4) (cs := e.cells) rfl rfl rfl rfl (fun j c hc => hc1 _ _ j c (by simp [RfH_eq]) hc)) ?_
                    refine o_val rfl rfl rfl rfl (v_loadAgg (sz := 4) (cs := w.cells) rfl rfl rfl rfl (fun j c hc => hc2 _ _ j c (by simp [RfH_eq]) hc)) ?_
                    refine o_call rfl rfl rfl rfl (c_call callable68 rfl) (g_same _ _ e w _ heok hwok) ?_
                    rintro v' F2 H' ⟨rfl, rfl, rfl⟩ _
                    cases hsm : e.pure.same w.pure with
                    | false =>
                      rw [hsm] at hB
                      refine o_val rfl rfl rfl rfl (v_not rfl) ?_
                      refine o_val rfl rfl rfl rfl (v_pick1 rfl rfl) ?_
                      refine o_val rfl rfl rfl rfl (v_pick0 rfl rfl) ?_
                      refine o_val rfl rfl rfl rfl (v_nilCheck rfl) ?_
                      refine o_val rfl rfl rfl rfl (v_field (k := 4) rfl rfl rfl) ?_
                      refine o_act0 rfl rfl rfl (a_bad (b' := b1) [Y2, Y1, ME x] _ rfl rfl (by rw [hB]; rfl)) ?_
                      refine o_end ?_
                      refine j_keep ?_ (K () trivial)
                      exact ⟨rfl, rfl, rfl, rfl, trivial⟩
                    | true =>
                      rw [hsm] at hB
                      refine o_val rfl rfl rfl rfl (v_not rfl) ?_
                      refine o_val rfl rfl rfl rfl (v_pick1 rfl rfl) ?_
                      refine o_val rfl rfl rfl rfl (v_pick0 rfl rfl) ?_
                      refine o_val rfl rfl rfl rfl (v_nilCheck rfl) ?_
                      refine o_val rfl rfl rfl rfl (v_field (k := 4) rfl rfl rfl) ?_
                      refine o_act0 rfl rfl rfl (a_bad (b' := b1) [Y2, Y1, ME x] _ rfl rfl (by rw [hB]; rfl)) ?_
                      refine o_end ?_
                      refine j_keep ?_ (K () trivial)
                      exact ⟨rfl, rfl, rfl, rfl, trivial⟩
          · rintro ⟨⟩ -
            refine d_region 1000000 rfl ([GE x b1, Y1]) ?_
            refine d_take (i := 0) rfl rfl rfl (by decide +kernel) (by decide +kernel) (by decide +kernel) (Fz.le_refl _) (by intro z hz; simp only [List.mem_cons, List.not_mem_nil, or_false] at hz; rcases hz with rfl | rfl <;> simp [RfH_eq]) rfl (v_move rfl) ?_
            refine d_take (i := 1) rfl rfl rfl (by decide +kernel) (by decide +kernel) (by decide +kernel) (Fz.le_refl _) (by intro z hz; simp only [List.mem_cons, List.not_mem_nil, or_false] at hz; rcases hz with rfl | rfl <;> simp [RfH_eq]) rfl (v_nilCheck rfl) ?_
            refine d_take (i := 2) rfl rfl rfl (by decide +kernel) (by decide +kernel) (by decide +kernel) (Fz.le_refl _) (by intro z hz; simp only [List.mem_cons, List.not_mem_nil, or_false] at hz; rcases hz with rfl | rfl <;> simp [RfH_eq]) rfl (v_field (k := 3) rfl rfl rfl) ?_
            refine d_take (i := 3) rfl rfl rfl (by decide +kernel) (by decide +kernel) (by decide +kernel) (Fz.le_refl _) (by intro z hz; simp only [List.mem_cons, List.not_mem_nil, or_false] at hz; rcases hz with rfl | rfl <;> simp [RfH_eq]) rfl (v_load rfl rfl (gcell (x := x) (bad := b1) 3 (by simp [FoH, RfH_eq]) rfl)) ?_
            refine d_take (i := 4) rfl rfl rfl (by decide +kernel) (by decide +kernel) (by decide +kernel) (Fz.le_refl _) (by intro z hz; simp only [List.mem_cons, List.not_mem_nil, or_false] at hz; rcases hz with rfl | rfl <;> simp [RfH_eq]) rfl (v_move rfl) ?_
            refine d_take (i := 5) rfl rfl rfl (by decide +kernel) (by decide +kernel) (by decide +kernel) (Fz.le_refl _) (by intro z hz; simp only [List.mem_cons, List.not_mem_nil, or_false] at hz; rcases hz with rfl | rfl <;> simp [RfH_eq]) rfl (v_loadAgg (sz := 4) (cs := e.cells) rfl rfl rfl rfl (fun j c hc => hc1 _ _ j c (by simp) hc)) ?_
            refine d_one (i := 6) (by decide +kernel) ?_
            refine d1_act0 rfl rfl rfl (a_dput (f := x) (dn := dm) (k := kk) (e := e) [Y2, Y1, ME x, GE x b1, LE x ld1] _ rfl rfl rfl rfl rfl) (fun w hw => held_of hw (Fz.le_refl _) (by intro z hz; simp only [List.mem_cons, List.not_mem_nil, or_false] at hz; rcases hz with rfl | rfl <;> simp [RfH_eq])) ?_
            refine j_heap (H' := RfH x.ra q2 (Y2 :: Y1 :: ME x :: GE x b1 :: LE x ld1 :: DE x (putN dm kk e) :: d2.E x :: (d2.bs ++ Fr))) rfl ?_
            refine j_drop (box_out x.ra q2 Y2 _) ?_
            refine j_drop (box_out x.ra q2 Y1 _) ?_
            refine d_end (by decide +kernel) ?_
            refine r_inBlock ?_
            refine r_region rfl ?_
            refine o_val rfl rfl rfl rfl (v_move rfl) ?_
            refine o_val rfl rfl rfl rfl (v_add rfl rfl (r := ((kk + 1 : Nat) : Int)) (wrap_u64 (by omega) (by omega))) ?_
            refine o_val rfl rfl rfl rfl (v_assign rfl) ?_
            refine o_end ?_
            refine j_keep ?_ (IH (kk + 1, b1, putN dm kk e) ⟨by dsimp only; omega, fun z hz => ?_, by rw [hcf2]; dsimp only; rw [pureD_put, hep]⟩ (by dsimp only; omega))
            · exact ⟨rfl, rfl, rfl, trivial⟩
            · rcases putN_mem dm kk e z hz with rfl | hz
              · exact heok
              · exact hdm z hz
        · have h0 : q2.p.cm + 1 - kk = 0 := by omega
          rw [h0] at hcf
          clear IH
          refine r_exit rfl ?_
          exact r_fall0 Tryz.func40 rfl ⟨⟨rfl, q2, d2, b, dm, hq2ok, hq2p, hd2, hd2p, hdm, hcf.symm, rfl⟩, by first | exact Fz.le_trans hF1 hF2 | assumption⟩
end Go.SX
namespace Go.SX
open Go Go.Proofs
set_option maxRecDepth 4000
set_option linter.unusedSimpArgs false
set_option linter.unusedVariables false
/-- A group: its members, what is under way, leaders, what is committed, whether something is wrong, disks, how many steps it has taken at most. -/
structure PS where
  ms : List PR
  net : List PM
  ld : List (Nat × Nat)
  dn : List (Nat × PE)
  bad : Bool
  ds : List (List UInt8 × Nat)
  k : Nat
def frc {α : Type} (b : Bool) (f : Bool → α) : α := match b with
  | true => f true
  | false => f false
theorem frc_eq {α : Type} (b : Bool) (f : Bool → α) : frc b f = f b := by cases b <;> rfl
def PS.settleTo (s : PS) (i : Nat) (p : PR) (d : List UInt8 × Nat) (l : List (Nat × Nat)) (q : List (Nat × PE)) (b : Bool) : PS :=
  { s with ms := s.ms.set i p.settled, ld := l, dn := q, bad := b, ds := s.ds.set i (p.disk d), k := s.k + 1 }
def PS.settle (s : PS) (i : Nat) : Option PS :=
  match s.ms[i]?, s.ds[i]? with
  | some p, some d => if (p.saveOk && decide (s.k ≤ 90000)) = true then
      (let l := p.leads i s.ld s.dn s.bad
       let q := cmtF p (p.cm - p.lix) (p.lix + 1) s.dn l.2
       frc q.2 fun b => some (s.settleTo i p d l.1 q.1 b)) else none
  | _, _ => none
/-! ### In memory -/
structure Mb where
  ma : Nat
  ra : Nat
  da : Nat
  r : Rf
  d : Dk
structure Gr where
  ga : Nat
  lm : Nat
  dm : Nat
  lb : Bf
  ms : List Mb
  wf : Wf
  net : List Mg
  bad : Bool
  ld : List (Nat × Nat)
  dn : List (Nat × En)
  k : Nat
abbrev Gr.lv (g : Gr) : Value := g.lb.val g.ms.length
abbrev Gr.nv (g : Gr) : Value := g.wf.val g.net.length
/-- Where a member of a group stands. -/
def Gr.fx (g : Gr) (m : Mb) : Fx := ⟨g.ga, g.lv, g.nv, g.lm, g.dm, m.ma, m.ra, m.da⟩
def Mb.E (m : Mb) : Ent := .mem m.ma [ptrV m.ra, ptrV m.da] 2
def Mb.D (m : Mb) : Ent := DkE m.da m.d.bf m.d.b m.d.sure m.d.ops
def Mb.H (m : Mb) : List Ent := RfP m.ra m.r ++ (m.E :: m.D :: m.d.bs)
def Gr.E (g : Gr) : Ent := .mem g.ga [g.lv, g.nv, .map (some g.lm), .map (some g.dm), .bool g.bad] 5
def Gr.L (g : Gr) : Ent := .obj g.lm (mapObjK .u64 (kvN lkV g.ld))
def Gr.D (g : Gr) : Ent := .obj g.dm (mapObjK .u64 (kvN enA g.dn))
def msV (l : List Mb) : List Value := l.map fun m => ptrV m.ma
def msH (l : List Mb) : List Ent := l.flatMap Mb.H
def Gr.H (g : Gr) (Fr : List Ent) : List Ent := g.E :: (g.lb.ents 1 (msV g.ms) ++ (g.wf.ents (mgV g.net) ++ (g.L :: g.D :: (msH g.ms ++ Fr))))
structure Gr.ok (F : Fz) (g : Gr) : Prop where
  len : g.ms.length ≤ 5
  lb : g.lb.ok g.ms.length
  wf : g.wf.ok 13 g.net.length
  net : ∀ m ∈ g.net, m.ok F
  nl : g.net.length ≤ 300
  ms : ∀ m ∈ g.ms, m.r.ok F ∧ m.d.ok g.k
  dn : ∀ q ∈ g.dn, q.2.ok F
def Gr.ps (g : Gr) : PS := ⟨g.ms.map fun m => m.r.p, g.net.map Mg.p, g.ld, pureD g.dn, g.bad, g.ms.map fun m => m.d.pure, g.k⟩
theorem Dk.ok.up {k k' : Nat} {d : Dk} (h : d.ok k) (hk : k ≤ k') : d.ok k' := ⟨h.bf, by have := h.len; omega, by have := h.ops; omega, h.sure⟩
theorem Gr.ok.frz {F F' : Fz} {g : Gr} (h : g.ok F) (hF : F.le F') : g.ok F' := ⟨h.len, h.lb, h.wf, fun m hm => (h.net m hm).frz hF, h.nl, fun m hm => ⟨(h.ms m hm).1.frz hF, (h.ms m hm).2⟩, fun q hq => (h.dn q hq).frz hF⟩
/-- What stands beside a member of a group. -/
def Gr.side (g : Gr) (A B : List Mb) (Fr : List Ent) : List Ent := g.lb.ents 1 (msV g.ms) ++ (g.wf.ents (mgV g.net) ++ (msH A ++ (msH B ++ Fr)))
theorem Gr.focus (g : Gr) {A B : List Mb} {m : Mb} (h : g.ms = A ++ m :: B) (Fr : List Ent) : (g.H Fr).Perm (FoH (g.fx m) m.r g.bad g.ld g.dn m.d (g.side A B Fr)) := by
  have e1 : msH g.ms = msH A ++ (RfP m.ra m.r ++ ([m.E] ++ ([m.D] ++ (m.d.bs ++ msH B)))) := by rw [h]; simp [msH, Mb.H]
  have hp : (cat [[g.E], g.lb.ents 1 (msV g.ms), g.wf.ents (mgV g.net), [g.L], [g.D], msH A, RfP m.ra m.r, [m.E], [m.D], m.d.bs, msH B, Fr]).Perm (RfP m.ra m.r ++ (m.E :: g.E :: g.L :: g.D :: m.D :: (m.d.bs ++ (g.lb.ents 1 (msV g.ms) ++ (g.wf.ents (mgV g.net) ++ (msH A ++ (msH B ++ Fr))))))) :=
    selPerm [[g.E], g.lb.ents 1 (msV g.ms), g.wf.ents (mgV g.net), [g.L], [g.D], msH A, RfP m.ra m.r, [m.E], [m.D], m.d.bs, msH B, Fr] [6, 7, 0, 3, 4, 8, 9, 1, 2, 5, 10, 11] rfl rfl rfl rfl
  unfold Gr.H
  rw [e1]
  refine (List.Perm.of_eq ?_).trans (hp.trans (List.Perm.of_eq ?_))
  · simp [cat]
  · unfold FoH Gr.side
    rw [RfH_eq]
    rfl
theorem mid {α : Type} {l : List α} {i : Nat} (h : i < l.length) : l = l.take i ++ l[i] :: l.drop (i + 1) := by simp
theorem set_mid {α : Type} {l : List α} {i : Nat} (x : α) (h : i < l.length) : l.set i x = l.take i ++ x :: l.drop (i + 1) := by
  rw [List.set_eq_take_append_cons_drop, if_pos h]
/-- A member in a group is another one now. -/
def Gr.put (g : Gr) (i : Nat) (m : Mb) : Gr := { g with ms := g.ms.set i m }
theorem msV_set {l : List Mb} {i : Nat} {m m' : Mb} (h : l[i]? = some m) (hma : m'.ma = m.ma) : msV (l.set i m') = msV l := by
  unfold msV
  apply List.ext_getElem?
  intro j
  simp only [List.getElem?_map, List.getElem?_set]
  split
  · rename_i hij
    subst hij
    split
    · rw [h]; simp [hma]
    · rename_i hn
      rw [List.getElem?_eq_none (by omega)] at h
      cases h
  · rfl
/-- A member is another one now; what stands beside it is what it was. -/
theorem Gr.unfocus (g : Gr) {i : Nat} {m : Mb} (hil : i < g.ms.length) (hm : g.ms[i] = m) (m' : Mb) (hma : m'.ma = m.ma) (hra : m'.ra = m.ra) (hda : m'.da = m.da) (bad' : Bool) (ld' : List (Nat × Nat)) (dn' : List (Nat × En)) (k' : Nat) (Fr : List Ent) :
    (FoH (g.fx m) m'.r bad' ld' dn' m'.d (g.side (g.ms.take i) (g.ms.drop (i + 1)) Fr)).Perm (({ g with ms := g.ms.set i m', bad := bad', ld := ld', dn := dn', k := k' } : Gr).H Fr) := by
  obtain ⟨g', hg'⟩ : ∃ g' : Gr, g' = { g with ms := g.ms.set i m', bad := bad', ld := ld', dn := dn', k := k' } := ⟨_, rfl⟩
  rw [← hg']
  have hsp : g'.ms = g.ms.take i ++ m' :: g.ms.drop (i + 1) := by rw [hg']; exact set_mid m' hil
  have hv : msV g'.ms = msV g.ms := by rw [hg']; exact msV_set (by rw [List.getElem?_eq_getElem hil, hm]) hma
  have hl : g'.ms.length = g.ms.length := by rw [hg']; simp
  refine List.Perm.trans (List.Perm.of_eq ?_) (g'.focus hsp Fr).symm
  have h1 : g'.side (g.ms.take i) (g.ms.drop (i + 1)) Fr = g.side (g.ms.take i) (g.ms.drop (i + 1)) Fr := by
    unfold Gr.side
    rw [hv, hg']
  have h2 : g'.fx m' = g.fx m := by
    unfold Gr.fx Gr.lv Gr.nv
    rw [hl, hma, hra, hda, hg']
  rw [h1, h2, hg']
theorem Gr.ps_set (g : Gr) (i : Nat) (m' : Mb) (bad' : Bool) (ld' : List (Nat × Nat)) (dn' : List (Nat × En)) (k' : Nat) :
    ({ g with ms := g.ms.set i m', bad := bad', ld := ld', dn := dn', k := k' } : Gr).ps = { g.ps with ms := g.ps.ms.set i m'.r.p, ld := ld', dn := pureD dn', bad := bad', ds := g.ps.ds.set i m'.d.pure, k := k' } := by
  unfold Gr.ps
  simp only [List.map_set]
theorem g_settle (O : World) (F : Fz) (g : Gr) (i : Nat) (s' : PS) (Fr : List Ent) (hg : g.ok F) (h : g.ps.settle i = some s') :
    Does Tryz.prog O 40 #[ptrV g.ga, .int .i64 i] F (g.H Fr) (fun v F' H' => v = noneV ∧ ∃ g' : Gr, g'.ok F' ∧ g'.ps = s' ∧ g'.ga = g.ga ∧ H' = g'.H Fr) := by
  have hil : i < g.ms.length := by
    unfold PS.settle at h
    rcases Nat.lt_or_ge i g.ms.length with hl | hl
    · exact hl
    · have : g.ps.ms[i]? = none := List.getElem?_eq_none (by simpa [Gr.ps] using hl)
      rw [this] at h
      cases h
  have e1 : g.ps.ms[i]? = some g.ms[i].r.p := by simp [Gr.ps, hil]
  have e2 : g.ps.ds[i]? = some g.ms[i].d.pure := by simp [Gr.ps, hil]
  have hmi : g.ms[i] ∈ g.ms := List.getElem_mem hil
  obtain ⟨m, hm⟩ : ∃ m, m = g.ms[i] := ⟨_, rfl⟩
  rw [← hm] at e1 e2 hmi
  unfold PS.settle at h
  rw [e1, e2] at h
  dsimp only at h
  have hcnd : (m.r.p.saveOk && decide (g.ps.k ≤ 90000)) = true := by
    cases hc : (m.r.p.saveOk && decide (g.ps.k ≤ 90000)) with
    | true => rfl
    | false => rw [hc] at h; cases h
  rw [if_pos hcnd, frc_eq] at h
  rw [Bool.and_eq_true, decide_eq_true_eq] at hcnd
  obtain ⟨hso, hk⟩ := hcnd
  have hk : g.k ≤ 90000 := hk
  have hsp : g.ms = g.ms.take i ++ m :: g.ms.drop (i + 1) := by rw [hm]; exact mid hil
  obtain ⟨hmr, hmd⟩ := hg.ms m hmi
  have hlen := hg.len
  obtain ⟨lb, c, hlb⟩ : ∃ lb c, g.lb = .at lb c := by
    have := hg.lb
    cases hb : g.lb with
    | nil =>
      rw [hb] at this
      have h0 : g.ms.length = 0 := this
      omega
    | «at» b c => exact ⟨b, c, rfl⟩
  refine does_permB (g.focus hsp Fr) (g_settle1 O F (g.fx m) i g.k m.r g.bad g.ld g.dn m.d _ hmr hg.dn hmd hk hso (by omega) (lb := lb) (n := g.ms.length) (N := c * 1) (c := c) (cs := msV g.ms) ?_ hil ?_ ?_) ?_
  · show g.lv = _
    unfold Gr.lv
    rw [hlb]
    rfl
  · show (msV g.ms)[i]? = some (ptrV m.ma)
    rw [hm]
    simp [msV, hil]
  · unfold Gr.side
    rw [hlb]
    exact List.mem_append_left _ (List.mem_singleton.2 rfl)
  · rintro v F' H' hle ⟨rfl, r', d', bad', dn', hr', hrp, hd', hdp, hdn', hcf, rfl⟩
    obtain ⟨m', hm'⟩ : ∃ m' : Mb, m' = ⟨m.ma, m.ra, m.da, r', d'⟩ := ⟨_, rfl⟩
    have hp := g.unfocus hil hm.symm m' (by rw [hm']) (by rw [hm']) (by rw [hm']) bad' (m.r.p.leads i g.ld (pureD g.dn) g.bad).1 dn' (g.k + 1) Fr
    obtain ⟨g', hg'⟩ : ∃ g' : Gr, g' = { g with ms := g.ms.set i m', bad := bad', ld := (m.r.p.leads i g.ld (pureD g.dn) g.bad).1, dn := dn', k := g.k + 1 } := ⟨_, rfl⟩
    have hp2 : (FoH (g.fx m) r' bad' (m.r.p.leads i g.ld (pureD g.dn) g.bad).1 dn' d' (g.side (g.ms.take i) (g.ms.drop (i + 1)) Fr)).Perm (g'.H Fr) := by
      rw [← hg', hm'] at hp
      exact hp
    refine ⟨g'.H Fr, hp2, rfl, g', ?_, ?_, by rw [hg'], rfl⟩
    · rw [hg']
      refine ⟨?_, ?_, hg.wf, fun q hq => (hg.net q hq).frz hle, hg.nl, ?_, hdn'⟩
      · simpa using hg.len
      · simpa using hg.lb
      · intro z hz
        rcases List.mem_or_eq_of_mem_set hz with hz | rfl
        · exact ⟨(hg.ms z hz).1.frz hle, (hg.ms z hz).2.up (Nat.le_succ _)⟩
        · rw [hm']
          exact ⟨hr', hd'⟩
    · rw [hg', Gr.ps_set]
      have h := Option.some.inj h
      rw [← h, hm']
      unfold PS.settleTo
      have hcf1 : pureD dn' = (cmtF m.r.p (m.r.p.cm - m.r.p.lix) (m.r.p.lix + 1) (pureD g.dn) (m.r.p.leads i g.ld (pureD g.dn) g.bad).2).1 := congrArg Prod.fst hcf
      have hcf2 : bad' = (cmtF m.r.p (m.r.p.cm - m.r.p.lix) (m.r.p.lix + 1) (pureD g.dn) (m.r.p.leads i g.ld (pureD g.dn) g.bad).2).2 := congrArg Prod.snd hcf
      dsimp only
      rw [hrp, hdp, hcf1, hcf2]
      rfl
end Go.SX
namespace Go.SX
open Go Go.Proofs
set_option maxRecDepth 4000
set_option linter.unusedSimpArgs false
set_option linter.unusedVariables false
def PS.flushTo (s : PS) (i : Nat) (p : PR) (d : List UInt8 × Nat) : PS :=
  { s with ms := s.ms.set i p.stable, ds := s.ds.set i (d.1, d.1.length), net := (s.net ++ p.stable1.out).drop ((s.net ++ p.stable1.out).length - 300), k := s.k + 1 }
def PS.flush (s : PS) (i : Nat) : Option PS :=
  match s.ms[i]?, s.ds[i]? with
  | some p, some d => if s.k ≤ 100000 then some (s.flushTo i p d) else none
  | _, _ => none
def PS.sync (s : PS) (i : Nat) : Option PS := (s.settle i).bind fun s1 => (s1.flush i).bind fun s2 => s2.settle i
theorem gcell0 {F : Fz} {H : List Ent} {g : Gr} (j : Nat) {c : Value} (hm : g.E ∈ H) (hc : [g.lv, g.nv, Value.map (some g.lm), .map (some g.dm), .bool g.bad][j]? = some c) : Cell F H g.ga (0 + j) c := by
  rw [Nat.zero_add]
  exact cell_own hm hc
theorem Gr.lbv {F : Fz} {g : Gr} (hg : g.ok F) {i : Nat} (hi : i < g.ms.length) : ∃ lb c N, g.lv = .slice (some ⟨lb, 0, none⟩) g.ms.length c ∧ ∀ cs, g.lb.ents 1 cs = [.mem lb cs N] := by
  have := hg.lb
  unfold Gr.lv
  cases hb : g.lb with
  | nil =>
    rw [hb] at this
    have h0 : g.ms.length = 0 := this
    omega
  | «at» b c => exact ⟨b, c, c * 1, rfl, fun _ => rfl⟩
theorem msV_get {l : List Mb} {i : Nat} {m : Mb} (h : l[i]? = some m) : (msV l)[0 + i]? = some (ptrV m.ma) := by
  rw [Nat.zero_add]
  simp [msV, h]
theorem wf_drop {wf : Wf} {n sz k : Nat} {x xs : List Value} (hok : wf.ok sz n) (hk : k < n) (hx : x.length = k * sz) : ∃ wf' : Wf, wf'.ok sz (n - k) ∧ Go.sliced wf.addr k n wf.cp sz = wf'.val (n - k) ∧ wf.ents (x ++ xs) = wf'.ents xs := by
  cases wf with
  | nil =>
    have : n = 0 := hok
    omega
  | «at» b off cp N pre =>
    obtain ⟨h1, h2, h3⟩ := hok
    have hc : ¬ cp = k := by omega
    refine ⟨.at b (off + k * sz) (cp - k) N (pre ++ x), ⟨by omega, ?_, by simp [h3, hx]⟩, ?_, by simp [Wf.ents]⟩
    · have : cp * sz = k * sz + (cp - k) * sz := by rw [← Nat.add_mul]; congr 1; omega
      omega
    · have hadd : (⟨b, off, none⟩ : Addr).add (k * sz) = ⟨b, off + k * sz, none⟩ := by
        unfold Addr.add
        split
        · rename_i h0
          rw [h0]
          rfl
        · simp
      show Value.slice (if cp = k then some ⟨b, off, none⟩ else (some (⟨b, off, none⟩ : Addr)).map (·.add (k * sz))) (n - k) (cp - k) = .slice (some ⟨b, off + k * sz, none⟩) (n - k) (cp - k)
      rw [if_neg hc, Option.map_some, hadd]
theorem adv_out (p : PR) : ∀ n, (p.adv n).out = p.out
  | 0 => rfl
  | n + 1 => by
    unfold PR.adv
    split
    · rfl
    · split
      · rfl
      · split
        · unfold PR.commitAt
          split
          · rfl
          · split <;> rfl
        · exact adv_out p n
theorem stable1_out (p : PR) : p.stable1.out = p.out := by
  unfold PR.stable1
  split
  · exact adv_out _ _
  · rfl
section
variable {C : Cx} {τ : Env} {F : Fz} {H : List Ent} {ty t u kt et : TypeId} {pos : String} {aft : Array Edge} {g : Option (Nat × Bool)} {o : Oper} {x y z : Operand}
theorem a_net {f : Fx} {b : Bool} {a : Nat} {r : Rf} (v : Value) (A R : List Ent) (hs : (C.P.info? t).map (·.size) = some 1) (hv : oneCellB v = true) (hx : ev τ x = some (.pointer (some ⟨f.ga, 1, none⟩))) (hy : ev τ y = some v) :
    Act0 C ⟨none, .store t x y, ty, pos, aft, g⟩ τ F (RfH a r (A ++ (GE f b :: R))) (RfH a r (A ++ (GE { f with nv := v } b :: R))) :=
  Act0.perm (a_store1 (C := C) (F := F) (H := GE f b :: RfH a r (A ++ R)) (ty := ty) (pos := pos) (aft := aft) (g := g) 0 (b := f.ga) (n := 5) (cs := [f.lv, f.nv, .map (some f.lm), .map (some f.dm), .bool b]) rfl hs hv hx hy (Nat.le_of_ble_eq_true rfl)) (box_at a r A _ R) (box_at a r A (GE { f with nv := v } b) R).symm
end
set_option maxHeartbeats 2000000 in
theorem g_sync (O : World) (F : Fz) (g : Gr) (i : Nat) (s' : PS) (Fr : List Ent) (hg : g.ok F) (h : g.ps.sync i = some s') :
    Does Tryz.prog O 20 #[ptrV g.ga, .int .i64 i] F (g.H Fr) (fun v F' H' => v = noneV ∧ ∃ g' : Gr, g'.ok F' ∧ g'.ps = s' ∧ g'.ga = g.ga ∧ H' = g'.H Fr) := by
  refine does_of_run (args := [_, _]) Tryz.func20 rfl rfl ?_
  unfold PS.sync at h
  obtain ⟨s1, h1, h⟩ := Option.bind_eq_some_iff.1 h
  obtain ⟨s2, h2, h⟩ := Option.bind_eq_some_iff.1 h
  refine r_seq ?_
  refine r_region rfl ?_
  refine o_val rfl rfl rfl rfl (v_move rfl) ?_
  refine o_val rfl rfl rfl rfl (v_move rfl) ?_
  refine o_call rfl rfl rfl rfl (c_call callable40 rfl) (g_settle _ _ g i s1 Fr hg h1) ?_
  rintro v' F1 H' ⟨rfl, g1, hg1, hps1, hga1, rfl⟩ hF1
  rw [← hga1]
  have hil : i < g1.ms.length := by
    unfold PS.flush at h2
    rcases Nat.lt_or_ge i g1.ms.length with hl | hl
    · exact hl
    · have : s1.ms[i]? = none := by rw [← hps1]; exact List.getElem?_eq_none (by simpa [Gr.ps] using hl)
      rw [this] at h2
      cases h2
  have hmi : g1.ms[i] ∈ g1.ms := List.getElem_mem hil
  have hsp := mid hil
  have hget : g1.ms[i]? = some g1.ms[i] := List.getElem?_eq_getElem hil
  have e1 : g1.ps.ms[i]? = some g1.ms[i].r.p := by simp [Gr.ps, hil]
  have e2 : g1.ps.ds[i]? = some g1.ms[i].d.pure := by simp [Gr.ps, hil]
  generalize hm : g1.ms[i] = m at *
  obtain ⟨hmr, hmd⟩ := hg1.ms m hmi
  obtain ⟨lb, c, N, hlv0, hlb⟩ := g1.lbv hg1 hil
  unfold PS.flush at h2
  rw [← hps1, e1, e2] at h2
  dsimp only at h2
  have hk1 : g1.k ≤ 100000 := by
    rcases Nat.lt_or_ge 100000 g1.k with h | h
    · rw [if_neg (show ¬ g1.ps.k ≤ 100000 from (by show ¬ g1.k ≤ 100000; omega))] at h2; cases h2
    · exact h
  rw [if_pos (show g1.ps.k ≤ 100000 from hk1)] at h2
  have h2 := Option.some.inj h2
  have hlm : ∀ A B, Ent.mem lb (msV g1.ms) N ∈ g1.side A B Fr := fun A B => by
    unfold Gr.side
    rw [hlb]
    exact List.mem_append_left _ (List.mem_singleton.2 rfl)
  have hlv : (g1.fx m).lv = .slice (some ⟨lb, 0, none⟩) g1.ms.length c := hlv0
  refine j_perm (g1.focus hsp Fr) ?_
  unfold FoH
  refine o_end ?_
  refine r_seq ?_
  refine r_region rfl ?_
  refine o_val rfl rfl rfl rfl (v_move rfl) ?_
  refine o_val rfl rfl rfl rfl (v_nilCheck rfl) ?_
  refine o_val rfl rfl rfl rfl (v_field (k := 0) rfl rfl rfl) ?_
  refine o_val rfl rfl rfl rfl (v_load (v := .slice (some ⟨lb, 0, none⟩) g1.ms.length c) rfl rfl (by rw [← hlv]; exact gcell (x := g1.fx m) (bad := g1.bad) 0 (by simp [RfH_eq]) rfl)) ?_
  refine o_val rfl rfl rfl rfl (v_move rfl) ?_
  refine o_val rfl rfl rfl rfl (v_index1 rfl rfl rfl rfl hil) ?_
  refine o_val rfl rfl rfl rfl (v_load (v := ptrV m.ma) rfl rfl (cell_own (cs := msV g1.ms) (n := N) (by simp [RfH_eq, hlm]) (msV_get hget))) ?_
  refine o_val rfl rfl rfl rfl (v_nilCheck rfl) ?_
  refine o_val rfl rfl rfl rfl (v_field (k := 1) rfl rfl rfl) ?_
  refine o_val rfl rfl rfl rfl (v_load rfl rfl (mcell (x := (g1.fx m)) 1 (by simp [FoH, RfH_eq]) rfl)) ?_
  refine j_perm (box_at _ _ [ME (g1.fx m), GE (g1.fx m) g1.bad, LE (g1.fx m) g1.ld, DE (g1.fx m) g1.dn] (m.d.E (g1.fx m)) _) ?_
  refine o_call rfl rfl rfl rfl (c_call callable41 rfl) (dk_Sync _ _ m.da m.d.bf m.d.b m.d.sure m.d.ops _ (by have := hmd.ops; omega)) ?_
  rintro v' F1 H' ⟨rfl, rfl, rfl⟩ _
  obtain ⟨d2, hd2⟩ : ∃ d2 : Dk, d2 = ⟨m.d.bf, m.d.b, m.d.b.length, m.d.ops + 1⟩ := ⟨_, rfl⟩
  have hd2ok : d2.ok (g1.k + 1) := by
    rw [hd2]
    exact ⟨hmd.bf, by have := hmd.len; dsimp only; omega, by have := hmd.ops; dsimp only; omega, Nat.le_refl _⟩
  refine j_heap (H' := d2.E (g1.fx m) :: RfH (g1.fx m).ra m.r ([ME (g1.fx m), GE (g1.fx m) g1.bad, LE (g1.fx m) g1.ld, DE (g1.fx m) g1.dn] ++ (d2.bs ++ g1.side (g1.ms.take i) (g1.ms.drop (i + 1)) Fr))) (by rw [hd2]; rfl) ?_
  refine j_perm (box_at _ _ [ME (g1.fx m), GE (g1.fx m) g1.bad, LE (g1.fx m) g1.ld, DE (g1.fx m) g1.dn] (d2.E (g1.fx m)) _).symm ?_
  refine j_heap (H' := RfH m.ra m.r (ME (g1.fx m) :: GE (g1.fx m) g1.bad :: LE (g1.fx m) g1.ld :: DE (g1.fx m) g1.dn :: d2.E (g1.fx m) :: (d2.bs ++ g1.side (g1.ms.take i) (g1.ms.drop (i + 1)) Fr))) rfl ?_
  refine o_end ?_
  refine r_seq ?_
  refine d_region 19 rfl ([GE (g1.fx m) g1.bad, ME (g1.fx m), .mem lb (msV g1.ms) N]) ?_
  refine d_take (i := 0) rfl rfl rfl (by decide +kernel) (by decide +kernel) (by decide +kernel) (Fz.le_refl _) (by intro z hz; simp only [List.mem_cons, List.not_mem_nil, or_false] at hz; rcases hz with rfl | rfl | rfl <;> simp [RfH_eq, hlm]) rfl (v_move rfl) ?_
  refine d_take (i := 1) rfl rfl rfl (by decide +kernel) (by decide +kernel) (by decide +kernel) (Fz.le_refl _) (by intro z hz; simp only [List.mem_cons, List.not_mem_nil, or_false] at hz; rcases hz with rfl | rfl | rfl <;> simp [RfH_eq, hlm]) rfl (v_move rfl) ?_
  refine d_take (i := 2) rfl rfl rfl (by decide +kernel) (by decide +kernel) (by decide +kernel) (Fz.le_refl _) (by intro z hz; simp only [List.mem_cons, List.not_mem_nil, or_false] at hz; rcases hz with rfl | rfl | rfl <;> simp [RfH_eq, hlm]) rfl (v_nilCheck rfl) ?_
  refine d_take (i := 3) rfl rfl rfl (by decide +kernel) (by decide +kernel) (by decide +kernel) (Fz.le_refl _) (by intro z hz; simp only [List.mem_cons, List.not_mem_nil, or_false] at hz; rcases hz with rfl | rfl | rfl <;> simp [RfH_eq, hlm]) rfl (v_field (k := 1) rfl rfl rfl) ?_
  refine d_take (i := 4) rfl rfl rfl (by decide +kernel) (by decide +kernel) (by decide +kernel) (Fz.le_refl _) (by intro z hz; simp only [List.mem_cons, List.not_mem_nil, or_false] at hz; rcases hz with rfl | rfl | rfl <;> simp [RfH_eq, hlm]) rfl (v_load rfl rfl (gcell (x := (g1.fx m)) (bad := g1.bad) 1 (by simp [FoH, RfH_eq]) rfl)) ?_
  refine d_take (i := 5) rfl rfl rfl (by decide +kernel) (by decide +kernel) (by decide +kernel) (Fz.le_refl _) (by intro z hz; simp only [List.mem_cons, List.not_mem_nil, or_false] at hz; rcases hz with rfl | rfl | rfl <;> simp [RfH_eq, hlm]) rfl (v_move rfl) ?_
  refine d_take (i := 6) rfl rfl rfl (by decide +kernel) (by decide +kernel) (by decide +kernel) (Fz.le_refl _) (by intro z hz; simp only [List.mem_cons, List.not_mem_nil, or_false] at hz; rcases hz with rfl | rfl | rfl <;> simp [RfH_eq, hlm]) rfl (v_nilCheck rfl) ?_
  refine d_take (i := 7) rfl rfl rfl (by decide +kernel) (by decide +kernel) (by decide +kernel) (Fz.le_refl _) (by intro z hz; simp only [List.mem_cons, List.not_mem_nil, or_false] at hz; rcases hz with rfl | rfl | rfl <;> simp [RfH_eq, hlm]) rfl (v_field (k := 0) rfl rfl rfl) ?_
  refine d_take (i := 8) rfl rfl rfl (by decide +kernel) (by decide +kernel) (by decide +kernel) (Fz.le_refl _) (by intro z hz; simp only [List.mem_cons, List.not_mem_nil, or_false] at hz; rcases hz with rfl | rfl | rfl <;> simp [RfH_eq, hlm]) rfl (v_load (v := .slice (some ⟨lb, 0, none⟩) g1.ms.length c) rfl rfl (by rw [← hlv]; exact gcell (x := g1.fx m) (bad := g1.bad) 0 (by simp) rfl)) ?_
  refine d_take (i := 9) rfl rfl rfl (by decide +kernel) (by decide +kernel) (by decide +kernel) (Fz.le_refl _) (by intro z hz; simp only [List.mem_cons, List.not_mem_nil, or_false] at hz; rcases hz with rfl | rfl | rfl <;> simp [RfH_eq, hlm]) rfl (v_move rfl) ?_
  refine d_take (i := 10) rfl rfl rfl (by decide +kernel) (by decide +kernel) (by decide +kernel) (Fz.le_refl _) (by intro z hz; simp only [List.mem_cons, List.not_mem_nil, or_false] at hz; rcases hz with rfl | rfl | rfl <;> simp [RfH_eq, hlm]) rfl (v_index1 rfl rfl rfl rfl hil) ?_
  refine d_take (i := 11) rfl rfl rfl (by decide +kernel) (by decide +kernel) (by decide +kernel) (Fz.le_refl _) (by intro z hz; simp only [List.mem_cons, List.not_mem_nil, or_false] at hz; rcases hz with rfl | rfl | rfl <;> simp [RfH_eq, hlm]) rfl (v_load (v := ptrV m.ma) rfl rfl (cell_own (cs := msV g1.ms) (n := N) (by simp) (msV_get hget))) ?_
  refine d_take (i := 12) rfl rfl rfl (by decide +kernel) (by decide +kernel) (by decide +kernel) (Fz.le_refl _) (by intro z hz; simp only [List.mem_cons, List.not_mem_nil, or_false] at hz; rcases hz with rfl | rfl | rfl <;> simp [RfH_eq, hlm]) rfl (v_nilCheck rfl) ?_
  refine d_take (i := 13) rfl rfl rfl (by decide +kernel) (by decide +kernel) (by decide +kernel) (Fz.le_refl _) (by intro z hz; simp only [List.mem_cons, List.not_mem_nil, or_false] at hz; rcases hz with rfl | rfl | rfl <;> simp [RfH_eq, hlm]) rfl (v_field (k := 0) rfl rfl rfl) ?_
  refine d_take (i := 14) rfl rfl rfl (by decide +kernel) (by decide +kernel) (by decide +kernel) (Fz.le_refl _) (by intro z hz; simp only [List.mem_cons, List.not_mem_nil, or_false] at hz; rcases hz with rfl | rfl | rfl <;> simp [RfH_eq, hlm]) rfl (v_load rfl rfl (mcell (x := (g1.fx m)) 0 (by simp [FoH, RfH_eq]) rfl)) ?_
  refine d_one (i := 15) (by decide +kernel) ?_
  refine d1_call rfl rfl rfl rfl (c_call callable42 rfl) (r_Stable _ _ m.ra m.r _ hmr) ?_
  rintro v' F3 H' ⟨q, ms, hq, hqp, hmsp, hmok, hsl, rfl⟩ hF3
  refine ⟨fun w hw => held_of hw (by first | exact Fz.le_refl _ | assumption) (by intro z hz; simp only [List.mem_cons, List.not_mem_nil, or_false] at hz; rcases hz with rfl | rfl | rfl <;> simp [RfH_eq, hlm]), ?_⟩
  obtain ⟨av, cv, rfl, _⟩ := Sl.shape hsl
  have hmsl : ms.length ≤ 300000 := by
    have h1 : (ms.map Mg.p).length = m.r.p.stable1.out.length := by rw [hmsp]
    rw [List.length_map, stable1_out] at h1
    have := hmr.B.ol
    omega
  have hnl := hg1.nl
  have hall : (mgV ms).all oneCellB = true := by
    rw [List.all_eq_true]
    intro z hz
    obtain ⟨y, hy, hz⟩ := List.mem_flatMap.1 hz
    exact List.all_eq_true.1 (hmok y hy).one z hz
  obtain ⟨Pre, hPre⟩ : ∃ Pre : List Ent, Pre = RfP m.ra q ++ (ME (g1.fx m) :: GE (g1.fx m) g1.bad :: LE (g1.fx m) g1.ld :: DE (g1.fx m) g1.dn :: d2.E (g1.fx m) :: (d2.bs ++ [.mem lb (msV g1.ms) N])) := ⟨_, rfl⟩
  obtain ⟨R1, hR1⟩ : ∃ R1, R1 = msH (g1.ms.take i) ++ (msH (g1.ms.drop (i + 1)) ++ Fr) := ⟨_, rfl⟩
  have hform : ∀ w : List Ent, RfH m.ra q (ME (g1.fx m) :: GE (g1.fx m) g1.bad :: LE (g1.fx m) g1.ld :: DE (g1.fx m) g1.dn :: d2.E (g1.fx m) :: (d2.bs ++ ([.mem lb (msV g1.ms) N] ++ (w ++ R1)))) = Pre ++ (w ++ R1) := fun w => by
    rw [RfH_eq, hPre]
    simp
  have hside : g1.side (g1.ms.take i) (g1.ms.drop (i + 1)) Fr = [.mem lb (msV g1.ms) N] ++ (g1.wf.ents (mgV g1.net) ++ R1) := by
    unfold Gr.side
    rw [hlb, hR1]
  rw [hside]
  refine j_heap (hform _) ?_
  refine d_one (i := 16) (by decide +kernel) ?_
  refine d1_act rfl rfl rfl rfl (a_appendW Pre (wf := g1.wf) (n := g1.net.length) (m := ms.length) (sz := 13) (bytes := 136) (xs := mgV g1.net) (ys := mgV ms) ⟨⟨_, _, _, rfl, rfl, rfl, rfl, rfl, rfl⟩, by decide⟩ rfl hg1.wf (vec_len Mg.cl g1.net) rfl rfl (hsl.frz (Fz.le_refl _)) hall (by unfold maxLen; omega) (by omega)) ?_
  rintro v' H' ⟨wf2, rfl, hok2, rfl⟩
  refine ⟨fun w hw => held_of hw hF3 (by intro z hz; simp only [List.mem_cons, List.not_mem_nil, or_false] at hz; rcases hz with rfl | rfl | rfl <;> simp [hPre]), ?_⟩
  have hap : mgV g1.net ++ mgV ms = mgV (g1.net ++ ms) := by simp [mgV]
  have hln : g1.net.length + ms.length = (g1.net ++ ms).length := by simp
  rw [hap]
  rw [hln] at hok2 ⊢
  refine j_heap (hform _).symm ?_
  refine d_take (i := 17) rfl rfl rfl (by decide +kernel) (by decide +kernel) (by decide +kernel) hF3 (by intro z hz; simp only [List.mem_cons, List.not_mem_nil, or_false] at hz; rcases hz with rfl | rfl | rfl <;> simp [RfH_eq]) rfl (v_nilCheck rfl) ?_
  refine d_take (i := 18) rfl rfl rfl (by decide +kernel) (by decide +kernel) (by decide +kernel) hF3 (by intro z hz; simp only [List.mem_cons, List.not_mem_nil, or_false] at hz; rcases hz with rfl | rfl | rfl <;> simp [RfH_eq]) rfl (v_field (k := 1) rfl rfl rfl) ?_
  refine d_one (i := 19) (by decide +kernel) ?_
  refine d1_last 1000000 ([]) rfl rfl rfl (a_net (f := g1.fx m) (wf2.val (g1.net ++ ms).length) [ME (g1.fx m)] _ rfl rfl rfl rfl) ?_
  obtain ⟨m', hm'⟩ : ∃ m' : Mb, m' = ⟨m.ma, m.ra, m.da, q, d2⟩ := ⟨_, rfl⟩
  obtain ⟨g2, hg2⟩ : ∃ g2 : Gr, g2 = { g1 with ms := g1.ms.set i m', wf := wf2, net := g1.net ++ ms, k := g1.k + 1 } := ⟨_, rfl⟩
  have hl2 : (g1.ms.set i m').length = g1.ms.length := by simp
  have hv2 : msV g2.ms = msV g1.ms := by rw [hg2]; exact msV_set hget (by rw [hm'])
  have hsp2 : g2.ms = g1.ms.take i ++ m' :: g1.ms.drop (i + 1) := by rw [hg2]; exact set_mid m' hil
  have hfx : g2.fx m' = { g1.fx m with nv := wf2.val (g1.net ++ ms).length } := by
    rw [hg2, hm']
    unfold Gr.fx Gr.lv Gr.nv
    dsimp only
    rw [List.length_set]
  refine j_heap (H' := FoH (g2.fx m') m'.r g2.bad g2.ld g2.dn m'.d (g2.side (g1.ms.take i) (g1.ms.drop (i + 1)) Fr)) ?_ ?_
  · rw [hfx]
    unfold FoH Gr.side
    rw [hv2, hg2, hm']
    dsimp only
    rw [hlb, hR1]
    rfl
  refine j_perm (g2.focus hsp2 Fr).symm ?_
  have hga2 : g2.ga = g1.ga := by rw [hg2]
  have hps2 : g2.ps = { g1.ps with ms := g1.ps.ms.set i m'.r.p, ds := g1.ps.ds.set i m'.d.pure, net := g1.ps.net ++ ms.map Mg.p, k := g1.k + 1 } := by
    rw [hg2]
    unfold Gr.ps
    simp only [List.map_set, List.map_append]
  have hmp : m'.r.p = m.r.p.stable := by rw [hm']; exact hqp
  have hdp : m'.d.pure = (m.d.pure.1, m.d.pure.1.length) := by rw [hm', hd2]; rfl
  rw [hmp, hdp, hmsp] at hps2
  have h2ms : ∀ z ∈ g2.ms, z.r.ok F3 ∧ z.d.ok g2.k := by
    intro z hz
    rw [hg2] at hz ⊢
    rcases List.mem_or_eq_of_mem_set hz with hz | rfl
    · exact ⟨(hg1.ms z hz).1.frz hF3, (hg1.ms z hz).2.up (Nat.le_succ _)⟩
    · rw [hm']
      exact ⟨hq, hd2ok⟩
  have h2net : ∀ z ∈ g2.net, z.ok F3 := by
    intro z hz
    rw [hg2] at hz
    rcases List.mem_append.1 hz with hz | hz
    · exact (hg1.net z hz).frz hF3
    · exact hmok z hz
  have h2dn : ∀ z ∈ g2.dn, z.2.ok F3 := by
    intro z hz
    rw [hg2] at hz
    exact (hg1.dn z hz).frz hF3
  have h2wf : g2.wf.ok 13 g2.net.length := by rw [hg2]; exact hok2
  have h2lb : g2.lb.ok g2.ms.length := by rw [hg2]; simpa using hg1.lb
  have h2len : g2.ms.length ≤ 5 := by rw [hg2]; simpa using hg1.len
  have h2nl : g2.net.length ≤ 300300 := by rw [hg2]; show (g1.net ++ ms).length ≤ _; rw [← hln]; omega
  rw [← hga2]
  clear hg2 hfx hsp2 hv2
  refine d_end (by decide +kernel) ?_
  refine r_seq ?_
  refine r_join (fun g3 : Gr => g3.ok F3 ∧ g3.ps = s2 ∧ g3.ga = g2.ga) (fun g3 => [(0, ptrV g3.ga), (1, .int .i64 i)]) (fun _ => F3) (fun g3 => g3.H Fr) ?_ ?_
  · intro J
    have hnl2 : g2.ps.net.length = g2.net.length := by simp [Gr.ps]
    have hnet : g2.ps.net = g1.ps.net ++ m.r.p.stable1.out := by rw [hps2]
    refine r_seq ?_
    refine r_region rfl ?_
    refine o_val rfl rfl rfl rfl (v_move rfl) ?_
    refine o_val rfl rfl rfl rfl (v_nilCheck rfl) ?_
    refine o_val rfl rfl rfl rfl (v_field (k := 1) rfl rfl rfl) ?_
    refine o_val rfl rfl rfl rfl (v_load rfl rfl (gcell0 (g := g2) 1 (by simp [Gr.H]) rfl)) ?_
    refine o_val rfl rfl rfl rfl (v_len rfl rfl) ?_
    refine o_val rfl rfl rfl rfl (v_gtr rfl rfl) ?_
    refine o_end ?_
    refine r_if rfl (fun h5 => ?_) (fun h5 => ?_)
    · obtain ⟨n, hn⟩ : ∃ n, n = g2.net.length - 300 := ⟨_, rfl⟩
      have hmt : mgV (g2.net.take n) ++ mgV (g2.net.drop n) = mgV g2.net := by
        unfold mgV
        rw [← List.flatMap_append, List.take_append_drop]
      obtain ⟨wf3, hok3, hsl3, hents3⟩ := wf_drop (k := n) (x := mgV (g2.net.take n)) (xs := mgV (g2.net.drop n)) h2wf (by omega) (by rw [vec_len Mg.cl, List.length_take, Nat.min_eq_left (by omega)])
      rw [hmt] at hents3
      have hdl : (g2.net.drop n).length = g2.net.length - n := by simp
      obtain ⟨g3, hg3⟩ : ∃ g3 : Gr, g3 = { g2 with wf := wf3, net := g2.net.drop n } := ⟨_, rfl⟩
      refine d_region 14 rfl ([g2.E]) ?_
      refine d_take (i := 0) rfl rfl rfl (by decide +kernel) (by decide +kernel) (by decide +kernel) (Fz.le_refl _) (by simp [Gr.H]) rfl (v_move rfl) ?_
      refine d_take (i := 1) rfl rfl rfl (by decide +kernel) (by decide +kernel) (by decide +kernel) (Fz.le_refl _) (by simp [Gr.H]) rfl (v_move rfl) ?_
      refine d_take (i := 2) rfl rfl rfl (by decide +kernel) (by decide +kernel) (by decide +kernel) (Fz.le_refl _) (by simp [Gr.H]) rfl (v_nilCheck rfl) ?_
      refine d_take (i := 3) rfl rfl rfl (by decide +kernel) (by decide +kernel) (by decide +kernel) (Fz.le_refl _) (by simp [Gr.H]) rfl (v_field (k := 1) rfl rfl rfl) ?_
      refine d_take (i := 4) rfl rfl rfl (by decide +kernel) (by decide +kernel) (by decide +kernel) (Fz.le_refl _) (by simp [Gr.H]) rfl (v_load rfl rfl (gcell0 (g := g2) 1 (by simp [Gr.H]) rfl)) ?_
      refine d_take (i := 5) rfl rfl rfl (by decide +kernel) (by decide +kernel) (by decide +kernel) (Fz.le_refl _) (by simp [Gr.H]) rfl (v_move rfl) ?_
      refine d_take (i := 6) rfl rfl rfl (by decide +kernel) (by decide +kernel) (by decide +kernel) (Fz.le_refl _) (by simp [Gr.H]) rfl (v_nilCheck rfl) ?_
      refine d_take (i := 7) rfl rfl rfl (by decide +kernel) (by decide +kernel) (by decide +kernel) (Fz.le_refl _) (by simp [Gr.H]) rfl (v_field (k := 1) rfl rfl rfl) ?_
      refine d_take (i := 8) rfl rfl rfl (by decide +kernel) (by decide +kernel) (by decide +kernel) (Fz.le_refl _) (by simp [Gr.H]) rfl (v_load rfl rfl (gcell0 (g := g2) 1 (by simp [Gr.H]) rfl)) ?_
      refine d_take (i := 9) rfl rfl rfl (by decide +kernel) (by decide +kernel) (by decide +kernel) (Fz.le_refl _) (by simp [Gr.H]) rfl (v_len rfl rfl) ?_
      refine d_take (i := 10) rfl rfl rfl (by decide +kernel) (by decide +kernel) (by decide +kernel) (Fz.le_refl _) (by simp [Gr.H]) rfl (v_sub rfl rfl (r := ((n : Nat) : Int)) ((wrap_i64 (by omega) (by omega)).trans (by omega))) ?_
      refine d_take (i := 11) rfl rfl rfl (by decide +kernel) (by decide +kernel) (by decide +kernel) (Fz.le_refl _) (by simp [Gr.H]) rfl (v_sliceL (sz := 13) (l := n) rfl rfl rfl rfl rfl (by omega)) ?_
      refine d_take (i := 12) rfl rfl rfl (by decide +kernel) (by decide +kernel) (by decide +kernel) (Fz.le_refl _) (by simp [Gr.H]) rfl (v_nilCheck rfl) ?_
      refine d_take (i := 13) rfl rfl rfl (by decide +kernel) (by decide +kernel) (by decide +kernel) (Fz.le_refl _) (by simp [Gr.H]) rfl (v_field (k := 1) rfl rfl rfl) ?_
      rw [hsl3]
      refine d_one (i := 14) (by decide +kernel) ?_
      refine d1_last 1000000 ([]) rfl rfl rfl (a_store1 0 (b := g2.ga) (n := 5) (cs := [g2.lv, g2.nv, .map (some g2.lm), .map (some g2.dm), .bool g2.bad]) rfl rfl rfl rfl rfl (Nat.le_of_ble_eq_true rfl)) ?_
      refine j_heap (H' := g3.H Fr) ?_ ?_
      · rw [← hdl]
        show Ent.mem g2.ga [g2.lv, wf3.val (g2.net.drop n).length, .map (some g2.lm), .map (some g2.dm), .bool g2.bad] 5 :: (g2.lb.ents 1 (msV g2.ms) ++ (g2.wf.ents (mgV g2.net) ++ (g2.L :: g2.D :: (msH g2.ms ++ Fr)))) = _
        rw [hents3, hg3]
        rfl
      have hga3 : g3.ga = g2.ga := by rw [hg3]
      refine d_end (by decide +kernel) ?_
      refine j_keep ?_ (J g3 ⟨?_, ?_, hga3⟩)
      · exact ⟨by rw [hga3]; rfl, rfl, trivial⟩
      · rw [hg3]
        exact ⟨h2len, h2lb, by rw [hdl]; exact hok3, fun z hz => h2net z (List.mem_of_mem_drop hz), by rw [hdl]; omega, h2ms, h2dn⟩
      · rw [← h2]
        unfold PS.flushTo
        rw [← hnet, hnl2, ← hn]
        have : g3.ps = { g2.ps with net := g2.ps.net.drop n } := by rw [hg3]; unfold Gr.ps; simp only [List.map_drop]
        rw [this, hnet, hps2]
        rfl
    · refine r_skip ?_
      refine j_keep ?_ (J g2 ⟨⟨h2len, h2lb, h2wf, h2net, by omega, h2ms, h2dn⟩, ?_, rfl⟩)
      · exact ⟨rfl, rfl, trivial⟩
      · rw [← h2]
        unfold PS.flushTo
        rw [hps2, ← hnet, hnl2, show g2.net.length - 300 = 0 by omega, List.drop_zero]
        rfl
  · rintro g3 ⟨hg3, hps3, hga3⟩
    rw [← hga3]
    refine r_region rfl ?_
    refine o_val rfl rfl rfl rfl (v_move rfl) ?_
    refine o_val rfl rfl rfl rfl (v_move rfl) ?_
    refine o_call rfl rfl rfl rfl (c_call callable40 rfl) (g_settle _ _ g3 i s' Fr hg3 (by rw [hps3]; exact h)) ?_
    rintro v' F4 H' ⟨rfl, g4, hg4, hps4, hga4, rfl⟩ hF4
    refine o_end ?_
    exact r_fall0 Tryz.func20 rfl ⟨⟨rfl, g4, hg4, hps4, hga4, rfl⟩, Fz.le_trans hF1 (Fz.le_trans hF3 hF4)⟩
end Go.SX
namespace Go.SX
open Go Go.Proofs
set_option maxRecDepth 4000
set_option linter.unusedSimpArgs false
set_option linter.unusedVariables false
def PR.leadOk (p : PR) : Bool := decide (p.role ≠ 3) || (List.range 7).all fun i => decide (1 ≤ p.nx.getD i 0)
def PR.stepOk (p : PR) (m : PM) : Bool := decide (p.out.length + 14 ≤ 300000) && (decide (p.term < 300000) && (decide (p.lix + p.l.length < 300000) && (p.leadOk && (m.es.all (fun e => decide (e.ix + 16 ≤ 300000)) && decide (m.ix + 16 ≤ 300000)))))
def PS.comeTo (s : PS) (m : PM) : Option PS :=
  match s.ms[m.to]? with
  | none => some s
  | some p => if p.stepOk m = true then ({ s with ms := s.ms.set m.to (p.step m) } : PS).settle m.to else none
def PS.come (s : PS) (k : Nat) (dbl : Bool) : Option PS :=
  if s.net.length = 0 then some s else
  match s.net[k % s.net.length]? with
  | none => none
  | some m => (if dbl = true then s else { s with net := s.net.take (k % s.net.length) ++ s.net.drop (k % s.net.length + 1) } : PS).comeTo m
theorem leadOk_is {p : PR} (h : p.leadOk = true) : p.role = 3 → ∀ i < 7, 1 ≤ p.nx.getD i 0 := by
  intro hr i hi
  unfold PR.leadOk at h
  rw [hr] at h
  rw [decide_eq_false (by simp), Bool.false_or, List.all_eq_true] at h
  exact of_decide_eq_true (h i (List.mem_range.2 hi))
theorem gbox_in (g : Gr) (X : Ent) (Fr : List Ent) : (X :: g.H Fr).Perm (g.H (X :: Fr)) := by
  have h : g.H (X :: Fr) = (g.E :: (g.lb.ents 1 (msV g.ms) ++ (g.wf.ents (mgV g.net) ++ (g.L :: g.D :: msH g.ms)))) ++ (X :: Fr) := by simp [Gr.H]
  have h2 : X :: g.H Fr = X :: ((g.E :: (g.lb.ents 1 (msV g.ms) ++ (g.wf.ents (mgV g.net) ++ (g.L :: g.D :: msH g.ms)))) ++ Fr) := by simp [Gr.H]
  rw [h, h2]
  exact List.perm_middle.symm
theorem gbox_out (g : Gr) (X : Ent) (Fr : List Ent) : (g.H Fr).Sublist (g.H (X :: Fr)) := by
  have h : ∀ Fr, g.H Fr = (g.E :: (g.lb.ents 1 (msV g.ms) ++ (g.wf.ents (mgV g.net) ++ (g.L :: g.D :: msH g.ms)))) ++ Fr := fun Fr => by simp [Gr.H]
  rw [h, h]
  exact List.Sublist.append_left (List.sublist_cons_self _ _) _
set_option maxHeartbeats 2000000 in
theorem g_come (O : World) (F : Fz) (g : Gr) (k : Nat) (dbl : Bool) (s' : PS) (Fr : List Ent) (hg : g.ok F) (hk : k < 1000000) (h : g.ps.come k dbl = some s') :
    Does Tryz.prog O 30 #[ptrV g.ga, .int .i64 k, .bool dbl] F (g.H Fr) (fun v F' H' => v = noneV ∧ ∃ g' : Gr, g'.ok F' ∧ g'.ps = s' ∧ g'.ga = g.ga ∧ H' = g'.H Fr) := by
  refine does_of_run (args := [_, _, _]) Tryz.func30 rfl rfl ?_
  have hnl := hg.nl
  have hpl : g.ps.net.length = g.net.length := by simp [Gr.ps]
  unfold PS.come at h
  rw [hpl] at h
  refine r_seq ?_
  refine r_seq ?_
  refine r_region rfl ?_
  refine o_val rfl rfl rfl rfl (v_move rfl) ?_
  refine o_val rfl rfl rfl rfl (v_nilCheck rfl) ?_
  refine o_val rfl rfl rfl rfl (v_field (k := 1) rfl rfl rfl) ?_
  refine o_val rfl rfl rfl rfl (v_load rfl rfl (gcell0 (g := g) 1 (by simp [Gr.H]) rfl)) ?_
  refine o_val rfl rfl rfl rfl (v_len rfl rfl) ?_
  refine o_val rfl rfl rfl rfl (v_eql rfl rfl) ?_
  refine o_end ?_
  refine r_if rfl (fun h0 => ?_) (fun h0 => ?_)
  · rw [if_pos (by omega)] at h
    have h := Option.some.inj h
    exact r_ret0 Tryz.func30 rfl ⟨⟨rfl, g, hg, h, rfl, rfl⟩, Fz.le_refl _⟩
  · rw [if_neg (by omega)] at h
    obtain ⟨j, hj⟩ : ∃ j, j = k % g.net.length := ⟨_, rfl⟩
    rw [← hj] at h
    have hjl : j < g.net.length := by rw [hj]; exact Nat.mod_lt _ (by omega)
    have hrem : Int.tmod (k : Int) (g.net.length : Int) = (j : Int) := by rw [hj]; rfl
    have hget : g.ps.net[j]? = some g.net[j].p := by simp [Gr.ps, hjl]
    rw [hget] at h
    dsimp only at h
    obtain ⟨m, hm⟩ : ∃ m, m = g.net[j] := ⟨_, rfl⟩
    rw [← hm] at h
    have hmok : m.ok F := by rw [hm]; exact hg.net _ (List.getElem_mem hjl)
    have hone := hmok.one
    obtain ⟨b, off, cp, N, pre, hwf⟩ : ∃ b off cp N pre, g.wf = .at b off cp N pre := by
      have hw := hg.wf
      cases hb : g.wf with
      | nil =>
        rw [hb] at hw
        have : g.net.length = 0 := hw
        omega
      | «at» b off cp N pre => exact ⟨_, _, _, _, _, rfl⟩
    have hnv : g.nv = .slice (some ⟨b, off, none⟩) g.net.length cp := by unfold Gr.nv; rw [hwf]; rfl
    have hwok := hg.wf
    rw [hwf] at hwok
    obtain ⟨hw1, hw2, hw3⟩ := hwok
    have hreads : ∀ F H, g.wf.ents (mgV g.net) ⊆ H → Sl F H 13 (.slice (some ⟨b, off, none⟩) g.net.length cp) g.net.length (mgV g.net) := fun F H hH => by
      rw [← hnv]
      exact Wf.reads hg.wf (vec_len Mg.cl g.net) hH
    have hmcell : ∀ F H, g.wf.ents (mgV g.net) ⊆ H → ∀ i c, m.cells[i]? = some c → Cell F H b (off + j * 13 + i) c := fun F H hH i c hc => by
      have hi : i < 13 := by
        rcases Nat.lt_or_ge i 13 with h | h
        · exact h
        · rw [List.getElem?_eq_none (by rw [Mg.cl]; exact h)] at hc; cases hc
      refine cell_own (cs := pre ++ mgV g.net) (n := N) (hH (by rw [hwf]; exact List.mem_singleton.2 rfl)) ?_
      rw [List.getElem?_append_right (by omega), hw3, show off + j * 13 + i - off = j * 13 + i by omega, vec_get (c := Mg.cells) Mg.cl g.net j hjl i hi, ← hm]
      exact hc
    have hwsub : ∀ Fr, g.wf.ents (mgV g.net) ⊆ g.H Fr := fun Fr z hz => by simp [Gr.H, hz]
    have hload : ∀ F H, g.E ∈ H → Cell F H g.ga (0 + 1) (.slice (some ⟨b, off, none⟩) g.net.length cp) := fun F H hH => by rw [← hnv]; exact gcell0 (g := g) 1 hH rfl
    refine r_skip ?_
    refine r_seq ?_
    refine r_region rfl ?_
    refine o_val rfl rfl rfl rfl (v_move rfl) ?_
    refine o_val rfl rfl rfl rfl (v_move rfl) ?_
    refine o_val rfl rfl rfl rfl (v_nilCheck rfl) ?_
    refine o_val rfl rfl rfl rfl (v_field (k := 1) rfl rfl rfl) ?_
    refine o_val rfl rfl rfl rfl (v_load rfl rfl (gcell0 (g := g) 1 (by simp [Gr.H]) rfl)) ?_
    refine o_val rfl rfl rfl rfl (v_len rfl rfl) ?_
    refine o_val rfl rfl rfl rfl (v_rem rfl rfl (by omega) hrem) ?_
    refine o_val rfl rfl rfl rfl (v_assign rfl) ?_
    refine o_end ?_
    refine r_seq ?_
    refine r_region rfl ?_
    refine o_val rfl rfl rfl rfl (v_move rfl) ?_
    refine o_val rfl rfl rfl rfl (v_nilCheck rfl) ?_
    refine o_val rfl rfl rfl rfl (v_field (k := 1) rfl rfl rfl) ?_
    refine o_val rfl rfl rfl rfl (v_load (v := .slice (some ⟨b, off, none⟩) g.net.length cp) rfl rfl (hload _ _ (by simp [Gr.H]))) ?_
    refine o_val rfl rfl rfl rfl (v_move rfl) ?_
    refine o_val rfl rfl rfl rfl (v_indexN (sz := 13) rfl rfl rfl rfl hjl) ?_
    refine o_val rfl rfl rfl rfl (v_loadAgg (sz := 13) (cs := m.cells) rfl rfl rfl rfl (hmcell _ _ (hwsub _))) ?_
    refine o_act rfl rfl rfl rfl (a_alloc rfl) ?_
    rintro v' H' ⟨y, rfl, rfl⟩
    refine o_act0 rfl rfl rfl (a_store (sz := 13) (v := .agg m.cells.toArray) 0 rfl rfl rfl hone rfl rfl (Nat.le_of_ble_eq_true rfl)) ?_
    obtain ⟨Y, hYe⟩ : ∃ Y : Ent, Y = .mem y m.cells 13 := ⟨_, rfl⟩
    have hY : ∀ F H j c, Y ∈ H → m.cells[j]? = some c → Cell F H y (0 + j) c := fun F H j c hm hc => by rw [Nat.zero_add]; rw [hYe] at hm; exact cell_own hm hc
    refine j_heap (H' := Y :: g.H Fr) (by rw [hYe]; rfl) ?_
    refine j_perm (gbox_in g Y Fr) ?_
    refine o_end ?_
    refine r_seq ?_
    refine r_join (fun g1 : Gr => g1.ok F ∧ g1.ga = g.ga ∧ g1.ps.comeTo m.p = some s') (fun g1 => [(0, ptrV g1.ga), (6, ptrV y)]) (fun _ => F) (fun g1 => g1.H (Y :: Fr)) ?_ ?_
    · intro J
      cases dbl with
      | true =>
        refine r_seq ?_
        refine r_region rfl ?_
        refine o_val rfl rfl rfl rfl (v_move rfl) ?_
        refine o_val rfl rfl rfl rfl (v_not rfl) ?_
        refine o_end ?_
        refine r_false rfl ?_
        refine r_skip ?_
        refine j_keep ?_ (J g ⟨hg, rfl, h⟩)
        exact ⟨rfl, rfl, trivial⟩
      | false =>
        refine r_seq ?_
        refine r_region rfl ?_
        refine o_val rfl rfl rfl rfl (v_move rfl) ?_
        refine o_val rfl rfl rfl rfl (v_not rfl) ?_
        refine o_end ?_
        refine r_true rfl ?_
        refine r_seq ?_
        refine r_region rfl ?_
        refine o_val rfl rfl rfl rfl (v_assign rfl) ?_
        refine o_end ?_
        refine r_seq ?_
        refine r_region rfl ?_
        refine o_val rfl rfl rfl rfl (v_move rfl) ?_
        refine o_val rfl rfl rfl rfl (v_move rfl) ?_
        refine o_val rfl rfl rfl rfl (v_nilCheck rfl) ?_
        refine o_val rfl rfl rfl rfl (v_field (k := 1) rfl rfl rfl) ?_
        refine o_val rfl rfl rfl rfl (v_load (v := .slice (some ⟨b, off, none⟩) g.net.length cp) rfl rfl (hload _ _ (by simp [Gr.H]))) ?_
        refine o_val rfl rfl rfl rfl (v_move rfl) ?_
        refine o_val rfl rfl rfl rfl (v_sliceH (sz := 13) (h := j) rfl rfl rfl rfl rfl (by omega)) ?_
        have hs1 := (hreads F (g.H (Y :: Fr)) (hwsub _)).sliced (l := 0) (h := j) (by omega) (by omega)
        rw [Nat.zero_mul, List.drop_zero, Nat.sub_zero, vec_take Mg.cl _ _ (by omega)] at hs1
        obtain ⟨wz, hwz⟩ : ∃ wz : Value, wz = Go.sliced (some ⟨b, off, none⟩) 0 j cp 13 := ⟨_, rfl⟩
        rw [← hwz] at hs1 ⊢
        have hones : ∀ l : List Mg, (∀ z ∈ l, z ∈ g.net) → (mgV l).all oneCellB = true := fun l hl => by
          rw [List.all_eq_true]
          intro z hz
          obtain ⟨y, hy, hz⟩ := List.mem_flatMap.1 hz
          exact List.all_eq_true.1 (hg.net y (hl y hy)).one z hz
        refine o_act rfl rfl rfl rfl (a_appendW [] (wf := .nil) (n := 0) (m := j) (sz := 13) (bytes := 136) (xs := []) (ys := mgV (g.net.take j)) (H1 := g.H (Y :: Fr)) ⟨⟨_, _, _, rfl, rfl, rfl, rfl, rfl, rfl⟩, by decide⟩ rfl rfl rfl rfl rfl hs1 (hones _ fun z hz => List.mem_of_mem_take hz) (by unfold maxLen; omega) (by omega)) ?_
        rintro v' H' ⟨wf1, rfl, hok1, rfl⟩
        rw [List.nil_append, Nat.zero_add] at *
        have hs2 := (hreads F (wf1.ents (mgV (g.net.take j)) ++ g.H (Y :: Fr)) (fun z hz => List.mem_append_right _ (hwsub _ hz))).sliced (l := j + 1) (h := g.net.length) (by omega) (by omega)
        have hdt : ((mgV g.net).drop ((j + 1) * 13)).take ((g.net.length - (j + 1)) * 13) = mgV (g.net.drop (j + 1)) := by
          rw [vec_drop Mg.cl _ _ (by omega), List.take_of_length_le]
          rw [vec_len Mg.cl, List.length_drop]
          exact Nat.le_refl _
        rw [hdt] at hs2
        obtain ⟨wz2, hwz2⟩ : ∃ wz : Value, wz = Go.sliced (some ⟨b, off, none⟩) (j + 1) g.net.length cp 13 := ⟨_, rfl⟩
        rw [← hwz2] at hs2
        refine j_heap (H' := wf1.ents (mgV (g.net.take j)) ++ g.H (Y :: Fr)) (by simp) ?_
        refine o_val rfl rfl rfl rfl (v_assign rfl) ?_
        refine o_end ?_
        refine r_region rfl ?_
        refine o_val rfl rfl rfl rfl (v_move rfl) ?_
        refine o_val rfl rfl rfl rfl (v_move rfl) ?_
        refine o_val rfl rfl rfl rfl (v_move rfl) ?_
        refine o_val rfl rfl rfl rfl (v_nilCheck rfl) ?_
        refine o_val rfl rfl rfl rfl (v_field (k := 1) rfl rfl rfl) ?_
        refine o_val rfl rfl rfl rfl (v_load (v := .slice (some ⟨b, off, none⟩) g.net.length cp) rfl rfl (hload _ _ (by simp [Gr.H]))) ?_
        refine o_val rfl rfl rfl rfl (v_move rfl) ?_
        refine o_val rfl rfl rfl rfl (v_add rfl rfl (r := ((j + 1 : Nat) : Int)) (wrap_i64 (by omega) (by omega))) ?_
        refine o_val rfl rfl rfl rfl (v_sliceL (sz := 13) (l := j + 1) rfl rfl rfl rfl rfl (by omega)) ?_
        rw [← hwz2]
        have htl : (g.net.take j).length = j := by simp; omega
        have hdl : (g.net.drop (j + 1)).length = g.net.length - (j + 1) := by simp
        obtain ⟨net', hnet'⟩ : ∃ net', net' = g.net.take j ++ g.net.drop (j + 1) := ⟨_, rfl⟩
        have hnl' : j + (g.net.length - (j + 1)) = net'.length := by rw [hnet', List.length_append, htl, hdl]
        have hnl2 : net'.length ≤ 300 := by omega
        have hap : mgV (g.net.take j) ++ mgV (g.net.drop (j + 1)) = mgV net' := by rw [hnet']; simp [mgV]
        refine o_act rfl rfl rfl rfl (a_appendW [] (wf := wf1) (n := j) (m := g.net.length - (j + 1)) (sz := 13) (bytes := 136) (xs := mgV (g.net.take j)) (ys := mgV (g.net.drop (j + 1))) (H1 := g.H (Y :: Fr)) ⟨⟨_, _, _, rfl, rfl, rfl, rfl, rfl, rfl⟩, by decide⟩ rfl hok1 (by rw [vec_len Mg.cl, htl]) rfl rfl hs2 (hones _ fun z hz => List.mem_of_mem_drop hz) (by unfold maxLen; omega) (by omega)) ?_
        rintro v' H' ⟨wf2, rfl, hok2, rfl⟩
        rw [hap, hnl'] at *
        refine j_heap (H' := cat [wf2.ents (mgV net'), [g.E], g.lb.ents 1 (msV g.ms), g.wf.ents (mgV g.net), g.L :: g.D :: (msH g.ms ++ (Y :: Fr))]) (by simp [Gr.H, cat]) ?_
        refine j_sel (H' := g.E :: (g.lb.ents 1 (msV g.ms) ++ (wf2.ents (mgV net') ++ (g.L :: g.D :: (msH g.ms ++ (Y :: Fr)))))) [wf2.ents (mgV net'), [g.E], g.lb.ents 1 (msV g.ms), g.wf.ents (mgV g.net), g.L :: g.D :: (msH g.ms ++ (Y :: Fr))] [1, 2, 0, 4] rfl rfl rfl ?_
        refine o_val rfl rfl rfl rfl (v_nilCheck rfl) ?_
        refine o_val rfl rfl rfl rfl (v_field (k := 1) rfl rfl rfl) ?_
        refine o_act0 rfl rfl rfl (a_store1 0 (b := g.ga) (n := 5) (cs := [g.lv, g.nv, .map (some g.lm), .map (some g.dm), .bool g.bad]) rfl rfl rfl rfl rfl (Nat.le_of_ble_eq_true rfl)) ?_
        obtain ⟨g1, hg1⟩ : ∃ g1 : Gr, g1 = { g with wf := wf2, net := net' } := ⟨_, rfl⟩
        refine j_heap (H' := g1.H (Y :: Fr)) (by rw [hg1]; rfl) ?_
        refine o_end ?_
        refine j_keep ?_ (J g1 ⟨?_, by rw [hg1], ?_⟩)
        · exact ⟨by rw [hg1]; rfl, rfl, trivial⟩
        · rw [hg1]
          exact ⟨hg.len, hg.lb, hok2, fun z hz => by rw [hnet'] at hz; rcases List.mem_append.1 hz with hz | hz; exact hg.net z (List.mem_of_mem_take hz); exact hg.net z (List.mem_of_mem_drop hz), hnl2, hg.ms, hg.dn⟩
        · rw [← h]
          have : g1.ps = { g.ps with net := g.ps.net.take j ++ g.ps.net.drop (j + 1) } := by
            rw [hg1, hnet']
            unfold Gr.ps
            simp only [List.map_append, List.map_take, List.map_drop]
          rw [this]
          rfl
    · rintro g1 ⟨hg1, hga1, h1⟩
      unfold PS.comeTo at h1
      have hlen1 := hg1.len
      refine r_seq ?_
      refine d_region 1000000 rfl ([Y, g1.E]) ?_
      refine d_take (i := 0) rfl rfl rfl (by decide +kernel) (by decide +kernel) (by decide +kernel) (Fz.le_refl _) (by intro z hz; simp only [List.mem_cons, List.not_mem_nil, or_false] at hz; rcases hz with rfl | rfl <;> simp [Gr.H]) rfl (v_field (k := 2) rfl rfl rfl) ?_
      refine d_take (i := 1) rfl rfl rfl (by decide +kernel) (by decide +kernel) (by decide +kernel) (Fz.le_refl _) (by intro z hz; simp only [List.mem_cons, List.not_mem_nil, or_false] at hz; rcases hz with rfl | rfl <;> simp [Gr.H]) rfl (v_load (v := .int .i64 m.p.to) rfl rfl (hY _ _ 2 _ (by simp) rfl)) ?_
      refine d_take (i := 2) rfl rfl rfl (by decide +kernel) (by decide +kernel) (by decide +kernel) (Fz.le_refl _) (by intro z hz; simp only [List.mem_cons, List.not_mem_nil, or_false] at hz; rcases hz with rfl | rfl <;> simp [Gr.H]) rfl (v_geq rfl rfl) ?_
      refine j_slot 52 rfl (v' := .bool true) (congrArg Value.bool (decide_eq_true (by omega))) ?_
      refine d_take (i := 3) rfl rfl rfl (by decide +kernel) (by decide +kernel) (by decide +kernel) (Fz.le_refl _) (by intro z hz; simp only [List.mem_cons, List.not_mem_nil, or_false] at hz; rcases hz with rfl | rfl <;> simp [Gr.H]) rfl (v_move rfl) ?_
      refine d_take (i := 4) rfl rfl rfl (by decide +kernel) (by decide +kernel) (by decide +kernel) (Fz.le_refl _) (by intro z hz; simp only [List.mem_cons, List.not_mem_nil, or_false] at hz; rcases hz with rfl | rfl <;> simp [Gr.H]) rfl (v_field (k := 2) rfl rfl rfl) ?_
      refine d_take (i := 5) rfl rfl rfl (by decide +kernel) (by decide +kernel) (by decide +kernel) (Fz.le_refl _) (by intro z hz; simp only [List.mem_cons, List.not_mem_nil, or_false] at hz; rcases hz with rfl | rfl <;> simp [Gr.H]) rfl (v_load (v := .int .i64 m.p.to) rfl rfl (hY _ _ 2 _ (by simp) rfl)) ?_
      refine d_take (i := 6) rfl rfl rfl (by decide +kernel) (by decide +kernel) (by decide +kernel) (Fz.le_refl _) (by intro z hz; simp only [List.mem_cons, List.not_mem_nil, or_false] at hz; rcases hz with rfl | rfl <;> simp [Gr.H]) rfl (v_move rfl) ?_
      refine d_take (i := 7) rfl rfl rfl (by decide +kernel) (by decide +kernel) (by decide +kernel) (Fz.le_refl _) (by intro z hz; simp only [List.mem_cons, List.not_mem_nil, or_false] at hz; rcases hz with rfl | rfl <;> simp [Gr.H]) rfl (v_nilCheck rfl) ?_
      refine d_take (i := 8) rfl rfl rfl (by decide +kernel) (by decide +kernel) (by decide +kernel) (Fz.le_refl _) (by intro z hz; simp only [List.mem_cons, List.not_mem_nil, or_false] at hz; rcases hz with rfl | rfl <;> simp [Gr.H]) rfl (v_field (k := 0) rfl rfl rfl) ?_
      refine d_take (i := 9) rfl rfl rfl (by decide +kernel) (by decide +kernel) (by decide +kernel) (Fz.le_refl _) (by intro z hz; simp only [List.mem_cons, List.not_mem_nil, or_false] at hz; rcases hz with rfl | rfl <;> simp [Gr.H]) rfl (v_load rfl rfl (gcell0 (g := g1) 0 (by simp [Gr.H]) rfl)) ?_
      refine d_take (i := 10) rfl rfl rfl (by decide +kernel) (by decide +kernel) (by decide +kernel) (Fz.le_refl _) (by intro z hz; simp only [List.mem_cons, List.not_mem_nil, or_false] at hz; rcases hz with rfl | rfl <;> simp [Gr.H]) rfl (v_len rfl rfl) ?_
      refine d_take (i := 11) rfl rfl rfl (by decide +kernel) (by decide +kernel) (by decide +kernel) (Fz.le_refl _) (by intro z hz; simp only [List.mem_cons, List.not_mem_nil, or_false] at hz; rcases hz with rfl | rfl <;> simp [Gr.H]) rfl (v_lss rfl rfl) ?_
      refine d_take (i := 12) rfl rfl rfl (by decide +kernel) (by decide +kernel) (by decide +kernel) (Fz.le_refl _) (by intro z hz; simp only [List.mem_cons, List.not_mem_nil, or_false] at hz; rcases hz with rfl | rfl <;> simp [Gr.H]) rfl (v_pick1 rfl rfl) ?_
      refine d_end (by decide +kernel) ?_
      refine r_if rfl (fun h5 => ?_) (fun h5 => ?_)
      · obtain ⟨i, hi⟩ : ∃ i, i = m.p.to := ⟨_, rfl⟩
        rw [← hi] at h1 h5 ⊢
        have hil : i < g1.ms.length := by omega
        have e1 : g1.ps.ms[i]? = some g1.ms[i].r.p := by simp [Gr.ps, hil]
        rw [e1] at h1
        dsimp only at h1
        have hmi : g1.ms[i] ∈ g1.ms := List.getElem_mem hil
        have hsp := mid hil
        have hget : g1.ms[i]? = some g1.ms[i] := List.getElem?_eq_getElem hil
        generalize hm1 : g1.ms[i] = mb at *
        obtain ⟨hmr, hmd⟩ := hg1.ms mb hmi
        have hok : mb.r.p.stepOk m.p = true := by
          cases hc : mb.r.p.stepOk m.p with
          | true => rfl
          | false => rw [hc] at h1; cases h1
        rw [if_pos hok] at h1
        unfold PR.stepOk at hok
        simp only [Bool.and_eq_true, decide_eq_true_eq, List.all_eq_true] at hok
        obtain ⟨o1, o2, o3, o4, o5, o6⟩ := hok
        obtain ⟨lb, c, N1, hlv0, hlb⟩ := g1.lbv hg1 hil
        have hlm : ∀ A B, Ent.mem lb (msV g1.ms) N1 ∈ g1.side A B (Y :: Fr) := fun A B => by
          unfold Gr.side
          rw [hlb]
          exact List.mem_append_left _ (List.mem_singleton.2 rfl)
        have hlv : (g1.fx mb).lv = .slice (some ⟨lb, 0, none⟩) g1.ms.length c := hlv0
        refine j_perm (g1.focus hsp (Y :: Fr)) ?_
        unfold FoH
        refine r_seq ?_
        refine d_region 1000000 rfl ([GE (g1.fx mb) g1.bad, ME (g1.fx mb), .mem lb (msV g1.ms) N1, Y]) ?_
        refine d_take (i := 0) rfl rfl rfl (by decide +kernel) (by decide +kernel) (by decide +kernel) (Fz.le_refl _) (by intro z hz; simp only [List.mem_cons, List.not_mem_nil, or_false] at hz; rcases hz with rfl | rfl | rfl | rfl <;> first | (simp [RfH_eq, hlm]; done) | simp [RfH_eq, Gr.side]) rfl (v_move rfl) ?_
        refine d_take (i := 1) rfl rfl rfl (by decide +kernel) (by decide +kernel) (by decide +kernel) (Fz.le_refl _) (by intro z hz; simp only [List.mem_cons, List.not_mem_nil, or_false] at hz; rcases hz with rfl | rfl | rfl | rfl <;> first | (simp [RfH_eq, hlm]; done) | simp [RfH_eq, Gr.side]) rfl (v_nilCheck rfl) ?_
        refine d_take (i := 2) rfl rfl rfl (by decide +kernel) (by decide +kernel) (by decide +kernel) (Fz.le_refl _) (by intro z hz; simp only [List.mem_cons, List.not_mem_nil, or_false] at hz; rcases hz with rfl | rfl | rfl | rfl <;> first | (simp [RfH_eq, hlm]; done) | simp [RfH_eq, Gr.side]) rfl (v_field (k := 0) rfl rfl rfl) ?_
        refine d_take (i := 3) rfl rfl rfl (by decide +kernel) (by decide +kernel) (by decide +kernel) (Fz.le_refl _) (by intro z hz; simp only [List.mem_cons, List.not_mem_nil, or_false] at hz; rcases hz with rfl | rfl | rfl | rfl <;> first | (simp [RfH_eq, hlm]; done) | simp [RfH_eq, Gr.side]) rfl (v_load (v := .slice (some ⟨lb, 0, none⟩) g1.ms.length c) rfl rfl (by rw [← hlv]; exact gcell (x := g1.fx mb) (bad := g1.bad) 0 (by simp) rfl)) ?_
        refine d_take (i := 4) rfl rfl rfl (by decide +kernel) (by decide +kernel) (by decide +kernel) (Fz.le_refl _) (by intro z hz; simp only [List.mem_cons, List.not_mem_nil, or_false] at hz; rcases hz with rfl | rfl | rfl | rfl <;> first | (simp [RfH_eq, hlm]; done) | simp [RfH_eq, Gr.side]) rfl (v_field (k := 2) rfl rfl rfl) ?_
        refine d_take (i := 5) rfl rfl rfl (by decide +kernel) (by decide +kernel) (by decide +kernel) (Fz.le_refl _) (by intro z hz; simp only [List.mem_cons, List.not_mem_nil, or_false] at hz; rcases hz with rfl | rfl | rfl | rfl <;> first | (simp [RfH_eq, hlm]; done) | simp [RfH_eq, Gr.side]) rfl (v_load (v := .int .i64 i) rfl rfl (by rw [hi]; exact hY _ _ 2 _ (by simp) rfl)) ?_
        refine d_take (i := 6) rfl rfl rfl (by decide +kernel) (by decide +kernel) (by decide +kernel) (Fz.le_refl _) (by intro z hz; simp only [List.mem_cons, List.not_mem_nil, or_false] at hz; rcases hz with rfl | rfl | rfl | rfl <;> first | (simp [RfH_eq, hlm]; done) | simp [RfH_eq, Gr.side]) rfl (v_index1 rfl rfl rfl rfl hil) ?_
        refine d_take (i := 7) rfl rfl rfl (by decide +kernel) (by decide +kernel) (by decide +kernel) (Fz.le_refl _) (by intro z hz; simp only [List.mem_cons, List.not_mem_nil, or_false] at hz; rcases hz with rfl | rfl | rfl | rfl <;> first | (simp [RfH_eq, hlm]; done) | simp [RfH_eq, Gr.side]) rfl (v_load (v := ptrV mb.ma) rfl rfl (cell_own (cs := msV g1.ms) (n := N1) (by simp) (msV_get hget))) ?_
        refine d_take (i := 11) rfl rfl rfl (by decide +kernel) (by decide +kernel) (by decide +kernel) (Fz.le_refl _) (by intro z hz; simp only [List.mem_cons, List.not_mem_nil, or_false] at hz; rcases hz with rfl | rfl | rfl | rfl <;> first | (simp [RfH_eq, hlm]; done) | simp [RfH_eq, Gr.side]) rfl (v_loadAgg (sz := 13) (cs := m.cells) rfl rfl rfl rfl (fun j c hc => hY _ _ j c (by simp) hc)) ?_
        refine d_take (i := 8) rfl rfl rfl (by decide +kernel) (by decide +kernel) (by decide +kernel) (Fz.le_refl _) (by intro z hz; simp only [List.mem_cons, List.not_mem_nil, or_false] at hz; rcases hz with rfl | rfl | rfl | rfl <;> first | (simp [RfH_eq, hlm]; done) | simp [RfH_eq, Gr.side]) rfl (v_nilCheck rfl) ?_
        refine d_take (i := 9) rfl rfl rfl (by decide +kernel) (by decide +kernel) (by decide +kernel) (Fz.le_refl _) (by intro z hz; simp only [List.mem_cons, List.not_mem_nil, or_false] at hz; rcases hz with rfl | rfl | rfl | rfl <;> first | (simp [RfH_eq, hlm]; done) | simp [RfH_eq, Gr.side]) rfl (v_field (k := 0) rfl rfl rfl) ?_
        refine d_take (i := 10) rfl rfl rfl (by decide +kernel) (by decide +kernel) (by decide +kernel) (Fz.le_refl _) (by intro z hz; simp only [List.mem_cons, List.not_mem_nil, or_false] at hz; rcases hz with rfl | rfl | rfl | rfl <;> first | (simp [RfH_eq, hlm]; done) | simp [RfH_eq, Gr.side]) rfl (v_load rfl rfl (mcell (x := (g1.fx mb)) 0 (by simp [FoH, RfH_eq]) rfl)) ?_
        refine d_one (i := 12) (by decide +kernel) ?_
        refine d1_call rfl rfl rfl rfl (c_call callable54 rfl) (r_Step _ _ mb.ra mb.r m _ hmr hmok o1 o2 o3 (leadOk_is o4) o5 o6) ?_
        rintro v' F2 H' ⟨⟨ev, rfl⟩, q, hq, hqp, rfl⟩ hF2
        refine ⟨fun w hw => held_of hw (by first | exact Fz.le_refl _ | assumption) (by intro z hz; simp only [List.mem_cons, List.not_mem_nil, or_false] at hz; rcases hz with rfl | rfl | rfl | rfl <;> first | (simp [RfH_eq, hlm]; done) | simp [RfH_eq, Gr.side]), ?_⟩
        obtain ⟨m', hm'⟩ : ∃ m' : Mb, m' = ⟨mb.ma, mb.ra, mb.da, q, mb.d⟩ := ⟨_, rfl⟩
        have hp := g1.unfocus hil hm1 m' (by rw [hm']) (by rw [hm']) (by rw [hm']) g1.bad g1.ld g1.dn g1.k (Y :: Fr)
        obtain ⟨g2, hg2⟩ : ∃ g2 : Gr, g2 = { g1 with ms := g1.ms.set i m' } := ⟨_, rfl⟩
        have hp2 : (FoH (g1.fx mb) q g1.bad g1.ld g1.dn mb.d (g1.side (g1.ms.take i) (g1.ms.drop (i + 1)) (Y :: Fr))).Perm (g2.H (Y :: Fr)) := by
          rw [hm'] at hp
          rw [hg2, hm']
          exact hp
        refine j_perm hp2 ?_
        have hga2 : g2.ga = g1.ga := by rw [hg2]
        have hg2ok : g2.ok F2 := by
          rw [hg2]
          refine ⟨?_, ?_, hg1.wf, fun z hz => (hg1.net z hz).frz hF2, hg1.nl, fun z hz => ?_, fun z hz => (hg1.dn z hz).frz hF2⟩
          · simpa using hg1.len
          · simpa using hg1.lb
          · rcases List.mem_or_eq_of_mem_set hz with hz | rfl
            · exact ⟨(hg1.ms z hz).1.frz hF2, (hg1.ms z hz).2⟩
            · rw [hm']
              exact ⟨hq, hmd⟩
        have hps2 : g2.ps.settle i = some s' := by
          have e2 : g1.ps.ds.set i mb.d.pure = g1.ps.ds := by
            apply List.ext_getElem?
            intro j
            rw [List.getElem?_set]
            split
            · rename_i hij
              subst hij
              have : g1.ps.ds[i]? = some mb.d.pure := by simp [Gr.ps, hget]
              rw [this]
              split
              · rfl
              · rename_i hn
                exact absurd (by simpa [Gr.ps] using hil) hn
            · rfl
          have : g2.ps = { g1.ps with ms := g1.ps.ms.set i (mb.r.p.step m.p) } := by
            have h3 := g1.ps_set i m' g1.bad g1.ld g1.dn g1.k
            rw [hg2, h3, hm']
            dsimp only
            rw [e2, hqp]
            rfl
          rw [this]
          exact h1
        clear hg2
        rw [← hga2] at hga1 ⊢
        refine d_end (by decide +kernel) ?_
        refine r_region rfl ?_
        refine o_val rfl rfl rfl rfl (v_move rfl) ?_
        refine o_val rfl rfl rfl rfl (v_field (k := 2) rfl rfl rfl) ?_
        refine o_val rfl rfl rfl rfl (v_load (v := .int .i64 i) rfl rfl (by rw [hi]; exact hY _ _ 2 _ (by simp [Gr.H]) rfl)) ?_
        refine o_call rfl rfl rfl rfl (c_call callable40 rfl) (g_settle _ _ g2 i s' _ hg2ok hps2) ?_
        rintro v' F3 H' ⟨rfl, g3, hg3, hps3, hga3, rfl⟩ hF3
        refine j_drop (gbox_out g3 Y Fr) ?_
        refine o_end ?_
        exact r_fall0 Tryz.func30 rfl ⟨⟨rfl, g3, hg3, hps3, hga3.trans hga1, rfl⟩, Fz.le_trans hF2 hF3⟩
      · have e1 : g1.ps.ms[m.p.to]? = none := List.getElem?_eq_none (by simp [Gr.ps]; omega)
        rw [e1] at h1
        have h1 := Option.some.inj h1
        refine j_drop (gbox_out g1 Y Fr) ?_
        refine r_skip ?_
        exact r_fall0 Tryz.func30 rfl ⟨⟨rfl, g1, hg1, h1, hga1, rfl⟩, Fz.le_refl _⟩
end Go.SX
namespace Go.SX
open Go Go.Proofs
set_option maxRecDepth 4000
set_option linter.unusedSimpArgs false
set_option linter.unusedVariables false
def PR.tickOk (p : PR) : Bool := decide (p.ticks < 300000) && (p.leadOk && (decide (p.term < 300000) && (decide (p.lix + p.l.length < 300000) && decide (p.out.length + 21 ≤ 300000))))
def PS.tickAt (s : PS) (i : Nat) : Option PS :=
  match s.ms[i]? with
  | some p => if p.tickOk = true then some { s with ms := s.ms.set i p.tick } else none
  | none => none
def PS.ticks : Nat → Nat → PS → Option PS
  | 0, _, s => some s
  | n + 1, i, s => (s.tickAt i).bind fun s1 => (s1.sync i).bind (PS.ticks n (i + 1))
def PS.syncs : Nat → Nat → PS → Option PS
  | 0, _, s => some s
  | n + 1, i, s => (s.sync i).bind (PS.syncs n (i + 1))
def PS.deliver (off : Int) : Nat → PS → Option PS
  | 0, s => some s
  | n + 1, s => match s.net with
    | [] => none
    | m :: r => (if (m.fr : Int) = off ∨ (m.to : Int) = off then some { s with net := r } else s.come 0 false).bind (PS.deliver off n)
def PS.round (s : PS) (off : Int) : Option PS := (PS.ticks s.ms.length 0 s).bind fun s1 => (PS.deliver off s1.net.length s1).bind fun s2 => PS.syncs s2.ms.length 0 s2
theorem settle_is {s s' : PS} {i : Nat} (h : s.settle i = some s') : ∃ p d, s.ms[i]? = some p ∧ s.ds[i]? = some d ∧ p.saveOk = true ∧ s.k ≤ 90000 ∧ s' = s.settleTo i p d (p.leads i s.ld s.dn s.bad).1 (cmtF p (p.cm - p.lix) (p.lix + 1) s.dn (p.leads i s.ld s.dn s.bad).2).1 (cmtF p (p.cm - p.lix) (p.lix + 1) s.dn (p.leads i s.ld s.dn s.bad).2).2 := by
  unfold PS.settle at h
  cases h1 : s.ms[i]? with
  | none => rw [h1] at h; cases h
  | some p =>
    cases h2 : s.ds[i]? with
    | none => rw [h1, h2] at h; cases h
    | some d =>
      rw [h1, h2] at h
      dsimp only at h
      cases hc : (p.saveOk && decide (s.k ≤ 90000)) with
      | false => rw [hc] at h; cases h
      | true =>
        rw [hc, if_pos rfl, frc_eq] at h
        rw [Bool.and_eq_true, decide_eq_true_eq] at hc
        exact ⟨p, d, rfl, rfl, hc.1, hc.2, (Option.some.inj h).symm⟩
theorem settle_n {s s' : PS} {i : Nat} (h : s.settle i = some s') : s'.ms.length = s.ms.length ∧ s'.net = s.net := by
  obtain ⟨p, d, _, _, _, _, rfl⟩ := settle_is h
  exact ⟨by simp [PS.settleTo], rfl⟩
theorem flush_n {s s' : PS} {i : Nat} (h : s.flush i = some s') : s'.ms.length = s.ms.length := by
  unfold PS.flush at h
  split at h
  · split at h
    · rw [← Option.some.inj h]; simp [PS.flushTo]
    · cases h
  · cases h
theorem sync_n {s s' : PS} {i : Nat} (h : s.sync i = some s') : s'.ms.length = s.ms.length := by
  unfold PS.sync at h
  obtain ⟨s1, h1, h⟩ := Option.bind_eq_some_iff.1 h
  obtain ⟨s2, h2, h⟩ := Option.bind_eq_some_iff.1 h
  rw [(settle_n h).1, flush_n h2, (settle_n h1).1]
theorem comeTo_n {s s' : PS} {m : PM} (h : s.comeTo m = some s') : s'.ms.length = s.ms.length ∧ s'.net = s.net := by
  unfold PS.comeTo at h
  split at h
  · rw [← Option.some.inj h]; exact ⟨rfl, rfl⟩
  · split at h
    · obtain ⟨h1, h2⟩ := settle_n h
      exact ⟨by rw [h1]; simp, h2⟩
    · cases h
theorem come0 {s s' : PS} {m : PM} {r : List PM} (hn : s.net = m :: r) (h : s.come 0 false = some s') : s'.ms.length = s.ms.length ∧ s'.net = r := by
  unfold PS.come at h
  rw [hn, if_neg (by simp), Nat.zero_mod] at h
  obtain ⟨h1, h2⟩ := comeTo_n (s := { s with net := r }) h
  exact ⟨h1, h2⟩
theorem g_rd {O : World} {F : Fz} {f : FuncId} {args : Array Value} {v : Value} {g : Gr} {i : Nat} {m : Mb} {Fr : List Ent} (hi : g.ms[i]? = some m) (hc : ∀ X, Does Tryz.prog O f args F (RfH m.ra m.r X) (fun r F' H' => r = v ∧ F' = F ∧ H' = RfH m.ra m.r X)) :
    Does Tryz.prog O f args F (g.H Fr) (fun r F' H' => r = v ∧ F' = F ∧ H' = g.H Fr) := by
  have hil : i < g.ms.length := by
    rcases Nat.lt_or_ge i g.ms.length with h | h
    · exact h
    · rw [List.getElem?_eq_none h] at hi; cases hi
  have hsp := mid hil
  rw [List.getElem?_eq_getElem hil] at hi
  rw [Option.some.inj hi] at hsp
  exact does_same (g.focus hsp Fr) (hc _)
theorem mE_in {g : Gr} {m : Mb} (h : m ∈ g.ms) (Fr : List Ent) : m.E ∈ g.H Fr := by
  have : m.E ∈ msH g.ms := List.mem_flatMap.2 ⟨m, h, by simp [Mb.H]⟩
  simp [Gr.H, this]
theorem j_dropW {C : Cx} {τ : Env} {F : Fz} {X : Act → World → Prop} (Pre : List Ent) {wf : Wf} {n sz k : Nat} {x xs : List Value} {Fr : List Ent} (hok : wf.ok sz n) (hk : k ≤ n) (hx : x.length = k * sz) (hn : k < n ∨ xs = [])
    (h : ∀ wf' : Wf, wf'.ok sz (n - k) → Go.sliced wf.addr k n wf.cp sz = wf'.val (n - k) → Jd C τ F (Pre ++ (wf'.ents xs ++ Fr)) X) : Jd C τ F (Pre ++ (wf.ents (x ++ xs) ++ Fr)) X := by
  by_cases hkn : k < n
  · obtain ⟨wf', h1, h2, h3⟩ := wf_drop (xs := xs) hok hkn hx
    rw [h3]
    exact h wf' h1 h2
  · obtain rfl : k = n := by omega
    have hxs : xs = [] := by
      rcases hn with h | h
      · omega
      · exact h
    subst hxs
    rw [Nat.sub_self] at h
    cases wf with
    | nil =>
      have h0 : k = 0 := hok
      subst h0
      exact h .nil rfl rfl
    | «at» b off cp N pre =>
      obtain ⟨h1, h2, h3⟩ := hok
      have hadd : (⟨b, off, none⟩ : Addr).add (k * sz) = ⟨b, off + k * sz, none⟩ := by
        unfold Addr.add
        split
        · rename_i h0
          rw [h0]
          rfl
        · simp
      by_cases hc : cp = k
      · subst hc
        refine j_cut (C := C) Pre.length off (b := b) (n := N) (cs := pre ++ (x ++ [])) ?_ ?_
        · rw [List.getElem?_append_right (Nat.le_refl _), Nat.sub_self]; rfl
        · have h4 := h (.at b off 0 N pre) ⟨by omega, by omega, h3⟩ (by simp [Go.sliced, Wf.addr, Wf.cp])
          rw [List.set_append_right _ _ (Nat.le_refl _), Nat.sub_self]
          show Jd C τ F (Pre ++ (.mem b ((pre ++ (x ++ [])).take off) N :: Fr)) X
          rw [← h3, List.take_left]
          have e : (Wf.at b off 0 N pre).ents [] ++ Fr = .mem b pre N :: Fr := by simp [Wf.ents]
          rw [← e]
          exact h4
      · have h4 := h (.at b (off + k * sz) (cp - k) N (pre ++ x)) ⟨by omega, ?_, by simp [h3, hx]⟩ ?_
        · have e : (Wf.at b (off + k * sz) (cp - k) N (pre ++ x)).ents [] ++ Fr = (Wf.at b off cp N pre).ents (x ++ []) ++ Fr := by simp [Wf.ents]
          rw [e] at h4
          exact h4
        · have : cp * sz = k * sz + (cp - k) * sz := by rw [← Nat.add_mul]; congr 1; omega
          omega
        · show Value.slice (if cp = k then some ⟨b, off, none⟩ else (some (⟨b, off, none⟩ : Addr)).map (·.add (k * sz))) (k - k) (cp - k) = .slice (some ⟨b, off + k * sz, none⟩) 0 (cp - k)
          rw [if_neg hc, Option.map_some, hadd, Nat.sub_self]
/-- Who leads. -/
def PS.ledBy (s : PS) : Nat → Int
  | 0 => -1
  | n + 1 => match s.ms[n]? with
    | some p => if p.role = 3 ∧ (s.ledBy n < 0 ∨ ((s.ms[(s.ledBy n).toNat]?).map PR.term).getD 0 < p.term) then (n : Int) else s.ledBy n
    | none => s.ledBy n
def PS.leader (s : PS) : Int := s.ledBy s.ms.length
theorem ledBy_lt (s : PS) : ∀ n, s.ledBy n = -1 ∨ ∃ j : Nat, j < n ∧ s.ledBy n = j
  | 0 => .inl rfl
  | n + 1 => by
    unfold PS.ledBy
    have ih := ledBy_lt s n
    split
    · split
      · exact .inr ⟨n, by omega, rfl⟩
      · rcases ih with h | ⟨j, h1, h2⟩
        · exact .inl h
        · exact .inr ⟨j, by omega, h2⟩
    · rcases ih with h | ⟨j, h1, h2⟩
      · exact .inl h
      · exact .inr ⟨j, by omega, h2⟩
theorem ds_same {g : Gr} {i : Nat} {m : Mb} (h : g.ms[i]? = some m) : g.ps.ds.set i m.d.pure = g.ps.ds := by
  apply List.ext_getElem?
  intro j
  rw [List.getElem?_set]
  split
  · rename_i hij
    subst hij
    have : g.ps.ds[i]? = some m.d.pure := by simp [Gr.ps, h]
    rw [this]
    split
    · rfl
    · rename_i hn
      rw [List.getElem?_eq_none (by simpa [Gr.ps] using hn)] at h
      cases h
  · rfl
/-- A call that changes one member. -/
theorem g_at {O : World} {F : Fz} {f : FuncId} {args : Array Value} {P : Value → Prop} {g : Gr} {i : Nat} {m : Mb} {p' : PR} {Fr : List Ent} (hg : g.ok F) (hi : g.ms[i]? = some m)
    (hc : ∀ X, Does Tryz.prog O f args F (RfH m.ra m.r X) (fun r F' H' => P r ∧ ∃ q : Rf, q.ok F' ∧ q.p = p' ∧ H' = RfH m.ra q X)) :
    Does Tryz.prog O f args F (g.H Fr) (fun r F' H' => P r ∧ ∃ g' : Gr, g'.ok F' ∧ g'.ps = { g.ps with ms := g.ps.ms.set i p' } ∧ g'.ga = g.ga ∧ H' = g'.H Fr) := by
  have hil : i < g.ms.length := by
    rcases Nat.lt_or_ge i g.ms.length with h | h
    · exact h
    · rw [List.getElem?_eq_none h] at hi; cases hi
  have hsp := mid hil
  have hi2 := hi
  rw [List.getElem?_eq_getElem hil] at hi2
  have hm1 := Option.some.inj hi2
  rw [hm1] at hsp
  have hmi : m ∈ g.ms := List.mem_of_getElem? hi
  refine does_permB (g.focus hsp Fr) (hc _) ?_
  rintro v F' H' hle ⟨hP, q, hq, hqp, rfl⟩
  obtain ⟨m', hm'⟩ : ∃ m' : Mb, m' = ⟨m.ma, m.ra, m.da, q, m.d⟩ := ⟨_, rfl⟩
  have hp := g.unfocus hil hm1 m' (by rw [hm']) (by rw [hm']) (by rw [hm']) g.bad g.ld g.dn g.k Fr
  obtain ⟨g2, hg2⟩ : ∃ g2 : Gr, g2 = { g with ms := g.ms.set i m' } := ⟨_, rfl⟩
  refine ⟨g2.H Fr, ?_, hP, g2, ?_, ?_, by rw [hg2], rfl⟩
  · rw [hm'] at hp
    rw [hg2, hm']
    exact hp
  · rw [hg2]
    refine ⟨?_, ?_, hg.wf, fun z hz => (hg.net z hz).frz hle, hg.nl, fun z hz => ?_, fun z hz => (hg.dn z hz).frz hle⟩
    · simpa using hg.len
    · simpa using hg.lb
    · rcases List.mem_or_eq_of_mem_set hz with hz | rfl
      · exact ⟨(hg.ms z hz).1.frz hle, (hg.ms z hz).2⟩
      · rw [hm']
        exact ⟨hq, (hg.ms m hmi).2⟩
  · have h3 := g.ps_set i m' g.bad g.ld g.dn g.k
    rw [hg2, h3, hm']
    dsimp only
    rw [ds_same hi, hqp]
    rfl
theorem ecell {F : Fz} {H : List Ent} {m : Mb} (j : Nat) {c : Value} (hm : m.E ∈ H) (hc : [ptrV m.ra, ptrV m.da][j]? = some c) : Cell F H m.ma (0 + j) c := by
  rw [Nat.zero_add]
  exact cell_own hm hc
theorem Gr.lbH {F : Fz} {g : Gr} (hg : g.ok F) {i : Nat} (hi : i < g.ms.length) : ∃ lb c N, g.lv = .slice (some ⟨lb, 0, none⟩) g.ms.length c ∧ ∀ Fr, Ent.mem lb (msV g.ms) N ∈ g.H Fr := by
  obtain ⟨lb, c, N, h1, h2⟩ := g.lbv hg hi
  exact ⟨lb, c, N, h1, fun Fr => by unfold Gr.H; rw [h2]; simp⟩
/-! ### A round -/
set_option maxHeartbeats 2000000 in
theorem g_round (O : World) (F : Fz) (g : Gr) (off : Int) (s' : PS) (Fr : List Ent) (hg : g.ok F) (h : g.ps.round off = some s') :
    Does Tryz.prog O 10 #[ptrV g.ga, .int .i64 off] F (g.H Fr) (fun v F' H' => v = noneV ∧ ∃ g' : Gr, g'.ok F' ∧ g'.ps = s' ∧ g'.ga = g.ga ∧ H' = g'.H Fr) := by
  refine does_of_run (args := [_, _]) Tryz.func10 rfl rfl ?_
  unfold PS.round at h
  obtain ⟨s1, h1, h⟩ := Option.bind_eq_some_iff.1 h
  obtain ⟨s2, h2, h3⟩ := Option.bind_eq_some_iff.1 h
  obtain ⟨ga, hga⟩ : ∃ ga, ga = g.ga := ⟨_, rfl⟩
  obtain ⟨n, hn⟩ : ∃ n, n = g.ms.length := ⟨_, rfl⟩
  have hpn : ∀ g : Gr, g.ps.ms.length = g.ms.length := fun g => by simp [Gr.ps]
  have hpnet : ∀ g : Gr, g.ps.net.length = g.net.length := fun g => by simp [Gr.ps]
  rw [hpn, ← hn] at h1
  have hn5 := hg.len
  obtain ⟨gb, hgb⟩ : ∃ gb, gb = g.ga := ⟨_, rfl⟩
  rw [← hgb]
  refine j_slot 0 rfl (v' := ptrV ga) (by rw [hga, hgb]) ?_
  refine r_seq ?_
  refine r_join (fun q : Gr × Fz => F.le q.2 ∧ q.1.ok q.2 ∧ q.1.ga = ga ∧ q.1.ms.length = n ∧ q.1.ps = s1) (fun q => [(0, ptrV ga), (1, .int .i64 off)]) (fun q => q.2) (fun q => q.1.H Fr) ?_ ?_
  · intro J
    refine r_seq ?_
    refine r_region rfl ?_
    refine o_val rfl rfl rfl rfl (v_assign rfl) ?_
    refine o_end ?_
    refine r_block ?_
    refine r_loop (fun q : Gr × Fz × Nat => F.le q.2.1 ∧ q.1.ok q.2.1 ∧ q.1.ga = ga ∧ q.1.ms.length = n ∧ q.2.2 ≤ n ∧ PS.ticks (n - q.2.2) q.2.2 q.1.ps = some s1) (fun q => [(0, ptrV ga), (1, .int .i64 off), (4, .int .i64 q.2.2)]) (fun q => q.2.1) (fun q => q.1.H Fr) (fun q => n - q.2.2) (g, F, 0) ⟨Fz.le_refl _, hg, hga.symm, hn.symm, Nat.zero_le _, h1⟩ ⟨rfl, rfl, rfl, trivial⟩ rfl rfl ?_
    rintro ⟨g1, F1, i⟩ ⟨hF1, hg1, hga1, hn1, hin, ht⟩ IH
    dsimp only at hF1 hg1 hga1 hn1 hin ht ⊢
    rw [← hga1]
    refine r_seq ?_
    refine r_seq ?_
    refine r_region rfl ?_
    refine o_val rfl rfl rfl rfl (v_move rfl) ?_
    refine o_val rfl rfl rfl rfl (v_move rfl) ?_
    refine o_val rfl rfl rfl rfl (v_nilCheck rfl) ?_
    refine o_val rfl rfl rfl rfl (v_field (k := 0) rfl rfl rfl) ?_
    refine o_val rfl rfl rfl rfl (v_load rfl rfl (gcell0 (g := g1) 0 (by simp [Gr.H]) rfl)) ?_
    refine o_val rfl rfl rfl rfl (v_len rfl rfl) ?_
    refine o_val rfl rfl rfl rfl (v_lss rfl rfl) ?_
    refine o_end ?_
    refine r_if rfl (fun h5 => ?_) (fun h5 => ?_)
    · have hil : i < g1.ms.length := by omega
      rw [show n - i = (n - (i + 1)) + 1 by omega] at ht
      unfold PS.ticks at ht
      obtain ⟨t1, ht1, ht⟩ := Option.bind_eq_some_iff.1 ht
      obtain ⟨t2, ht2, ht⟩ := Option.bind_eq_some_iff.1 ht
      obtain ⟨m, hm⟩ : ∃ m, m = g1.ms[i] := ⟨_, rfl⟩
      have hget : g1.ms[i]? = some m := by rw [hm]; exact List.getElem?_eq_getElem hil
      have hmi : m ∈ g1.ms := List.mem_of_getElem? hget
      have hmr := (hg1.ms m hmi).1
      obtain ⟨lb, c, N, hlv, hlm⟩ := g1.lbH hg1 hil
      have e1 : g1.ps.ms[i]? = some m.r.p := by simp [Gr.ps, hget]
      unfold PS.tickAt at ht1
      rw [e1] at ht1
      dsimp only at ht1
      have hok : m.r.p.tickOk = true := by
        cases hc : m.r.p.tickOk with
        | true => rfl
        | false => rw [hc] at ht1; cases ht1
      rw [if_pos hok] at ht1
      have ht1 := Option.some.inj ht1
      unfold PR.tickOk at hok
      simp only [Bool.and_eq_true, decide_eq_true_eq] at hok
      obtain ⟨o1, o2, o3, o4, o5⟩ := hok
      refine r_skip ?_
      refine r_seq ?_
      refine r_block ?_
      refine r_seq ?_
      refine r_region rfl ?_
      refine o_val rfl rfl rfl rfl (v_move rfl) ?_
      refine o_val rfl rfl rfl rfl (v_nilCheck rfl) ?_
      refine o_val rfl rfl rfl rfl (v_field (k := 0) rfl rfl rfl) ?_
      refine o_val rfl rfl rfl rfl (v_load (v := .slice (some ⟨lb, 0, none⟩) g1.ms.length c) rfl rfl (by rw [← hlv]; exact gcell0 (g := g1) 0 (by simp [Gr.H]) rfl)) ?_
      refine o_val rfl rfl rfl rfl (v_move rfl) ?_
      refine o_val rfl rfl rfl rfl (v_index1 rfl rfl rfl rfl hil) ?_
      refine o_val rfl rfl rfl rfl (v_load (v := ptrV m.ma) rfl rfl (cell_own (cs := msV g1.ms) (n := N) (hlm _) (msV_get hget))) ?_
      refine o_val rfl rfl rfl rfl (v_nilCheck rfl) ?_
      refine o_val rfl rfl rfl rfl (v_field (k := 0) rfl rfl rfl) ?_
      refine o_val rfl rfl rfl rfl (v_load rfl rfl (ecell (m := m) 0 (by first | exact mE_in hmi _ | simp) rfl)) ?_
      refine o_call rfl rfl rfl rfl (c_call callable29 rfl) (g_at (P := fun v => v = noneV) (p' := m.r.p.tick) hg1 hget (fun X => r_Tick _ _ m.ra m.r X hmr o1 (leadOk_is o2) o3 o4 o5)) ?_
      rintro v' F2 H' ⟨rfl, g2, hg2, hps2, hga2, rfl⟩ hF2
      rw [ht1] at hps2
      rw [← hga2]
      refine o_end ?_
      refine r_region rfl ?_
      refine o_val rfl rfl rfl rfl (v_move rfl) ?_
      refine o_val rfl rfl rfl rfl (v_move rfl) ?_
      refine o_call rfl rfl rfl rfl (c_call callable20 rfl) (g_sync _ _ g2 i t2 Fr hg2 (by rw [hps2]; exact ht2)) ?_
      rintro v' F3 H' ⟨rfl, g3, hg3, hps3, hga3, rfl⟩ hF3
      have hn3 : g3.ms.length = n := by
        rw [← hpn, hps3, sync_n ht2, ← hps2, hpn]
        have : g2.ps.ms.length = g1.ps.ms.length := by rw [hps2, ← ht1]; simp
        rw [hpn, hpn] at this
        omega
      refine o_end ?_
      refine r_inBlock ?_
      refine r_region rfl ?_
      refine o_val rfl rfl rfl rfl (v_move rfl) ?_
      refine o_val rfl rfl rfl rfl (v_add rfl rfl (r := ((i + 1 : Nat) : Int)) (wrap_i64 (by omega) (by omega))) ?_
      refine o_val rfl rfl rfl rfl (v_assign rfl) ?_
      refine o_end ?_
      refine j_keep ?_ (IH (g3, F3, i + 1) ⟨Fz.le_trans hF1 (Fz.le_trans hF2 hF3), hg3, by dsimp only; rw [hga3, hga2, hga1], hn3, by dsimp only; omega, by dsimp only; rw [hps3]; exact ht⟩ (by dsimp only; omega))
      exact ⟨by rw [← hga1, ← hga2]; rfl, rfl, rfl, trivial⟩
    · obtain rfl : i = n := by omega
      rw [Nat.sub_self] at ht
      have ht : g1.ps = s1 := Option.some.inj ht
      refine r_exit rfl ?_
      refine j_keep ?_ (J (g1, F1) ⟨hF1, hg1, hga1, hn1, ht⟩)
      exact ⟨by rw [← hga1]; rfl, rfl, trivial⟩
  · rintro ⟨g1, F1⟩ ⟨hF1, hg1, hga1, hn1, hp1⟩
    dsimp only at hF1 hg1 hga1 hn1 hp1 ⊢
    rw [← hp1] at h2 h
    rw [hpnet] at h2
    rw [← hga1]
    refine r_seq ?_
    refine r_region rfl ?_
    refine o_val rfl rfl rfl rfl (v_move rfl) ?_
    refine o_val rfl rfl rfl rfl (v_nilCheck rfl) ?_
    refine o_val rfl rfl rfl rfl (v_field (k := 1) rfl rfl rfl) ?_
    refine o_val rfl rfl rfl rfl (v_load rfl rfl (gcell0 (g := g1) 1 (by simp [Gr.H]) rfl)) ?_
    refine o_val rfl rfl rfl rfl (v_len rfl rfl) ?_
    refine o_val rfl rfl rfl rfl (v_assign rfl) ?_
    refine o_end ?_
    refine j_slot 0 rfl (v' := ptrV ga) (by rw [hga1]) ?_
    refine r_seq ?_
    refine r_join (fun q : Gr × Fz => F.le q.2 ∧ q.1.ok q.2 ∧ q.1.ga = ga ∧ q.1.ps = s2) (fun q => [(0, ptrV ga)]) (fun q => q.2) (fun q => q.1.H Fr) ?_ ?_
    · intro J
      refine r_seq ?_
      refine r_region rfl ?_
      refine o_val rfl rfl rfl rfl (v_assign rfl) ?_
      refine o_end ?_
      refine r_block ?_
      refine r_loop (fun q : Gr × Fz × Nat => F.le q.2.1 ∧ q.1.ok q.2.1 ∧ q.1.ga = ga ∧ q.1.net.length = g1.net.length - q.2.2 ∧ q.2.2 ≤ g1.net.length ∧ PS.deliver off (g1.net.length - q.2.2) q.1.ps = some s2) (fun q => [(0, ptrV ga), (1, .int .i64 off), (5, .int .i64 g1.net.length), (6, .int .i64 q.2.2)]) (fun q => q.2.1) (fun q => q.1.H Fr) (fun q => g1.net.length - q.2.2) (g1, F1, 0) ⟨hF1, hg1, hga1, rfl, Nat.zero_le _, h2⟩ ⟨rfl, rfl, rfl, rfl, trivial⟩ rfl rfl ?_
      rintro ⟨g2, F2, i⟩ ⟨hF2, hg2, hga2, hn2, hin, ht⟩ IH
      dsimp only at hF2 hg2 hga2 hn2 hin ht ⊢
      rw [← hga2]
      refine r_seq ?_
      refine r_seq ?_
      refine r_region rfl ?_
      refine o_val rfl rfl rfl rfl (v_move rfl) ?_
      refine o_val rfl rfl rfl rfl (v_move rfl) ?_
      refine o_val rfl rfl rfl rfl (v_lss rfl rfl) ?_
      refine o_end ?_
      refine r_if rfl (fun h5 => ?_) (fun h5 => ?_)
      · have hnl := hg1.nl
        have hil : i < g1.net.length := by omega
        rw [show g1.net.length - i = (g1.net.length - (i + 1)) + 1 by omega] at ht
        obtain ⟨m, rest, hmr⟩ : ∃ m rest, g2.net = m :: rest := by
          cases hc : g2.net with
          | nil => rw [hc] at hn2; simp at hn2; omega
          | cons m r => exact ⟨m, r, rfl⟩
        have hpr : g2.ps.net = m.p :: rest.map Mg.p := by simp [Gr.ps, hmr]
        unfold PS.deliver at ht
        rw [hpr] at ht
        dsimp only at ht
        obtain ⟨t1, ht1, ht⟩ := Option.bind_eq_some_iff.1 ht
        have hmok : m.ok F2 := hg2.net m (by rw [hmr]; exact List.mem_cons_self ..)
        have hone := hmok.one
        have hl0 : 0 < g2.net.length := by omega
        obtain ⟨b, off1, cp, N, pre, hwf⟩ : ∃ b off cp N pre, g2.wf = .at b off cp N pre := by
          have hw := hg2.wf
          cases hb : g2.wf with
          | nil =>
            rw [hb] at hw
            have : g2.net.length = 0 := hw
            omega
          | «at» b off cp N pre => exact ⟨_, _, _, _, _, rfl⟩
        have hnv : g2.nv = .slice (some ⟨b, off1, none⟩) g2.net.length cp := by unfold Gr.nv; rw [hwf]; rfl
        have hwok := hg2.wf
        rw [hwf] at hwok
        obtain ⟨hw1, hw2, hw3⟩ := hwok
        have hmcell : ∀ F H, g2.wf.ents (mgV g2.net) ⊆ H → ∀ i c, m.cells[i]? = some c → Cell F H b (off1 + 0 * 13 + i) c := fun F H hH i c hc => by
          have hi : i < 13 := by
            rcases Nat.lt_or_ge i 13 with h | h
            · exact h
            · rw [List.getElem?_eq_none (by rw [Mg.cl]; exact h)] at hc; cases hc
          refine cell_own (cs := pre ++ mgV g2.net) (n := N) (hH (by rw [hwf]; exact List.mem_singleton.2 rfl)) ?_
          rw [List.getElem?_append_right (by omega), hw3, show off1 + 0 * 13 + i - off1 = 0 * 13 + i by omega, vec_get (c := Mg.cells) Mg.cl g2.net 0 hl0 i hi]
          simp only [hmr, List.getElem_cons_zero]
          exact hc
        have hwsub : ∀ Fr, g2.wf.ents (mgV g2.net) ⊆ g2.H Fr := fun Fr z hz => by simp [Gr.H, hz]
        have hload : ∀ F H, g2.E ∈ H → Cell F H g2.ga (0 + 1) (.slice (some ⟨b, off1, none⟩) g2.net.length cp) := fun F H hH => by rw [← hnv]; exact gcell0 (g := g2) 1 hH rfl
        refine r_skip ?_
        refine r_seq ?_
        refine r_block ?_
        refine r_seq ?_
        refine r_region rfl ?_
        refine o_val rfl rfl rfl rfl (v_move rfl) ?_
        refine o_val rfl rfl rfl rfl (v_nilCheck rfl) ?_
        refine o_val rfl rfl rfl rfl (v_field (k := 1) rfl rfl rfl) ?_
        refine o_val rfl rfl rfl rfl (v_load (v := .slice (some ⟨b, off1, none⟩) g2.net.length cp) rfl rfl (hload _ _ (by simp [Gr.H]))) ?_
        refine o_val rfl rfl rfl rfl (v_indexN (i := 0) (sz := 13) rfl rfl rfl rfl hl0) ?_
        refine o_val rfl rfl rfl rfl (v_loadAgg (sz := 13) (cs := m.cells) rfl rfl rfl rfl (hmcell _ _ (hwsub _))) ?_
        refine o_act rfl rfl rfl rfl (a_alloc rfl) ?_
        rintro v' H' ⟨y, rfl, rfl⟩
        refine o_act0 rfl rfl rfl (a_store (sz := 13) (v := .agg m.cells.toArray) 0 rfl rfl rfl hone rfl rfl (Nat.le_of_ble_eq_true rfl)) ?_
        obtain ⟨Y, hYe⟩ : ∃ Y : Ent, Y = .mem y m.cells 13 := ⟨_, rfl⟩
        have hY : ∀ F H j c, Y ∈ H → m.cells[j]? = some c → Cell F H y (0 + j) c := fun F H j c hm hc => by rw [Nat.zero_add]; rw [hYe] at hm; exact cell_own hm hc
        refine j_heap (H' := Y :: g2.H Fr) (by rw [hYe]; rfl) ?_
        refine o_end ?_
        refine r_seq ?_
        refine r_region rfl ?_
        refine o_val rfl rfl rfl rfl (v_field (k := 1) rfl rfl rfl) ?_
        refine o_val rfl rfl rfl rfl (v_load (v := .int .i64 m.p.fr) rfl rfl (hY _ _ 1 _ (by simp) rfl)) ?_
        refine o_val rfl rfl rfl rfl (v_move rfl) ?_
        refine o_val rfl rfl rfl rfl (v_eql rfl rfl) ?_
        refine j_prop 51 rfl (fun h6 => ?_) (fun h6 => ?_)
        · have hc0 : (m.p.fr : Int) = off ∨ (m.p.to : Int) = off := .inl h6
          refine o_val rfl rfl rfl rfl (v_move rfl) ?_
          refine o_skip rfl rfl rfl rfl ?_
          refine o_skip rfl rfl rfl rfl ?_
          refine o_skip rfl rfl rfl rfl ?_
          refine o_skip rfl rfl rfl rfl ?_
          refine o_val rfl rfl rfl rfl (v_pick1 rfl rfl) ?_
          refine o_end ?_
          refine r_true rfl ?_
          have hcond : (m.p.fr : Int) = off ∨ (m.p.to : Int) = off := hc0
          rw [if_pos hcond] at ht1
          have ht1 := Option.some.inj ht1
          refine j_drop (List.sublist_cons_self _ _) ?_
          have hmt : m.cells ++ mgV rest = mgV g2.net := by rw [hmr]; rfl
          refine j_heap (H' := (g2.E :: g2.lb.ents 1 (msV g2.ms)) ++ (g2.wf.ents (m.cells ++ mgV rest) ++ (g2.L :: g2.D :: (msH g2.ms ++ Fr)))) (by rw [hmt]; simp [Gr.H]) ?_
          refine j_dropW (sz := 13) (k := 1) (n := g2.net.length) _ hg2.wf (by omega) (by rw [Mg.cl]) (by rcases rest with _ | ⟨z, r⟩; exact .inr rfl; exact .inl (by rw [hmr]; simp)) fun wf3 hok3 hsl3 => ?_
          have hsl3 : Go.sliced (some ⟨b, off1, none⟩) 1 g2.net.length cp 13 = wf3.val (g2.net.length - 1) := by rw [hwf] at hsl3; exact hsl3
          have hrl : g2.net.length - 1 = rest.length := by rw [hmr]; simp
          rw [hrl] at hsl3 hok3
          refine r_region rfl ?_
          refine o_val rfl rfl rfl rfl (v_move rfl) ?_
          refine o_val rfl rfl rfl rfl (v_move rfl) ?_
          refine o_val rfl rfl rfl rfl (v_nilCheck rfl) ?_
          refine o_val rfl rfl rfl rfl (v_field (k := 1) rfl rfl rfl) ?_
          refine o_val rfl rfl rfl rfl (v_load (v := .slice (some ⟨b, off1, none⟩) g2.net.length cp) rfl rfl (hload _ _ (by simp))) ?_
          refine o_val rfl rfl rfl rfl (v_sliceL (sz := 13) (l := 1) rfl rfl rfl rfl rfl (by omega)) ?_
          refine o_val rfl rfl rfl rfl (v_nilCheck rfl) ?_
          refine o_val rfl rfl rfl rfl (v_field (k := 1) rfl rfl rfl) ?_
          rw [hsl3]
          refine o_act0 rfl rfl rfl (a_store1 0 (b := g2.ga) (n := 5) (cs := [g2.lv, g2.nv, .map (some g2.lm), .map (some g2.dm), .bool g2.bad]) rfl rfl rfl rfl rfl (Nat.le_of_ble_eq_true rfl)) ?_
          obtain ⟨g3, hg3⟩ : ∃ g3 : Gr, g3 = { g2 with wf := wf3, net := rest } := ⟨_, rfl⟩
          refine j_heap (H' := g3.H Fr) (by rw [hg3]; rfl) ?_
          have hga3 : g3.ga = g2.ga := by rw [hg3]
          have hnl2 := hg2.nl
          have hg3ok : g3.ok F2 := by
            rw [hg3]
            exact ⟨hg2.len, hg2.lb, hok3, fun z hz => hg2.net z (by rw [hmr]; exact List.mem_cons_of_mem _ hz), by show rest.length ≤ 300; omega, hg2.ms, hg2.dn⟩
          have hps3 : g3.ps = t1 := by
            rw [← ht1, hg3]
            rfl
          refine o_end ?_
          refine r_inBlock ?_
          refine r_region rfl ?_
          refine o_val rfl rfl rfl rfl (v_move rfl) ?_
          refine o_val rfl rfl rfl rfl (v_add rfl rfl (r := ((i + 1 : Nat) : Int)) (wrap_i64 (by omega) (by omega))) ?_
          refine o_val rfl rfl rfl rfl (v_assign rfl) ?_
          refine o_end ?_
          refine j_keep ?_ (IH (g3, F2, i + 1) ⟨hF2, hg3ok, by dsimp only; rw [hga3, hga2], by rw [hg3]; show rest.length = g1.net.length - (i + 1); omega, by dsimp only; omega, by dsimp only; rw [hps3]; exact ht⟩ (by dsimp only; omega))
          exact ⟨by rw [← hga2]; rfl, rfl, rfl, rfl, trivial⟩
        · refine o_val rfl rfl rfl rfl (v_move rfl) ?_
          refine o_val rfl rfl rfl rfl (v_field (k := 2) rfl rfl rfl) ?_
          refine o_val rfl rfl rfl rfl (v_load (v := .int .i64 m.p.to) rfl rfl (hY _ _ 2 _ (by simp) rfl)) ?_
          refine o_val rfl rfl rfl rfl (v_move rfl) ?_
          refine o_val rfl rfl rfl rfl (v_eql rfl rfl) ?_
          refine j_prop 56 rfl (fun h7 => ?_) (fun h7 => ?_)
          · have hc0 : (m.p.fr : Int) = off ∨ (m.p.to : Int) = off := .inr h7
            refine o_val rfl rfl rfl rfl (v_pick0 rfl rfl) ?_
            refine o_end ?_
            refine r_true rfl ?_
            have hcond : (m.p.fr : Int) = off ∨ (m.p.to : Int) = off := hc0
            rw [if_pos hcond] at ht1
            have ht1 := Option.some.inj ht1
            refine j_drop (List.sublist_cons_self _ _) ?_
            have hmt : m.cells ++ mgV rest = mgV g2.net := by rw [hmr]; rfl
            refine j_heap (H' := (g2.E :: g2.lb.ents 1 (msV g2.ms)) ++ (g2.wf.ents (m.cells ++ mgV rest) ++ (g2.L :: g2.D :: (msH g2.ms ++ Fr)))) (by rw [hmt]; simp [Gr.H]) ?_
            refine j_dropW (sz := 13) (k := 1) (n := g2.net.length) _ hg2.wf (by omega) (by rw [Mg.cl]) (by rcases rest with _ | ⟨z, r⟩; exact .inr rfl; exact .inl (by rw [hmr]; simp)) fun wf3 hok3 hsl3 => ?_
            have hsl3 : Go.sliced (some ⟨b, off1, none⟩) 1 g2.net.length cp 13 = wf3.val (g2.net.length - 1) := by rw [hwf] at hsl3; exact hsl3
            have hrl : g2.net.length - 1 = rest.length := by rw [hmr]; simp
            rw [hrl] at hsl3 hok3
            refine r_region rfl ?_
            refine o_val rfl rfl rfl rfl (v_move rfl) ?_
            refine o_val rfl rfl rfl rfl (v_move rfl) ?_
            refine o_val rfl rfl rfl rfl (v_nilCheck rfl) ?_
            refine o_val rfl rfl rfl rfl (v_field (k := 1) rfl rfl rfl) ?_
            refine o_val rfl rfl rfl rfl (v_load (v := .slice (some ⟨b, off1, none⟩) g2.net.length cp) rfl rfl (hload _ _ (by simp))) ?_
            refine o_val rfl rfl rfl rfl (v_sliceL (sz := 13) (l := 1) rfl rfl rfl rfl rfl (by omega)) ?_
            refine o_val rfl rfl rfl rfl (v_nilCheck rfl) ?_
            refine o_val rfl rfl rfl rfl (v_field (k := 1) rfl rfl rfl) ?_
            rw [hsl3]
            refine o_act0 rfl rfl rfl (a_store1 0 (b := g2.ga) (n := 5) (cs := [g2.lv, g2.nv, .map (some g2.lm), .map (some g2.dm), .bool g2.bad]) rfl rfl rfl rfl rfl (Nat.le_of_ble_eq_true rfl)) ?_
            obtain ⟨g3, hg3⟩ : ∃ g3 : Gr, g3 = { g2 with wf := wf3, net := rest } := ⟨_, rfl⟩
            refine j_heap (H' := g3.H Fr) (by rw [hg3]; rfl) ?_
            have hga3 : g3.ga = g2.ga := by rw [hg3]
            have hnl2 := hg2.nl
            have hg3ok : g3.ok F2 := by
              rw [hg3]
              exact ⟨hg2.len, hg2.lb, hok3, fun z hz => hg2.net z (by rw [hmr]; exact List.mem_cons_of_mem _ hz), by show rest.length ≤ 300; omega, hg2.ms, hg2.dn⟩
            have hps3 : g3.ps = t1 := by
              rw [← ht1, hg3]
              rfl
            refine o_end ?_
            refine r_inBlock ?_
            refine r_region rfl ?_
            refine o_val rfl rfl rfl rfl (v_move rfl) ?_
            refine o_val rfl rfl rfl rfl (v_add rfl rfl (r := ((i + 1 : Nat) : Int)) (wrap_i64 (by omega) (by omega))) ?_
            refine o_val rfl rfl rfl rfl (v_assign rfl) ?_
            refine o_end ?_
            refine j_keep ?_ (IH (g3, F2, i + 1) ⟨hF2, hg3ok, by dsimp only; rw [hga3, hga2], by rw [hg3]; show rest.length = g1.net.length - (i + 1); omega, by dsimp only; omega, by dsimp only; rw [hps3]; exact ht⟩ (by dsimp only; omega))
            exact ⟨by rw [← hga2]; rfl, rfl, rfl, rfl, trivial⟩
          · have hc0 : ¬ ((m.p.fr : Int) = off ∨ (m.p.to : Int) = off) := by
              rintro (h | h)
              · exact h6 h
              · exact h7 h
            refine o_val rfl rfl rfl rfl (v_pick0 rfl rfl) ?_
            refine o_end ?_
            refine r_false rfl ?_
            have hcond : ¬ ((m.p.fr : Int) = off ∨ (m.p.to : Int) = off) := hc0
            rw [if_neg hcond] at ht1
            refine j_drop (List.sublist_cons_self _ _) ?_
            refine r_region rfl ?_
            refine o_val rfl rfl rfl rfl (v_move rfl) ?_
            refine o_call rfl rfl rfl rfl (c_call callable30 rfl) (g_come _ _ g2 0 false t1 Fr hg2 (by omega) ht1) ?_
            rintro v' F3 H' ⟨rfl, g3, hg3, hps3, hga3, rfl⟩ hF3
            have hn3 : g3.net.length = g1.net.length - (i + 1) := by
              have h9 := (come0 hpr ht1).2
              rw [← hpnet, hps3, h9, List.length_map]
              rw [hmr] at hn2
              simp at hn2
              omega
            refine o_end ?_
            refine r_inBlock ?_
            refine r_region rfl ?_
            refine o_val rfl rfl rfl rfl (v_move rfl) ?_
            refine o_val rfl rfl rfl rfl (v_add rfl rfl (r := ((i + 1 : Nat) : Int)) (wrap_i64 (by omega) (by omega))) ?_
            refine o_val rfl rfl rfl rfl (v_assign rfl) ?_
            refine o_end ?_
            refine j_keep ?_ (IH (g3, F3, i + 1) ⟨Fz.le_trans hF2 hF3, hg3, by dsimp only; rw [hga3, hga2], hn3, by dsimp only; omega, by dsimp only; rw [hps3]; exact ht⟩ (by dsimp only; omega))
            exact ⟨by rw [← hga2]; rfl, rfl, rfl, rfl, trivial⟩
      · have hin2 : g1.net.length - i = 0 := by omega
        rw [hin2] at ht
        have ht : g2.ps = s2 := Option.some.inj ht
        refine r_exit rfl ?_
        refine j_keep ?_ (J (g2, F2) ⟨hF2, hg2, hga2, ht⟩)
        exact ⟨by rw [← hga2]; rfl, trivial⟩
    · rintro ⟨g2, F2⟩ ⟨hF2, hg2, hga2, hp2⟩
      dsimp only at hF2 hg2 hga2 hp2 ⊢
      rw [← hp2] at h3
      obtain ⟨n2, hn2⟩ : ∃ n2, n2 = g2.ms.length := ⟨_, rfl⟩
      rw [hpn, ← hn2] at h3
      have hn25 := hg2.len
      refine r_seq ?_
      refine r_region rfl ?_
      refine o_val rfl rfl rfl rfl (v_assign rfl) ?_
      refine o_end ?_
      refine r_block ?_
      refine r_loop (fun q : Gr × Fz × Nat => F.le q.2.1 ∧ q.1.ok q.2.1 ∧ q.1.ga = ga ∧ q.1.ms.length = n2 ∧ q.2.2 ≤ n2 ∧ PS.syncs (n2 - q.2.2) q.2.2 q.1.ps = some s') (fun q => [(0, ptrV ga), (8, .int .i64 q.2.2)]) (fun q => q.2.1) (fun q => q.1.H Fr) (fun q => n2 - q.2.2) (g2, F2, 0) ⟨hF2, hg2, hga2, hn2.symm, Nat.zero_le _, h3⟩ ⟨rfl, rfl, trivial⟩ rfl rfl ?_
      rintro ⟨g3, F3, i⟩ ⟨hF3, hg3, hga3, hn3, hin, ht⟩ IH
      dsimp only at hF3 hg3 hga3 hn3 hin ht ⊢
      rw [← hga3]
      refine r_seq ?_
      refine r_seq ?_
      refine r_region rfl ?_
      refine o_val rfl rfl rfl rfl (v_move rfl) ?_
      refine o_val rfl rfl rfl rfl (v_move rfl) ?_
      refine o_val rfl rfl rfl rfl (v_nilCheck rfl) ?_
      refine o_val rfl rfl rfl rfl (v_field (k := 0) rfl rfl rfl) ?_
      refine o_val rfl rfl rfl rfl (v_load rfl rfl (gcell0 (g := g3) 0 (by simp [Gr.H]) rfl)) ?_
      refine o_val rfl rfl rfl rfl (v_len rfl rfl) ?_
      refine o_val rfl rfl rfl rfl (v_lss rfl rfl) ?_
      refine o_end ?_
      refine r_if rfl (fun h5 => ?_) (fun h5 => ?_)
      · rw [show n2 - i = (n2 - (i + 1)) + 1 by omega] at ht
        unfold PS.syncs at ht
        obtain ⟨t1, ht1, ht⟩ := Option.bind_eq_some_iff.1 ht
        refine r_skip ?_
        refine r_seq ?_
        refine r_block ?_
        refine r_region rfl ?_
        refine o_val rfl rfl rfl rfl (v_move rfl) ?_
        refine o_val rfl rfl rfl rfl (v_move rfl) ?_
        refine o_call rfl rfl rfl rfl (c_call callable20 rfl) (g_sync _ _ g3 i t1 Fr hg3 ht1) ?_
        rintro v' F4 H' ⟨rfl, g4, hg4, hps4, hga4, rfl⟩ hF4
        have hn4 : g4.ms.length = n2 := by rw [← hpn, hps4, sync_n ht1, hpn, hn3]
        refine o_end ?_
        refine r_inBlock ?_
        refine r_region rfl ?_
        refine o_val rfl rfl rfl rfl (v_move rfl) ?_
        refine o_val rfl rfl rfl rfl (v_add rfl rfl (r := ((i + 1 : Nat) : Int)) (wrap_i64 (by omega) (by omega))) ?_
        refine o_val rfl rfl rfl rfl (v_assign rfl) ?_
        refine o_end ?_
        refine j_keep ?_ (IH (g4, F4, i + 1) ⟨Fz.le_trans hF3 hF4, hg4, by dsimp only; rw [hga4, hga3], hn4, by dsimp only; omega, by dsimp only; rw [hps4]; exact ht⟩ (by dsimp only; omega))
        exact ⟨by rw [← hga3]; rfl, rfl, trivial⟩
      · obtain rfl : i = n2 := by omega
        rw [Nat.sub_self] at ht
        have ht : g3.ps = s' := Option.some.inj ht
        refine r_exit rfl ?_
        exact r_fall0 Tryz.func10 rfl ⟨⟨rfl, g3, hg3, ht, by rw [hga3, hga, hgb], rfl⟩, hF3⟩
/-! ### Who leads -/
set_option maxHeartbeats 2000000 in
theorem g_leader (O : World) (F : Fz) (g : Gr) (Fr : List Ent) (hg : g.ok F) :
    Does Tryz.prog O 11 #[ptrV g.ga] F (g.H Fr) (fun v F' H' => v = .int .i64 g.ps.leader ∧ F' = F ∧ H' = g.H Fr) := by
  refine does_of_run (args := [_]) Tryz.func11 rfl rfl ?_
  have hpn : g.ps.ms.length = g.ms.length := by simp [Gr.ps]
  have hn5 := hg.len
  have hpget : ∀ (i : Nat) (m : Mb), g.ms[i]? = some m → g.ps.ms[i]? = some m.r.p := fun i m h => by simp [Gr.ps, h]
  refine r_seq ?_
  refine r_region rfl ?_
  refine o_val rfl rfl rfl rfl (v_assign rfl) ?_
  refine o_end ?_
  refine r_seq ?_
  refine r_region rfl ?_
  refine o_val rfl rfl rfl rfl (v_assign rfl) ?_
  refine o_end ?_
  refine r_seq ?_
  refine r_seq ?_
  refine r_region rfl ?_
  refine o_val rfl rfl rfl rfl (v_assign rfl) ?_
  refine o_end ?_
  refine r_block ?_
  refine r_loop (fun i : Nat => i ≤ g.ms.length) (fun i => [(0, ptrV g.ga), (3, .int .i64 (g.ps.ledBy i)), (4, .int .i64 i)]) (fun _ => F) (fun _ => g.H Fr) (fun i => g.ms.length - i) 0 (Nat.zero_le _) ⟨rfl, rfl, rfl, trivial⟩ rfl rfl ?_
  rintro i hi IH
  refine r_seq ?_
  refine r_seq ?_
  refine r_region rfl ?_
  refine o_val rfl rfl rfl rfl (v_move rfl) ?_
  refine o_val rfl rfl rfl rfl (v_move rfl) ?_
  refine o_val rfl rfl rfl rfl (v_nilCheck rfl) ?_
  refine o_val rfl rfl rfl rfl (v_field (k := 0) rfl rfl rfl) ?_
  refine o_val rfl rfl rfl rfl (v_load rfl rfl (gcell0 (g := g) 0 (by simp [Gr.H]) rfl)) ?_
  refine o_val rfl rfl rfl rfl (v_len rfl rfl) ?_
  refine o_val rfl rfl rfl rfl (v_lss rfl rfl) ?_
  refine o_end ?_
  refine r_if rfl (fun h5 => ?_) (fun h5 => ?_)
  · have hil : i < g.ms.length := by omega
    have hnext := IH (i + 1) hil (by omega)
    obtain ⟨m, hm⟩ : ∃ m, m = g.ms[i] := ⟨_, rfl⟩
    have hget : g.ms[i]? = some m := by rw [hm]; exact List.getElem?_eq_getElem hil
    have hmi : m ∈ g.ms := List.mem_of_getElem? hget
    have hmr := (hg.ms m hmi).1
    obtain ⟨lb, c, N, hlv, hlm⟩ := g.lbH hg hil
    have hstep : g.ps.ledBy (i + 1) = if m.r.p.role = 3 ∧ (g.ps.ledBy i < 0 ∨ ((g.ps.ms[(g.ps.ledBy i).toNat]?).map PR.term).getD 0 < m.r.p.term) then (i : Int) else g.ps.ledBy i := by
      show (match g.ps.ms[i]? with
        | some p => if p.role = 3 ∧ (g.ps.ledBy i < 0 ∨ ((g.ps.ms[(g.ps.ledBy i).toNat]?).map PR.term).getD 0 < p.term) then (i : Int) else g.ps.ledBy i
        | none => g.ps.ledBy i) = _
      rw [hpget i m hget]
    have hor := ledBy_lt g.ps i
    generalize g.ps.ledBy i = at_ at *
    refine r_skip ?_
    refine r_seq ?_
    refine r_block ?_
    refine r_seq ?_
    rcases hor with hat | ⟨j, hji, hat⟩
    · skip
      refine d_region 1000000 rfl ([g.E, .mem lb (msV g.ms) N, m.E]) ?_
      refine d_take (i := 0) rfl rfl rfl (by decide +kernel) (by decide +kernel) (by decide +kernel) (Fz.le_refl _) (by intro z hz; simp only [List.mem_cons, List.not_mem_nil, or_false] at hz; rcases hz with rfl | rfl | rfl; simp [Gr.H]; exact hlm _; exact mE_in hmi _) rfl (v_move rfl) ?_
      refine d_take (i := 1) rfl rfl rfl (by decide +kernel) (by decide +kernel) (by decide +kernel) (Fz.le_refl _) (by intro z hz; simp only [List.mem_cons, List.not_mem_nil, or_false] at hz; rcases hz with rfl | rfl | rfl; simp [Gr.H]; exact hlm _; exact mE_in hmi _) rfl (v_nilCheck rfl) ?_
      refine d_take (i := 2) rfl rfl rfl (by decide +kernel) (by decide +kernel) (by decide +kernel) (Fz.le_refl _) (by intro z hz; simp only [List.mem_cons, List.not_mem_nil, or_false] at hz; rcases hz with rfl | rfl | rfl; simp [Gr.H]; exact hlm _; exact mE_in hmi _) rfl (v_field (k := 0) rfl rfl rfl) ?_
      refine d_take (i := 3) rfl rfl rfl (by decide +kernel) (by decide +kernel) (by decide +kernel) (Fz.le_refl _) (by intro z hz; simp only [List.mem_cons, List.not_mem_nil, or_false] at hz; rcases hz with rfl | rfl | rfl; simp [Gr.H]; exact hlm _; exact mE_in hmi _) rfl (v_load (v := .slice (some ⟨lb, 0, none⟩) g.ms.length c) rfl rfl (by rw [← hlv]; exact gcell0 (g := g) 0 (by simp) rfl)) ?_
      refine d_take (i := 4) rfl rfl rfl (by decide +kernel) (by decide +kernel) (by decide +kernel) (Fz.le_refl _) (by intro z hz; simp only [List.mem_cons, List.not_mem_nil, or_false] at hz; rcases hz with rfl | rfl | rfl; simp [Gr.H]; exact hlm _; exact mE_in hmi _) rfl (v_move rfl) ?_
      refine d_take (i := 5) rfl rfl rfl (by decide +kernel) (by decide +kernel) (by decide +kernel) (Fz.le_refl _) (by intro z hz; simp only [List.mem_cons, List.not_mem_nil, or_false] at hz; rcases hz with rfl | rfl | rfl; simp [Gr.H]; exact hlm _; exact mE_in hmi _) rfl (v_index1 rfl rfl rfl rfl hil) ?_
      refine d_take (i := 6) rfl rfl rfl (by decide +kernel) (by decide +kernel) (by decide +kernel) (Fz.le_refl _) (by intro z hz; simp only [List.mem_cons, List.not_mem_nil, or_false] at hz; rcases hz with rfl | rfl | rfl; simp [Gr.H]; exact hlm _; exact mE_in hmi _) rfl (v_load (v := ptrV m.ma) rfl rfl (cell_own (cs := msV g.ms) (n := N) (by simp) (msV_get hget))) ?_
      refine d_take (i := 7) rfl rfl rfl (by decide +kernel) (by decide +kernel) (by decide +kernel) (Fz.le_refl _) (by intro z hz; simp only [List.mem_cons, List.not_mem_nil, or_false] at hz; rcases hz with rfl | rfl | rfl; simp [Gr.H]; exact hlm _; exact mE_in hmi _) rfl (v_nilCheck rfl) ?_
      refine d_take (i := 8) rfl rfl rfl (by decide +kernel) (by decide +kernel) (by decide +kernel) (Fz.le_refl _) (by intro z hz; simp only [List.mem_cons, List.not_mem_nil, or_false] at hz; rcases hz with rfl | rfl | rfl; simp [Gr.H]; exact hlm _; exact mE_in hmi _) rfl (v_field (k := 0) rfl rfl rfl) ?_
      refine d_take (i := 9) rfl rfl rfl (by decide +kernel) (by decide +kernel) (by decide +kernel) (Fz.le_refl _) (by intro z hz; simp only [List.mem_cons, List.not_mem_nil, or_false] at hz; rcases hz with rfl | rfl | rfl; simp [Gr.H]; exact hlm _; exact mE_in hmi _) rfl (v_load rfl rfl (ecell (m := m) 0 (by first | exact mE_in hmi _ | simp) rfl)) ?_
      refine d_one (i := 10) (by decide +kernel) ?_
      refine d1_call rfl rfl rfl rfl (c_call callable26 rfl) (g_rd hget (fun X => r_Leads _ _ m.ra m.r X)) ?_
      rintro v' F H' ⟨rfl, rfl, rfl⟩ _
      refine ⟨fun w hw => held_of hw (by first | exact Fz.le_refl _ | assumption) (by intro z hz; simp only [List.mem_cons, List.not_mem_nil, or_false] at hz; rcases hz with rfl | rfl | rfl; simp [Gr.H]; exact hlm _; exact mE_in hmi _), ?_⟩
      refine j_prop 24 rfl (fun h6 => ?_) (fun h6 => ?_)
      · refine d_take (i := 11) rfl rfl rfl (by decide +kernel) (by decide +kernel) (by decide +kernel) (Fz.le_refl _) (by intro z hz; simp only [List.mem_cons, List.not_mem_nil, or_false] at hz; rcases hz with rfl | rfl | rfl; simp [Gr.H]; exact hlm _; exact mE_in hmi _) rfl (v_move rfl) ?_
        refine d_take (i := 12) rfl rfl rfl (by decide +kernel) (by decide +kernel) (by decide +kernel) (Fz.le_refl _) (by intro z hz; simp only [List.mem_cons, List.not_mem_nil, or_false] at hz; rcases hz with rfl | rfl | rfl; simp [Gr.H]; exact hlm _; exact mE_in hmi _) rfl (v_move rfl) ?_
        refine d_take (i := 13) rfl rfl rfl (by decide +kernel) (by decide +kernel) (by decide +kernel) (Fz.le_refl _) (by intro z hz; simp only [List.mem_cons, List.not_mem_nil, or_false] at hz; rcases hz with rfl | rfl | rfl; simp [Gr.H]; exact hlm _; exact mE_in hmi _) rfl (v_lss rfl rfl) ?_
        refine j_slot 27 rfl (v' := .bool true) (congrArg Value.bool (decide_eq_true (by omega))) ?_
        rw [if_pos ⟨h6, .inl (by omega)⟩] at hstep
        refine d_take (i := 14) rfl rfl rfl (by decide +kernel) (by decide +kernel) (by decide +kernel) (Fz.le_refl _) (by intro z hz; simp only [List.mem_cons, List.not_mem_nil, or_false] at hz; rcases hz with rfl | rfl | rfl; simp [Gr.H]; exact hlm _; exact mE_in hmi _) rfl (v_move rfl) ?_
        refine d_skip (i := 15) rfl rfl rfl (by decide +kernel) (by decide +kernel) (by decide +kernel) (Fz.le_refl _) (by intro z hz; simp only [List.mem_cons, List.not_mem_nil, or_false] at hz; rcases hz with rfl | rfl | rfl; simp [Gr.H]; exact hlm _; exact mE_in hmi _) rfl ?_
        refine d_skip (i := 16) rfl rfl rfl (by decide +kernel) (by decide +kernel) (by decide +kernel) (Fz.le_refl _) (by intro z hz; simp only [List.mem_cons, List.not_mem_nil, or_false] at hz; rcases hz with rfl | rfl | rfl; simp [Gr.H]; exact hlm _; exact mE_in hmi _) rfl ?_
        refine d_skip (i := 17) rfl rfl rfl (by decide +kernel) (by decide +kernel) (by decide +kernel) (Fz.le_refl _) (by intro z hz; simp only [List.mem_cons, List.not_mem_nil, or_false] at hz; rcases hz with rfl | rfl | rfl; simp [Gr.H]; exact hlm _; exact mE_in hmi _) rfl ?_
        refine d_skip (i := 18) rfl rfl rfl (by decide +kernel) (by decide +kernel) (by decide +kernel) (Fz.le_refl _) (by intro z hz; simp only [List.mem_cons, List.not_mem_nil, or_false] at hz; rcases hz with rfl | rfl | rfl; simp [Gr.H]; exact hlm _; exact mE_in hmi _) rfl ?_
        refine d_skip (i := 19) rfl rfl rfl (by decide +kernel) (by decide +kernel) (by decide +kernel) (Fz.le_refl _) (by intro z hz; simp only [List.mem_cons, List.not_mem_nil, or_false] at hz; rcases hz with rfl | rfl | rfl; simp [Gr.H]; exact hlm _; exact mE_in hmi _) rfl ?_
        refine d_skip (i := 20) rfl rfl rfl (by decide +kernel) (by decide +kernel) (by decide +kernel) (Fz.le_refl _) (by intro z hz; simp only [List.mem_cons, List.not_mem_nil, or_false] at hz; rcases hz with rfl | rfl | rfl; simp [Gr.H]; exact hlm _; exact mE_in hmi _) rfl ?_
        refine d_skip (i := 21) rfl rfl rfl (by decide +kernel) (by decide +kernel) (by decide +kernel) (Fz.le_refl _) (by intro z hz; simp only [List.mem_cons, List.not_mem_nil, or_false] at hz; rcases hz with rfl | rfl | rfl; simp [Gr.H]; exact hlm _; exact mE_in hmi _) rfl ?_
        refine d_skip (i := 22) rfl rfl rfl (by decide +kernel) (by decide +kernel) (by decide +kernel) (Fz.le_refl _) (by intro z hz; simp only [List.mem_cons, List.not_mem_nil, or_false] at hz; rcases hz with rfl | rfl | rfl; simp [Gr.H]; exact hlm _; exact mE_in hmi _) rfl ?_
        refine d_skip (i := 23) rfl rfl rfl (by decide +kernel) (by decide +kernel) (by decide +kernel) (Fz.le_refl _) (by intro z hz; simp only [List.mem_cons, List.not_mem_nil, or_false] at hz; rcases hz with rfl | rfl | rfl; simp [Gr.H]; exact hlm _; exact mE_in hmi _) rfl ?_
        refine d_skip (i := 24) rfl rfl rfl (by decide +kernel) (by decide +kernel) (by decide +kernel) (Fz.le_refl _) (by intro z hz; simp only [List.mem_cons, List.not_mem_nil, or_false] at hz; rcases hz with rfl | rfl | rfl; simp [Gr.H]; exact hlm _; exact mE_in hmi _) rfl ?_
        refine d_skip (i := 25) rfl rfl rfl (by decide +kernel) (by decide +kernel) (by decide +kernel) (Fz.le_refl _) (by intro z hz; simp only [List.mem_cons, List.not_mem_nil, or_false] at hz; rcases hz with rfl | rfl | rfl; simp [Gr.H]; exact hlm _; exact mE_in hmi _) rfl ?_
        refine d_skip (i := 26) rfl rfl rfl (by decide +kernel) (by decide +kernel) (by decide +kernel) (Fz.le_refl _) (by intro z hz; simp only [List.mem_cons, List.not_mem_nil, or_false] at hz; rcases hz with rfl | rfl | rfl; simp [Gr.H]; exact hlm _; exact mE_in hmi _) rfl ?_
        refine d_skip (i := 27) rfl rfl rfl (by decide +kernel) (by decide +kernel) (by decide +kernel) (Fz.le_refl _) (by intro z hz; simp only [List.mem_cons, List.not_mem_nil, or_false] at hz; rcases hz with rfl | rfl | rfl; simp [Gr.H]; exact hlm _; exact mE_in hmi _) rfl ?_
        refine d_skip (i := 28) rfl rfl rfl (by decide +kernel) (by decide +kernel) (by decide +kernel) (Fz.le_refl _) (by intro z hz; simp only [List.mem_cons, List.not_mem_nil, or_false] at hz; rcases hz with rfl | rfl | rfl; simp [Gr.H]; exact hlm _; exact mE_in hmi _) rfl ?_
        refine d_skip (i := 29) rfl rfl rfl (by decide +kernel) (by decide +kernel) (by decide +kernel) (Fz.le_refl _) (by intro z hz; simp only [List.mem_cons, List.not_mem_nil, or_false] at hz; rcases hz with rfl | rfl | rfl; simp [Gr.H]; exact hlm _; exact mE_in hmi _) rfl ?_
        refine d_skip (i := 30) rfl rfl rfl (by decide +kernel) (by decide +kernel) (by decide +kernel) (Fz.le_refl _) (by intro z hz; simp only [List.mem_cons, List.not_mem_nil, or_false] at hz; rcases hz with rfl | rfl | rfl; simp [Gr.H]; exact hlm _; exact mE_in hmi _) rfl ?_
        refine d_skip (i := 31) rfl rfl rfl (by decide +kernel) (by decide +kernel) (by decide +kernel) (Fz.le_refl _) (by intro z hz; simp only [List.mem_cons, List.not_mem_nil, or_false] at hz; rcases hz with rfl | rfl | rfl; simp [Gr.H]; exact hlm _; exact mE_in hmi _) rfl ?_
        refine d_skip (i := 32) rfl rfl rfl (by decide +kernel) (by decide +kernel) (by decide +kernel) (Fz.le_refl _) (by intro z hz; simp only [List.mem_cons, List.not_mem_nil, or_false] at hz; rcases hz with rfl | rfl | rfl; simp [Gr.H]; exact hlm _; exact mE_in hmi _) rfl ?_
        refine d_skip (i := 33) rfl rfl rfl (by decide +kernel) (by decide +kernel) (by decide +kernel) (Fz.le_refl _) (by intro z hz; simp only [List.mem_cons, List.not_mem_nil, or_false] at hz; rcases hz with rfl | rfl | rfl; simp [Gr.H]; exact hlm _; exact mE_in hmi _) rfl ?_
        refine d_skip (i := 34) rfl rfl rfl (by decide +kernel) (by decide +kernel) (by decide +kernel) (Fz.le_refl _) (by intro z hz; simp only [List.mem_cons, List.not_mem_nil, or_false] at hz; rcases hz with rfl | rfl | rfl; simp [Gr.H]; exact hlm _; exact mE_in hmi _) rfl ?_
        refine d_skip (i := 35) rfl rfl rfl (by decide +kernel) (by decide +kernel) (by decide +kernel) (Fz.le_refl _) (by intro z hz; simp only [List.mem_cons, List.not_mem_nil, or_false] at hz; rcases hz with rfl | rfl | rfl; simp [Gr.H]; exact hlm _; exact mE_in hmi _) rfl ?_
        refine d_skip (i := 36) rfl rfl rfl (by decide +kernel) (by decide +kernel) (by decide +kernel) (Fz.le_refl _) (by intro z hz; simp only [List.mem_cons, List.not_mem_nil, or_false] at hz; rcases hz with rfl | rfl | rfl; simp [Gr.H]; exact hlm _; exact mE_in hmi _) rfl ?_
        refine d_skip (i := 37) rfl rfl rfl (by decide +kernel) (by decide +kernel) (by decide +kernel) (Fz.le_refl _) (by intro z hz; simp only [List.mem_cons, List.not_mem_nil, or_false] at hz; rcases hz with rfl | rfl | rfl; simp [Gr.H]; exact hlm _; exact mE_in hmi _) rfl ?_
        refine d_take (i := 38) rfl rfl rfl (by decide +kernel) (by decide +kernel) (by decide +kernel) (Fz.le_refl _) (by intro z hz; simp only [List.mem_cons, List.not_mem_nil, or_false] at hz; rcases hz with rfl | rfl | rfl; simp [Gr.H]; exact hlm _; exact mE_in hmi _) rfl (v_pick1 rfl rfl) ?_
        refine d_take (i := 39) rfl rfl rfl (by decide +kernel) (by decide +kernel) (by decide +kernel) (Fz.le_refl _) (by intro z hz; simp only [List.mem_cons, List.not_mem_nil, or_false] at hz; rcases hz with rfl | rfl | rfl; simp [Gr.H]; exact hlm _; exact mE_in hmi _) rfl (v_pick1 rfl rfl) ?_
        refine d_end (by decide +kernel) ?_
        refine r_true rfl ?_
        refine r_region rfl ?_
        refine o_val rfl rfl rfl rfl (v_move rfl) ?_
        refine o_val rfl rfl rfl rfl (v_assign rfl) ?_
        refine o_end ?_
        refine r_inBlock ?_
        refine r_region rfl ?_
        refine o_val rfl rfl rfl rfl (v_move rfl) ?_
        refine o_val rfl rfl rfl rfl (v_add rfl rfl (r := ((i + 1 : Nat) : Int)) (wrap_i64 (by omega) (by omega))) ?_
        refine o_val rfl rfl rfl rfl (v_assign rfl) ?_
        refine o_end ?_
        refine j_keep ?_ hnext
        exact ⟨rfl, by rw [hstep]; rfl, rfl, trivial⟩
      · rw [if_neg (fun h => h6 h.1)] at hstep
        refine d_take (i := 11) rfl rfl rfl (by decide +kernel) (by decide +kernel) (by decide +kernel) (Fz.le_refl _) (by intro z hz; simp only [List.mem_cons, List.not_mem_nil, or_false] at hz; rcases hz with rfl | rfl | rfl; simp [Gr.H]; exact hlm _; exact mE_in hmi _) rfl (v_move rfl) ?_
        refine d_skip (i := 12) rfl rfl rfl (by decide +kernel) (by decide +kernel) (by decide +kernel) (Fz.le_refl _) (by intro z hz; simp only [List.mem_cons, List.not_mem_nil, or_false] at hz; rcases hz with rfl | rfl | rfl; simp [Gr.H]; exact hlm _; exact mE_in hmi _) rfl ?_
        refine d_skip (i := 13) rfl rfl rfl (by decide +kernel) (by decide +kernel) (by decide +kernel) (Fz.le_refl _) (by intro z hz; simp only [List.mem_cons, List.not_mem_nil, or_false] at hz; rcases hz with rfl | rfl | rfl; simp [Gr.H]; exact hlm _; exact mE_in hmi _) rfl ?_
        refine d_skip (i := 14) rfl rfl rfl (by decide +kernel) (by decide +kernel) (by decide +kernel) (Fz.le_refl _) (by intro z hz; simp only [List.mem_cons, List.not_mem_nil, or_false] at hz; rcases hz with rfl | rfl | rfl; simp [Gr.H]; exact hlm _; exact mE_in hmi _) rfl ?_
        refine d_skip (i := 15) rfl rfl rfl (by decide +kernel) (by decide +kernel) (by decide +kernel) (Fz.le_refl _) (by intro z hz; simp only [List.mem_cons, List.not_mem_nil, or_false] at hz; rcases hz with rfl | rfl | rfl; simp [Gr.H]; exact hlm _; exact mE_in hmi _) rfl ?_
        refine d_skip (i := 16) rfl rfl rfl (by decide +kernel) (by decide +kernel) (by decide +kernel) (Fz.le_refl _) (by intro z hz; simp only [List.mem_cons, List.not_mem_nil, or_false] at hz; rcases hz with rfl | rfl | rfl; simp [Gr.H]; exact hlm _; exact mE_in hmi _) rfl ?_
        refine d_skip (i := 17) rfl rfl rfl (by decide +kernel) (by decide +kernel) (by decide +kernel) (Fz.le_refl _) (by intro z hz; simp only [List.mem_cons, List.not_mem_nil, or_false] at hz; rcases hz with rfl | rfl | rfl; simp [Gr.H]; exact hlm _; exact mE_in hmi _) rfl ?_
        refine d_skip (i := 18) rfl rfl rfl (by decide +kernel) (by decide +kernel) (by decide +kernel) (Fz.le_refl _) (by intro z hz; simp only [List.mem_cons, List.not_mem_nil, or_false] at hz; rcases hz with rfl | rfl | rfl; simp [Gr.H]; exact hlm _; exact mE_in hmi _) rfl ?_
        refine d_skip (i := 19) rfl rfl rfl (by decide +kernel) (by decide +kernel) (by decide +kernel) (Fz.le_refl _) (by intro z hz; simp only [List.mem_cons, List.not_mem_nil, or_false] at hz; rcases hz with rfl | rfl | rfl; simp [Gr.H]; exact hlm _; exact mE_in hmi _) rfl ?_
        refine d_skip (i := 20) rfl rfl rfl (by decide +kernel) (by decide +kernel) (by decide +kernel) (Fz.le_refl _) (by intro z hz; simp only [List.mem_cons, List.not_mem_nil, or_false] at hz; rcases hz with rfl | rfl | rfl; simp [Gr.H]; exact hlm _; exact mE_in hmi _) rfl ?_
        refine d_skip (i := 21) rfl rfl rfl (by decide +kernel) (by decide +kernel) (by decide +kernel) (Fz.le_refl _) (by intro z hz; simp only [List.mem_cons, List.not_mem_nil, or_false] at hz; rcases hz with rfl | rfl | rfl; simp [Gr.H]; exact hlm _; exact mE_in hmi _) rfl ?_
        refine d_skip (i := 22) rfl rfl rfl (by decide +kernel) (by decide +kernel) (by decide +kernel) (Fz.le_refl _) (by intro z hz; simp only [List.mem_cons, List.not_mem_nil, or_false] at hz; rcases hz with rfl | rfl | rfl; simp [Gr.H]; exact hlm _; exact mE_in hmi _) rfl ?_
        refine d_skip (i := 23) rfl rfl rfl (by decide +kernel) (by decide +kernel) (by decide +kernel) (Fz.le_refl _) (by intro z hz; simp only [List.mem_cons, List.not_mem_nil, or_false] at hz; rcases hz with rfl | rfl | rfl; simp [Gr.H]; exact hlm _; exact mE_in hmi _) rfl ?_
        refine d_skip (i := 24) rfl rfl rfl (by decide +kernel) (by decide +kernel) (by decide +kernel) (Fz.le_refl _) (by intro z hz; simp only [List.mem_cons, List.not_mem_nil, or_false] at hz; rcases hz with rfl | rfl | rfl; simp [Gr.H]; exact hlm _; exact mE_in hmi _) rfl ?_
        refine d_skip (i := 25) rfl rfl rfl (by decide +kernel) (by decide +kernel) (by decide +kernel) (Fz.le_refl _) (by intro z hz; simp only [List.mem_cons, List.not_mem_nil, or_false] at hz; rcases hz with rfl | rfl | rfl; simp [Gr.H]; exact hlm _; exact mE_in hmi _) rfl ?_
        refine d_skip (i := 26) rfl rfl rfl (by decide +kernel) (by decide +kernel) (by decide +kernel) (Fz.le_refl _) (by intro z hz; simp only [List.mem_cons, List.not_mem_nil, or_false] at hz; rcases hz with rfl | rfl | rfl; simp [Gr.H]; exact hlm _; exact mE_in hmi _) rfl ?_
        refine d_skip (i := 27) rfl rfl rfl (by decide +kernel) (by decide +kernel) (by decide +kernel) (Fz.le_refl _) (by intro z hz; simp only [List.mem_cons, List.not_mem_nil, or_false] at hz; rcases hz with rfl | rfl | rfl; simp [Gr.H]; exact hlm _; exact mE_in hmi _) rfl ?_
        refine d_skip (i := 28) rfl rfl rfl (by decide +kernel) (by decide +kernel) (by decide +kernel) (Fz.le_refl _) (by intro z hz; simp only [List.mem_cons, List.not_mem_nil, or_false] at hz; rcases hz with rfl | rfl | rfl; simp [Gr.H]; exact hlm _; exact mE_in hmi _) rfl ?_
        refine d_skip (i := 29) rfl rfl rfl (by decide +kernel) (by decide +kernel) (by decide +kernel) (Fz.le_refl _) (by intro z hz; simp only [List.mem_cons, List.not_mem_nil, or_false] at hz; rcases hz with rfl | rfl | rfl; simp [Gr.H]; exact hlm _; exact mE_in hmi _) rfl ?_
        refine d_skip (i := 30) rfl rfl rfl (by decide +kernel) (by decide +kernel) (by decide +kernel) (Fz.le_refl _) (by intro z hz; simp only [List.mem_cons, List.not_mem_nil, or_false] at hz; rcases hz with rfl | rfl | rfl; simp [Gr.H]; exact hlm _; exact mE_in hmi _) rfl ?_
        refine d_skip (i := 31) rfl rfl rfl (by decide +kernel) (by decide +kernel) (by decide +kernel) (Fz.le_refl _) (by intro z hz; simp only [List.mem_cons, List.not_mem_nil, or_false] at hz; rcases hz with rfl | rfl | rfl; simp [Gr.H]; exact hlm _; exact mE_in hmi _) rfl ?_
        refine d_skip (i := 32) rfl rfl rfl (by decide +kernel) (by decide +kernel) (by decide +kernel) (Fz.le_refl _) (by intro z hz; simp only [List.mem_cons, List.not_mem_nil, or_false] at hz; rcases hz with rfl | rfl | rfl; simp [Gr.H]; exact hlm _; exact mE_in hmi _) rfl ?_
        refine d_skip (i := 33) rfl rfl rfl (by decide +kernel) (by decide +kernel) (by decide +kernel) (Fz.le_refl _) (by intro z hz; simp only [List.mem_cons, List.not_mem_nil, or_false] at hz; rcases hz with rfl | rfl | rfl; simp [Gr.H]; exact hlm _; exact mE_in hmi _) rfl ?_
        refine d_skip (i := 34) rfl rfl rfl (by decide +kernel) (by decide +kernel) (by decide +kernel) (Fz.le_refl _) (by intro z hz; simp only [List.mem_cons, List.not_mem_nil, or_false] at hz; rcases hz with rfl | rfl | rfl; simp [Gr.H]; exact hlm _; exact mE_in hmi _) rfl ?_
        refine d_skip (i := 35) rfl rfl rfl (by decide +kernel) (by decide +kernel) (by decide +kernel) (Fz.le_refl _) (by intro z hz; simp only [List.mem_cons, List.not_mem_nil, or_false] at hz; rcases hz with rfl | rfl | rfl; simp [Gr.H]; exact hlm _; exact mE_in hmi _) rfl ?_
        refine d_skip (i := 36) rfl rfl rfl (by decide +kernel) (by decide +kernel) (by decide +kernel) (Fz.le_refl _) (by intro z hz; simp only [List.mem_cons, List.not_mem_nil, or_false] at hz; rcases hz with rfl | rfl | rfl; simp [Gr.H]; exact hlm _; exact mE_in hmi _) rfl ?_
        refine d_skip (i := 37) rfl rfl rfl (by decide +kernel) (by decide +kernel) (by decide +kernel) (Fz.le_refl _) (by intro z hz; simp only [List.mem_cons, List.not_mem_nil, or_false] at hz; rcases hz with rfl | rfl | rfl; simp [Gr.H]; exact hlm _; exact mE_in hmi _) rfl ?_
        refine d_skip (i := 38) rfl rfl rfl (by decide +kernel) (by decide +kernel) (by decide +kernel) (Fz.le_refl _) (by intro z hz; simp only [List.mem_cons, List.not_mem_nil, or_false] at hz; rcases hz with rfl | rfl | rfl; simp [Gr.H]; exact hlm _; exact mE_in hmi _) rfl ?_
        refine d_take (i := 39) rfl rfl rfl (by decide +kernel) (by decide +kernel) (by decide +kernel) (Fz.le_refl _) (by intro z hz; simp only [List.mem_cons, List.not_mem_nil, or_false] at hz; rcases hz with rfl | rfl | rfl; simp [Gr.H]; exact hlm _; exact mE_in hmi _) rfl (v_pick0 rfl rfl) ?_
        refine d_end (by decide +kernel) ?_
        refine r_false rfl ?_
        refine r_skip ?_
        refine r_inBlock ?_
        refine r_region rfl ?_
        refine o_val rfl rfl rfl rfl (v_move rfl) ?_
        refine o_val rfl rfl rfl rfl (v_add rfl rfl (r := ((i + 1 : Nat) : Int)) (wrap_i64 (by omega) (by omega))) ?_
        refine o_val rfl rfl rfl rfl (v_assign rfl) ?_
        refine o_end ?_
        refine j_keep ?_ hnext
        exact ⟨rfl, by rw [hstep]; rfl, rfl, trivial⟩
    · obtain ⟨m2, hm2⟩ : ∃ m2, m2 = g.ms[j] := ⟨_, rfl⟩
      have hget2 : g.ms[j]? = some m2 := by rw [hm2]; exact List.getElem?_eq_getElem (by omega)
      have hmi2 : m2 ∈ g.ms := List.mem_of_getElem? hget2
      have hjl : j < g.ms.length := by omega
      have hterm : ((g.ps.ms[at_.toNat]?).map PR.term).getD 0 = m2.r.p.term := by
        rw [hat, Int.toNat_natCast, hpget j m2 hget2]
        rfl
      rw [hterm] at hstep
      refine d_region 1000000 rfl ([g.E, .mem lb (msV g.ms) N, m.E, m2.E]) ?_
      refine d_take (i := 0) rfl rfl rfl (by decide +kernel) (by decide +kernel) (by decide +kernel) (Fz.le_refl _) (by intro z hz; simp only [List.mem_cons, List.not_mem_nil, or_false] at hz; rcases hz with rfl | rfl | rfl | rfl; simp [Gr.H]; exact hlm _; exact mE_in hmi _; exact mE_in hmi2 _) rfl (v_move rfl) ?_
      refine d_take (i := 1) rfl rfl rfl (by decide +kernel) (by decide +kernel) (by decide +kernel) (Fz.le_refl _) (by intro z hz; simp only [List.mem_cons, List.not_mem_nil, or_false] at hz; rcases hz with rfl | rfl | rfl | rfl; simp [Gr.H]; exact hlm _; exact mE_in hmi _; exact mE_in hmi2 _) rfl (v_nilCheck rfl) ?_
      refine d_take (i := 2) rfl rfl rfl (by decide +kernel) (by decide +kernel) (by decide +kernel) (Fz.le_refl _) (by intro z hz; simp only [List.mem_cons, List.not_mem_nil, or_false] at hz; rcases hz with rfl | rfl | rfl | rfl; simp [Gr.H]; exact hlm _; exact mE_in hmi _; exact mE_in hmi2 _) rfl (v_field (k := 0) rfl rfl rfl) ?_
      refine d_take (i := 3) rfl rfl rfl (by decide +kernel) (by decide +kernel) (by decide +kernel) (Fz.le_refl _) (by intro z hz; simp only [List.mem_cons, List.not_mem_nil, or_false] at hz; rcases hz with rfl | rfl | rfl | rfl; simp [Gr.H]; exact hlm _; exact mE_in hmi _; exact mE_in hmi2 _) rfl (v_load (v := .slice (some ⟨lb, 0, none⟩) g.ms.length c) rfl rfl (by rw [← hlv]; exact gcell0 (g := g) 0 (by simp) rfl)) ?_
      refine d_take (i := 4) rfl rfl rfl (by decide +kernel) (by decide +kernel) (by decide +kernel) (Fz.le_refl _) (by intro z hz; simp only [List.mem_cons, List.not_mem_nil, or_false] at hz; rcases hz with rfl | rfl | rfl | rfl; simp [Gr.H]; exact hlm _; exact mE_in hmi _; exact mE_in hmi2 _) rfl (v_move rfl) ?_
      refine d_take (i := 5) rfl rfl rfl (by decide +kernel) (by decide +kernel) (by decide +kernel) (Fz.le_refl _) (by intro z hz; simp only [List.mem_cons, List.not_mem_nil, or_false] at hz; rcases hz with rfl | rfl | rfl | rfl; simp [Gr.H]; exact hlm _; exact mE_in hmi _; exact mE_in hmi2 _) rfl (v_index1 rfl rfl rfl rfl hil) ?_
      refine d_take (i := 6) rfl rfl rfl (by decide +kernel) (by decide +kernel) (by decide +kernel) (Fz.le_refl _) (by intro z hz; simp only [List.mem_cons, List.not_mem_nil, or_false] at hz; rcases hz with rfl | rfl | rfl | rfl; simp [Gr.H]; exact hlm _; exact mE_in hmi _; exact mE_in hmi2 _) rfl (v_load (v := ptrV m.ma) rfl rfl (cell_own (cs := msV g.ms) (n := N) (by simp) (msV_get hget))) ?_
      refine d_take (i := 7) rfl rfl rfl (by decide +kernel) (by decide +kernel) (by decide +kernel) (Fz.le_refl _) (by intro z hz; simp only [List.mem_cons, List.not_mem_nil, or_false] at hz; rcases hz with rfl | rfl | rfl | rfl; simp [Gr.H]; exact hlm _; exact mE_in hmi _; exact mE_in hmi2 _) rfl (v_nilCheck rfl) ?_
      refine d_take (i := 8) rfl rfl rfl (by decide +kernel) (by decide +kernel) (by decide +kernel) (Fz.le_refl _) (by intro z hz; simp only [List.mem_cons, List.not_mem_nil, or_false] at hz; rcases hz with rfl | rfl | rfl | rfl; simp [Gr.H]; exact hlm _; exact mE_in hmi _; exact mE_in hmi2 _) rfl (v_field (k := 0) rfl rfl rfl) ?_
      refine d_take (i := 9) rfl rfl rfl (by decide +kernel) (by decide +kernel) (by decide +kernel) (Fz.le_refl _) (by intro z hz; simp only [List.mem_cons, List.not_mem_nil, or_false] at hz; rcases hz with rfl | rfl | rfl | rfl; simp [Gr.H]; exact hlm _; exact mE_in hmi _; exact mE_in hmi2 _) rfl (v_load rfl rfl (ecell (m := m) 0 (by first | exact mE_in hmi _ | simp) rfl)) ?_
      refine d_one (i := 10) (by decide +kernel) ?_
      refine d1_call rfl rfl rfl rfl (c_call callable26 rfl) (g_rd hget (fun X => r_Leads _ _ m.ra m.r X)) ?_
      rintro v' F H' ⟨rfl, rfl, rfl⟩ _
      refine ⟨fun w hw => held_of hw (by first | exact Fz.le_refl _ | assumption) (by intro z hz; simp only [List.mem_cons, List.not_mem_nil, or_false] at hz; rcases hz with rfl | rfl | rfl | rfl; simp [Gr.H]; exact hlm _; exact mE_in hmi _; exact mE_in hmi2 _), ?_⟩
      refine j_prop 24 rfl (fun h6 => ?_) (fun h6 => ?_)
      · refine d_take (i := 11) rfl rfl rfl (by decide +kernel) (by decide +kernel) (by decide +kernel) (Fz.le_refl _) (by intro z hz; simp only [List.mem_cons, List.not_mem_nil, or_false] at hz; rcases hz with rfl | rfl | rfl | rfl; simp [Gr.H]; exact hlm _; exact mE_in hmi _; exact mE_in hmi2 _) rfl (v_move rfl) ?_
        refine d_take (i := 12) rfl rfl rfl (by decide +kernel) (by decide +kernel) (by decide +kernel) (Fz.le_refl _) (by intro z hz; simp only [List.mem_cons, List.not_mem_nil, or_false] at hz; rcases hz with rfl | rfl | rfl | rfl; simp [Gr.H]; exact hlm _; exact mE_in hmi _; exact mE_in hmi2 _) rfl (v_move rfl) ?_
        refine d_take (i := 13) rfl rfl rfl (by decide +kernel) (by decide +kernel) (by decide +kernel) (Fz.le_refl _) (by intro z hz; simp only [List.mem_cons, List.not_mem_nil, or_false] at hz; rcases hz with rfl | rfl | rfl | rfl; simp [Gr.H]; exact hlm _; exact mE_in hmi _; exact mE_in hmi2 _) rfl (v_lss rfl rfl) ?_
        refine j_slot 27 rfl (v' := .bool false) (congrArg Value.bool (decide_eq_false (by omega))) ?_
        refine d_take (i := 14) rfl rfl rfl (by decide +kernel) (by decide +kernel) (by decide +kernel) (Fz.le_refl _) (by intro z hz; simp only [List.mem_cons, List.not_mem_nil, or_false] at hz; rcases hz with rfl | rfl | rfl | rfl; simp [Gr.H]; exact hlm _; exact mE_in hmi _; exact mE_in hmi2 _) rfl (v_move rfl) ?_
        refine d_take (i := 15) rfl rfl rfl (by decide +kernel) (by decide +kernel) (by decide +kernel) (Fz.le_refl _) (by intro z hz; simp only [List.mem_cons, List.not_mem_nil, or_false] at hz; rcases hz with rfl | rfl | rfl | rfl; simp [Gr.H]; exact hlm _; exact mE_in hmi _; exact mE_in hmi2 _) rfl (v_move rfl) ?_
        refine d_take (i := 16) rfl rfl rfl (by decide +kernel) (by decide +kernel) (by decide +kernel) (Fz.le_refl _) (by intro z hz; simp only [List.mem_cons, List.not_mem_nil, or_false] at hz; rcases hz with rfl | rfl | rfl | rfl; simp [Gr.H]; exact hlm _; exact mE_in hmi _; exact mE_in hmi2 _) rfl (v_nilCheck rfl) ?_
        refine d_take (i := 17) rfl rfl rfl (by decide +kernel) (by decide +kernel) (by decide +kernel) (Fz.le_refl _) (by intro z hz; simp only [List.mem_cons, List.not_mem_nil, or_false] at hz; rcases hz with rfl | rfl | rfl | rfl; simp [Gr.H]; exact hlm _; exact mE_in hmi _; exact mE_in hmi2 _) rfl (v_field (k := 0) rfl rfl rfl) ?_
        refine d_take (i := 18) rfl rfl rfl (by decide +kernel) (by decide +kernel) (by decide +kernel) (Fz.le_refl _) (by intro z hz; simp only [List.mem_cons, List.not_mem_nil, or_false] at hz; rcases hz with rfl | rfl | rfl | rfl; simp [Gr.H]; exact hlm _; exact mE_in hmi _; exact mE_in hmi2 _) rfl (v_load (v := .slice (some ⟨lb, 0, none⟩) g.ms.length c) rfl rfl (by rw [← hlv]; exact gcell0 (g := g) 0 (by simp) rfl)) ?_
        refine d_take (i := 19) rfl rfl rfl (by decide +kernel) (by decide +kernel) (by decide +kernel) (Fz.le_refl _) (by intro z hz; simp only [List.mem_cons, List.not_mem_nil, or_false] at hz; rcases hz with rfl | rfl | rfl | rfl; simp [Gr.H]; exact hlm _; exact mE_in hmi _; exact mE_in hmi2 _) rfl (v_move rfl) ?_
        refine d_take (i := 20) rfl rfl rfl (by decide +kernel) (by decide +kernel) (by decide +kernel) (Fz.le_refl _) (by intro z hz; simp only [List.mem_cons, List.not_mem_nil, or_false] at hz; rcases hz with rfl | rfl | rfl | rfl; simp [Gr.H]; exact hlm _; exact mE_in hmi _; exact mE_in hmi2 _) rfl (v_index1 rfl rfl rfl rfl hil) ?_
        refine d_take (i := 21) rfl rfl rfl (by decide +kernel) (by decide +kernel) (by decide +kernel) (Fz.le_refl _) (by intro z hz; simp only [List.mem_cons, List.not_mem_nil, or_false] at hz; rcases hz with rfl | rfl | rfl | rfl; simp [Gr.H]; exact hlm _; exact mE_in hmi _; exact mE_in hmi2 _) rfl (v_load (v := ptrV m.ma) rfl rfl (cell_own (cs := msV g.ms) (n := N) (by simp) (msV_get hget))) ?_
        refine d_take (i := 26) rfl rfl rfl (by decide +kernel) (by decide +kernel) (by decide +kernel) (Fz.le_refl _) (by intro z hz; simp only [List.mem_cons, List.not_mem_nil, or_false] at hz; rcases hz with rfl | rfl | rfl | rfl; simp [Gr.H]; exact hlm _; exact mE_in hmi _; exact mE_in hmi2 _) rfl (v_move rfl) ?_
        refine d_take (i := 27) rfl rfl rfl (by decide +kernel) (by decide +kernel) (by decide +kernel) (Fz.le_refl _) (by intro z hz; simp only [List.mem_cons, List.not_mem_nil, or_false] at hz; rcases hz with rfl | rfl | rfl | rfl; simp [Gr.H]; exact hlm _; exact mE_in hmi _; exact mE_in hmi2 _) rfl (v_nilCheck rfl) ?_
        refine d_take (i := 28) rfl rfl rfl (by decide +kernel) (by decide +kernel) (by decide +kernel) (Fz.le_refl _) (by intro z hz; simp only [List.mem_cons, List.not_mem_nil, or_false] at hz; rcases hz with rfl | rfl | rfl | rfl; simp [Gr.H]; exact hlm _; exact mE_in hmi _; exact mE_in hmi2 _) rfl (v_field (k := 0) rfl rfl rfl) ?_
        refine d_take (i := 29) rfl rfl rfl (by decide +kernel) (by decide +kernel) (by decide +kernel) (Fz.le_refl _) (by intro z hz; simp only [List.mem_cons, List.not_mem_nil, or_false] at hz; rcases hz with rfl | rfl | rfl | rfl; simp [Gr.H]; exact hlm _; exact mE_in hmi _; exact mE_in hmi2 _) rfl (v_load (v := .slice (some ⟨lb, 0, none⟩) g.ms.length c) rfl rfl (by rw [← hlv]; exact gcell0 (g := g) 0 (by simp) rfl)) ?_
        refine d_take (i := 30) rfl rfl rfl (by decide +kernel) (by decide +kernel) (by decide +kernel) (Fz.le_refl _) (by intro z hz; simp only [List.mem_cons, List.not_mem_nil, or_false] at hz; rcases hz with rfl | rfl | rfl | rfl; simp [Gr.H]; exact hlm _; exact mE_in hmi _; exact mE_in hmi2 _) rfl (v_move rfl) ?_
        refine d_take (i := 22) rfl rfl rfl (by decide +kernel) (by decide +kernel) (by decide +kernel) (Fz.le_refl _) (by intro z hz; simp only [List.mem_cons, List.not_mem_nil, or_false] at hz; rcases hz with rfl | rfl | rfl | rfl; simp [Gr.H]; exact hlm _; exact mE_in hmi _; exact mE_in hmi2 _) rfl (v_nilCheck rfl) ?_
        refine d_take (i := 23) rfl rfl rfl (by decide +kernel) (by decide +kernel) (by decide +kernel) (Fz.le_refl _) (by intro z hz; simp only [List.mem_cons, List.not_mem_nil, or_false] at hz; rcases hz with rfl | rfl | rfl | rfl; simp [Gr.H]; exact hlm _; exact mE_in hmi _; exact mE_in hmi2 _) rfl (v_field (k := 0) rfl rfl rfl) ?_
        refine d_take (i := 24) rfl rfl rfl (by decide +kernel) (by decide +kernel) (by decide +kernel) (Fz.le_refl _) (by intro z hz; simp only [List.mem_cons, List.not_mem_nil, or_false] at hz; rcases hz with rfl | rfl | rfl | rfl; simp [Gr.H]; exact hlm _; exact mE_in hmi _; exact mE_in hmi2 _) rfl (v_load rfl rfl (ecell (m := m) 0 (by first | exact mE_in hmi _ | simp) rfl)) ?_
        refine d_take (i := 31) rfl rfl rfl (by decide +kernel) (by decide +kernel) (by decide +kernel) (Fz.le_refl _) (by intro z hz; simp only [List.mem_cons, List.not_mem_nil, or_false] at hz; rcases hz with rfl | rfl | rfl | rfl; simp [Gr.H]; exact hlm _; exact mE_in hmi _; exact mE_in hmi2 _) rfl (v_index (sz := 1) (r := 0 + j) rfl rfl rfl rfl (by omega) (by omega) (by omega)) ?_
        refine d_take (i := 32) rfl rfl rfl (by decide +kernel) (by decide +kernel) (by decide +kernel) (Fz.le_refl _) (by intro z hz; simp only [List.mem_cons, List.not_mem_nil, or_false] at hz; rcases hz with rfl | rfl | rfl | rfl; simp [Gr.H]; exact hlm _; exact mE_in hmi _; exact mE_in hmi2 _) rfl (v_load (v := ptrV m2.ma) rfl rfl (cell_own (cs := msV g.ms) (n := N) (by simp) (msV_get hget2))) ?_
        refine d_take (i := 33) rfl rfl rfl (by decide +kernel) (by decide +kernel) (by decide +kernel) (Fz.le_refl _) (by intro z hz; simp only [List.mem_cons, List.not_mem_nil, or_false] at hz; rcases hz with rfl | rfl | rfl | rfl; simp [Gr.H]; exact hlm _; exact mE_in hmi _; exact mE_in hmi2 _) rfl (v_nilCheck rfl) ?_
        refine d_take (i := 34) rfl rfl rfl (by decide +kernel) (by decide +kernel) (by decide +kernel) (Fz.le_refl _) (by intro z hz; simp only [List.mem_cons, List.not_mem_nil, or_false] at hz; rcases hz with rfl | rfl | rfl | rfl; simp [Gr.H]; exact hlm _; exact mE_in hmi _; exact mE_in hmi2 _) rfl (v_field (k := 0) rfl rfl rfl) ?_
        refine d_take (i := 35) rfl rfl rfl (by decide +kernel) (by decide +kernel) (by decide +kernel) (Fz.le_refl _) (by intro z hz; simp only [List.mem_cons, List.not_mem_nil, or_false] at hz; rcases hz with rfl | rfl | rfl | rfl; simp [Gr.H]; exact hlm _; exact mE_in hmi _; exact mE_in hmi2 _) rfl (v_load rfl rfl (ecell (m := m2) 0 (by first | exact mE_in hmi _ | simp) rfl)) ?_
        refine d_one (i := 25) (by decide +kernel) ?_
        refine d1_call rfl rfl rfl rfl (c_call callable14 rfl) (g_rd hget (fun X => r_Term _ _ m.ra m.r X)) ?_
        rintro v' F H' ⟨rfl, rfl, rfl⟩ _
        refine ⟨fun w hw => held_of hw (by first | exact Fz.le_refl _ | assumption) (by intro z hz; simp only [List.mem_cons, List.not_mem_nil, or_false] at hz; rcases hz with rfl | rfl | rfl | rfl; simp [Gr.H]; exact hlm _; exact mE_in hmi _; exact mE_in hmi2 _), ?_⟩
        refine d_one (i := 36) (by decide +kernel) ?_
        refine d1_call rfl rfl rfl rfl (c_call callable14 rfl) (g_rd hget2 (fun X => r_Term _ _ m2.ra m2.r X)) ?_
        rintro v' F H' ⟨rfl, rfl, rfl⟩ _
        refine ⟨fun w hw => held_of hw (by first | exact Fz.le_refl _ | assumption) (by intro z hz; simp only [List.mem_cons, List.not_mem_nil, or_false] at hz; rcases hz with rfl | rfl | rfl | rfl; simp [Gr.H]; exact hlm _; exact mE_in hmi _; exact mE_in hmi2 _), ?_⟩
        refine d_take (i := 37) rfl rfl rfl (by decide +kernel) (by decide +kernel) (by decide +kernel) (Fz.le_refl _) (by intro z hz; simp only [List.mem_cons, List.not_mem_nil, or_false] at hz; rcases hz with rfl | rfl | rfl | rfl; simp [Gr.H]; exact hlm _; exact mE_in hmi _; exact mE_in hmi2 _) rfl (v_gtr rfl rfl) ?_
        refine j_prop 51 rfl (fun h7 => ?_) (fun h7 => ?_)
        · rw [if_pos ⟨h6, .inr (by omega)⟩] at hstep
          refine d_take (i := 38) rfl rfl rfl (by decide +kernel) (by decide +kernel) (by decide +kernel) (Fz.le_refl _) (by intro z hz; simp only [List.mem_cons, List.not_mem_nil, or_false] at hz; rcases hz with rfl | rfl | rfl | rfl; simp [Gr.H]; exact hlm _; exact mE_in hmi _; exact mE_in hmi2 _) rfl (v_pick0 rfl rfl) ?_
          refine d_take (i := 39) rfl rfl rfl (by decide +kernel) (by decide +kernel) (by decide +kernel) (Fz.le_refl _) (by intro z hz; simp only [List.mem_cons, List.not_mem_nil, or_false] at hz; rcases hz with rfl | rfl | rfl | rfl; simp [Gr.H]; exact hlm _; exact mE_in hmi _; exact mE_in hmi2 _) rfl (v_pick1 rfl rfl) ?_
          refine d_end (by decide +kernel) ?_
          refine r_true rfl ?_
          refine r_region rfl ?_
          refine o_val rfl rfl rfl rfl (v_move rfl) ?_
          refine o_val rfl rfl rfl rfl (v_assign rfl) ?_
          refine o_end ?_
          refine r_inBlock ?_
          refine r_region rfl ?_
          refine o_val rfl rfl rfl rfl (v_move rfl) ?_
          refine o_val rfl rfl rfl rfl (v_add rfl rfl (r := ((i + 1 : Nat) : Int)) (wrap_i64 (by omega) (by omega))) ?_
          refine o_val rfl rfl rfl rfl (v_assign rfl) ?_
          refine o_end ?_
          refine j_keep ?_ hnext
          exact ⟨rfl, by rw [hstep]; rfl, rfl, trivial⟩
        · rw [if_neg (fun h => by rcases h.2 with h | h; omega; omega)] at hstep
          refine d_take (i := 38) rfl rfl rfl (by decide +kernel) (by decide +kernel) (by decide +kernel) (Fz.le_refl _) (by intro z hz; simp only [List.mem_cons, List.not_mem_nil, or_false] at hz; rcases hz with rfl | rfl | rfl | rfl; simp [Gr.H]; exact hlm _; exact mE_in hmi _; exact mE_in hmi2 _) rfl (v_pick0 rfl rfl) ?_
          refine d_take (i := 39) rfl rfl rfl (by decide +kernel) (by decide +kernel) (by decide +kernel) (Fz.le_refl _) (by intro z hz; simp only [List.mem_cons, List.not_mem_nil, or_false] at hz; rcases hz with rfl | rfl | rfl | rfl; simp [Gr.H]; exact hlm _; exact mE_in hmi _; exact mE_in hmi2 _) rfl (v_pick1 rfl rfl) ?_
          refine d_end (by decide +kernel) ?_
          refine r_false rfl ?_
          refine r_skip ?_
          refine r_inBlock ?_
          refine r_region rfl ?_
          refine o_val rfl rfl rfl rfl (v_move rfl) ?_
          refine o_val rfl rfl rfl rfl (v_add rfl rfl (r := ((i + 1 : Nat) : Int)) (wrap_i64 (by omega) (by omega))) ?_
          refine o_val rfl rfl rfl rfl (v_assign rfl) ?_
          refine o_end ?_
          refine j_keep ?_ hnext
          exact ⟨rfl, by rw [hstep]; rfl, rfl, trivial⟩
      · rw [if_neg (fun h => h6 h.1)] at hstep
        refine d_take (i := 11) rfl rfl rfl (by decide +kernel) (by decide +kernel) (by decide +kernel) (Fz.le_refl _) (by intro z hz; simp only [List.mem_cons, List.not_mem_nil, or_false] at hz; rcases hz with rfl | rfl | rfl | rfl; simp [Gr.H]; exact hlm _; exact mE_in hmi _; exact mE_in hmi2 _) rfl (v_move rfl) ?_
        refine d_skip (i := 12) rfl rfl rfl (by decide +kernel) (by decide +kernel) (by decide +kernel) (Fz.le_refl _) (by intro z hz; simp only [List.mem_cons, List.not_mem_nil, or_false] at hz; rcases hz with rfl | rfl | rfl | rfl; simp [Gr.H]; exact hlm _; exact mE_in hmi _; exact mE_in hmi2 _) rfl ?_
        refine d_skip (i := 13) rfl rfl rfl (by decide +kernel) (by decide +kernel) (by decide +kernel) (Fz.le_refl _) (by intro z hz; simp only [List.mem_cons, List.not_mem_nil, or_false] at hz; rcases hz with rfl | rfl | rfl | rfl; simp [Gr.H]; exact hlm _; exact mE_in hmi _; exact mE_in hmi2 _) rfl ?_
        refine d_skip (i := 14) rfl rfl rfl (by decide +kernel) (by decide +kernel) (by decide +kernel) (Fz.le_refl _) (by intro z hz; simp only [List.mem_cons, List.not_mem_nil, or_false] at hz; rcases hz with rfl | rfl | rfl | rfl; simp [Gr.H]; exact hlm _; exact mE_in hmi _; exact mE_in hmi2 _) rfl ?_
        refine d_skip (i := 15) rfl rfl rfl (by decide +kernel) (by decide +kernel) (by decide +kernel) (Fz.le_refl _) (by intro z hz; simp only [List.mem_cons, List.not_mem_nil, or_false] at hz; rcases hz with rfl | rfl | rfl | rfl; simp [Gr.H]; exact hlm _; exact mE_in hmi _; exact mE_in hmi2 _) rfl ?_
        refine d_skip (i := 16) rfl rfl rfl (by decide +kernel) (by decide +kernel) (by decide +kernel) (Fz.le_refl _) (by intro z hz; simp only [List.mem_cons, List.not_mem_nil, or_false] at hz; rcases hz with rfl | rfl | rfl | rfl; simp [Gr.H]; exact hlm _; exact mE_in hmi _; exact mE_in hmi2 _) rfl ?_
        refine d_skip (i := 17) rfl rfl rfl (by decide +kernel) (by decide +kernel) (by decide +kernel) (Fz.le_refl _) (by intro z hz; simp only [List.mem_cons, List.not_mem_nil, or_false] at hz; rcases hz with rfl | rfl | rfl | rfl; simp [Gr.H]; exact hlm _; exact mE_in hmi _; exact mE_in hmi2 _) rfl ?_
        refine d_skip (i := 18) rfl rfl rfl (by decide +kernel) (by decide +kernel) (by decide +kernel) (Fz.le_refl _) (by intro z hz; simp only [List.mem_cons, List.not_mem_nil, or_false] at hz; rcases hz with rfl | rfl | rfl | rfl; simp [Gr.H]; exact hlm _; exact mE_in hmi _; exact mE_in hmi2 _) rfl ?_
        refine d_skip (i := 19) rfl rfl rfl (by decide +kernel) (by decide +kernel) (by decide +kernel) (Fz.le_refl _) (by intro z hz; simp only [List.mem_cons, List.not_mem_nil, or_false] at hz; rcases hz with rfl | rfl | rfl | rfl; simp [Gr.H]; exact hlm _; exact mE_in hmi _; exact mE_in hmi2 _) rfl ?_
        refine d_skip (i := 20) rfl rfl rfl (by decide +kernel) (by decide +kernel) (by decide +kernel) (Fz.le_refl _) (by intro z hz; simp only [List.mem_cons, List.not_mem_nil, or_false] at hz; rcases hz with rfl | rfl | rfl | rfl; simp [Gr.H]; exact hlm _; exact mE_in hmi _; exact mE_in hmi2 _) rfl ?_
        refine d_skip (i := 21) rfl rfl rfl (by decide +kernel) (by decide +kernel) (by decide +kernel) (Fz.le_refl _) (by intro z hz; simp only [List.mem_cons, List.not_mem_nil, or_false] at hz; rcases hz with rfl | rfl | rfl | rfl; simp [Gr.H]; exact hlm _; exact mE_in hmi _; exact mE_in hmi2 _) rfl ?_
        refine d_skip (i := 22) rfl rfl rfl (by decide +kernel) (by decide +kernel) (by decide +kernel) (Fz.le_refl _) (by intro z hz; simp only [List.mem_cons, List.not_mem_nil, or_false] at hz; rcases hz with rfl | rfl | rfl | rfl; simp [Gr.H]; exact hlm _; exact mE_in hmi _; exact mE_in hmi2 _) rfl ?_
        refine d_skip (i := 23) rfl rfl rfl (by decide +kernel) (by decide +kernel) (by decide +kernel) (Fz.le_refl _) (by intro z hz; simp only [List.mem_cons, List.not_mem_nil, or_false] at hz; rcases hz with rfl | rfl | rfl | rfl; simp [Gr.H]; exact hlm _; exact mE_in hmi _; exact mE_in hmi2 _) rfl ?_
        refine d_skip (i := 24) rfl rfl rfl (by decide +kernel) (by decide +kernel) (by decide +kernel) (Fz.le_refl _) (by intro z hz; simp only [List.mem_cons, List.not_mem_nil, or_false] at hz; rcases hz with rfl | rfl | rfl | rfl; simp [Gr.H]; exact hlm _; exact mE_in hmi _; exact mE_in hmi2 _) rfl ?_
        refine d_skip (i := 25) rfl rfl rfl (by decide +kernel) (by decide +kernel) (by decide +kernel) (Fz.le_refl _) (by intro z hz; simp only [List.mem_cons, List.not_mem_nil, or_false] at hz; rcases hz with rfl | rfl | rfl | rfl; simp [Gr.H]; exact hlm _; exact mE_in hmi _; exact mE_in hmi2 _) rfl ?_
        refine d_skip (i := 26) rfl rfl rfl (by decide +kernel) (by decide +kernel) (by decide +kernel) (Fz.le_refl _) (by intro z hz; simp only [List.mem_cons, List.not_mem_nil, or_false] at hz; rcases hz with rfl | rfl | rfl | rfl; simp [Gr.H]; exact hlm _; exact mE_in hmi _; exact mE_in hmi2 _) rfl ?_
        refine d_skip (i := 27) rfl rfl rfl (by decide +kernel) (by decide +kernel) (by decide +kernel) (Fz.le_refl _) (by intro z hz; simp only [List.mem_cons, List.not_mem_nil, or_false] at hz; rcases hz with rfl | rfl | rfl | rfl; simp [Gr.H]; exact hlm _; exact mE_in hmi _; exact mE_in hmi2 _) rfl ?_
        refine d_skip (i := 28) rfl rfl rfl (by decide +kernel) (by decide +kernel) (by decide +kernel) (Fz.le_refl _) (by intro z hz; simp only [List.mem_cons, List.not_mem_nil, or_false] at hz; rcases hz with rfl | rfl | rfl | rfl; simp [Gr.H]; exact hlm _; exact mE_in hmi _; exact mE_in hmi2 _) rfl ?_
        refine d_skip (i := 29) rfl rfl rfl (by decide +kernel) (by decide +kernel) (by decide +kernel) (Fz.le_refl _) (by intro z hz; simp only [List.mem_cons, List.not_mem_nil, or_false] at hz; rcases hz with rfl | rfl | rfl | rfl; simp [Gr.H]; exact hlm _; exact mE_in hmi _; exact mE_in hmi2 _) rfl ?_
        refine d_skip (i := 30) rfl rfl rfl (by decide +kernel) (by decide +kernel) (by decide +kernel) (Fz.le_refl _) (by intro z hz; simp only [List.mem_cons, List.not_mem_nil, or_false] at hz; rcases hz with rfl | rfl | rfl | rfl; simp [Gr.H]; exact hlm _; exact mE_in hmi _; exact mE_in hmi2 _) rfl ?_
        refine d_skip (i := 31) rfl rfl rfl (by decide +kernel) (by decide +kernel) (by decide +kernel) (Fz.le_refl _) (by intro z hz; simp only [List.mem_cons, List.not_mem_nil, or_false] at hz; rcases hz with rfl | rfl | rfl | rfl; simp [Gr.H]; exact hlm _; exact mE_in hmi _; exact mE_in hmi2 _) rfl ?_
        refine d_skip (i := 32) rfl rfl rfl (by decide +kernel) (by decide +kernel) (by decide +kernel) (Fz.le_refl _) (by intro z hz; simp only [List.mem_cons, List.not_mem_nil, or_false] at hz; rcases hz with rfl | rfl | rfl | rfl; simp [Gr.H]; exact hlm _; exact mE_in hmi _; exact mE_in hmi2 _) rfl ?_
        refine d_skip (i := 33) rfl rfl rfl (by decide +kernel) (by decide +kernel) (by decide +kernel) (Fz.le_refl _) (by intro z hz; simp only [List.mem_cons, List.not_mem_nil, or_false] at hz; rcases hz with rfl | rfl | rfl | rfl; simp [Gr.H]; exact hlm _; exact mE_in hmi _; exact mE_in hmi2 _) rfl ?_
        refine d_skip (i := 34) rfl rfl rfl (by decide +kernel) (by decide +kernel) (by decide +kernel) (Fz.le_refl _) (by intro z hz; simp only [List.mem_cons, List.not_mem_nil, or_false] at hz; rcases hz with rfl | rfl | rfl | rfl; simp [Gr.H]; exact hlm _; exact mE_in hmi _; exact mE_in hmi2 _) rfl ?_
        refine d_skip (i := 35) rfl rfl rfl (by decide +kernel) (by decide +kernel) (by decide +kernel) (Fz.le_refl _) (by intro z hz; simp only [List.mem_cons, List.not_mem_nil, or_false] at hz; rcases hz with rfl | rfl | rfl | rfl; simp [Gr.H]; exact hlm _; exact mE_in hmi _; exact mE_in hmi2 _) rfl ?_
        refine d_skip (i := 36) rfl rfl rfl (by decide +kernel) (by decide +kernel) (by decide +kernel) (Fz.le_refl _) (by intro z hz; simp only [List.mem_cons, List.not_mem_nil, or_false] at hz; rcases hz with rfl | rfl | rfl | rfl; simp [Gr.H]; exact hlm _; exact mE_in hmi _; exact mE_in hmi2 _) rfl ?_
        refine d_skip (i := 37) rfl rfl rfl (by decide +kernel) (by decide +kernel) (by decide +kernel) (Fz.le_refl _) (by intro z hz; simp only [List.mem_cons, List.not_mem_nil, or_false] at hz; rcases hz with rfl | rfl | rfl | rfl; simp [Gr.H]; exact hlm _; exact mE_in hmi _; exact mE_in hmi2 _) rfl ?_
        refine d_skip (i := 38) rfl rfl rfl (by decide +kernel) (by decide +kernel) (by decide +kernel) (Fz.le_refl _) (by intro z hz; simp only [List.mem_cons, List.not_mem_nil, or_false] at hz; rcases hz with rfl | rfl | rfl | rfl; simp [Gr.H]; exact hlm _; exact mE_in hmi _; exact mE_in hmi2 _) rfl ?_
        refine d_take (i := 39) rfl rfl rfl (by decide +kernel) (by decide +kernel) (by decide +kernel) (Fz.le_refl _) (by intro z hz; simp only [List.mem_cons, List.not_mem_nil, or_false] at hz; rcases hz with rfl | rfl | rfl | rfl; simp [Gr.H]; exact hlm _; exact mE_in hmi _; exact mE_in hmi2 _) rfl (v_pick0 rfl rfl) ?_
        refine d_end (by decide +kernel) ?_
        refine r_false rfl ?_
        refine r_skip ?_
        refine r_inBlock ?_
        refine r_region rfl ?_
        refine o_val rfl rfl rfl rfl (v_move rfl) ?_
        refine o_val rfl rfl rfl rfl (v_add rfl rfl (r := ((i + 1 : Nat) : Int)) (wrap_i64 (by omega) (by omega))) ?_
        refine o_val rfl rfl rfl rfl (v_assign rfl) ?_
        refine o_end ?_
        refine j_keep ?_ hnext
        exact ⟨rfl, by rw [hstep]; rfl, rfl, trivial⟩
  · obtain rfl : i = g.ms.length := by omega
    refine r_exit rfl ?_
    refine r_seq ?_
    refine r_region rfl ?_
    refine o_val rfl rfl rfl rfl (v_move rfl) ?_
    refine o_val rfl rfl rfl rfl (v_assign rfl) ?_
    refine o_end ?_
    exact r_ret1 Tryz.func11 rfl rfl ⟨⟨by unfold PS.leader; rw [hpn], rfl, rfl⟩, Fz.le_refl _⟩
end Go.SX
namespace Go.SX
open Go Go.Proofs
set_option maxRecDepth 4000
set_option linter.unusedSimpArgs false
set_option linter.unusedVariables false
structure PE.fit (e : PE) : Prop where
  ix : e.ix < 18446744073709551616
  tm : e.tm < 18446744073709551616
  kd : e.kd < 256
  data : e.data.length ≤ 1048000
theorem Reaches.ents {q : PI} : ∀ (r pre : List PE) {b : List UInt8}, Reaches b { q with l := pre } → (∀ e ∈ r, e.fit) → (∀ (i : Nat) (h : i < r.length), r[i].ix = q.ix + pre.length + i + 1) → Reaches (b ++ entsB r) { q with l := pre ++ r }
  | [], pre, b, h, _, _ => by simpa using h
  | e :: r, pre, b, h, hf, hc => by
    have he := hf e (List.mem_cons_self ..)
    have h0 := hc 0 (by simp)
    simp only [List.getElem_cons_zero, Nat.add_zero] at h0
    have had : addP { q with l := pre } 2 (entP e.ix e.tm e.kd e.data) = some { q with l := pre ++ [e] } := by
      rw [addP, if_neg (by decide), if_pos rfl, entR_entP he.ix he.tm he.kd (by have := he.data; omega)]
      show addE _ e = _
      unfold addE
      dsimp only
      rw [if_neg (by omega)]
      have : e.ix - q.ix - 1 = pre.length := by omega
      rw [this, List.take_length]
    have h1 := h.more (by simp; have := he.data; omega) (by decide) had
    have h2 := Reaches.ents r (pre ++ [e]) h1 (fun x hx => hf x (List.mem_cons_of_mem _ hx)) (fun i hi => by
      have := hc (i + 1) (by simpa using hi)
      simp only [List.getElem_cons_succ] at this
      rw [this]
      simp
      omega)
    have e1 : b ++ entsB (e :: r) = b ++ recB 2 (entP e.ix e.tm e.kd e.data) ++ entsB r := by simp [PE.bs, entsB]
    have e2 : pre ++ (e :: r) = pre ++ [e] ++ r := by simp
    rw [e1, e2]
    exact h2
theorem whole_reaches (p : PI) (h1 : 0 < p.ix ∨ p.vt ≠ 0) (t : p.term < 18446744073709551616) (v1 : -1 ≤ p.vote) (v2 : p.vote < 65535) (i1 : p.ix < 18446744073709551616) (i2 : p.tm < 18446744073709551616) (i3 : p.vt < 18446744073709551616) (d : p.data.length ≤ 1048000) (hf : ∀ e ∈ p.l, e.fit) (hc : ∀ (i : Nat) (h : i < p.l.length), p.l[i].ix = p.ix + i + 1) : Reaches p.whole p := by
  have a1 : addP nilI 3 (snapP p.ix p.tm p.vt p.data) = some ⟨0, -1, p.ix, p.tm, p.vt, p.data, []⟩ := by
    rw [addP, if_neg (by decide), if_neg (by decide), if_pos rfl, snapR_snapP i1 i2 i3 (by omega)]
    rfl
  have a2 : addP ⟨0, -1, p.ix, p.tm, p.vt, p.data, []⟩ 1 (hardP p.term (p.vote + 1).toNat) = some ⟨p.term, p.vote, p.ix, p.tm, p.vt, p.data, []⟩ := by
    have : (((p.vote + 1).toNat : Nat) : Int) - 1 = p.vote := by omega
    rw [addP, if_pos rfl, hardR_hardP t (by omega), this]
    rfl
  have r1 := (Reaches.nil.more (by simp; omega) (by decide) a1).more (by simp) (by decide) a2
  have r2 := Reaches.ents (q := p) p.l [] (b := [] ++ recB 3 (snapP p.ix p.tm p.vt p.data) ++ recB 1 (hardP p.term (p.vote + 1).toNat)) r1 hf (fun i hi => by rw [hc i hi]; simp)
  have e1 : p.whole = [] ++ recB 3 (snapP p.ix p.tm p.vt p.data) ++ recB 1 (hardP p.term (p.vote + 1).toNat) ++ entsB p.l := by
    unfold PI.whole snB saveB hdrB
    rw [if_pos h1, if_pos rfl]
    simp
  rw [e1]
  exact r2
end Go.SX
namespace Go.SX
open Go Go.Proofs
set_option maxRecDepth 4000
set_option linter.unusedSimpArgs false
set_option linter.unusedVariables false
/-- A group's block. -/
def FE (x : Fx) (bad : Bool) : Ent := GE x bad
theorem g5cell {F : Fz} {H : List Ent} {x : Fx} {bad : Bool} (j : Nat) {c : Value} (hm : FE x bad ∈ H) (hc : [x.lv, x.nv, Value.map (some x.lm), .map (some x.dm), .bool bad][j]? = some c) : Cell F H x.ga (0 + j) c := gcell (x := x) (bad := bad) j hm hc
/-- A member's block, whose pointer to what it is may be anything. -/
def VE (x : Fx) (rv : Value) : Ent := .mem x.ma [rv, ptrV x.da] 2
theorem vcell {F : Fz} {H : List Ent} {x : Fx} {rv : Value} (j : Nat) {c : Value} (hm : VE x rv ∈ H) (hc : [rv, ptrV x.da][j]? = some c) : Cell F H x.ma (0 + j) c := by
  rw [Nat.zero_add]
  exact cell_own hm hc
def lgNewP (ix tm : Nat) (l : List PE) : Prop := ∀ (i : Nat) (h : i < l.length), l[i].ix = ix + i + 1 ∧ (if i = 0 then tm else ((l[i - 1]?).map PE.tm).getD 0) ≤ l[i].tm
theorem lgNew_of {ix tm : Nat} {l : List En} (h : lgNewP ix tm (l.map En.pure)) : lgNew ix tm l := by
  intro i hi
  obtain ⟨h1, h2⟩ := h i (by simpa using hi)
  simp only [List.getElem_map] at h1 h2
  refine ⟨h1, Nat.le_trans (Nat.le_of_eq ?_) h2⟩
  unfold lgLastTerm lgTerm
  have hl : (l.take i).length = i := by simp; omega
  rw [hl]
  rw [if_neg (by omega)]
  split
  · rw [if_pos (by omega)]
  · rw [if_neg (by omega)]
    rw [List.getElem?_map, show ix + i - ix - 1 = i - 1 by omega, List.getElem?_take, if_pos (by omega)]
    cases l[i - 1]? <;> rfl
set_option maxHeartbeats 1000000 in
theorem g_boot1 (O : World) (F : Fz) (x : Fx) (rv : Value) (i : Nat) (bad : Bool) (d : Dk) (X : List Ent) (hbf : d.bf.ok d.b.length) (hlen : d.b.length ≤ 1000000) (hops : d.ops ≤ 8000000) (hi : i < 7)
    (hn : lgNewP (scanP nilI d.b).1.ix (scanP nilI d.b).1.tm (scanP nilI d.b).1.l) (hB : (PI.new i (scanP nilI d.b).1).B) {lb n N c : Nat} {cs : List Value} (hlv : x.lv = .slice (some ⟨lb, 0, none⟩) n c) (hin : i < n) (hcs : cs[i]? = some (ptrV x.ma)) (hmem : Ent.mem lb cs N ∈ X) (hrv : oneCellB rv = true) :
    Does Tryz.prog O 23 #[ptrV x.ga, .int .i64 i] F (VE x rv :: FE x bad :: d.E x :: (d.bs ++ X)) (fun v F' H' => v = noneV ∧ ∃ (a : Nat) (r : Rf) (d' : Dk), r.ok F' ∧ r.p = (PI.new i (scanP nilI d.b).1).rest ∧ d'.bf.ok d'.b.length ∧ d'.b = d.b.take (scanP nilI d.b).2 ∧
      ((d'.sure = d.sure ∧ (scanP nilI d.b).2 = d.b.length) ∨ d'.sure = (scanP nilI d.b).2) ∧ d'.ops ≤ d.ops + 1 ∧ H' = RfH a r (VE x (ptrV a) :: FE x bad :: d'.E x :: (d'.bs ++ X))) := by
  refine does_of_run (args := [_, _]) Tryz.func23 rfl rfl ?_
  refine r_seq ?_
  refine r_region rfl ?_
  refine o_val rfl rfl rfl rfl (v_move rfl) ?_
  refine o_val rfl rfl rfl rfl (v_nilCheck rfl) ?_
  refine o_val rfl rfl rfl rfl (v_field (k := 0) rfl rfl rfl) ?_
  refine o_val rfl rfl rfl rfl (v_load (v := .slice (some ⟨lb, 0, none⟩) n c) rfl rfl (by rw [← hlv]; exact g5cell (x := x) (bad := bad) 0 (by simp) rfl)) ?_
  refine o_val rfl rfl rfl rfl (v_move rfl) ?_
  refine o_val rfl rfl rfl rfl (v_index1 rfl rfl rfl rfl hin) ?_
  refine o_val rfl rfl rfl rfl (v_load (v := ptrV x.ma) rfl rfl (cell_own (cs := cs) (n := N) (by simp [hmem]) (by rw [Nat.zero_add]; exact hcs))) ?_
  refine o_val rfl rfl rfl rfl (v_nilCheck rfl) ?_
  refine o_val rfl rfl rfl rfl (v_field (k := 1) rfl rfl rfl) ?_
  refine o_val rfl rfl rfl rfl (v_load rfl rfl (vcell (x := x) (rv := rv) 1 (by simp [RfH_eq]) rfl)) ?_
  refine j_heap (H' := cat [[VE x rv], [FE x bad], [d.E x], d.bs, X]) rfl ?_
  refine j_sel (H' := d.E x :: (d.bs ++ (VE x rv :: (FE x bad :: (X))))) [[VE x rv], [FE x bad], [d.E x], d.bs, X] [2, 3, 0, 1, 4] rfl rfl rfl ?_
  refine o_call rfl rfl rfl rfl (c_call callable46 rfl) (wal_Open2 _ _ x.da d.bf d.b d.sure d.ops _ hbf hlen (by omega)) ?_
  rintro v' F1 H' ⟨_, p, bf2, sure2, ops2, hp, hpl, hpp, rfl, hbf2, hsu, hop2, rfl⟩ hF1
  obtain ⟨d', hd'⟩ : ∃ d' : Dk, d' = ⟨bf2, d.b.take (scanP nilI d.b).2, sure2, ops2⟩ := ⟨_, rfl⟩
  refine j_heap (H' := cat [[d'.E x], d'.bs, [VE x rv], [FE x bad], X]) (by rw [hd']; rfl) ?_
  refine j_sel (H' := VE x rv :: (FE x bad :: (d'.E x :: (d'.bs ++ (X))))) [[d'.E x], d'.bs, [VE x rv], [FE x bad], X] [2, 3, 0, 1, 4] rfl rfl rfl ?_
  have hone := hp.one
  refine o_val rfl rfl rfl rfl (v_move rfl) ?_
  refine o_val rfl rfl rfl rfl (v_extract rfl rfl) ?_
  refine o_val rfl rfl rfl rfl (v_extract rfl rfl) ?_
  refine o_act rfl rfl rfl rfl (a_alloc rfl) ?_
  rintro v' H' ⟨y, rfl, rfl⟩
  refine o_act0 rfl rfl rfl (a_store (sz := 7) (v := .agg p.cells.toArray) 0 rfl rfl rfl hone rfl rfl (Nat.le_of_ble_eq_true rfl)) ?_
  refine j_heap (H' := .mem y p.cells 7 :: (VE x rv :: FE x bad :: d'.E x :: (d'.bs ++ X))) rfl ?_
  refine o_val rfl rfl rfl rfl (v_assign rfl) ?_
  refine o_end ?_
  refine r_seq ?_
  refine r_region rfl ?_
  refine o_val rfl rfl rfl rfl (v_move rfl) ?_
  refine o_val rfl rfl rfl rfl (v_loadAgg (sz := 7) (cs := p.cells) rfl rfl rfl rfl (fun j c hc => by rw [Nat.zero_add]; exact cell_own (cs := p.cells) (n := 7) (List.mem_cons_self ..) hc)) ?_
  refine j_drop (List.sublist_cons_self _ _) ?_
  rw [← hpp] at hn hB
  refine o_call rfl rfl rfl rfl (c_call callable47 rfl) (r_New _ _ i p _ hp (lgNew_of hn) hB) ?_
  rintro v' F1 H' ⟨rfl, a, r, hr, hrp, rfl, rfl⟩ _
  rcases (show bad = true ∨ bad = false by cases bad <;> simp) with hb | hb
  · skip
    refine o_val rfl rfl rfl rfl (v_move rfl) ?_
    refine o_val rfl rfl rfl rfl (v_extract rfl rfl) ?_
    refine o_val rfl rfl rfl rfl (v_extract rfl rfl) ?_
    refine o_val rfl rfl rfl rfl (v_assign rfl) ?_
    refine o_val rfl rfl rfl rfl (v_assign rfl) ?_
    refine o_end ?_
    refine r_seq ?_
    refine r_region rfl ?_
    refine o_val rfl rfl rfl rfl (v_move rfl) ?_
    refine o_val rfl rfl rfl rfl (v_move rfl) ?_
    refine o_val rfl rfl rfl rfl (v_nilCheck rfl) ?_
    refine o_val rfl rfl rfl rfl (v_field (k := 4) rfl rfl rfl) ?_
    refine o_val rfl rfl rfl rfl (v_load (v := .bool true) rfl rfl (by rw [← hb]; exact g5cell (x := x) (bad := bad) 4 (by simp [RfH_eq]) rfl)) ?_
    refine o_val rfl rfl rfl rfl (v_move rfl) ?_
    refine o_skip rfl rfl rfl rfl ?_
    refine o_skip rfl rfl rfl rfl ?_
    refine o_val rfl rfl rfl rfl (v_pick1 rfl rfl) ?_
    refine o_val rfl rfl rfl rfl (v_nilCheck rfl) ?_
    refine o_val rfl rfl rfl rfl (v_field (k := 4) rfl rfl rfl) ?_
    refine j_heap (H' := RfH a r ([VE x rv] ++ (FE x bad :: (d'.E x :: (d'.bs ++ X))))) rfl ?_
    refine o_act0 rfl rfl rfl (a_bad (f := x) (b' := bad) [VE x rv] _ rfl rfl (by rw [hb]; rfl)) ?_
    refine j_heap (H' := RfH a r (VE x rv :: FE x bad :: d'.E x :: (d'.bs ++ X))) rfl ?_
    refine o_end ?_
    refine r_region rfl ?_
    refine o_val rfl rfl rfl rfl (v_move rfl) ?_
    refine o_val rfl rfl rfl rfl (v_nilCheck rfl) ?_
    refine o_val rfl rfl rfl rfl (v_field (k := 0) rfl rfl rfl) ?_
    refine o_val rfl rfl rfl rfl (v_load (v := .slice (some ⟨lb, 0, none⟩) n c) rfl rfl (by rw [← hlv]; exact g5cell (x := x) (bad := bad) 0 (by simp [RfH_eq]) rfl)) ?_
    refine o_val rfl rfl rfl rfl (v_move rfl) ?_
    refine o_val rfl rfl rfl rfl (v_index1 rfl rfl rfl rfl hin) ?_
    refine o_val rfl rfl rfl rfl (v_load (v := ptrV x.ma) rfl rfl (cell_own (cs := cs) (n := N) (by simp [RfH_eq, hmem]) (by rw [Nat.zero_add]; exact hcs))) ?_
    refine o_val rfl rfl rfl rfl (v_move rfl) ?_
    refine o_val rfl rfl rfl rfl (v_nilCheck rfl) ?_
    refine o_val rfl rfl rfl rfl (v_field (k := 0) rfl rfl rfl) ?_
    refine j_perm (box_in a r (VE x rv) _).symm ?_
    refine o_act0 rfl rfl rfl (a_store1 0 (b := x.ma) (n := 2) (cs := [rv, ptrV x.da]) rfl rfl rfl rfl rfl (Nat.le_of_ble_eq_true rfl)) ?_
    refine j_heap (H' := VE x (ptrV a) :: RfH a r (FE x bad :: d'.E x :: (d'.bs ++ X))) rfl ?_
    refine j_perm (box_in a r (VE x (ptrV a)) _) ?_
    refine o_end ?_
    exact r_fall0 Tryz.func23 rfl ⟨⟨rfl, a, r, d', hr, by rw [hrp, hpp], by rw [hd']; exact hbf2, by rw [hd'], by rw [hd']; exact hsu, by rw [hd']; exact hop2, rfl⟩, hF1⟩
  · skip
    refine o_val rfl rfl rfl rfl (v_move rfl) ?_
    refine o_val rfl rfl rfl rfl (v_extract rfl rfl) ?_
    refine o_val rfl rfl rfl rfl (v_extract rfl rfl) ?_
    refine o_val rfl rfl rfl rfl (v_assign rfl) ?_
    refine o_val rfl rfl rfl rfl (v_assign rfl) ?_
    refine o_end ?_
    refine r_seq ?_
    refine r_region rfl ?_
    refine o_val rfl rfl rfl rfl (v_move rfl) ?_
    refine o_val rfl rfl rfl rfl (v_move rfl) ?_
    refine o_val rfl rfl rfl rfl (v_nilCheck rfl) ?_
    refine o_val rfl rfl rfl rfl (v_field (k := 4) rfl rfl rfl) ?_
    refine o_val rfl rfl rfl rfl (v_load (v := .bool false) rfl rfl (by rw [← hb]; exact g5cell (x := x) (bad := bad) 4 (by simp [RfH_eq]) rfl)) ?_
    refine o_val rfl rfl rfl rfl (v_move rfl) ?_
    refine o_val rfl rfl rfl rfl (v_move rfl) ?_
    refine o_val rfl rfl rfl rfl (v_neq rfl rfl) ?_
    refine j_slot 35 rfl (v' := .bool false) rfl ?_
    refine o_val rfl rfl rfl rfl (v_pick0 rfl rfl) ?_
    refine o_val rfl rfl rfl rfl (v_nilCheck rfl) ?_
    refine o_val rfl rfl rfl rfl (v_field (k := 4) rfl rfl rfl) ?_
    refine j_heap (H' := RfH a r ([VE x rv] ++ (FE x bad :: (d'.E x :: (d'.bs ++ X))))) rfl ?_
    refine o_act0 rfl rfl rfl (a_bad (f := x) (b' := bad) [VE x rv] _ rfl rfl (by rw [hb]; rfl)) ?_
    refine j_heap (H' := RfH a r (VE x rv :: FE x bad :: d'.E x :: (d'.bs ++ X))) rfl ?_
    refine o_end ?_
    refine r_region rfl ?_
    refine o_val rfl rfl rfl rfl (v_move rfl) ?_
    refine o_val rfl rfl rfl rfl (v_nilCheck rfl) ?_
    refine o_val rfl rfl rfl rfl (v_field (k := 0) rfl rfl rfl) ?_
    refine o_val rfl rfl rfl rfl (v_load (v := .slice (some ⟨lb, 0, none⟩) n c) rfl rfl (by rw [← hlv]; exact g5cell (x := x) (bad := bad) 0 (by simp [RfH_eq]) rfl)) ?_
    refine o_val rfl rfl rfl rfl (v_move rfl) ?_
    refine o_val rfl rfl rfl rfl (v_index1 rfl rfl rfl rfl hin) ?_
    refine o_val rfl rfl rfl rfl (v_load (v := ptrV x.ma) rfl rfl (cell_own (cs := cs) (n := N) (by simp [RfH_eq, hmem]) (by rw [Nat.zero_add]; exact hcs))) ?_
    refine o_val rfl rfl rfl rfl (v_move rfl) ?_
    refine o_val rfl rfl rfl rfl (v_nilCheck rfl) ?_
    refine o_val rfl rfl rfl rfl (v_field (k := 0) rfl rfl rfl) ?_
    refine j_perm (box_in a r (VE x rv) _).symm ?_
    refine o_act0 rfl rfl rfl (a_store1 0 (b := x.ma) (n := 2) (cs := [rv, ptrV x.da]) rfl rfl rfl rfl rfl (Nat.le_of_ble_eq_true rfl)) ?_
    refine j_heap (H' := VE x (ptrV a) :: RfH a r (FE x bad :: d'.E x :: (d'.bs ++ X))) rfl ?_
    refine j_perm (box_in a r (VE x (ptrV a)) _) ?_
    refine o_end ?_
    exact r_fall0 Tryz.func23 rfl ⟨⟨rfl, a, r, d', hr, by rw [hrp, hpp], by rw [hd']; exact hbf2, by rw [hd'], by rw [hd']; exact hsu, by rw [hd']; exact hop2, rfl⟩, hF1⟩
/-! ### A new group -/
/-- What a new member of n keeps. -/
def img (n : Nat) : PI := ⟨0, -1, 0, 0, 2 ^ n - 1, [], []⟩
def PR.first (n i : Nat) : PR := (PI.new i (img n)).rest
def PS.new (n : Nat) : PS := ⟨(List.range n).map (PR.first n), [], [], [], false, List.replicate n ((img n).whole, (img n).whole.length), 0⟩
theorem vt_lt : ∀ n, n ≤ 5 → 1 ≤ n → 2 ^ n - 1 < 128 ∧ 2 ^ n - 1 ≠ 0 := by decide
theorem img_B (n i : Nat) (hn : n ≤ 5) (h1 : 1 ≤ n) (hi : i < 7) : (PI.new i (img n)).B := by
  have hd : ownD i ≤ 3 := (own_dr hi).1
  have hv := (vt_lt n hn h1).1
  exact ⟨hi, hd, by simp [PI.new, img], by simp [PI.new, img], by simp [PI.new, img], by simp [PI.new, img], by simp [PI.new, img], by simp [PI.new, img], by simp [PI.new, img], by simp [PI.new, img], hv, by simp [PI.new, img], by simp [PI.new, img], by simp [PI.new, img], by simp [PI.new, img], by simp [PI.new, img], by simp [PI.new, img], rfl, rfl,
    fun j => by simp only [PI.new, List.getD_eq_getElem?_getD, List.getElem?_replicate]; split <;> simp, fun j => by simp only [PI.new, List.getD_eq_getElem?_getD, List.getElem?_replicate]; split <;> simp, by simp [PI.new], by simp [PI.new], by simp [PI.new], by simp [PI.new, img], by simp [PI.new, img], hv, by simp [PI.new, img]⟩
theorem img_scan (n : Nat) (hn : n ≤ 5) (h1 : 1 ≤ n) : scanP nilI (img n).whole = (img n, (img n).whole.length) := by
  obtain ⟨hv, hv0⟩ := vt_lt n hn h1
  have h := whole_reaches (img n) (.inr hv0) (by simp [img]) (by simp [img]) (by simp [img]) (by simp [img]) (by simp [img]) (by show 2 ^ n - 1 < _; omega) (by simp [img]) (by simp [img]) (by simp [img]) []
  rw [List.append_nil, scanP_none (b := []) rfl] at h
  exact h
theorem img_len (n : Nat) : (img n).whole.length ≤ 100 := by
  have hsn : (snB 0 0 (2 ^ n - 1) []).length ≤ 50 := by
    unfold snB
    split <;> simp
  have h2 := hdrB_le true 0 (-1)
  show (snB 0 0 (2 ^ n - 1) [] ++ (hdrB true 0 (-1) ++ entsB [])).length ≤ 100
  simp only [List.length_append, entsB, List.flatMap_nil, List.length_nil]
  omega
set_option maxHeartbeats 2000000 in
theorem g_new (O : World) (F : Fz) (n : Nat) (Fr : List Ent) (hn : n ≤ 5) (h1 : 1 ≤ n) :
    Does Tryz.prog O 9 #[.int .i64 n] F Fr (fun v F' H' => ∃ g : Gr, g.ok F' ∧ g.ps = PS.new n ∧ v = ptrV g.ga ∧ H' = g.H Fr) := by
  refine does_of_run (args := [_]) Tryz.func9 rfl rfl ?_
  have hil := img_len n
  obtain ⟨hv, hv0⟩ := vt_lt n hn h1
  refine r_seq ?_
  refine r_region rfl ?_
  refine o_val rfl rfl rfl rfl (v_assign rfl) ?_
  refine o_end ?_
  refine r_seq ?_
  refine r_region rfl ?_
  refine o_act rfl rfl rfl rfl (a_makeMapK .u64) ?_
  rintro v' H' ⟨lm, rfl, rfl⟩
  refine o_act rfl rfl rfl rfl (a_makeMapK .u64) ?_
  rintro v' H' ⟨dm, rfl, rfl⟩
  refine o_val rfl rfl rfl rfl (v_build rfl rfl) ?_
  refine o_act rfl rfl rfl rfl (a_box rfl) ?_
  rintro v' H' ⟨ga, rfl, rfl⟩
  refine o_val rfl rfl rfl rfl (v_assign rfl) ?_
  refine o_end ?_
  refine r_seq ?_
  refine r_seq ?_
  refine r_region rfl ?_
  refine o_val rfl rfl rfl rfl (v_assign rfl) ?_
  refine o_end ?_
  refine r_block ?_
  obtain ⟨g0, hg0⟩ : ∃ g0 : Gr, g0 = ⟨ga, lm, dm, .nil, [], .nil, [], false, [], [], 0⟩ := ⟨_, rfl⟩
  refine j_heap (H' := g0.E :: g0.D :: g0.L :: Fr) (by rw [hg0]; rfl) ?_
  refine j_sel (H' := g0.E :: (g0.L :: (g0.D :: (Fr)))) [[g0.E], [g0.D], [g0.L], Fr] [0, 2, 1, 3] rfl rfl rfl ?_
  refine j_heap (H' := g0.H Fr) (by rw [hg0]; rfl) ?_
  refine r_loop (fun q : Gr × Fz × Nat => F.le q.2.1 ∧ q.1.ok q.2.1 ∧ q.1.ga = ga ∧ q.2.2 ≤ n ∧ q.1.ms.length = q.2.2 ∧ q.1.ps = ⟨(List.range q.2.2).map (PR.first n), [], [], [], false, List.replicate q.2.2 ((img n).whole, (img n).whole.length), 0⟩) (fun q => [(0, .int .i64 n), (3, ptrV ga), (4, .int .i64 q.2.2)]) (fun q => q.2.1) (fun q => q.1.H Fr) (fun q => n - q.2.2) (g0, F, 0) ⟨Fz.le_refl _, ?_, by rw [hg0], Nat.zero_le _, by rw [hg0]; rfl, by rw [hg0]; rfl⟩ ⟨rfl, rfl, rfl, trivial⟩ rfl rfl ?_
  · rw [hg0]
    exact ⟨Nat.zero_le _, rfl, rfl, by simp, Nat.zero_le _, by simp, by simp⟩
  rintro ⟨g, F1, i⟩ ⟨hF1, hg, hga, hin, hlen, hps⟩ IH
  dsimp only at hF1 hg hga hin hlen hps ⊢
  rw [← hga]
  refine r_seq ?_
  refine r_seq ?_
  refine r_region rfl ?_
  refine o_val rfl rfl rfl rfl (v_move rfl) ?_
  refine o_val rfl rfl rfl rfl (v_move rfl) ?_
  refine o_val rfl rfl rfl rfl (v_lss rfl rfl) ?_
  refine o_end ?_
  refine r_if rfl (fun h5 => ?_) (fun h5 => ?_)
  · have hil2 : i < n := by omega
    refine r_skip ?_
    refine r_seq ?_
    refine r_block ?_
    refine r_seq ?_
    refine r_region rfl ?_
    refine o_call rfl rfl rfl rfl (c_call callable27 rfl) (dk_New _ _ _) ?_
    rintro v' F1 H' ⟨rfl, da, rfl, rfl⟩ _
    obtain ⟨q, hq⟩ : ∃ q : Im, q = ⟨0, -1, 0, 0, 2 ^ n - 1, .slice none 0 0, [], .slice none 0 0, []⟩ := ⟨_, rfl⟩
    have hqok : q.ok F1 := by
      rw [hq]
      exact ⟨by simp, by simp, by simp, by simp, by simp, by dsimp only; omega, Sl.nil _ _ _, by simp, Sl.nil _ _ _, by simp⟩
    have hqp : q.pure = img n := by rw [hq]; rfl
    have hpow : ((2 ^ n - 1 : Nat) : Int) = ((2 ^ n : Nat) : Int) - 1 := by have := Nat.two_pow_pos n; omega
    refine o_val rfl rfl rfl rfl (v_assign rfl) ?_
    refine o_end ?_
    refine r_seq ?_
    refine r_region rfl ?_
    refine o_val rfl rfl rfl rfl (v_move rfl) ?_
    refine o_val rfl rfl rfl rfl (v_buildZ (z := [.int .u64 0, .int .i64 0]) (places := [(0, 1), (1, 1)]) (cs := [.int .u64 0, .int .i64 (-1)]) rfl rfl (by kernel_rfl) (by kernel_rfl) (by kernel_rfl)) ?_
    refine o_val rfl rfl rfl rfl (v_move rfl) ?_
    refine o_val rfl rfl rfl rfl (v_shl (m := 1) rfl rfl (by omega) (shl1 n (by omega))) ?_
    refine o_val rfl rfl rfl rfl (v_sub rfl rfl (r := ((2 ^ n - 1 : Nat) : Int)) (by rw [hpow]; exact wrap_u64 (by omega) (by omega))) ?_
    refine o_val rfl rfl rfl rfl (v_build rfl rfl) ?_
    refine o_val rfl rfl rfl rfl (v_build rfl rfl) ?_
    refine j_slot 21 rfl (v' := .agg #[.int .u64 0, .int .u64 0, .int .u64 ((2 ^ n - 1 : Nat) : Int), .slice none 0 0]) rfl ?_
    refine j_slot 22 rfl (v' := .agg q.cells.toArray) (by rw [hq]; rfl) ?_
    refine j_heap (H' := DkE da .nil [] 0 0 :: (Bf.nil.ents 1 (bytesV []) ++ g.H Fr)) rfl ?_
    refine o_call rfl rfl rfl rfl (c_call callable28 rfl) (wal_Compact _ _ da .nil [] 0 0 q _ (by omega) hqok (by rw [hq]; simp)) ?_
    rintro v' F1 H' ⟨rfl, rfl, bf', hok', rfl⟩ _
    rw [hqp] at hok' ⊢
    obtain ⟨d, hd⟩ : ∃ d : Dk, d = ⟨bf', (img n).whole, (img n).whole.length, 1⟩ := ⟨_, rfl⟩
    obtain ⟨D, hD⟩ : ∃ D : Ent, D = DkE da d.bf d.b d.sure d.ops := ⟨_, rfl⟩
    refine j_heap (H' := D :: (d.bs ++ g.H Fr)) (by rw [hD, hd]; rfl) ?_
    refine o_end ?_
    refine r_seq ?_
    refine r_region rfl ?_
    refine o_val rfl rfl rfl rfl (v_move rfl) ?_
    refine o_val rfl rfl rfl rfl (v_move rfl) ?_
    refine o_val rfl rfl rfl rfl (v_nilCheck rfl) ?_
    refine o_val rfl rfl rfl rfl (v_field (k := 0) rfl rfl rfl) ?_
    refine o_val rfl rfl rfl rfl (v_load rfl rfl (gcell0 (g := g) 0 (by simp [Gr.H]) rfl)) ?_
    refine o_val rfl rfl rfl rfl (v_move rfl) ?_
    refine o_val rfl rfl rfl rfl (v_build rfl rfl) ?_
    refine o_act rfl rfl rfl rfl (a_box rfl) ?_
    rintro v' H' ⟨ma, rfl, rfl⟩
    refine j_heap (H' := .mem ma [nilP, ptrV da] 2 :: D :: (d.bs ++ g.H Fr)) rfl ?_
    refine o_act rfl rfl rfl rfl (a_buildS (sz := 1) (cs := [ptrV ma]) [.tmp 31] rfl rfl rfl rfl rfl rfl rfl rfl rfl rfl) ?_
    rintro v' H' ⟨y, rfl, rfl⟩
    obtain ⟨R1, hR1⟩ : ∃ R1, R1 = g.wf.ents (mgV g.net) ++ (g.L :: g.D :: (msH g.ms ++ Fr)) := ⟨_, rfl⟩
    refine j_heap (H' := (.mem y [ptrV ma] 1 :: .mem ma [nilP, ptrV da] 2 :: D :: (d.bs ++ [g.E])) ++ (g.lb.ents 1 (msV g.ms) ++ R1)) (by rw [hR1]; simp [Gr.H]) ?_
    have hml : (msV g.ms).length = g.ms.length * 1 := by simp [msV]
    have hsy : ∀ F H, Ent.mem y [ptrV ma] 1 ∈ H → Sl F H 1 (.slice (some ⟨y, 0, none⟩) 1 1) 1 [ptrV ma] := fun F H hm => ⟨_, 1, rfl, rfl, Nat.le_refl _, by simp, fun j c hj => ⟨y, 0, rfl, by rw [Nat.zero_add]; exact cell_own (cs := [ptrV ma]) (n := 1) hm hj⟩⟩
    refine o_act rfl rfl rfl rfl (a_appendP (bf := g.lb) (n := g.ms.length) (m := 1) (sz := 1) (bytes := 8) (xs := msV g.ms) (ys := [ptrV ma]) _ ⟨⟨_, _, _, rfl, rfl, rfl, rfl, rfl, rfl⟩, by decide⟩ rfl hg.lb hml rfl rfl (hsy _ _ (by simp)) rfl (by unfold maxLen; omega) (by omega)) ?_
    rintro v' H' ⟨bf2, rfl, hok2, rfl⟩
    rw [hlen] at hok2 ⊢
    refine j_heap (H' := cat [[.mem y [ptrV ma] 1], [.mem ma [nilP, ptrV da] 2], [D], d.bs, [g.E], bf2.ents 1 (msV g.ms ++ [ptrV ma]), R1]) (by simp [cat]) ?_
    refine j_sel (H' := g.E :: (.mem ma [nilP, ptrV da] 2 :: (D :: (d.bs ++ (bf2.ents 1 (msV g.ms ++ [ptrV ma]) ++ (R1)))))) [[.mem y [ptrV ma] 1], [.mem ma [nilP, ptrV da] 2], [D], d.bs, [g.E], bf2.ents 1 (msV g.ms ++ [ptrV ma]), R1] [4, 1, 2, 3, 5, 6] rfl rfl rfl ?_
    refine o_val rfl rfl rfl rfl (v_nilCheck rfl) ?_
    refine o_val rfl rfl rfl rfl (v_field (k := 0) rfl rfl rfl) ?_
    refine o_act0 rfl rfl rfl (a_store1 0 (b := g.ga) (n := 5) (cs := [g.lv, g.nv, .map (some g.lm), .map (some g.dm), .bool g.bad]) rfl rfl rfl rfl rfl (Nat.le_of_ble_eq_true rfl)) ?_
    obtain ⟨lb, c, hbf2⟩ : ∃ lb c, bf2 = .at lb c := by
      cases hb : bf2 with
      | nil =>
        rw [hb] at hok2
        have : i + 1 = 0 := hok2
        omega
      | «at» b c => exact ⟨b, c, rfl⟩
    obtain ⟨x, hx⟩ : ∃ x : Fx, x = ⟨g.ga, bf2.val (i + 1), g.nv, g.lm, g.dm, ma, 0, da⟩ := ⟨_, rfl⟩
    refine j_heap (H' := cat [[FE x g.bad], [VE x nilP], [d.E x], d.bs, bf2.ents 1 (msV g.ms ++ [ptrV ma]), R1]) (by rw [hx, hD]; rfl) ?_
    refine j_sel (H' := VE x nilP :: (FE x g.bad :: (d.E x :: (d.bs ++ (bf2.ents 1 (msV g.ms ++ [ptrV ma]) ++ (R1)))))) [[FE x g.bad], [VE x nilP], [d.E x], d.bs, bf2.ents 1 (msV g.ms ++ [ptrV ma]), R1] [1, 0, 2, 3, 4, 5] rfl rfl rfl ?_
    have hxg : x.ga = g.ga := by rw [hx]
    rw [← hxg]
    refine o_end ?_
    refine r_region rfl ?_
    refine o_val rfl rfl rfl rfl (v_move rfl) ?_
    refine o_val rfl rfl rfl rfl (v_move rfl) ?_
    have hdb : d.b = (img n).whole := by rw [hd]
    have hds : d.sure = (img n).whole.length := by rw [hd]
    have hdo : d.ops = 1 := by rw [hd]
    have hscan := img_scan n hn h1
    refine o_call rfl rfl rfl rfl (c_call callable23 rfl) (g_boot1 _ _ x nilP i g.bad d _ (by rw [hd]; exact hok') (by rw [hdb]; omega) (by omega) (by omega) (by rw [hdb, hscan]; intro i hi; simp [img] at hi) (by rw [hdb, hscan]; exact img_B n i hn h1 (by omega)) (lb := lb) (n := i + 1) (N := c * 1) (c := c) (cs := msV g.ms ++ [ptrV ma]) (by rw [hx, hbf2]; rfl) (by omega) (by rw [hx, List.getElem?_append_right (by rw [hml]; omega), hml]; simp [hlen]) (by rw [hbf2]; exact List.mem_append_left _ (List.mem_singleton.2 rfl)) rfl) ?_
    rintro v' F2 H' ⟨rfl, a, r, d2, hr, hrp, hbf3, hd2b, hd2s, hd2o, rfl⟩ hF2
    rw [hdb, hscan] at hrp hd2b hd2s
    dsimp only at hrp hd2b hd2s
    rw [List.take_length] at hd2b
    have hd2s : d2.sure = (img n).whole.length := by rcases hd2s with ⟨h, _⟩ | h; rw [h, hds]; exact h
    obtain ⟨mb, hmb⟩ : ∃ mb : Mb, mb = ⟨ma, a, da, r, d2⟩ := ⟨_, rfl⟩
    obtain ⟨g2, hg2⟩ : ∃ g2 : Gr, g2 = { g with lb := bf2, ms := g.ms ++ [mb] } := ⟨_, rfl⟩
    have hms2 : msV (g.ms ++ [mb]) = msV g.ms ++ [ptrV ma] := by rw [hmb]; simp [msV]
    have hml2 : (g.ms ++ [mb]).length = i + 1 := by simp [hlen]
    rw [hR1]
    have hperm : (RfH a r (VE x (ptrV a) :: FE x g.bad :: d2.E x :: (d2.bs ++ (bf2.ents 1 (msV g.ms ++ [ptrV ma]) ++ (g.wf.ents (mgV g.net) ++ (g.L :: g.D :: (msH g.ms ++ Fr))))))).Perm (g2.H Fr) := by
      have hp : (cat [RfP a r, [VE x (ptrV a)], [FE x g.bad], [d2.E x], d2.bs, bf2.ents 1 (msV g.ms ++ [ptrV ma]), g.wf.ents (mgV g.net), [g.L], [g.D], msH g.ms, Fr]).Perm _ := selPerm [RfP a r, [VE x (ptrV a)], [FE x g.bad], [d2.E x], d2.bs, bf2.ents 1 (msV g.ms ++ [ptrV ma]), g.wf.ents (mgV g.net), [g.L], [g.D], msH g.ms, Fr] [2, 5, 6, 7, 8, 9, 0, 1, 3, 4, 10] rfl rfl rfl rfl
      refine (List.Perm.of_eq ?_).trans (hp.trans (List.Perm.of_eq ?_))
      · rw [RfH_eq]; simp [cat]
      · have e1 : g2.E = FE x g.bad := by
          rw [hg2, hx]
          unfold Gr.E Gr.lv FE GE
          dsimp only
          rw [hml2]
        have e2 : msH g2.ms = msH g.ms ++ (RfP a r ++ (VE x (ptrV a) :: d2.E x :: d2.bs)) := by
          rw [hg2, hmb, hx]
          simp [msH, Mb.H]
          exact ⟨rfl, rfl⟩
        unfold Gr.H
        rw [e1, e2]
        have e3 : msV g2.ms = msV g.ms ++ [ptrV ma] := by rw [hg2]; exact hms2
        rw [e3, hg2]
        simp [cat, pick1]
        exact ⟨rfl, rfl⟩
    refine j_perm hperm ?_
    refine o_end ?_
    refine r_inBlock ?_
    refine r_region rfl ?_
    refine o_val rfl rfl rfl rfl (v_move rfl) ?_
    refine o_val rfl rfl rfl rfl (v_add rfl rfl (r := ((i + 1 : Nat) : Int)) (wrap_i64 (by omega) (by omega))) ?_
    refine o_val rfl rfl rfl rfl (v_assign rfl) ?_
    refine o_end ?_
    refine j_keep ?_ (IH (g2, F2, i + 1) ⟨Fz.le_trans hF1 hF2, ?_, ?_, by dsimp only; omega, ?_, ?_⟩ (by dsimp only; omega))
    · exact ⟨rfl, by rw [← hga, hxg]; rfl, rfl, trivial⟩
    · rw [hg2]
      refine ⟨by rw [hml2]; omega, by rw [hml2]; exact hok2, hg.wf, fun z hz => (hg.net z hz).frz hF2, hg.nl, ?_, fun z hz => (hg.dn z hz).frz hF2⟩
      intro z hz
      rcases List.mem_append.1 hz with hz | hz
      · exact ⟨(hg.ms z hz).1.frz hF2, (hg.ms z hz).2⟩
      · rw [List.mem_singleton.1 hz, hmb]
        exact ⟨hr, ⟨hbf3, by dsimp only; rw [hd2b]; omega, by dsimp only; omega, by dsimp only; rw [hd2b, hd2s]; exact Nat.le_refl _⟩⟩
    · rw [hg2]; exact hga
    · rw [hg2]; exact hml2
    · have : g2.ps = { g.ps with ms := g.ps.ms ++ [r.p], ds := g.ps.ds ++ [d2.pure] } := by
        rw [hg2, hmb]
        unfold Gr.ps
        simp
      rw [this, hps]
      dsimp only
      rw [List.range_succ, List.map_append, hrp, show d2.pure = ((img n).whole, (img n).whole.length) by unfold Dk.pure; rw [hd2b, hd2s], List.replicate_succ']
      rfl
  · obtain rfl : i = n := by omega
    refine r_exit rfl ?_
    refine r_seq ?_
    refine r_region rfl ?_
    refine o_val rfl rfl rfl rfl (v_move rfl) ?_
    refine o_val rfl rfl rfl rfl (v_assign rfl) ?_
    refine o_end ?_
    exact r_ret1 Tryz.func9 rfl rfl ⟨⟨g, hg, hps, rfl, rfl⟩, hF1⟩
end Go.SX
namespace Go.SX
open Go Go.Proofs
set_option maxRecDepth 4000
set_option linter.unusedSimpArgs false
set_option linter.unusedVariables false
def PS.rounds (off : Int) : Nat → PS → Option PS
  | 0, s => some s
  | n + 1, s => if s.bad = true then none else (s.round off).bind (PS.rounds off n)
def chk (o : Option PS) (f : PS → Bool) : Bool := match o with
  | some s => f s
  | none => false
def PR.ready (p : PR) : Bool := decide (p.role = 3) && decide ((p.termAt p.cm).1 = p.term)
def PS.awakeB (s : PS) : Bool := !s.bad && match s.ms[0]? with
  | some p => decide (p.role = 3) && p.ready && decide (p.cm = 1)
  | none => false
theorem awake_run : chk (PS.rounds (-1) 4 (PS.new 1)) PS.awakeB = true := by decide +kernel
/-! ### Elections -/
/-! ### Quiet -/
end Go.SX
namespace Go.SX
open Go Go.Proofs
set_option maxRecDepth 4000
set_option linter.unusedSimpArgs false
set_option linter.unusedVariables false
theorem rounds_n {off : Int} : ∀ {n : Nat} {s s' : PS}, PS.rounds off n s = some s' → s'.ms.length = s.ms.length
  | 0, s, s', h => by rw [← Option.some.inj h]
  | n + 1, s, s', h => by
    unfold PS.rounds at h
    split at h
    · cases h
    · obtain ⟨s1, h1, h⟩ := Option.bind_eq_some_iff.1 h
      rw [rounds_n h]
      unfold PS.round at h1
      obtain ⟨t1, e1, h1⟩ := Option.bind_eq_some_iff.1 h1
      obtain ⟨t2, e2, h1⟩ := Option.bind_eq_some_iff.1 h1
      have k1 : ∀ (n i : Nat) (s s' : PS), PS.ticks n i s = some s' → s'.ms.length = s.ms.length := by
        intro n
        induction n with
        | zero => intro i s s' h; rw [← Option.some.inj h]
        | succ n ih =>
          intro i s s' h
          unfold PS.ticks at h
          obtain ⟨u1, f1, h⟩ := Option.bind_eq_some_iff.1 h
          obtain ⟨u2, f2, h⟩ := Option.bind_eq_some_iff.1 h
          rw [ih _ _ _ h, sync_n f2]
          unfold PS.tickAt at f1
          split at f1
          · split at f1
            · rw [← Option.some.inj f1]; simp
            · cases f1
          · cases f1
      have k2 : ∀ (n : Nat) (s s' : PS), PS.deliver off n s = some s' → s'.ms.length = s.ms.length := by
        intro n
        induction n with
        | zero => intro s s' h; rw [← Option.some.inj h]
        | succ n ih =>
          intro s s' h
          unfold PS.deliver at h
          split at h
          · cases h
          · rename_i m r hn
            obtain ⟨u1, f1, h⟩ := Option.bind_eq_some_iff.1 h
            rw [ih _ _ h]
            split at f1
            · rw [← Option.some.inj f1]
            · exact (come0 hn f1).1
      have k3 : ∀ (n i : Nat) (s s' : PS), PS.syncs n i s = some s' → s'.ms.length = s.ms.length := by
        intro n
        induction n with
        | zero => intro i s s' h; rw [← Option.some.inj h]
        | succ n ih =>
          intro i s s' h
          unfold PS.syncs at h
          obtain ⟨u1, f1, h⟩ := Option.bind_eq_some_iff.1 h
          rw [ih _ _ _ h, sync_n f1]
      rw [k3 _ _ _ _ h1, k2 _ _ _ e2, k1 _ _ _ _ e1]
theorem rounds_step {off : Int} {n : Nat} {s s' : PS} (h : PS.rounds off (n + 1) s = some s') : s.bad = false ∧ ∃ s1, s.round off = some s1 ∧ PS.rounds off n s1 = some s' := by
  unfold PS.rounds at h
  split at h
  · cases h
  · rename_i hb
    obtain ⟨s1, h1, h⟩ := Option.bind_eq_some_iff.1 h
    exact ⟨by simpa using hb, s1, h1, h⟩
theorem chk_is {o : Option PS} {f : PS → Bool} (h : chk o f = true) : ∃ s, o = some s ∧ f s = true := by
  unfold chk at h
  split at h
  · exact ⟨_, rfl, h⟩
  · cases h
theorem gH_out (g : Gr) (Fr : List Ent) : Fr.Sublist (g.H Fr) := by
  have h : g.H Fr = (g.E :: (g.lb.ents 1 (msV g.ms) ++ (g.wf.ents (mgV g.net) ++ (g.L :: g.D :: msH g.ms)))) ++ Fr := by simp [Gr.H]
  rw [h]
  exact List.sublist_append_right _ _
theorem new_n (n : Nat) : (PS.new n).ms.length = n := by simp [PS.new]
theorem g_awake (O : World) (F : Fz) (Fr : List Ent) : Does Tryz.prog O 8 #[] F Fr (fun v F' H' => v = .bool true ∧ H' = Fr) := by
  refine does_of_run (args := []) Tryz.func8 rfl rfl ?_
  obtain ⟨s4, h4, hB⟩ := chk_is awake_run
  have hpn : ∀ g : Gr, g.ps.ms.length = g.ms.length := fun g => by simp [Gr.ps]
  refine r_seq ?_
  refine r_region rfl ?_
  refine o_val rfl rfl rfl rfl (v_assign rfl) ?_
  refine o_end ?_
  refine r_seq ?_
  refine r_region rfl ?_
  refine o_call rfl rfl rfl rfl (c_call callable9 rfl) (g_new _ _ 1 _ (by decide) (by decide)) ?_
  rintro v' F1 H' ⟨g0, hg0, hp0, rfl, rfl⟩ hF1
  rw [← hp0] at h4
  have hn0 : g0.ms.length = 1 := by rw [← hpn, hp0, new_n]
  refine o_val rfl rfl rfl rfl (v_assign rfl) ?_
  refine o_end ?_
  refine r_seq ?_
  refine r_seq ?_
  refine r_region rfl ?_
  refine o_val rfl rfl rfl rfl (v_assign rfl) ?_
  refine o_end ?_
  refine r_block ?_
  refine r_loop (fun q : Gr × Fz × Nat => F.le q.2.1 ∧ q.1.ok q.2.1 ∧ q.1.ga = g0.ga ∧ q.1.ms.length = 1 ∧ q.2.2 ≤ 4 ∧ PS.rounds (-1) (4 - q.2.2) q.1.ps = some s4) (fun q => [(1, ptrV g0.ga), (2, .int .i64 q.2.2)]) (fun q => q.2.1) (fun q => q.1.H Fr) (fun q => 4 - q.2.2) (g0, F1, 0) ⟨hF1, hg0, rfl, hn0, Nat.zero_le _, h4⟩ ⟨rfl, rfl, trivial⟩ rfl rfl ?_
  rintro ⟨g, F2, i⟩ ⟨hF2, hg, hga, hn, hi, hr⟩ IH
  dsimp only at hF2 hg hga hn hi hr ⊢
  rw [← hga]
  have hil : 0 < g.ms.length := by omega
  obtain ⟨m, hm⟩ : ∃ m, m = g.ms[0] := ⟨_, rfl⟩
  have hget : g.ms[0]? = some m := by rw [hm]; exact List.getElem?_eq_getElem hil
  have hmi : m ∈ g.ms := List.mem_of_getElem? hget
  have hmr := (hg.ms m hmi).1
  obtain ⟨lb, c, N, hlv, hlm⟩ := g.lbH hg hil
  have hpm : g.ps.ms[0]? = some m.r.p := by simp [Gr.ps, hget]
  have hlvc : ∀ F H, g.E ∈ H → Cell F H g.ga (0 + 0) (.slice (some ⟨lb, 0, none⟩) g.ms.length c) := fun F H hH => by rw [← hlv]; exact gcell0 (g := g) 0 hH rfl
  have hptr : ∀ F, Cell F (g.H Fr) lb (0 + 0) (ptrV m.ma) := fun F => cell_own (cs := msV g.ms) (n := N) (hlm _) (msV_get hget)
  refine r_seq ?_
  refine r_seq ?_
  refine r_region rfl ?_
  refine o_val rfl rfl rfl rfl (v_move rfl) ?_
  refine o_val rfl rfl rfl rfl (v_lss rfl rfl) ?_
  refine j_prop 5 rfl (fun h5 => ?_) (fun h5 => ?_)
  · rw [show 4 - i = (4 - (i + 1)) + 1 by omega] at hr
    obtain ⟨hb, s1, h1, hr⟩ := rounds_step hr
    have hb : g.bad = false := hb
    refine o_val rfl rfl rfl rfl (v_move rfl) ?_
    refine o_val rfl rfl rfl rfl (v_move rfl) ?_
    refine o_val rfl rfl rfl rfl (v_nilCheck rfl) ?_
    refine o_val rfl rfl rfl rfl (v_field (k := 4) rfl rfl rfl) ?_
    refine o_val rfl rfl rfl rfl (v_load (v := .bool false) rfl rfl (by rw [← hb]; exact gcell0 (g := g) 4 (by simp [Gr.H]) rfl)) ?_
    refine o_val rfl rfl rfl rfl (v_not rfl) ?_
    refine o_val rfl rfl rfl rfl (v_pick1 rfl rfl) ?_
    refine o_val rfl rfl rfl rfl (v_move rfl) ?_
    refine o_val rfl rfl rfl rfl (v_move rfl) ?_
    refine o_val rfl rfl rfl rfl (v_nilCheck rfl) ?_
    refine o_val rfl rfl rfl rfl (v_field (k := 0) rfl rfl rfl) ?_
    refine o_val rfl rfl rfl rfl (v_load (v := .slice (some ⟨lb, 0, none⟩) g.ms.length c) rfl rfl (hlvc _ _ (by simp [Gr.H]))) ?_
    refine o_val rfl rfl rfl rfl (v_index1 (i := 0) rfl rfl rfl rfl hil) ?_
    refine o_val rfl rfl rfl rfl (v_load (v := ptrV m.ma) rfl rfl (hptr _)) ?_
    refine o_val rfl rfl rfl rfl (v_nilCheck rfl) ?_
    refine o_val rfl rfl rfl rfl (v_field (k := 0) rfl rfl rfl) ?_
    refine o_val rfl rfl rfl rfl (v_load rfl rfl (ecell (m := m) 0 (by first | exact mE_in hmi _ | simp) rfl)) ?_
    refine o_val rfl rfl rfl rfl (v_pneqnil rfl rfl rfl) ?_
    refine o_val rfl rfl rfl rfl (v_pick1 rfl rfl) ?_
    refine o_end ?_
    refine r_true rfl ?_
    refine r_skip ?_
    refine r_seq ?_
    refine r_block ?_
    refine r_region rfl ?_
    refine o_val rfl rfl rfl rfl (v_move rfl) ?_
    refine o_call rfl rfl rfl rfl (c_call callable10 rfl) (g_round _ _ g (-1) s1 Fr hg h1) ?_
    rintro v' F3 H' ⟨rfl, g2, hg2, hp2, hga2, rfl⟩ hF3
    refine o_end ?_
    refine r_inBlock ?_
    refine r_region rfl ?_
    refine o_val rfl rfl rfl rfl (v_move rfl) ?_
    refine o_val rfl rfl rfl rfl (v_add rfl rfl (r := ((i + 1 : Nat) : Int)) (wrap_i64 (by omega) (by omega))) ?_
    refine o_val rfl rfl rfl rfl (v_assign rfl) ?_
    refine o_end ?_
    rw [← hp2] at hr
    refine j_keep ?_ (IH (g2, F3, i + 1) ⟨Fz.le_trans hF2 hF3, hg2, by dsimp only; rw [hga2, hga], ?_, by dsimp only; omega, hr⟩ (by dsimp only; omega))
    · exact ⟨by rw [← hga]; rfl, rfl, trivial⟩
    · have e1 := rounds_n (n := 1) (off := -1) (s := g.ps) (s' := g2.ps) (by unfold PS.rounds; rw [if_neg (by show ¬ g.bad = true; rw [hb]; simp), h1, hp2]; rfl)
      rw [hpn, hpn, hn] at e1
      exact e1
  · have h40 : 4 - i = 0 := by omega
    rw [h40] at hr
    have hr : g.ps = s4 := Option.some.inj hr
    rw [← hr] at hB
    unfold PS.awakeB at hB
    rw [hpm] at hB
    simp only [Bool.and_eq_true, Bool.not_eq_true', decide_eq_true_eq] at hB
    obtain ⟨hb, ⟨hro, hrd⟩, hcm⟩ := hB
    have hb : g.bad = false := hb
    unfold PR.ready at hrd
    refine o_val rfl rfl rfl rfl (v_move rfl) ?_
    refine o_skip rfl rfl rfl rfl ?_
    refine o_skip rfl rfl rfl rfl ?_
    refine o_skip rfl rfl rfl rfl ?_
    refine o_skip rfl rfl rfl rfl ?_
    refine o_skip rfl rfl rfl rfl ?_
    refine o_val rfl rfl rfl rfl (v_pick0 rfl rfl) ?_
    refine o_val rfl rfl rfl rfl (v_move rfl) ?_
    refine o_skip rfl rfl rfl rfl ?_
    refine o_skip rfl rfl rfl rfl ?_
    refine o_skip rfl rfl rfl rfl ?_
    refine o_skip rfl rfl rfl rfl ?_
    refine o_skip rfl rfl rfl rfl ?_
    refine o_skip rfl rfl rfl rfl ?_
    refine o_skip rfl rfl rfl rfl ?_
    refine o_skip rfl rfl rfl rfl ?_
    refine o_skip rfl rfl rfl rfl ?_
    refine o_skip rfl rfl rfl rfl ?_
    refine o_val rfl rfl rfl rfl (v_pick0 rfl rfl) ?_
    refine o_end ?_
    refine r_false rfl ?_
    refine r_exit rfl ?_
    refine r_seq ?_
    refine r_region rfl ?_
    refine o_val rfl rfl rfl rfl (v_move rfl) ?_
    refine o_val rfl rfl rfl rfl (v_nilCheck rfl) ?_
    refine o_val rfl rfl rfl rfl (v_field (k := 0) rfl rfl rfl) ?_
    refine o_val rfl rfl rfl rfl (v_load (v := .slice (some ⟨lb, 0, none⟩) g.ms.length c) rfl rfl (hlvc _ _ (by simp [Gr.H]))) ?_
    refine o_val rfl rfl rfl rfl (v_index1 (i := 0) rfl rfl rfl rfl hil) ?_
    refine o_val rfl rfl rfl rfl (v_load (v := ptrV m.ma) rfl rfl (hptr _)) ?_
    refine o_val rfl rfl rfl rfl (v_nilCheck rfl) ?_
    refine o_val rfl rfl rfl rfl (v_field (k := 0) rfl rfl rfl) ?_
    refine o_val rfl rfl rfl rfl (v_load rfl rfl (ecell (m := m) 0 (by first | exact mE_in hmi _ | simp) rfl)) ?_
    refine o_val rfl rfl rfl rfl (v_pneqnil rfl rfl rfl) ?_
    refine o_val rfl rfl rfl rfl (v_move rfl) ?_
    refine o_val rfl rfl rfl rfl (v_move rfl) ?_
    refine o_val rfl rfl rfl rfl (v_nilCheck rfl) ?_
    refine o_val rfl rfl rfl rfl (v_field (k := 0) rfl rfl rfl) ?_
    refine o_val rfl rfl rfl rfl (v_load (v := .slice (some ⟨lb, 0, none⟩) g.ms.length c) rfl rfl (hlvc _ _ (by simp [Gr.H]))) ?_
    refine o_val rfl rfl rfl rfl (v_index1 (i := 0) rfl rfl rfl rfl hil) ?_
    refine o_val rfl rfl rfl rfl (v_load (v := ptrV m.ma) rfl rfl (hptr _)) ?_
    refine o_val rfl rfl rfl rfl (v_nilCheck rfl) ?_
    refine o_val rfl rfl rfl rfl (v_field (k := 0) rfl rfl rfl) ?_
    refine o_val rfl rfl rfl rfl (v_load rfl rfl (ecell (m := m) 0 (by first | exact mE_in hmi _ | simp) rfl)) ?_
    refine o_call rfl rfl rfl rfl (c_call callable26 rfl) (g_rd hget (fun X => r_Leads _ _ m.ra m.r X)) ?_
    rintro v' F2 H' ⟨rfl, rfl, rfl⟩ _
    rw [decide_eq_true hro]
    refine o_val rfl rfl rfl rfl (v_pick1 rfl rfl) ?_
    refine o_val rfl rfl rfl rfl (v_move rfl) ?_
    refine o_val rfl rfl rfl rfl (v_move rfl) ?_
    refine o_val rfl rfl rfl rfl (v_nilCheck rfl) ?_
    refine o_val rfl rfl rfl rfl (v_field (k := 0) rfl rfl rfl) ?_
    refine o_val rfl rfl rfl rfl (v_load (v := .slice (some ⟨lb, 0, none⟩) g.ms.length c) rfl rfl (hlvc _ _ (by simp [Gr.H]))) ?_
    refine o_val rfl rfl rfl rfl (v_index1 (i := 0) rfl rfl rfl rfl hil) ?_
    refine o_val rfl rfl rfl rfl (v_load (v := ptrV m.ma) rfl rfl (hptr _)) ?_
    refine o_val rfl rfl rfl rfl (v_nilCheck rfl) ?_
    refine o_val rfl rfl rfl rfl (v_field (k := 0) rfl rfl rfl) ?_
    refine o_val rfl rfl rfl rfl (v_load rfl rfl (ecell (m := m) 0 (by first | exact mE_in hmi _ | simp) rfl)) ?_
    refine o_call rfl rfl rfl rfl (c_call callable12 rfl) (g_rd hget (fun X => r_Ready _ _ m.ra m.r X hmr)) ?_
    rintro v' F2 H' ⟨rfl, rfl, rfl⟩ _
    rw [hrd]
    refine o_val rfl rfl rfl rfl (v_pick1 rfl rfl) ?_
    refine o_val rfl rfl rfl rfl (v_move rfl) ?_
    refine o_val rfl rfl rfl rfl (v_move rfl) ?_
    refine o_val rfl rfl rfl rfl (v_nilCheck rfl) ?_
    refine o_val rfl rfl rfl rfl (v_field (k := 0) rfl rfl rfl) ?_
    refine o_val rfl rfl rfl rfl (v_load (v := .slice (some ⟨lb, 0, none⟩) g.ms.length c) rfl rfl (hlvc _ _ (by simp [Gr.H]))) ?_
    refine o_val rfl rfl rfl rfl (v_index1 (i := 0) rfl rfl rfl rfl hil) ?_
    refine o_val rfl rfl rfl rfl (v_load (v := ptrV m.ma) rfl rfl (hptr _)) ?_
    refine o_val rfl rfl rfl rfl (v_nilCheck rfl) ?_
    refine o_val rfl rfl rfl rfl (v_field (k := 0) rfl rfl rfl) ?_
    refine o_val rfl rfl rfl rfl (v_load rfl rfl (ecell (m := m) 0 (by first | exact mE_in hmi _ | simp) rfl)) ?_
    refine o_call rfl rfl rfl rfl (c_call callable15 rfl) (g_rd hget (fun X => r_Commit _ _ m.ra m.r X)) ?_
    rintro v' F2 H' ⟨rfl, rfl, rfl⟩ _
    rw [hcm]
    refine o_val rfl rfl rfl rfl (v_eql rfl rfl) ?_
    refine j_slot 74 rfl (v' := .bool true) rfl ?_
    refine o_val rfl rfl rfl rfl (v_pick1 rfl rfl) ?_
    refine o_val rfl rfl rfl rfl (v_move rfl) ?_
    refine o_val rfl rfl rfl rfl (v_move rfl) ?_
    refine o_val rfl rfl rfl rfl (v_nilCheck rfl) ?_
    refine o_val rfl rfl rfl rfl (v_field (k := 4) rfl rfl rfl) ?_
    refine o_val rfl rfl rfl rfl (v_load (v := .bool false) rfl rfl (by rw [← hb]; exact gcell0 (g := g) 4 (by simp [Gr.H]) rfl)) ?_
    refine o_val rfl rfl rfl rfl (v_not rfl) ?_
    refine o_val rfl rfl rfl rfl (v_pick1 rfl rfl) ?_
    refine o_val rfl rfl rfl rfl (v_assign rfl) ?_
    refine o_end ?_
    refine j_drop (gH_out g Fr) ?_
    exact r_ret1 Tryz.func8 rfl rfl ⟨⟨rfl, rfl⟩, hF2⟩
/-! ### RaftElects -/
/-- What a member read in a group is. -/
theorem Gr.rd {F : Fz} {g : Gr} (hg : g.ok F) {i : Nat} (hi : i < g.ms.length) : ∃ (m : Mb) (lb c N : Nat), g.ms[i]? = some m ∧ m.r.ok F ∧ m ∈ g.ms ∧ g.ps.ms[i]? = some m.r.p ∧ (∀ F H, g.E ∈ H → Cell F H g.ga (0 + 0) (.slice (some ⟨lb, 0, none⟩) g.ms.length c)) ∧ (∀ Fr, Ent.mem lb (msV g.ms) N ∈ g.H Fr) ∧ ∀ F H, Ent.mem lb (msV g.ms) N ∈ H → Cell F H lb (0 + i) (ptrV m.ma) := by
  obtain ⟨lb, c, N, hlv, hlm⟩ := g.lbH hg hi
  have hget : g.ms[i]? = some g.ms[i] := List.getElem?_eq_getElem hi
  exact ⟨g.ms[i], lb, c, N, hget, (hg.ms _ (List.getElem_mem hi)).1, List.getElem_mem hi, by simp [Gr.ps, hi], fun F H hH => by rw [← hlv]; exact gcell0 (g := g) 0 hH rfl, hlm, fun F H hm => cell_own (cs := msV g.ms) (n := N) hm (msV_get hget)⟩
theorem rounds_len {off : Int} {g : Gr} {n : Nat} (hn : g.ms.length = n) {g2 : Gr} (hb : g.bad = false) (h : g.ps.round off = some g2.ps) : g2.ms.length = n := by
  have e1 := rounds_n (n := 1) (off := off) (s := g.ps) (s' := g2.ps) (by unfold PS.rounds; rw [if_neg (by show ¬ g.bad = true; rw [hb]; simp), h]; rfl)
  have hpn : ∀ g : Gr, g.ps.ms.length = g.ms.length := fun g => by simp [Gr.ps]
  rw [hpn, hpn, hn] at e1
  exact e1
end Go.SX
