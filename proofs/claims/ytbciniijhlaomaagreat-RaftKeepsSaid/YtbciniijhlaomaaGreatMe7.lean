/- Contracts and plain laws, laid together. -/
import Derived.Calls
import Derived.Orders
import Derived.OrdersHeld
import Derived.Tactics
import Derived.OwnWalk
import Derived.Laws.Small
import Derived.Laws.Strings
import Derived.Laws.Pointers
import Derived.Laws.CopyRow
import Derived.Laws.Append
import Derived.Laws.AppendOwn
import Derived.Laws.BytesArg
import Derived.Laws.Slices
import Derived.Laws.MakeOwn
import Derived.Laws.Tables
import Derived.Great.BuildSlice
import Derived.Laws.Cover3
import Derived.Laws.Concat
import Derived.Test.YtbciniijhlaomaaGreatProg
import Derived.Below
import Derived.SizedLaws
import Derived.ChangeSlices
import Derived.ChangeOld
import Derived.Laws.StructEq
import Derived.Deep.Matrix
import Derived.Deep.SlicePairs
import Derived.Deep.Grids
import Derived.MapKept
import Derived.Carry
import Derived.WideLaws
import Derived.Laws.Externs
import Derived.Laws.FloatArith
import Derived.Test.YtbciniijhlaomaaGreatMe6
namespace Go.SX
open Go Go.Proofs
set_option maxRecDepth 4000
section
variable {p q : PR} {s : PS} {f f' D D' : List PE} {Vs Vs' : Vw → Prop} {d d' : List UInt8 × Nat} {E E' : Nat}
theorem Well1.up (h : Well1 s E) (h1 : E ≤ E') (h2 : E' ≤ s.k) : Well1 s E' := by
  obtain ⟨p, d, f, D, Vs, h⟩ := h
  exact ⟨p, d, f, D, Vs, { h with ok := fun v hv => (h.ok v hv).up (Nat.le_refl _) h1, Ek := h2 }⟩
theorem Well1.tick (h : Well1 s E) (hk : s.k ≤ 89000) (hE : E + 1 ≤ 1000) : ∃ s0 s1, s.tickAt 0 = some s0 ∧ s0.settle 0 = some s1 ∧ s1.k = s.k + 1 ∧ Well1 s1 (E + 1) := by
  obtain ⟨p, d, f, D, Vs, h⟩ := h
  have hpv := h.ok _ h.vw
  have hv1 := h.v1
  have hEk := h.Ek
  have hbd := h.bd.mono (Nat.le_succ s.k) (Nat.le_refl 0)
  have ht := h.bd.tick
  have htm := h.bd.term
  have hp : s.ms[0]? = some p := by rw [h.ms]; rfl
  have hlast := h.sh.last
  have hlen : f.length ≤ E := hpv.len
  have h5 : p.last = p.lix + p.l.length := rfl
  have hol := h.bd.ol
  have htk : s.tickAt 0 = some { s with ms := s.ms.set 0 p.tick } := by
    unfold PS.tickAt
    rw [hp]
    dsimp only
    rw [if_pos]
    unfold PR.tickOk
    rw [leadOk_of hbd, decide_eq_true (by omega : p.ticks < 300000), decide_eq_true (by omega : p.term < 300000), decide_eq_true (by omega : p.lix + p.l.length < 300000), decide_eq_true (by omega : p.out.length + 21 ≤ 300000)]
    rfl
  have fin : (∃ s1, ({ s with ms := s.ms.set 0 p.tick } : PS).settle 0 = some s1 ∧ s1.k = s.k + 1 ∧ Well1 s1 (E + 1)) → ∃ s0 s1, s.tickAt 0 = some s0 ∧ s0.settle 0 = some s1 ∧ s1.k = s.k + 1 ∧ Well1 s1 (E + 1) := fun ⟨s1, g⟩ => ⟨_, s1, htk, g⟩
  have vol : (∃ s1, ({ s with ms := s.ms.set 0 p.tick } : PS).settle 0 = some s1 ∧ s1.k = s.k + 1 ∧ Well1 s1 E) → ∃ s0 s1, s.tickAt 0 = some s0 ∧ s0.settle 0 = some s1 ∧ s1.k = s.k + 1 ∧ Well1 s1 (E + 1) := fun ⟨s1, g1, g2, g3⟩ => fin ⟨s1, g1, g2, g3.up (Nat.le_succ _) (by omega)⟩
  have h1 : Bd (s.k + 1) 0 p.tick1 := ⟨by show p.ticks + 1 ≤ s.k + 1; omega, hbd.term, hbd.vote, hbd.ol, hbd.out, hbd.nx, hbd.nl, hbd.es⟩
  have vol1 := h.vol hk (by omega) p.tick1 rfl rfl rfl rfl rfl rfl rfl rfl rfl rfl rfl rfl rfl rfl rfl h1
  by_cases hr : p.role = 3
  · by_cases h2 : 2 ≤ p.ticks + 1
    · have e : p.tick = { p with ticks := 0 } := by
        unfold PR.tick
        rw [if_pos hr, if_pos h2]
        exact V1.tell (p := { p with ticks := 0 }) hv1
      refine vol ?_
      rw [e]
      exact h.vol hk (by omega) { p with ticks := 0 } rfl rfl rfl rfl rfl rfl rfl rfl rfl rfl rfl rfl rfl rfl rfl ⟨Nat.zero_le _, hbd.term, hbd.vote, hbd.ol, hbd.out, hbd.nx, hbd.nl, hbd.es⟩
    · have e : p.tick = p.tick1 := by
        unfold PR.tick
        rw [if_pos hr, if_neg h2]
      refine vol ?_
      rw [e]
      exact vol1
  · by_cases h2 : p.lim ≤ p.ticks + 1
    · have e : p.tick = (p.tick1.rest.ask0.camp0.lead0).put 0 [] := by
        have hvt : p.tick1.rest.votes p.tick1.rest.me = true := by
          unfold PR.votes
          have e1 : p.tick1.rest.voters = p.voters := rfl
          have e2 : p.tick1.rest.me = p.me := rfl
          rw [e1, e2, hv1.1, hv1.2]
          decide
        unfold PR.tick
        rw [if_neg hr, if_pos h2, if_pos hvt]
        exact V1.ask (p := p.tick1.rest) hv1
      refine fin ?_
      rw [e]
      refine h.put hk hE p.tick1.rest.ask0.camp0.lead0 [] (by simp) rfl rfl rfl rfl rfl rfl rfl rfl rfl rfl rfl (Nat.le_succ _) ?_ (.inl rfl) rfl rfl ⟨Nat.zero_le _, ?_, ?_, hbd.ol, hbd.out, fun _ => ⟨fun j hj => ?_, rfl⟩, ?_, hbd.es⟩
      · show (p.me : Int) < 7
        rw [hv1.2]
        decide
      · show p.term + 1 ≤ s.k + 1
        omega
      · show (-1 : Int) ≤ (p.me : Int)
        omega
      · show 1 ≤ (List.replicate 7 (p.lix + p.l.length + 1)).getD j 0
        rw [getD_rep _ j hj]
        omega
      · show (List.replicate 7 _).length = 7
        simp
    · have e : p.tick = p.tick1 := by
        unfold PR.tick
        rw [if_neg hr, if_neg h2]
      refine vol ?_
      rw [e]
      exact vol1
theorem Well1.settle (h : Well1 s E) (hk : s.k ≤ 89000) (hE : E ≤ 1000) : ∃ s1, s.settle 0 = some s1 ∧ s1.k = s.k + 1 ∧ Well1 s1 E := by
  obtain ⟨p, d, f, D, Vs, h⟩ := h
  obtain ⟨s1, g1, g2, g3⟩ := h.vol hk hE p rfl rfl rfl rfl rfl rfl rfl rfl rfl rfl rfl rfl rfl rfl rfl (h.bd.mono (Nat.le_succ _) (Nat.le_refl _))
  rw [setSame (by rw [h.ms]; rfl)] at g1
  exact ⟨s1, g1, g2, g3⟩
theorem adv1 (h : V1 p) : ∀ x, p.adv x = p ∨ ∃ k, p.adv x = { p with cm := k } ∧ p.cm < k ∧ k ≤ x
  | 0 => .inl rfl
  | x + 1 => by
    unfold PR.adv
    split
    · exact .inl rfl
    · rename_i h1
      split
      · exact .inl rfl
      · split
        · refine .inr ⟨x + 1, ?_, by omega, Nat.le_refl _⟩
          unfold PR.commitAt PR.votes
          have hv : ({ p with cm := x + 1 } : PR).voters = p.voters := rfl
          rw [hv, h.1, h.2]
          rfl
        · rcases adv1 h x with e | ⟨k, e, h2, h3⟩
          · exact .inl e
          · exact .inr ⟨k, e, h2, by omega⟩
theorem stable1_is (h : V1 p) (ho : p.out = []) : ∃ c, p.stable = { p with st := p.last, cm := c } ∧ p.stable1.out = [] ∧ p.cm ≤ c ∧ c ≤ max p.cm p.last := by
  unfold PR.stable PR.stable1
  split
  · rename_i hr
    have hv : V1 { p with st := p.last } := h
    rcases adv1 hv ({ p with st := p.last } : PR).last with e | ⟨k, e, h2, h3⟩
    · refine ⟨p.cm, ?_, ?_, Nat.le_refl _, by omega⟩
      · unfold PR.advance
        rw [e, ← ho]
      · unfold PR.advance
        rw [e]
        exact ho
    · have h3 : k ≤ p.last := h3
      have h2 : p.cm < k := h2
      refine ⟨k, ?_, ?_, by omega, by omega⟩
      · unfold PR.advance
        rw [e, ← ho]
      · unfold PR.advance
        rw [e]
        exact ho
  · exact ⟨p.cm, by rw [← ho], ho, Nat.le_refl _, by omega⟩
theorem Well1.flush (h : Well1 s E) (hk : s.k ≤ 89000) (hE : E ≤ 1000) : ∃ s0 s1, s.flush 0 = some s0 ∧ s0.settle 0 = some s1 ∧ s1.k = s.k + 2 ∧ Well1 s1 E := by
  obtain ⟨p, d, f, D, Vs, h⟩ := h
  have hpv := h.ok _ h.vw
  have hv1 := h.v1
  have hEk := h.Ek
  have ho : p.out = [] := List.length_eq_zero_iff.1 (Nat.le_zero.1 h.bd.ol)
  obtain ⟨c, e, ho1, hc1, hc2⟩ := stable1_is hv1 ho
  have hp : s.ms[0]? = some p := by rw [h.ms]; rfl
  have hd : s.ds[0]? = some d := by rw [h.ds]; rfl
  have hlast := h.sh.last
  have hDf : D <+: f := hpv.pre
  have hDl := hDf.length_le
  have hcm := h.cm
  have hlc := h.lc
  obtain ⟨k1, k2, k3⟩ := h.cl
  have hfo : s.flush 0 = some (s.flushTo 0 p d) := by
    unfold PS.flush
    rw [hp, hd]
    dsimp only
    rw [if_pos (by omega)]
  have e1 : p.stable.rs = false := by rw [e]; exact k3
  have e2 : p.stable.chg = false := by rw [e]; exact k1
  have e3 : p.stable.fresh = 0 := by rw [e]; exact k2
  have hdk : p.stable.disk (d.1, d.1.length) = (d.1, d.1.length) := by
    unfold PR.disk PR.saves
    rw [e1, e2, e3]
    rfl
  have hsv : p.stable.saveOk = true := by
    have hse : p.stable.saveE = [] := by unfold PR.saveE; rw [e3]; rfl
    unfold PR.saveOk
    rw [e1, e3, hse]
    rfl
  have hview : p.stable.view f = p.view f := by rw [e]; rfl
  have hbs : (p.view f).base ≤ (f.take (max D.length c)).length := by
    rw [List.length_take]
    show p.lix ≤ _
    omega
  have hdl := h.dl
  obtain ⟨s1, g1, g2, g3⟩ := h.settle (s0 := s.flushTo 0 p d) (q := p.stable) (d' := (d.1, d.1.length)) (f' := f) (Vs' := fun v => v = p.view f) (D' := f.take (max D.length c)) (E' := E) (by show s.ms.set 0 _ = _; rw [h.ms]; rfl) (by show s.ds.set 0 _ = _; rw [h.ds]; rfl) (by
      show (s.net ++ p.stable1.out).drop _ = []
      rw [h.net, ho1]
      rfl) rfl rfl rfl (Nat.le_succ _) (by show s.k + 1 ≤ _; omega) hsv
    (by rw [e]; exact ⟨h.sh.lf, h.sh.lle, h.sh.ltm, h.sh.six, h.sh.stm, h.sh.svt, h.sh.fix⟩) (by rw [e]; exact h.me) (by rw [e]; exact h.lvt)
    (by
      rw [e]
      have hb := h.bd.mono (K' := s.k + 1 + 1) (by omega) (Nat.le_refl 0)
      exact ⟨hb.tick, hb.term, hb.vote, hb.ol, hb.out, hb.nx, hb.nl, hb.es⟩) hview (fun v hv => by
      rw [hv]
      have := hpv.up (k' := s.k + 1 + 1) (by omega) (Nat.le_refl E)
      exact { this with pre := List.take_prefix _ _, base := hbs }) (prefix_total hDf (List.take_prefix _ _) (by rw [List.length_take]; omega)) (by rw [e, List.length_take]; show c ≤ _; omega) (by rw [e]; show p.lix ≤ c; omega) (by
      rw [hdk, hview]
      exact h.dr.sync ⟨_, rfl, rfl⟩) (by rw [hdk]; show d.1.length ≤ 40000 * (s.k + 1 + 2) + 2000000; omega) (by show E ≤ s.k + 1 + 1; omega)
  have g2' : s1.k = s.k + 2 := g2
  exact ⟨_, s1, hfo, g1, g2', _, _, _, _, _, g3⟩
theorem Well1.sync (h : Well1 s E) (hk : s.k ≤ 88000) (hE : E ≤ 1000) : ∃ s1, s.sync 0 = some s1 ∧ s1.k = s.k + 3 ∧ Well1 s1 E := by
  obtain ⟨s1, h1, h2, h4⟩ := h.settle (by omega) hE
  obtain ⟨s2, s3, h5, h6, h7, h8⟩ := h4.flush (by omega) hE
  refine ⟨s3, ?_, by omega, h8⟩
  unfold PS.sync
  rw [h1]
  show (s1.flush 0).bind _ = _
  rw [h5]
  exact h6
theorem Well1.len (h : Well1 s E) : s.ms.length = 1 ∧ s.net = [] := by
  obtain ⟨p, d, f, D, Vs, h⟩ := h
  exact ⟨by rw [h.ms]; rfl, h.net⟩
theorem Well1.bad (h : Well1 s E) : s.bad = false := by
  obtain ⟨p, d, f, D, Vs, h⟩ := h
  exact h.bad
theorem Well1.round (h : Well1 s E) (off : Int) (hk : s.k ≤ 86000) (hE : E + 1 ≤ 1000) : ∃ s1, s.round off = some s1 ∧ s1.k ≤ s.k + 318 ∧ Well1 s1 (E + 1) := by
  obtain ⟨s0, s1, h1, h2, h3, h5⟩ := h.tick (by omega) hE
  obtain ⟨s2, s3, h6, h7, h8, h9⟩ := h5.flush (by omega) (by omega)
  obtain ⟨s4, h10, h11, h12⟩ := h9.sync (by omega) (by omega)
  refine ⟨s4, ?_, by omega, h12⟩
  unfold PS.round
  rw [h.len.1]
  show ((s.tickAt 0).bind fun s1 => (s1.sync 0).bind (PS.ticks 0 1)).bind _ = _
  rw [h1]
  show ((s0.sync 0).bind (PS.ticks 0 1)).bind _ = _
  have hs : s0.sync 0 = some s3 := by
    unfold PS.sync
    rw [h2]
    show (s1.flush 0).bind _ = _
    rw [h6]
    exact h7
  rw [hs]
  show (PS.deliver off s3.net.length s3).bind _ = _
  rw [h9.len.2]
  show PS.syncs s3.ms.length 0 s3 = _
  rw [h9.len.1]
  show (s3.sync 0).bind (PS.syncs 0 1) = _
  rw [h10]
  rfl
theorem Well1.propose (h : Well1 s E) (data : List UInt8) (hdl : data.length ≤ 1) (hk : s.k ≤ 88000) (hE : E + 1 ≤ 1000) : ∃ s0 s1, s.proposeAt 0 data = some s0 ∧ s0.settle 0 = some s1 ∧ s1.k = s.k + 1 ∧ Well1 s1 (E + 1) := by
  have hself := h.settle (by omega) (by omega)
  obtain ⟨p, d, f, D, Vs, h⟩ := h
  have hpv := h.ok _ h.vw
  have hp : s.ms[0]? = some p := by rw [h.ms]; rfl
  have hEk := h.Ek
  unfold PS.proposeAt
  rw [hp]
  dsimp only
  unfold PR.propose
  by_cases hr : p.role = 3
  · rw [if_pos hr, (h.v1.put data).tell]
    obtain ⟨s1, g⟩ := h.put (by omega) hE p data hdl hr rfl rfl rfl rfl rfl rfl rfl rfl rfl rfl (Nat.le_refl _) hpv.v2 (.inr ⟨rfl, rfl, rfl⟩) rfl rfl (h.bd.mono (Nat.le_succ _) (Nat.le_refl _))
    exact ⟨_, s1, rfl, g⟩
  · rw [if_neg hr, setSame hp]
    obtain ⟨s1, g1, g2, g3⟩ := hself
    exact ⟨s, s1, rfl, g1, g2, g3.up (Nat.le_succ _) (by omega)⟩
theorem Well1.draw (h : Well1 s E) (D0 : Nat) (hk : s.k ≤ 88000) (hE : E ≤ 1000) : ∃ s0 s1, s.drawAt 0 D0 = some s0 ∧ s0.settle 0 = some s1 ∧ s1.k = s.k + 1 ∧ Well1 s1 E := by
  obtain ⟨p, d, f, D, Vs, h⟩ := h
  have hp : s.ms[0]? = some p := by rw [h.ms]; rfl
  have hbd := h.bd.mono (Nat.le_succ s.k) (Nat.le_refl 0)
  unfold PS.drawAt
  rw [hp]
  obtain ⟨s1, g⟩ := h.vol (by omega) hE { p with dr := D0 } rfl rfl rfl rfl rfl rfl rfl rfl rfl rfl rfl rfl rfl rfl rfl ⟨hbd.tick, hbd.term, hbd.vote, hbd.ol, hbd.out, hbd.nx, hbd.nl, hbd.es⟩
  exact ⟨_, s1, rfl, g⟩
theorem One.clean (h : One s p d f D Vs E) (hk : s.k ≤ 89000) (e1 : q.rs = false) (e2 : q.chg = false) (e3 : q.fresh = 0) (sh : Shp 1 q f') (me : q.me = 0) (lvt : q.lvt = 1) (bd : Bd (s.k + 1) 0 q) (vw : Vs' (q.view f')) (ok : ∀ v, Vs' v → VOk (s.k + 1) E D v) (cm : q.cm ≤ D.length) (lc : q.lix ≤ q.cm)
    (dr : DR (fun x => ∃ v, Vs' v ∧ x = v.pi 1) d'.1 d'.2 ((q.view f').pi 1)) (dl : d'.1.length ≤ 40000 * (s.k + 2) + 2000000) : ∃ s1, ({ s with ms := s.ms.set 0 q, ds := s.ds.set 0 d', k := s.k + 1 } : PS).settle 0 = some s1 ∧ s1.k = s.k + 2 ∧ Well1 s1 E := by
  have hdk : q.disk d' = d' := by
    unfold PR.disk PR.saves
    rw [e1, e2, e3]
    rfl
  have hsv : q.saveOk = true := by
    have hse : q.saveE = [] := by unfold PR.saveE; rw [e3]; rfl
    unfold PR.saveOk
    rw [e1, e3, hse]
    rfl
  have hEk := h.Ek
  obtain ⟨s1, g1, g2, g3⟩ := h.settle (s0 := { s with ms := s.ms.set 0 q, ds := s.ds.set 0 d', k := s.k + 1 }) (q := q) (d' := d') (f' := f') (Vs' := Vs') (D' := D) (E' := E) (by show s.ms.set 0 _ = _; rw [h.ms]; rfl) (by show s.ds.set 0 _ = _; rw [h.ds]; rfl) h.net rfl rfl rfl (Nat.le_succ _) (by show s.k + 1 ≤ _; omega) hsv sh me lvt (bd.mono (Nat.le_succ _) (Nat.le_refl _)) vw (fun v hv => (ok v hv).up (Nat.le_succ _) (Nat.le_refl _)) (List.prefix_refl _) cm lc (by rw [hdk]; exact dr) (by rw [hdk]; show _ ≤ 40000 * (s.k + 1 + 2) + 2000000; omega) (by show E ≤ s.k + 1 + 1; omega)
  exact ⟨s1, g1, g2, _, _, _, _, _, g3⟩
theorem Well1.crash (h : Well1 s E) (k : Nat) (hk : s.k ≤ 88000) (hE : E ≤ 1000) : ∃ d s0 s1, s.ds[0]? = some d ∧ BootOk 0 (kept d k) ∧ s.crashAt 0 k = some s0 ∧ s0.settle 0 = some s1 ∧ s1.k ≤ s.k + 2 ∧ Well1 s1 E := by
  obtain ⟨p, d, f, D, Vs, h⟩ := h
  have hd : s.ds[0]? = some d := by rw [h.ds]; rfl
  have hDR := h.dr
  have hds := h.dl
  have hEk := h.Ek
  have hle0 := hDR.le
  obtain ⟨x, m, ⟨v, hv, hxv⟩, hre, hsc, hmc⟩ := hDR.cut (d.2 + min k (d.1.length - d.2)) (by omega) (by omega)
  have hkept : kept d k = d.1.take (d.2 + min k (d.1.length - d.2)) := rfl
  have hsc' : scanP nilI (kept d k) = (x, m) := hsc
  have hklen : (kept d k).length = d.2 + min k (d.1.length - d.2) := by rw [hkept, List.length_take]; omega
  have htk : (kept d k).take m = d.1.take m := by rw [hkept, List.take_take, Nat.min_eq_left hmc]
  have w := h.ok v hv
  have hDl := w.pre.length_le
  have wb := w.base
  have wl := w.len
  have wt := w.term
  have w1 := w.v1
  have w2 := w.v2
  have w4 := w.sd
  have hxe : x = ⟨v.term, v.vote, v.base, tmK v.fl v.base, 2 ^ 1 - 1, v.sd, v.fl.drop v.base⟩ := hxv
  have wix : ∀ e ∈ v.fl, e.ix ≤ E ∧ e.kd = 0 := fun e he => by
    obtain ⟨j, hj⟩ := List.mem_iff_getElem?.1 he
    have h1 := w.fix j e hj
    have h2 : j < v.fl.length := by
      rcases Nat.lt_or_ge j v.fl.length with h | h
      · exact h
      · rw [List.getElem?_eq_none h] at hj; cases hj
    exact ⟨by omega, h1.2⟩
  have wtk : tmK v.fl v.base ≤ v.term := by
    cases hbz : v.base with
    | zero => exact Nat.zero_le _
    | succ b =>
      have hbl : b < v.fl.length := by omega
      show ((v.fl[b]?).map PE.tm).getD 0 ≤ _
      rw [List.getElem?_eq_getElem hbl]
      exact (w.tm _ (List.getElem_mem hbl)).1
  have hbd' : Bd (s.k + 1) 0 (PI.new 0 x).rest := by
    rw [hxe]
    exact ⟨Nat.zero_le _, by show v.term ≤ _; omega, w1, Nat.zero_le _, fun m hm => (List.not_mem_nil hm).elim, fun e => by have e : (0 : Nat) = 3 := e; omega, rfl, fun e he => by
      have he := List.mem_of_mem_drop he
      exact ⟨by have := (wix e he).1; omega, (w.tm e he).2⟩⟩
  have hview : ((PI.new 0 x).rest.view v.fl).pi 1 = x := by rw [hxe]; rfl
  have hview2 : (PI.new 0 x).rest.view v.fl = v := by rw [hxe]; rfl
  have hmlen : (d.1.take m).length = m := by rw [List.length_take]; omega
  obtain ⟨s1, g1, g2, g3⟩ := h.clean (by omega) (q := (PI.new 0 x).rest) (f' := v.fl) (Vs' := fun u => u = v) (d' := (d.1.take m, m)) rfl rfl rfl (by rw [hxe]; exact ⟨rfl, by show v.base ≤ _; omega, rfl, rfl, rfl, rfl, w.fix⟩) rfl (by rw [hxe]; rfl) hbd' hview2 (fun u hu => by rw [hu]; exact w.up (Nat.le_succ _) (Nat.le_refl _)) (by rw [hxe]; exact wb) (by rw [hxe]; exact Nat.le_refl _)
    (by
      rw [hview]
      have := DR.whole (V := fun x => ∃ u, u = v ∧ x = u.pi 1) hre ⟨v, rfl, hxv⟩
      rw [hmlen] at this
      exact this) (by show (d.1.take m).length ≤ _; rw [hmlen]; omega)
  have hfst : (scanP nilI (kept d k)).1 = x := by rw [hsc']
  have hsnd : (scanP nilI (kept d k)).2 = m := by rw [hsc']
  refine ⟨d, _, s1, hd, ⟨by omega, ?_, ?_, by rw [hsnd]; omega⟩, ?_, g1, by omega, g3⟩
  · rw [hfst, hxe]
    intro j hj
    have hj : j < (v.fl.drop v.base).length := hj
    have h1 : (v.fl.drop v.base)[j]? = some (v.fl.drop v.base)[j] := List.getElem?_eq_getElem hj
    rw [List.getElem?_drop] at h1
    refine ⟨?_, ?_⟩
    · have := (w.fix _ _ h1).1
      show (v.fl.drop v.base)[j].ix = v.base + j + 1
      exact this
    · show (if j = 0 then tmK v.fl v.base else (((v.fl.drop v.base)[j - 1]?).map PE.tm).getD 0) ≤ (v.fl.drop v.base)[j].tm
      obtain ⟨ej, hej⟩ : ∃ e, e = (v.fl.drop v.base)[j] := ⟨_, rfl⟩
      rw [← hej] at h1 ⊢
      split
      · rename_i h0
        have hgo : ∀ b0, b0 = v.base → tmK v.fl b0 ≤ ej.tm := by
          intro b0 hb0
          cases b0 with
          | zero => exact Nat.zero_le _
          | succ b =>
            have hbl : b < v.fl.length := by omega
            show ((v.fl[b]?).map PE.tm).getD 0 ≤ _
            rw [List.getElem?_eq_getElem hbl]
            exact w.mon _ _ _ _ (List.getElem?_eq_getElem hbl) h1 (by omega)
        exact hgo _ rfl
      · rename_i h0
        rw [List.getElem?_drop]
        rw [List.length_drop] at hj
        have hbl : v.base + (j - 1) < v.fl.length := by omega
        rw [List.getElem?_eq_getElem hbl]
        exact w.mon _ _ _ _ (List.getElem?_eq_getElem hbl) h1 (by omega)
  · rw [hfst, hxe]
    exact ⟨by show (0 : Nat) < 7; omega, (own_dr (by omega : 0 < 7)).1, by show v.term ≤ _; omega, w1, w2, by show (0 : Nat) ≤ 3; omega, by show (-1 : Int) ≤ -1; omega, by show (-1 : Int) < 7; omega, by show v.base + (v.fl.drop v.base).length ≤ _; rw [List.length_drop]; omega, by show tmK v.fl v.base ≤ _; omega, by show (2 : Nat) ^ 1 - 1 < 128; decide, fun e he => by
      have he := List.mem_of_mem_drop he
      have h1 := wix e he
      have h2 := w.tm e he
      exact ⟨by omega, by omega, by omega, by omega, fun e => by omega⟩, by show v.base ≤ _; omega, by show v.base + (v.fl.drop v.base).length ≤ _; rw [List.length_drop]; omega, Nat.zero_le _, Nat.zero_le _, Nat.zero_lt_succ _, rfl, rfl,
      fun j => by simp only [PI.new, List.getD_eq_getElem?_getD, List.getElem?_replicate]; split <;> simp, fun j => by simp only [PI.new, List.getD_eq_getElem?_getD, List.getElem?_replicate]; split <;> simp, fun m hm => (List.not_mem_nil hm).elim, Nat.zero_le _, Nat.zero_le _, by show v.base ≤ _; omega, by show tmK v.fl v.base ≤ _; omega, by show (2 : Nat) ^ 1 - 1 < 128; decide, by show v.sd.length ≤ _; omega⟩
  · unfold PS.crashAt
    rw [hd]
    dsimp only
    rw [hfst, hsnd, htk]
theorem Well1.compact (h : Well1 s E) (data : List UInt8) (hdl : data.length ≤ 1) (hk : s.k ≤ 88000) (hE : E ≤ 1000) : ∃ s0 s1, s.compactAt 0 data = some s0 ∧ s0.settle 0 = some s1 ∧ s1.k ≤ s.k + 2 ∧ Well1 s1 E := by
  have hself := h.settle (by omega) hE
  obtain ⟨p, d, f, D, Vs, h⟩ := h
  have hpv := h.ok _ h.vw
  have hp : s.ms[0]? = some p := by rw [h.ms]; rfl
  have hv1 := h.v1
  have hcm := h.cm
  have hDl := hpv.pre.length_le
  have hDl : D.length ≤ f.length := hDl
  have hlc := h.lc
  obtain ⟨k1, k2, k3⟩ := h.cl
  have hbd := h.bd.mono (Nat.le_succ s.k) (Nat.le_refl 0)
  have hlast := h.sh.last
  have hll : p.last = p.lix + p.l.length := rfl
  unfold PS.compactAt
  rw [hp]
  dsimp only
  split
  · rename_i hlt
    have ht : (p.termAt p.cm).1 = tmK f p.cm := by
      unfold PR.termAt
      rw [if_neg (by omega), if_neg (by omega), h.sh.lf, List.getElem?_drop]
      cases hc : p.cm with
      | zero => omega
      | succ c =>
        rw [show p.lix + (c + 1 - p.lix - 1) = c by omega]
        rfl
    have hsh : Shp 1 (p.compact data) f := ⟨by
      show p.l.drop (p.cm - p.lix) = f.drop p.cm
      rw [h.sh.lf, List.drop_drop]
      congr 1
      omega, by show p.cm ≤ _; omega, ht, rfl, rfl, hv1.1, h.sh.fix⟩
    have hq : Bd (s.k + 1) 0 (p.compact data) := ⟨hbd.tick, hbd.term, hbd.vote, hbd.ol, hbd.out, hbd.nx, hbd.nl, fun e he => hbd.es e (List.mem_of_mem_drop he)⟩
    have hlen : f.length ≤ E := hpv.len
    have htm := h.bd.term
    have hfits : Fits (p.compact data) f := ⟨by show p.term < _; omega, hbd.vote, by have : p.vote < 7 := hpv.v2; show p.vote < _; omega, fun e he => by
      obtain ⟨j, hj⟩ := List.mem_iff_getElem?.1 he
      have h1 := h.sh.fix j e hj
      have h2 := hpv.tm e he
      have h3 : j < f.length := by
        rcases Nat.lt_or_ge j f.length with h | h
        · exact h
        · rw [List.getElem?_eq_none h] at hj; cases hj
      have h4 : e.tm ≤ p.term := h2.1
      exact ⟨by omega, by omega, by omega, by omega⟩, by show data.length ≤ _; omega, by omega⟩
    have hsr : Shp 1 { p.compact data with rs := true } f := ⟨hsh.lf, hsh.lle, hsh.ltm, hsh.six, hsh.stm, hsh.svt, hsh.fix⟩
    obtain ⟨G', hG'⟩ : ∃ G' : Fa, G' = { Fa.zero with vw := fun _ v => Vs v ∨ v = (p.compact data).view f } := ⟨_, rfl⟩
    have hdr := DR.settle (n := 1) (i := 0) (.inl rfl) h.dr (G' := G') (q := { p.compact data with rs := true }) (f' := f) (fun x hx => by
      obtain ⟨v, hv, hx⟩ := hx
      exact ⟨v, by rw [hG']; exact .inl hv, hx⟩) ⟨_, h.vw, rfl⟩ k1 hsr (by rw [hG']; exact .inr rfl) (.inl rfl) ⟨hfits.term, hfits.v1, hfits.v2, hfits.es, hfits.sd, hfits.len⟩
    have hdk : ∀ d : List UInt8 × Nat, ({ p.compact data with rs := true } : PR).disk d = ((p.compact data).image.whole, (p.compact data).image.whole.length) := by
      intro d
      unfold PR.disk
      rw [if_pos rfl]
      rfl
    rw [hdk] at hdr
    have hwl : (p.compact data).image.whole.length ≤ 2000000 := by
      have := disk_len hsr (by omega) (fun e he => (hpv.tm e he).2) (by show data.length ≤ _; omega) ([], 0) 2000000 (by simp) (Nat.le_refl _)
      rw [hdk] at this
      exact this
    obtain ⟨s1, g1, g2, g3⟩ := h.clean (by omega) (q := p.compact data) (f' := f) (Vs' := fun v => Vs v ∨ v = (p.compact data).view f) (d' := ((p.compact data).image.whole, (p.compact data).image.whole.length)) k3 k1 k2 hsh h.me hv1.1 hq (.inr rfl) (by
      rintro v (hv | rfl)
      · exact (h.ok v hv).up (Nat.le_succ _) (Nat.le_refl _)
      · have := hpv.up (Nat.le_succ s.k) (Nat.le_refl E)
        exact { pre := this.pre, base := hcm, fix := this.fix, mon := this.mon, tm := this.tm, len := this.len, term := this.term, v1 := this.v1, v2 := this.v2, sd := by show data.length ≤ _; omega }) hcm (Nat.le_refl _) (by
      refine hdr.mono fun x hx => ?_
      obtain ⟨v, hv, hx⟩ := hx
      rw [hG'] at hv
      exact ⟨v, hv, hx⟩) (by show (p.compact data).image.whole.length ≤ _; omega)
    exact ⟨_, s1, rfl, g1, by omega, g3⟩
  · obtain ⟨s1, g1, g2, g3⟩ := hself
    exact ⟨s, s1, rfl, g1, by omega, g3⟩
theorem Well1.fine (h : Well1 s E) (hk : s.k ≤ 88000) (hE : E ≤ 1000) : Fine s 0 := by
  have hcr := fun k => h.crash k hk hE
  obtain ⟨p, d, f, D, Vs, h⟩ := h
  have hp : s.ms[0]? = some p := by rw [h.ms]; rfl
  have hpv := h.ok _ h.vw
  have hlen : f.length ≤ E := hpv.len
  have hlast := h.sh.last
  have hll : p.last = p.lix + p.l.length := rfl
  have hDl : D.length ≤ f.length := hpv.pre.length_le
  have hcm := h.cm
  refine ⟨fun p' hp' => ?_, fun p' hp' => ?_, fun d' hd' k => ?_⟩
  · rw [hp] at hp'
    rw [← Option.some.inj hp']
    have h2 := h.bd.ol
    exact ⟨by omega, fun e => (h.bd.nx e).1, by omega⟩
  · rw [hp] at hp'
    rw [← Option.some.inj hp']
    exact ⟨by omega, h.lc, by omega, h.cl.1, h.cl.2.1, fun e he => by
      rw [h.sh.lf] at he
      obtain ⟨j, hj⟩ := List.mem_iff_getElem?.1 (List.mem_of_mem_drop he)
      exact (h.sh.fix j e hj).2⟩
  · obtain ⟨d2, s0, s1, h1, h2, _⟩ := hcr k
    rw [hd'] at h1
    rw [Option.some.inj h1]
    exact h2
theorem Well1.come (h : Well1 s E) (k : Nat) (dbl : Bool) : s.come k dbl = some s := by
  unfold PS.come
  rw [h.len.2]
  rfl
theorem Well1.act (dr : Nat → Nat) (h : Well1 s E) (K A B : Nat) (hk : s.k ≤ 85000) (hE : E + 3 ≤ 1000) : ∃ s0 s1, s.actI dr (K % 16) (A % s.ms.length) B = some s0 ∧ s0.settle (A % s.ms.length) = some s1 ∧ s1.k ≤ s.k + 320 ∧ ∃ E', E' ≤ E + 3 ∧ Well1 s1 E' := by
  rw [h.len.1, Nat.mod_one]
  generalize K % 16 = K'
  have fin : ∀ {s0 : PS} {E0 : Nat}, Well1 s0 E0 → s0.k ≤ s.k + 319 → E0 ≤ E + 3 → ∃ s1, s0.settle 0 = some s1 ∧ s1.k ≤ s.k + 320 ∧ ∃ E', E' ≤ E + 3 ∧ Well1 s1 E' := fun {s0 E0} hw hk0 hE0 => by
    obtain ⟨s1, h1, h2, h4⟩ := hw.settle (by omega) (by omega)
    exact ⟨s1, h1, by omega, E0, hE0, h4⟩
  unfold PS.actI
  split
  · obtain ⟨s0, s1, h1, h2, h3, h5⟩ := h.tick (by omega) (by omega)
    exact ⟨s0, s1, h1, h2, by omega, E + 1, by omega, h5⟩
  · split
    · obtain ⟨s0, h1, h2, h3⟩ := h.sync (by omega) (by omega)
      obtain ⟨s1, h4⟩ := fin h3 (by omega) (by omega)
      exact ⟨s0, s1, h1, h4⟩
    · split
      · obtain ⟨s1, h4⟩ := fin h (by omega) (by omega)
        exact ⟨s, s1, h.come B false, h4⟩
      · split
        · obtain ⟨s1, h4⟩ := fin h (by omega) (by omega)
          exact ⟨s, s1, h.come B true, h4⟩
        · split
          · have e : ({ s with net := s.net.drop 1 } : PS) = s := by
              rw [h.len.2]
              have := h.len.2
              cases s
              simp_all
            rw [e]
            obtain ⟨s1, h4⟩ := fin h (by omega) (by omega)
            exact ⟨_, s1, rfl, h4⟩
          · split
            · obtain ⟨s0, s1, h1, h2, h3, h5⟩ := h.propose [UInt8.ofNat B] (by simp) (by omega) (by omega)
              exact ⟨s0, s1, h1, h2, by omega, E + 1, by omega, h5⟩
            · split
              · obtain ⟨d, s0, s1, _, _, h1, h2, h3, h5⟩ := h.crash B (by omega) (by omega)
                exact ⟨s0, s1, h1, h2, by omega, E, by omega, h5⟩
              · split
                · split
                  · obtain ⟨s0, s1, h1, h2, h3, h5⟩ := h.compact [UInt8.ofNat B] (by simp) (by omega) (by omega)
                    exact ⟨s0, s1, h1, h2, by omega, E, by omega, h5⟩
                  · obtain ⟨s1, h4⟩ := fin h (by omega) (by omega)
                    exact ⟨_, s1, rfl, h4⟩
                · split
                  · obtain ⟨s0, s1, h1, h2, h3, h5⟩ := h.draw (dr B) (by omega) (by omega)
                    exact ⟨s0, s1, h1, h2, by omega, E, by omega, h5⟩
                  · obtain ⟨s0, h1, h2, h3⟩ := h.round (-1) (by omega) (by omega)
                    obtain ⟨s1, h4⟩ := fin h3 (by omega) (by omega)
                    exact ⟨s0, s1, h1, h4⟩
theorem Well1.new : Well1 (PS.new 1) 0 := by
  have hil := img_len 1
  have he : ∀ v : Vw, v = ⟨0, -1, [], 0, []⟩ → VOk 0 0 [] v := by
    rintro v rfl
    exact ⟨List.prefix_refl _, Nat.le_refl _, fun k e h => by simp at h, fun a b e e' h => by simp at h, fun e he => (List.not_mem_nil he).elim, Nat.le_refl _, Nat.le_refl _, Int.le_refl _, by decide, Nat.zero_le _⟩
  refine ⟨PR.first 1 0, ((img 1).whole, (img 1).whole.length), [], [], (· = ⟨0, -1, [], 0, []⟩), rfl, rfl, rfl, ⟨rfl, Nat.le_refl _, rfl, rfl, rfl, rfl, fun k e h => by simp at h⟩, rfl, rfl, ⟨rfl, rfl, rfl⟩, ⟨Nat.le_refl _, Nat.le_refl _, Int.le_refl _, Nat.le_refl _, fun m hm => (List.not_mem_nil hm).elim, fun e => by have e : (0 : Nat) = 3 := e; omega, rfl, fun e he => (List.not_mem_nil he).elim⟩, rfl, he, Nat.le_refl _, Nat.le_refl _, ?_, ?_, fun T j h => (by cases h), fun k e h => (by cases h), rfl, Nat.le_refl _⟩
  · have e : ((PR.first 1 0).view []).pi 1 = img 1 := rfl
    rw [e]
    exact DR.whole (img_reaches 1 (by omega) (by omega)) ⟨_, rfl, rfl⟩
  · show (img 1).whole.length ≤ 40000 * (0 + 1) + 2000000
    omega
def Safe (n : Nat) (s : PS) (E : Nat) : Prop := ((n = 2 ∨ n = 3) ∧ Well n s E) ∨ (n = 1 ∧ Well1 s E)
theorem Safe.new {n : Nat} (h : n = 1 ∨ n = 2 ∨ n = 3) : Safe n (PS.new n) 0 := by
  rcases h with rfl | h
  · exact .inr ⟨rfl, Well1.new⟩
  · exact .inl ⟨h, Well.new h⟩
theorem Safe.bad {n : Nat} (h : Safe n s E) : s.bad = false := by
  rcases h with ⟨_, h⟩ | ⟨_, h⟩
  · exact h.bad
  · exact h.bad
theorem Safe.len {n : Nat} (h : Safe n s E) : s.ms.length = n := by
  rcases h with ⟨_, h⟩ | ⟨e, h⟩
  · exact h.len
  · rw [e]; exact h.len.1
theorem Safe.fine {n i : Nat} (h : Safe n s E) (hi : i < n) (hk : s.k ≤ 88000) (hE : E ≤ 1000) : Fine s i := by
  rcases h with ⟨hn, h⟩ | ⟨e, h⟩
  · exact h.fine hn hi hk hE
  · have : i = 0 := by omega
    rw [this]
    exact h.fine hk hE
theorem Safe.act {n : Nat} (dr : Nat → Nat) (h : Safe n s E) (K A B : Nat) (hk : s.k ≤ 85000) (hE : E + 3 ≤ 1000) : ∃ s0 s1, s.actI dr (K % 16) (A % s.ms.length) B = some s0 ∧ s0.settle (A % s.ms.length) = some s1 ∧ s1.k ≤ s.k + 320 ∧ ∃ E', E' ≤ E + 3 ∧ Safe n s1 E' := by
  rcases h with ⟨hn, h⟩ | ⟨e, h⟩
  · obtain ⟨s0, s1, h1, h2, h3, E', h4, h5⟩ := h.act hn dr K A B hk hE
    exact ⟨s0, s1, h1, h2, h3, E', h4, .inl ⟨hn, h5⟩⟩
  · obtain ⟨s0, s1, h1, h2, h3, E', h4, h5⟩ := h.act dr K A B hk hE
    exact ⟨s0, s1, h1, h2, h3, E', h4, .inr ⟨e, h5⟩⟩
end
end Go.SX
namespace Go.SX
open Go Go.Proofs
set_option maxRecDepth 4000
theorem rounds_n {off : Int} : ∀ {n : Nat} {s s' : PS}, PS.rounds off n s = some s' → s'.ms.length = s.ms.length
  | 0, s, s', h => by rw [← Option.some.inj h]
  | n + 1, s, s', h => by
    unfold PS.rounds at h
    split at h
    · cases h
    · obtain ⟨s1, h1, h⟩ := Option.bind_eq_some_iff.1 h
      rw [rounds_n h]
      unfold PS.round at h1
      obtain ⟨t1, e1, h1⟩ := Option.bind_eq_some_iff.1 h1
      obtain ⟨t2, e2, h1⟩ := Option.bind_eq_some_iff.1 h1
      have k1 : ∀ (n i : Nat) (s s' : PS), PS.ticks n i s = some s' → s'.ms.length = s.ms.length := by
        intro n
        induction n with
        | zero => intro i s s' h; rw [← Option.some.inj h]
        | succ n ih =>
          intro i s s' h
          unfold PS.ticks at h
          obtain ⟨u1, f1, h⟩ := Option.bind_eq_some_iff.1 h
          obtain ⟨u2, f2, h⟩ := Option.bind_eq_some_iff.1 h
          rw [ih _ _ _ h, sync_n f2]
          unfold PS.tickAt at f1
          split at f1
          · split at f1
            · rw [← Option.some.inj f1]; simp
            · cases f1
          · cases f1
      have k2 : ∀ (n : Nat) (s s' : PS), PS.deliver off n s = some s' → s'.ms.length = s.ms.length := by
        intro n
        induction n with
        | zero => intro s s' h; rw [← Option.some.inj h]
        | succ n ih =>
          intro s s' h
          unfold PS.deliver at h
          split at h
          · cases h
          · rename_i m r hn
            obtain ⟨u1, f1, h⟩ := Option.bind_eq_some_iff.1 h
            rw [ih _ _ h]
            split at f1
            · rw [← Option.some.inj f1]
            · exact (come0 hn f1).1
      have k3 : ∀ (n i : Nat) (s s' : PS), PS.syncs n i s = some s' → s'.ms.length = s.ms.length := by
        intro n
        induction n with
        | zero => intro i s s' h; rw [← Option.some.inj h]
        | succ n ih =>
          intro i s s' h
          unfold PS.syncs at h
          obtain ⟨u1, f1, h⟩ := Option.bind_eq_some_iff.1 h
          rw [ih _ _ _ h, sync_n f1]
      rw [k3 _ _ _ _ h1, k2 _ _ _ e2, k1 _ _ _ _ e1]
theorem rounds_step {off : Int} {n : Nat} {s s' : PS} (h : PS.rounds off (n + 1) s = some s') : s.bad = false ∧ ∃ s1, s.round off = some s1 ∧ PS.rounds off n s1 = some s' := by
  unfold PS.rounds at h
  split at h
  · cases h
  · rename_i hb
    obtain ⟨s1, h1, h⟩ := Option.bind_eq_some_iff.1 h
    exact ⟨by simpa using hb, s1, h1, h⟩
theorem chk_is {o : Option PS} {f : PS → Bool} (h : chk o f = true) : ∃ s, o = some s ∧ f s = true := by
  unfold chk at h
  split at h
  · exact ⟨_, rfl, h⟩
  · cases h
theorem gH_out (g : Gr) (Fr : List Ent) : Fr.Sublist (g.H Fr) := by
  have h : g.H Fr = (g.E :: (g.lb.ents 1 (msV g.ms) ++ (g.wf.ents (mgV g.net) ++ (g.L :: g.D :: msH g.ms)))) ++ Fr := by simp [Gr.H]
  rw [h]
  exact List.sublist_append_right _ _
theorem new_n (n : Nat) : (PS.new n).ms.length = n := by simp [PS.new]
theorem g_awake (O : World) (F : Fz) (Fr : List Ent) : Does Tryz.prog O 8 #[] F Fr (fun v F' H' => v = .bool true ∧ H' = Fr) := by
  refine does_of_run (args := []) Tryz.func8 rfl rfl ?_
  obtain ⟨s4, h4, hB⟩ := chk_is awake_run
  have hpn : ∀ g : Gr, g.ps.ms.length = g.ms.length := fun g => by simp [Gr.ps]
  refine r_seq (r_region rfl (o_vl rfl rfl (v_assign rfl) (o_end (r_seq (r_region rfl (o_call rfl rfl rfl rfl (c_call callable9 rfl) (g_new _ _ 1 _ (by decide) (by decide)) ?_))))))
  rintro v' F1 H' ⟨g0, hg0, hp0, rfl, rfl⟩ hF1
  rw [← hp0] at h4
  have hn0 : g0.ms.length = 1 := by rw [← hpn, hp0, new_n]
  refine o_vl rfl rfl (v_assign rfl) (o_end (r_seq (r_seq (r_region rfl (o_vl rfl rfl (v_assign rfl) (o_end (r_block ?_)))))))
  refine r_loop (fun q : Gr × Fz × Nat => F.le q.2.1 ∧ q.1.ok q.2.1 ∧ q.1.ga = g0.ga ∧ q.1.ms.length = 1 ∧ q.2.2 ≤ 4 ∧ PS.rounds (-1) (4 - q.2.2) q.1.ps = some s4) (fun q => [(1, ptrV g0.ga), (2, .int .i64 q.2.2)]) (fun q => q.2.1) (fun q => q.1.H Fr) (fun q => 4 - q.2.2) (g0, F1, 0) ⟨hF1, hg0, rfl, hn0, Nat.zero_le _, h4⟩ ⟨rfl, rfl, trivial⟩ rfl rfl ?_
  rintro ⟨g, F2, i⟩ ⟨hF2, hg, hga, hn, hi, hr⟩ IH
  dsimp only at hF2 hg hga hn hi hr ⊢
  rw [← hga]
  have hil : 0 < g.ms.length := by omega
  obtain ⟨m, hm⟩ : ∃ m, m = g.ms[0] := ⟨_, rfl⟩
  have hget : g.ms[0]? = some m := by rw [hm]; exact List.getElem?_eq_getElem hil
  have hmi : m ∈ g.ms := List.mem_of_getElem? hget
  have hmr := (hg.ms m hmi).1
  obtain ⟨lb, c, N, hlv, hlm⟩ := g.lbH hg hil
  have hpm : g.ps.ms[0]? = some m.r.p := by simp [Gr.ps, hget]
  have hlvc : ∀ F H, g.E ∈ H → Cell F H g.ga (0 + 0) (.slice (some ⟨lb, 0, none⟩) g.ms.length c) := fun F H hH => by rw [← hlv]; exact gcell0 (g := g) 0 hH rfl
  have hptr : ∀ F, Cell F (g.H Fr) lb (0 + 0) (ptrV m.ma) := fun F => cell_own (cs := msV g.ms) (n := N) (hlm _) (msV_get hget)
  refine r_seq (r_seq (r_region rfl (o_vl rfl rfl (v_move rfl) (o_vl rfl rfl (v_lss rfl rfl) ?_))))
  refine j_prop 5 rfl (fun h5 => ?_) (fun h5 => ?_)
  · rw [show 4 - i = (4 - (i + 1)) + 1 by omega] at hr
    obtain ⟨hb, s1, h1, hr⟩ := rounds_step hr
    have hb : g.bad = false := hb
    refine o_vl rfl rfl (v_move rfl) (o_vl rfl rfl (v_move rfl) (o_vl rfl rfl (v_nilCheck rfl) (o_vl rfl rfl (v_field (k := 4) rfl rfl rfl) (o_vl rfl rfl (v_load (v := .bool false) rfl rfl (by rw [← hb]; exact gcell0 (g := g) 4 (by simp [Gr.H]) rfl)) (o_vl rfl rfl (v_not rfl) (o_vl rfl rfl (v_pick1 rfl rfl) (o_vl rfl rfl (v_move rfl) (o_vl rfl rfl (v_move rfl) (o_vl rfl rfl (v_nilCheck rfl) (o_vl rfl rfl (v_field (k := 0) rfl rfl rfl) (o_vl rfl rfl (v_load (v := .slice (some ⟨lb, 0, none⟩) g.ms.length c) rfl rfl (hlvc _ _ (by simp [Gr.H]))) (o_vl rfl rfl (v_index1 (i := 0) rfl rfl rfl rfl hil) (o_vl rfl rfl (v_load (v := ptrV m.ma) rfl rfl (hptr _)) ?_)))))))))))))
    refine o_vl rfl rfl (v_nilCheck rfl) (o_vl rfl rfl (v_field (k := 0) rfl rfl rfl) (o_vl rfl rfl (v_load rfl rfl (ecell (m := m) 0 (by first | exact mE_in hmi _ | simp) rfl)) (o_vl rfl rfl (v_pneqnil rfl rfl rfl) (o_vl rfl rfl (v_pick1 rfl rfl) (o_end (r_true rfl (r_skip (r_seq (r_block (r_region rfl (o_vl rfl rfl (v_move rfl) (o_call rfl rfl rfl rfl (c_call callable10 rfl) (g_round _ _ g (-1) s1 Fr hg h1) ?_))))))))))))
    rintro v' F3 H' ⟨rfl, g2, hg2, hp2, hga2, rfl⟩ hF3
    refine o_end (r_inBlock (r_region rfl (o_vl rfl rfl (v_move rfl) (o_vl rfl rfl (v_add rfl rfl (r := ((i + 1 : Nat) : Int)) (wrap_i64 (by omega) (by omega))) (o_vl rfl rfl (v_assign rfl) (o_end ?_))))))
    rw [← hp2] at hr
    refine j_keep ?_ (IH (g2, F3, i + 1) ⟨Fz.le_trans hF2 hF3, hg2, by dsimp only; rw [hga2, hga], ?_, by dsimp only; omega, hr⟩ (by dsimp only; omega))
    · exact ⟨by rw [← hga]; rfl, rfl, trivial⟩
    · have e1 := rounds_n (n := 1) (off := -1) (s := g.ps) (s' := g2.ps) (by unfold PS.rounds; rw [if_neg (by show ¬ g.bad = true; rw [hb]; simp), h1, hp2]; rfl)
      rw [hpn, hpn, hn] at e1
      exact e1
  · have h40 : 4 - i = 0 := by omega
    rw [h40] at hr
    have hr : g.ps = s4 := Option.some.inj hr
    rw [← hr] at hB
    unfold PS.awakeB at hB
    rw [hpm] at hB
    simp only [Bool.and_eq_true, Bool.not_eq_true', decide_eq_true_eq] at hB
    obtain ⟨hb, ⟨hro, hrd⟩, hcm⟩ := hB
    have hb : g.bad = false := hb
    unfold PR.ready at hrd
    refine o_vl rfl rfl (v_move rfl) (o_sk rfl rfl (o_sk rfl rfl (o_sk rfl rfl (o_sk rfl rfl (o_sk rfl rfl (o_vl rfl rfl (v_pick0 rfl rfl) (o_vl rfl rfl (v_move rfl) (o_sk rfl rfl (o_sk rfl rfl (o_sk rfl rfl (o_sk rfl rfl (o_sk rfl rfl (o_sk rfl rfl ?_)))))))))))))
    refine o_sk rfl rfl (o_sk rfl rfl (o_sk rfl rfl (o_sk rfl rfl (o_vl rfl rfl (v_pick0 rfl rfl) (o_end (r_false rfl (r_exit rfl (r_seq (r_region rfl (o_vl rfl rfl (v_move rfl) (o_vl rfl rfl (v_nilCheck rfl) (o_vl rfl rfl (v_field (k := 0) rfl rfl rfl) (o_vl rfl rfl (v_load (v := .slice (some ⟨lb, 0, none⟩) g.ms.length c) rfl rfl (hlvc _ _ (by simp [Gr.H]))) ?_)))))))))))))
    refine o_vl rfl rfl (v_index1 (i := 0) rfl rfl rfl rfl hil) (o_vl rfl rfl (v_load (v := ptrV m.ma) rfl rfl (hptr _)) (o_vl rfl rfl (v_nilCheck rfl) (o_vl rfl rfl (v_field (k := 0) rfl rfl rfl) (o_vl rfl rfl (v_load rfl rfl (ecell (m := m) 0 (by first | exact mE_in hmi _ | simp) rfl)) (o_vl rfl rfl (v_pneqnil rfl rfl rfl) (o_vl rfl rfl (v_move rfl) (o_vl rfl rfl (v_move rfl) (o_vl rfl rfl (v_nilCheck rfl) (o_vl rfl rfl (v_field (k := 0) rfl rfl rfl) (o_vl rfl rfl (v_load (v := .slice (some ⟨lb, 0, none⟩) g.ms.length c) rfl rfl (hlvc _ _ (by simp [Gr.H]))) (o_vl rfl rfl (v_index1 (i := 0) rfl rfl rfl rfl hil) (o_vl rfl rfl (v_load (v := ptrV m.ma) rfl rfl (hptr _)) (o_vl rfl rfl (v_nilCheck rfl) ?_)))))))))))))
    refine o_vl rfl rfl (v_field (k := 0) rfl rfl rfl) (o_vl rfl rfl (v_load rfl rfl (ecell (m := m) 0 (by first | exact mE_in hmi _ | simp) rfl)) (o_call rfl rfl rfl rfl (c_call callable26 rfl) (g_rd hget (fun X => r_Leads _ _ m.ra m.r X)) ?_))
    rintro v' F2 H' ⟨rfl, rfl, rfl⟩ _
    rw [decide_eq_true hro]
    refine o_vl rfl rfl (v_pick1 rfl rfl) (o_vl rfl rfl (v_move rfl) (o_vl rfl rfl (v_move rfl) (o_vl rfl rfl (v_nilCheck rfl) (o_vl rfl rfl (v_field (k := 0) rfl rfl rfl) (o_vl rfl rfl (v_load (v := .slice (some ⟨lb, 0, none⟩) g.ms.length c) rfl rfl (hlvc _ _ (by simp [Gr.H]))) (o_vl rfl rfl (v_index1 (i := 0) rfl rfl rfl rfl hil) (o_vl rfl rfl (v_load (v := ptrV m.ma) rfl rfl (hptr _)) (o_vl rfl rfl (v_nilCheck rfl) (o_vl rfl rfl (v_field (k := 0) rfl rfl rfl) (o_vl rfl rfl (v_load rfl rfl (ecell (m := m) 0 (by first | exact mE_in hmi _ | simp) rfl)) (o_call rfl rfl rfl rfl (c_call callable12 rfl) (g_rd hget (fun X => r_Ready _ _ m.ra m.r X hmr)) ?_)))))))))))
    rintro v' F2 H' ⟨rfl, rfl, rfl⟩ _
    rw [hrd]
    refine o_vl rfl rfl (v_pick1 rfl rfl) (o_vl rfl rfl (v_move rfl) (o_vl rfl rfl (v_move rfl) (o_vl rfl rfl (v_nilCheck rfl) (o_vl rfl rfl (v_field (k := 0) rfl rfl rfl) (o_vl rfl rfl (v_load (v := .slice (some ⟨lb, 0, none⟩) g.ms.length c) rfl rfl (hlvc _ _ (by simp [Gr.H]))) (o_vl rfl rfl (v_index1 (i := 0) rfl rfl rfl rfl hil) (o_vl rfl rfl (v_load (v := ptrV m.ma) rfl rfl (hptr _)) (o_vl rfl rfl (v_nilCheck rfl) (o_vl rfl rfl (v_field (k := 0) rfl rfl rfl) (o_vl rfl rfl (v_load rfl rfl (ecell (m := m) 0 (by first | exact mE_in hmi _ | simp) rfl)) (o_call rfl rfl rfl rfl (c_call callable15 rfl) (g_rd hget (fun X => r_Commit _ _ m.ra m.r X)) ?_)))))))))))
    rintro v' F2 H' ⟨rfl, rfl, rfl⟩ _
    rw [hcm]
    refine o_vl rfl rfl (v_eql rfl rfl) ?_
    refine j_slot 74 rfl (v' := .bool true) rfl ?_
    refine o_vl rfl rfl (v_pick1 rfl rfl) (o_vl rfl rfl (v_move rfl) (o_vl rfl rfl (v_move rfl) (o_vl rfl rfl (v_nilCheck rfl) (o_vl rfl rfl (v_field (k := 4) rfl rfl rfl) (o_vl rfl rfl (v_load (v := .bool false) rfl rfl (by rw [← hb]; exact gcell0 (g := g) 4 (by simp [Gr.H]) rfl)) (o_vl rfl rfl (v_not rfl) (o_vl rfl rfl (v_pick1 rfl rfl) (o_vl rfl rfl (v_assign rfl) (o_end ?_)))))))))
    refine j_drop (gH_out g Fr) ?_
    exact r_ret1 Tryz.func8 rfl rfl ⟨⟨rfl, rfl⟩, hF2⟩
theorem Gr.rd {F : Fz} {g : Gr} (hg : g.ok F) {i : Nat} (hi : i < g.ms.length) : ∃ (m : Mb) (lb c N : Nat), g.ms[i]? = some m ∧ m.r.ok F ∧ m ∈ g.ms ∧ g.ps.ms[i]? = some m.r.p ∧ (∀ F H, g.E ∈ H → Cell F H g.ga (0 + 0) (.slice (some ⟨lb, 0, none⟩) g.ms.length c)) ∧ (∀ Fr, Ent.mem lb (msV g.ms) N ∈ g.H Fr) ∧ ∀ F H, Ent.mem lb (msV g.ms) N ∈ H → Cell F H lb (0 + i) (ptrV m.ma) := by
  obtain ⟨lb, c, N, hlv, hlm⟩ := g.lbH hg hi
  have hget : g.ms[i]? = some g.ms[i] := List.getElem?_eq_getElem hi
  exact ⟨g.ms[i], lb, c, N, hget, (hg.ms _ (List.getElem_mem hi)).1, List.getElem_mem hi, by simp [Gr.ps, hi], fun F H hH => by rw [← hlv]; exact gcell0 (g := g) 0 hH rfl, hlm, fun F H hm => cell_own (cs := msV g.ms) (n := N) hm (msV_get hget)⟩
end Go.SX
namespace Go.SX
open Go Go.Proofs
set_option maxRecDepth 4000
theorem set_keep {α : Type} {l : List α} {i : Nat} {p : α} (h : l[i]? = some p) : l.set i p = l := by
  apply List.ext_getElem?
  intro j
  rw [List.getElem?_set]
  by_cases hj : i = j
  · subst hj
    obtain ⟨hl, _⟩ := List.getElem?_eq_some_iff.1 h
    rw [if_pos rfl, if_pos hl, h]
  · rw [if_neg hj]
theorem dec_same {p q : Prop} [Decidable p] [Decidable q] (h : p ↔ q) : (some (Value.bool (decide p)) : Option Value) = some (Value.bool (decide q)) := by
  by_cases hp : p
  · rw [decide_eq_true hp, decide_eq_true (h.1 hp)]
  · rw [decide_eq_false hp, decide_eq_false (fun hq => hp (h.2 hq))]
set_option maxHeartbeats 8000000 in
theorem g_act (O : World) (F : Fz) (g : Gr) (K0 A0 B0 : Nat) (s0 s' : PS) (Fr : List Ent) (hg : g.ok F) (hn1 : 1 ≤ g.ms.length) (hK0 : K0 < 256) (hA0 : A0 < 256) (hB0 : B0 < 256) (h0 : g.ps.actI twoD (K0 % 16) (A0 % g.ms.length) B0 = some s0) (hs : s0.settle (A0 % g.ms.length) = some s') (hf : Fine g.ps (A0 % g.ms.length)) (hgk : g.k ≤ 90000) :
    Does Tryz.prog O 19 #[ptrV g.ga, .agg #[.int .u8 K0, .int .u8 A0, .int .u8 B0]] F (g.H Fr) (fun v F' H' => v = noneV ∧ ∃ g' : Gr, g'.ok F' ∧ g'.ps = s' ∧ g'.ga = g.ga ∧ H' = g'.H Fr) := by
  refine does_of_run (args := [_, _]) Tryz.func19 rfl rfl ?_
  have hgl := hg.len
  obtain ⟨i, hi⟩ : ∃ i, i = A0 % g.ms.length := ⟨_, rfl⟩
  rw [← hi] at h0 hs hf
  have hil : i < g.ms.length := by rw [hi]; exact Nat.mod_lt _ (by omega)
  have hrem : Int.tmod (A0 : Int) (g.ms.length : Int) = (i : Int) := by rw [hi]; rfl
  obtain ⟨m, lb, c, N, hget, hmr, hmi, hmp, hlvc, hlm, hptr⟩ := Gr.rd hg hil
  have hmd := (hg.ms m hmi).2
  have hdp : g.ps.ds[i]? = some m.d.pure := by simp [Gr.ps, hget]
  obtain ⟨K, hKe⟩ : ∃ K, K = K0 % 16 := ⟨_, rfl⟩
  rw [← hKe] at h0
  have hK16 : K < 16 := by omega
  have hrK : Int.tmod (K0 : Int) 16 = (K : Int) := by rw [hKe]; rfl
  refine r_seq (r_region rfl (o_act rfl rfl rfl rfl (a_box rfl) ?_))
  rintro v' H' ⟨x, rfl, rfl⟩
  obtain ⟨X, hX⟩ : ∃ X : Ent, X = .mem x [.int .u8 K0, .int .u8 A0, .int .u8 B0] 3 := ⟨_, rfl⟩
  have hXc : ∀ F H j c, X ∈ H → ([.int .u8 K0, .int .u8 A0, .int .u8 B0] : List Value)[j]? = some c → Cell F H x (0 + j) c := fun F H j c hm hc => by rw [Nat.zero_add]; rw [hX] at hm; exact cell_own hm hc
  refine j_heap (H' := X :: g.H Fr) (by rw [hX]; rfl) ?_
  refine j_perm (gbox_in g X Fr) ?_
  have hXin : ∀ g : Gr, X ∈ g.H (X :: Fr) := fun g => by simp [Gr.H]
  refine o_end (r_seq (d_region 1000000 rfl ([X, g.E]) ?_))
  refine d_tk (i := 0) rfl rfl (by intro z hz; simp only [List.mem_cons, List.not_mem_nil, or_false] at hz; rcases hz with rfl | rfl <;> simp [Gr.H]) (v_field (k := 1) rfl rfl rfl) (d_tk (i := 1) rfl rfl (by intro z hz; simp only [List.mem_cons, List.not_mem_nil, or_false] at hz; rcases hz with rfl | rfl <;> simp [Gr.H]) (v_load (v := .int .u8 A0) rfl rfl (hXc _ _ 1 _ (by simp) rfl)) (d_tk (i := 2) rfl rfl (by intro z hz; simp only [List.mem_cons, List.not_mem_nil, or_false] at hz; rcases hz with rfl | rfl <;> simp [Gr.H]) (v_conv rfl rfl rfl (wrap_i64 (by omega) (by omega))) (d_tk (i := 3) rfl rfl (by intro z hz; simp only [List.mem_cons, List.not_mem_nil, or_false] at hz; rcases hz with rfl | rfl <;> simp [Gr.H]) (v_move rfl) (d_tk (i := 4) rfl rfl (by intro z hz; simp only [List.mem_cons, List.not_mem_nil, or_false] at hz; rcases hz with rfl | rfl <;> simp [Gr.H]) (v_nilCheck rfl) (d_tk (i := 5) rfl rfl (by intro z hz; simp only [List.mem_cons, List.not_mem_nil, or_false] at hz; rcases hz with rfl | rfl <;> simp [Gr.H]) (v_field (k := 0) rfl rfl rfl) (d_tk (i := 6) rfl rfl (by intro z hz; simp only [List.mem_cons, List.not_mem_nil, or_false] at hz; rcases hz with rfl | rfl <;> simp [Gr.H]) (v_load (v := .slice (some ⟨lb, 0, none⟩) g.ms.length c) rfl rfl (hlvc _ _ (by simp))) (d_tk (i := 7) rfl rfl (by intro z hz; simp only [List.mem_cons, List.not_mem_nil, or_false] at hz; rcases hz with rfl | rfl <;> simp [Gr.H]) (v_len rfl rfl) (d_tk (i := 8) rfl rfl (by intro z hz; simp only [List.mem_cons, List.not_mem_nil, or_false] at hz; rcases hz with rfl | rfl <;> simp [Gr.H]) (v_rem rfl rfl (by omega) hrem) (d_tk (i := 9) rfl rfl (by intro z hz; simp only [List.mem_cons, List.not_mem_nil, or_false] at hz; rcases hz with rfl | rfl <;> simp [Gr.H]) (v_assign rfl) (d_end (by decide +kernel) (r_seq (r_region rfl (o_vl rfl rfl (v_move rfl) ?_)))))))))))))
  refine o_vl rfl rfl (v_nilCheck rfl) (o_vl rfl rfl (v_field (k := 0) rfl rfl rfl) (o_vl rfl rfl (v_load (v := .slice (some ⟨lb, 0, none⟩) g.ms.length c) rfl rfl (hlvc _ _ (by simp [Gr.H]))) (o_vl rfl rfl (v_move rfl) (o_vl rfl rfl (v_index1 (i := i) rfl rfl rfl rfl hil) (o_vl rfl rfl (v_load (v := ptrV m.ma) rfl rfl (hptr _ _ (hlm _))) (o_vl rfl rfl (v_assign rfl) (o_end (r_seq ?_))))))))
  refine r_join (fun q : Gr × Fz => F.le q.2 ∧ q.1.ok q.2 ∧ q.1.ga = g.ga ∧ q.1.ps.settle i = some s') (fun q => [(0, ptrV q.1.ga), (4, .int .i64 i)]) (fun q => q.2) (fun q => q.1.H (X :: Fr)) ?_ ?_
  · intro JZ
    unfold PS.actI at h0
    refine r_seq (r_region rfl (o_vl rfl rfl (v_field (k := 0) rfl rfl rfl) (o_vl rfl rfl (v_load (v := .int .u8 K0) rfl rfl (hXc _ _ 0 _ (hXin g) rfl)) (o_vl rfl rfl (v_rem rfl rfl (by decide) hrK) (o_end (r_block (r_seq ?_)))))))
    refine r_join (fun _ : Unit => True) (fun _ => [(0, ptrV g.ga), (3, ptrV x), (4, .int .i64 i), (5, ptrV m.ma), (24, .int .u8 K), (27, .bool (decide (K ≤ 1)))]) (fun _ => F) (fun _ => g.H (X :: Fr)) ?_ ?_
    · intro JG
      refine r_seq (r_region rfl (o_vl rfl rfl (v_eql rfl rfl) (o_vl rfl rfl (v_assign rfl) (o_end (r_if rfl (fun e0 => ?_) (fun e0 => ?_))))))
      · refine r_skip ?_
        refine j_keep ?_ (JG () trivial)
        exact ⟨rfl, rfl, rfl, rfl, rfl, dec_same ⟨fun _ => by omega, fun _ => by omega⟩, trivial⟩
      · skip
        refine r_region rfl (o_vl rfl rfl (v_eql rfl rfl) (o_vl rfl rfl (v_assign rfl) (o_end ?_)))
        refine j_keep ?_ (JG () trivial)
        exact ⟨rfl, rfl, rfl, rfl, rfl, dec_same ⟨fun _ => by omega, fun _ => by omega⟩, trivial⟩
    · rintro ⟨⟩ -
      refine r_if rfl (fun hc => ?_) (fun hc => ?_)
      · skip
        rw [if_pos (by omega)] at h0
        unfold PS.tickAt at h0
        rw [hmp] at h0
        dsimp only at h0
        have hok : m.r.p.tickOk = true := by
          cases hx : m.r.p.tickOk with
          | true => rfl
          | false => rw [hx] at h0; cases h0
        rw [if_pos hok] at h0
        have h0 := Option.some.inj h0
        unfold PR.tickOk at hok
        simp only [Bool.and_eq_true, decide_eq_true_eq] at hok
        obtain ⟨o1, o2, o3, o4, o5⟩ := hok
        refine r_region rfl (o_vl rfl rfl (v_move rfl) (o_vl rfl rfl (v_nilCheck rfl) (o_vl rfl rfl (v_field (k := 0) rfl rfl rfl) (o_vl rfl rfl (v_load rfl rfl (ecell (m := m) 0 (by first | exact mE_in hmi _ | simp) rfl)) (o_call rfl rfl rfl rfl (c_call callable29 rfl) (g_at (P := fun v => v = noneV) (p' := m.r.p.tick) hg hget (fun X => r_Tick _ _ m.ra m.r X hmr o1 (leadOk_is o2) o3 o4 o5)) ?_)))))
        rintro v' F2 H' ⟨rfl, g2, hg2, hps2, hga2, rfl⟩ hF2
        refine o_end (r_inBlock ?_)
        refine j_keep ?_ (JZ (g2, F2) ⟨hF2, hg2, hga2, by dsimp only; rw [hps2, h0]; exact hs⟩)
        exact ⟨by show _ = some (ptrV g2.ga); rw [hga2]; rfl, rfl, trivial⟩
      · skip
        refine r_seq ?_
        refine r_join (fun _ : Unit => True) (fun _ => [(0, ptrV g.ga), (3, ptrV x), (4, .int .i64 i), (5, ptrV m.ma), (24, .int .u8 K), (35, .bool (decide (K ≤ 4)))]) (fun _ => F) (fun _ => g.H (X :: Fr)) ?_ ?_
        · intro JG
          refine r_seq (r_region rfl (o_vl rfl rfl (v_eql rfl rfl) (o_vl rfl rfl (v_assign rfl) (o_end (r_if rfl (fun e0 => ?_) (fun e0 => ?_))))))
          · refine r_skip ?_
            refine j_keep ?_ (JG () trivial)
            exact ⟨rfl, rfl, rfl, rfl, rfl, dec_same ⟨fun _ => by omega, fun _ => by omega⟩, trivial⟩
          · skip
            refine r_seq (r_region rfl (o_vl rfl rfl (v_eql rfl rfl) (o_vl rfl rfl (v_assign rfl) (o_end (r_if rfl (fun e1 => ?_) (fun e1 => ?_))))))
            · refine r_skip ?_
              refine j_keep ?_ (JG () trivial)
              exact ⟨rfl, rfl, rfl, rfl, rfl, dec_same ⟨fun _ => by omega, fun _ => by omega⟩, trivial⟩
            · skip
              refine r_region rfl (o_vl rfl rfl (v_eql rfl rfl) (o_vl rfl rfl (v_assign rfl) (o_end ?_)))
              refine j_keep ?_ (JG () trivial)
              exact ⟨rfl, rfl, rfl, rfl, rfl, dec_same ⟨fun _ => by omega, fun _ => by omega⟩, trivial⟩
        · rintro ⟨⟩ -
          refine r_if rfl (fun hc => ?_) (fun hc => ?_)
          · skip
            rw [if_neg (by omega), if_pos (by omega)] at h0
            refine r_region rfl (o_vl rfl rfl (v_move rfl) (o_vl rfl rfl (v_move rfl) (o_call rfl rfl rfl rfl (c_call callable20 rfl) (g_sync _ _ g i s0 (X :: Fr) hg h0) ?_)))
            rintro v' F2 H' ⟨rfl, g2, hg2, hps2, hga2, rfl⟩ hF2
            refine o_end (r_inBlock ?_)
            refine j_keep ?_ (JZ (g2, F2) ⟨hF2, hg2, hga2, by dsimp only; rw [hps2]; exact hs⟩)
            exact ⟨by show _ = some (ptrV g2.ga); rw [hga2]; rfl, rfl, trivial⟩
          · skip
            refine r_seq ?_
            refine r_join (fun _ : Unit => True) (fun _ => [(0, ptrV g.ga), (3, ptrV x), (4, .int .i64 i), (5, ptrV m.ma), (24, .int .u8 K), (42, .bool (decide (K ≤ 7)))]) (fun _ => F) (fun _ => g.H (X :: Fr)) ?_ ?_
            · intro JG
              refine r_seq (r_region rfl (o_vl rfl rfl (v_eql rfl rfl) (o_vl rfl rfl (v_assign rfl) (o_end (r_if rfl (fun e0 => ?_) (fun e0 => ?_))))))
              · refine r_skip ?_
                refine j_keep ?_ (JG () trivial)
                exact ⟨rfl, rfl, rfl, rfl, rfl, dec_same ⟨fun _ => by omega, fun _ => by omega⟩, trivial⟩
              · skip
                refine r_seq (r_region rfl (o_vl rfl rfl (v_eql rfl rfl) (o_vl rfl rfl (v_assign rfl) (o_end (r_if rfl (fun e1 => ?_) (fun e1 => ?_))))))
                · refine r_skip ?_
                  refine j_keep ?_ (JG () trivial)
                  exact ⟨rfl, rfl, rfl, rfl, rfl, dec_same ⟨fun _ => by omega, fun _ => by omega⟩, trivial⟩
                · skip
                  refine r_region rfl (o_vl rfl rfl (v_eql rfl rfl) (o_vl rfl rfl (v_assign rfl) (o_end ?_)))
                  refine j_keep ?_ (JG () trivial)
                  exact ⟨rfl, rfl, rfl, rfl, rfl, dec_same ⟨fun _ => by omega, fun _ => by omega⟩, trivial⟩
            · rintro ⟨⟩ -
              refine r_if rfl (fun hc => ?_) (fun hc => ?_)
              · skip
                rw [if_neg (by omega), if_neg (by omega), if_pos (by omega)] at h0
                refine r_region rfl (o_vl rfl rfl (v_move rfl) (o_vl rfl rfl (v_field (k := 2) rfl rfl rfl) (o_vl rfl rfl (v_load (v := .int .u8 B0) rfl rfl (hXc _ _ 2 _ (hXin g) rfl)) (o_vl rfl rfl (v_conv rfl rfl rfl (wrap_i64 (by omega) (by omega))) (o_call rfl rfl rfl rfl (c_call callable30 rfl) (g_come _ _ g B0 false s0 (X :: Fr) hg (by omega) h0) ?_)))))
                rintro v' F2 H' ⟨rfl, g2, hg2, hps2, hga2, rfl⟩ hF2
                refine o_end (r_inBlock ?_)
                refine j_keep ?_ (JZ (g2, F2) ⟨hF2, hg2, hga2, by dsimp only; rw [hps2]; exact hs⟩)
                exact ⟨by show _ = some (ptrV g2.ga); rw [hga2]; rfl, rfl, trivial⟩
              · skip
                refine r_seq (r_region rfl (o_vl rfl rfl (v_eql rfl rfl) (o_vl rfl rfl (v_assign rfl) (o_end (r_if rfl (fun hc => ?_) (fun hc => ?_))))))
                · skip
                  rw [if_neg (by omega), if_neg (by omega), if_neg (by omega), if_pos (by omega)] at h0
                  refine r_region rfl (o_vl rfl rfl (v_move rfl) (o_vl rfl rfl (v_field (k := 2) rfl rfl rfl) (o_vl rfl rfl (v_load (v := .int .u8 B0) rfl rfl (hXc _ _ 2 _ (hXin g) rfl)) (o_vl rfl rfl (v_conv rfl rfl rfl (wrap_i64 (by omega) (by omega))) (o_call rfl rfl rfl rfl (c_call callable30 rfl) (g_come _ _ g B0 true s0 (X :: Fr) hg (by omega) h0) ?_)))))
                  rintro v' F2 H' ⟨rfl, g2, hg2, hps2, hga2, rfl⟩ hF2
                  refine o_end (r_inBlock ?_)
                  refine j_keep ?_ (JZ (g2, F2) ⟨hF2, hg2, hga2, by dsimp only; rw [hps2]; exact hs⟩)
                  exact ⟨by show _ = some (ptrV g2.ga); rw [hga2]; rfl, rfl, trivial⟩
                · skip
                  refine r_seq (r_region rfl (o_vl rfl rfl (v_eql rfl rfl) (o_vl rfl rfl (v_assign rfl) (o_end (r_if rfl (fun hc => ?_) (fun hc => ?_))))))
                  · skip
                    rw [if_neg (by omega), if_neg (by omega), if_neg (by omega), if_neg (by omega), if_pos (by omega)] at h0
                    have h0 := Option.some.inj h0
                    refine r_seq (r_region rfl (o_vl rfl rfl (v_move rfl) (o_vl rfl rfl (v_nilCheck rfl) (o_vl rfl rfl (v_field (k := 1) rfl rfl rfl) (o_vl rfl rfl (v_load rfl rfl (gcell0 (g := g) 1 (by first | (simp [Gr.H]; done) | simp) rfl)) (o_vl rfl rfl (v_len rfl rfl) (o_vl rfl rfl (v_gtr rfl rfl) (o_end (r_if rfl (fun e => ?_) (fun e => ?_))))))))))
                    · obtain ⟨z, rest, hmr2⟩ : ∃ z rest, g.net = z :: rest := by
                        cases hc2 : g.net with
                        | nil => rw [hc2] at e; simp at e
                        | cons z r => exact ⟨z, r, rfl⟩
                      have hl0 : 0 < g.net.length := by rw [hmr2]; simp
                      have hnl := hg.nl
                      obtain ⟨b, off1, cp, N2, pre, hwf⟩ : ∃ b off cp N pre, g.wf = .at b off cp N pre := by
                        have hw := hg.wf
                        cases hb : g.wf with
                        | nil =>
                          rw [hb] at hw
                          have : g.net.length = 0 := hw
                          omega
                        | «at» b off cp N pre => exact ⟨_, _, _, _, _, rfl⟩
                      have hnv : g.nv = .slice (some ⟨b, off1, none⟩) g.net.length cp := by unfold Gr.nv; rw [hwf]; rfl
                      have hload : ∀ F H, g.E ∈ H → Cell F H g.ga (0 + 1) (.slice (some ⟨b, off1, none⟩) g.net.length cp) := fun F H hH => by rw [← hnv]; exact gcell0 (g := g) 1 hH rfl
                      have hmt : z.cells ++ mgV rest = mgV g.net := by rw [hmr2]; rfl
                      refine j_heap (H' := (g.E :: g.lb.ents 1 (msV g.ms)) ++ (g.wf.ents (z.cells ++ mgV rest) ++ (g.L :: g.D :: (msH g.ms ++ (X :: Fr))))) (by rw [hmt]; simp [Gr.H]) ?_
                      refine j_dropW (sz := 13) (k := 1) (n := g.net.length) _ hg.wf (by omega) (by rw [Mg.cl]) (by rcases rest with _ | ⟨z2, r2⟩; exact .inr rfl; exact .inl (by rw [hmr2]; simp)) fun wf3 hok3 hsl3 => ?_
                      have hsl3 : Go.sliced (some ⟨b, off1, none⟩) 1 g.net.length cp 13 = wf3.val (g.net.length - 1) := by rw [hwf] at hsl3; exact hsl3
                      have hrl : g.net.length - 1 = rest.length := by rw [hmr2]; simp
                      rw [hrl] at hsl3 hok3
                      refine r_region rfl (o_vl rfl rfl (v_move rfl) (o_vl rfl rfl (v_move rfl) (o_vl rfl rfl (v_nilCheck rfl) (o_vl rfl rfl (v_field (k := 1) rfl rfl rfl) (o_vl rfl rfl (v_load (v := .slice (some ⟨b, off1, none⟩) g.net.length cp) rfl rfl (hload _ _ (by simp))) (o_vl rfl rfl (v_sliceL (sz := 13) (l := 1) rfl rfl rfl rfl rfl (by omega)) (o_vl rfl rfl (v_nilCheck rfl) (o_vl rfl rfl (v_field (k := 1) rfl rfl rfl) ?_))))))))
                      rw [hsl3]
                      refine o_act0 rfl rfl rfl (a_store1 0 (b := g.ga) (n := 5) (cs := [g.lv, g.nv, .map (some g.lm), .map (some g.dm), .bool g.bad]) rfl rfl rfl rfl rfl (Nat.le_of_ble_eq_true rfl)) ?_
                      obtain ⟨g2, hg2⟩ : ∃ g2 : Gr, g2 = { g with wf := wf3, net := rest } := ⟨_, rfl⟩
                      refine j_heap (H' := g2.H (X :: Fr)) (by rw [hg2]; rfl) ?_
                      have hga2 : g2.ga = g.ga := by rw [hg2]
                      have hg2ok : g2.ok F := by
                        rw [hg2]
                        exact ⟨hg.len, hg.lb, hok3, fun z hz => hg.net z (by rw [hmr2]; exact List.mem_cons_of_mem _ hz), by show rest.length ≤ 300; omega, hg.ms, hg.dn⟩
                      have hps2 : g2.ps = s0 := by
                        rw [← h0, hg2]
                        unfold Gr.ps
                        rw [hmr2]
                        rfl
                      refine o_end (r_inBlock ?_)
                      refine j_keep ?_ (JZ (g2, F) ⟨Fz.le_refl _, hg2ok, hga2, by dsimp only; rw [hps2]; exact hs⟩)
                      exact ⟨by show _ = some (ptrV g2.ga); rw [hga2]; rfl, rfl, trivial⟩
                    · have hl0 : g.net.length = 0 := by omega
                      have hps2 : g.ps = s0 := by
                        rw [← h0]
                        have : g.ps.net = [] := List.length_eq_zero_iff.1 (by simpa [Gr.ps] using hl0)
                        rw [this]
                        have h9 : g.ps = { g.ps with net := g.ps.net } := rfl
                        rw [this] at h9
                        exact h9
                      refine r_skip (r_inBlock ?_)
                      refine j_keep ?_ (JZ (g, F) ⟨Fz.le_refl _, hg, rfl, by dsimp only; rw [hps2]; exact hs⟩)
                      exact ⟨rfl, rfl, trivial⟩
                  · skip
                    refine r_seq ?_
                    refine r_join (fun _ : Unit => True) (fun _ => [(0, ptrV g.ga), (3, ptrV x), (4, .int .i64 i), (5, ptrV m.ma), (24, .int .u8 K), (74, .bool (decide (K ≤ 11)))]) (fun _ => F) (fun _ => g.H (X :: Fr)) ?_ ?_
                    · intro JG
                      refine r_seq (r_region rfl (o_vl rfl rfl (v_eql rfl rfl) (o_vl rfl rfl (v_assign rfl) (o_end (r_if rfl (fun e0 => ?_) (fun e0 => ?_))))))
                      · refine r_skip ?_
                        refine j_keep ?_ (JG () trivial)
                        exact ⟨rfl, rfl, rfl, rfl, rfl, dec_same ⟨fun _ => by omega, fun _ => by omega⟩, trivial⟩
                      · skip
                        refine r_region rfl (o_vl rfl rfl (v_eql rfl rfl) (o_vl rfl rfl (v_assign rfl) (o_end ?_)))
                        refine j_keep ?_ (JG () trivial)
                        exact ⟨rfl, rfl, rfl, rfl, rfl, dec_same ⟨fun _ => by omega, fun _ => by omega⟩, trivial⟩
                    · rintro ⟨⟩ -
                      refine r_if rfl (fun hc => ?_) (fun hc => ?_)
                      · skip
                        rw [if_neg (by omega), if_neg (by omega), if_neg (by omega), if_neg (by omega), if_neg (by omega), if_pos (by omega)] at h0
                        unfold PS.proposeAt at h0
                        rw [hmp] at h0
                        dsimp only at h0
                        have h0 := Option.some.inj h0
                        obtain ⟨f1, f2, f3⟩ := hf.put _ hmp
                        have hb8 : ([.int .u8 B0] : List Value) = bytesV [UInt8.ofNat B0] := by
                          have : (UInt8.ofNat B0).toNat = B0 := by simp; omega
                          show _ = [Value.int .u8 ((UInt8.ofNat B0).toNat : Nat)]
                          rw [this]
                        refine d_region 7 rfl ([X, m.E]) ?_
                        refine d_tk (i := 0) rfl rfl (by intro z hz; simp only [List.mem_cons, List.not_mem_nil, or_false] at hz; rcases hz with rfl | rfl; exact hXin g; exact mE_in hmi _) (v_move rfl) (d_tk (i := 4) rfl rfl (by intro z hz; simp only [List.mem_cons, List.not_mem_nil, or_false] at hz; rcases hz with rfl | rfl; exact hXin g; exact mE_in hmi _) (v_field (k := 2) rfl rfl rfl) (d_tk (i := 1) rfl rfl (by intro z hz; simp only [List.mem_cons, List.not_mem_nil, or_false] at hz; rcases hz with rfl | rfl; exact hXin g; exact mE_in hmi _) (v_nilCheck rfl) (d_tk (i := 2) rfl rfl (by intro z hz; simp only [List.mem_cons, List.not_mem_nil, or_false] at hz; rcases hz with rfl | rfl; exact hXin g; exact mE_in hmi _) (v_field (k := 0) rfl rfl rfl) (d_tk (i := 3) rfl rfl (by intro z hz; simp only [List.mem_cons, List.not_mem_nil, or_false] at hz; rcases hz with rfl | rfl; exact hXin g; exact mE_in hmi _) (v_load rfl rfl (ecell (m := m) 0 (by first | exact mE_in hmi _ | simp) rfl)) (d_tk (i := 5) rfl rfl (by intro z hz; simp only [List.mem_cons, List.not_mem_nil, or_false] at hz; rcases hz with rfl | rfl; exact hXin g; exact mE_in hmi _) (v_load (v := .int .u8 B0) rfl rfl (hXc _ _ 2 _ (by simp) rfl)) (d_one (i := 6) (by decide +kernel) (d1_act rfl rfl rfl rfl (a_buildS (sz := 1) (cs := [.int .u8 B0]) [.tmp 82] rfl rfl rfl rfl rfl rfl rfl rfl rfl rfl) ?_)))))))
                        rintro v' H' ⟨xb, rfl, rfl⟩
                        refine ⟨fun w hw => held_of hw (by first | exact Fz.le_refl _ | assumption) (by intro z hz; simp only [List.mem_cons, List.not_mem_nil, or_false] at hz; rcases hz with rfl | rfl; exact List.mem_cons_of_mem _ (hXin g); exact List.mem_cons_of_mem _ (mE_in hmi _)), ?_⟩
                        rw [hb8]
                        refine j_heap (H' := (Bf.at xb 1).ents 1 (bytesV [UInt8.ofNat B0]) ++ g.H (X :: Fr)) rfl ?_
                        refine j_freezeBf (n := 1) (bf := .at xb 1) (Nat.le_refl 1) (by simp) fun F1 hF1 hs1 => ?_
                        have hsx : SlB F1 [] (.slice (some ⟨xb, 0, none⟩) 1 1) [UInt8.ofNat B0] := hs1
                        refine d_one (i := 7) (by decide +kernel) (d1_lastCall 1000000 rfl rfl rfl rfl (c_call callable18 rfl) (g_at (P := fun r => r = (if m.r.p.role = 3 then .tuple #[.int .u64 (m.r.p.lix + m.r.p.l.length + 1 : Nat), .int .i64 0] else .tuple #[.int .u64 0, .int .i64 7])) (p' := m.r.p.propose [UInt8.ofNat B0]) (hg.frz hF1) hget (fun X => r_Propose _ _ m.ra m.r _ [UInt8.ofNat B0] X (hmr.frz hF1) hsx (by simp) f1 f2 f3)) ?_)
                        rintro v' F2 H' ⟨rfl, g2, hg2, hps2, hga2, rfl⟩ hF2
                        refine ⟨[], ?_⟩
                        have hF2 := Fz.le_trans hF1 hF2
                        refine d_end (by decide +kernel) (r_inBlock ?_)
                        refine j_keep ?_ (JZ (g2, F2) ⟨hF2, hg2, hga2, by dsimp only; rw [hps2, h0]; exact hs⟩)
                        exact ⟨by show _ = some (ptrV g2.ga); rw [hga2]; rfl, rfl, trivial⟩
                      · skip
                        refine r_seq (r_region rfl (o_vl rfl rfl (v_eql rfl rfl) (o_vl rfl rfl (v_assign rfl) (o_end (r_if rfl (fun hc => ?_) (fun hc => ?_))))))
                        · skip
                          rw [if_neg (by omega), if_neg (by omega), if_neg (by omega), if_neg (by omega), if_neg (by omega), if_neg (by omega), if_pos (by omega)] at h0
                          unfold PS.crashAt at h0
                          rw [hdp] at h0
                          dsimp only at h0
                          have h0 := Option.some.inj h0
                          have hbo := hf.boot _ hdp B0
                          have hkept : kept m.d.pure B0 = m.d.b.take (m.d.sure + min B0 (m.d.b.length - m.d.sure)) := rfl
                          rw [hkept] at hbo h0
                          refine r_seq (d_region 7 rfl ([X, m.E]) ?_)
                          refine d_tk (i := 0) rfl rfl (by intro z hz; simp only [List.mem_cons, List.not_mem_nil, or_false] at hz; rcases hz with rfl | rfl; exact hXin g; exact mE_in hmi _) (v_move rfl) (d_tk (i := 4) rfl rfl (by intro z hz; simp only [List.mem_cons, List.not_mem_nil, or_false] at hz; rcases hz with rfl | rfl; exact hXin g; exact mE_in hmi _) (v_field (k := 2) rfl rfl rfl) (d_tk (i := 1) rfl rfl (by intro z hz; simp only [List.mem_cons, List.not_mem_nil, or_false] at hz; rcases hz with rfl | rfl; exact hXin g; exact mE_in hmi _) (v_nilCheck rfl) (d_tk (i := 2) rfl rfl (by intro z hz; simp only [List.mem_cons, List.not_mem_nil, or_false] at hz; rcases hz with rfl | rfl; exact hXin g; exact mE_in hmi _) (v_field (k := 1) rfl rfl rfl) (d_tk (i := 3) rfl rfl (by intro z hz; simp only [List.mem_cons, List.not_mem_nil, or_false] at hz; rcases hz with rfl | rfl; exact hXin g; exact mE_in hmi _) (v_load rfl rfl (ecell (m := m) 1 (by first | exact mE_in hmi _ | simp) rfl)) (d_tk (i := 5) rfl rfl (by intro z hz; simp only [List.mem_cons, List.not_mem_nil, or_false] at hz; rcases hz with rfl | rfl; exact hXin g; exact mE_in hmi _) (v_load (v := .int .u8 B0) rfl rfl (hXc _ _ 2 _ (by simp) rfl)) (d_tk (i := 6) rfl rfl (by intro z hz; simp only [List.mem_cons, List.not_mem_nil, or_false] at hz; rcases hz with rfl | rfl; exact hXin g; exact mE_in hmi _) (v_conv rfl rfl rfl (wrap_i64 (by omega) (by omega))) (d_one (i := 7) (by decide +kernel) (d1_lastCall 1000000 rfl rfl rfl rfl (c_call callable22 rfl) (g_crash _ _ g i m B0 (X :: Fr) hg hget hB0 (by omega)) ?_))))))))
                          rintro v' F1 H' ⟨rfl, g1, hg1, hps1, hga1, rfl⟩ hF1
                          refine ⟨[], ?_⟩
                          refine d_end (by decide +kernel) (r_region rfl ?_)
                          refine j_slot 0 rfl (v' := ptrV g1.ga) (by rw [hga1]) ?_
                          refine o_vl rfl rfl (v_move rfl) (o_vl rfl rfl (v_move rfl) ?_)
                          have hk1 : g1.k = g.k := congrArg PS.k hps1
                          have hdp1 : g1.ps.ds[i]? = some (m.d.b.take (m.d.sure + min B0 (m.d.b.length - m.d.sure)), m.d.sure + min B0 (m.d.b.length - m.d.sure)) := by
                            rw [hps1]
                            dsimp only
                            rw [List.getElem?_set, if_pos rfl, if_pos (by simpa [Gr.ps] using hil)]
                          have hil1 : i < g1.ms.length := by
                            have h1 : g1.ps.ms.length = g.ps.ms.length := by rw [hps1]
                            simp only [Gr.ps, List.length_map] at h1
                            omega
                          obtain ⟨m1, _, _, _, hget1, hmr1, hmi1, hmp1, _, _, _⟩ := Gr.rd hg1 hil1
                          have hd1 : m1.d.pure = (m.d.b.take (m.d.sure + min B0 (m.d.b.length - m.d.sure)), m.d.sure + min B0 (m.d.b.length - m.d.sure)) := by
                            have h1 : g1.ps.ds[i]? = some m1.d.pure := by simp [Gr.ps, hget1]
                            rw [h1] at hdp1
                            exact Option.some.inj hdp1
                          have hb1 : m1.d.b = m.d.b.take (m.d.sure + min B0 (m.d.b.length - m.d.sure)) := congrArg Prod.fst hd1
                          have hsu1 : m1.d.sure = m.d.sure + min B0 (m.d.b.length - m.d.sure) := congrArg Prod.snd hd1
                          have hbl1 : m1.d.b.length = m1.d.sure := by
                            have := hmd.sure
                            rw [hb1, hsu1, List.length_take]
                            omega
                          rw [← hb1] at hbo h0
                          refine o_call rfl rfl rfl rfl (c_call callable23 rfl) (g_boot _ _ g1 i m1 (X :: Fr) hg1 hget1 hbo.len (by omega) hbo.new hbo.B hbo.le) ?_
                          rintro v' F2 H' ⟨rfl, g2, su, hg2, hsu, hps2, hga2, rfl⟩ hF2
                          have hF2 := Fz.le_trans hF1 hF2
                          have hsu2 : su = (scanP nilI m1.d.b).2 := by rcases hsu with ⟨h1, h2⟩ | h1 <;> omega
                          have hfin : g2.ps = s0 := by
                            rw [hps2, hps1, hsu2, ← h0]
                            dsimp only
                            rw [List.set_set]
                            rfl
                          refine o_end (r_inBlock ?_)
                          refine j_keep ?_ (JZ (g2, F2) ⟨hF2, hg2, hga2.trans hga1, by dsimp only; rw [hfin]; exact hs⟩)
                          exact ⟨by show _ = some (ptrV g2.ga); rw [hga2]; rfl, rfl, trivial⟩
                        · skip
                          refine r_seq (r_region rfl (o_vl rfl rfl (v_eql rfl rfl) (o_vl rfl rfl (v_assign rfl) (o_end (r_if rfl (fun hc => ?_) (fun hc => ?_))))))
                          · skip
                            rw [if_neg (by omega), if_neg (by omega), if_neg (by omega), if_neg (by omega), if_neg (by omega), if_neg (by omega), if_neg (by omega), if_pos (by omega)] at h0
                            obtain ⟨f1, f2, f3, f4, f5, f6⟩ := hf.snap _ hmp
                            have hb8 : ([.int .u8 B0] : List Value) = bytesV [UInt8.ofNat B0] := by
                              have : (UInt8.ofNat B0).toNat = B0 := by simp; omega
                              show _ = [Value.int .u8 ((UInt8.ofNat B0).toNat : Nat)]
                              rw [this]
                            have hr4 : Int.tmod (B0 : Int) 4 = ((B0 % 4 : Nat) : Int) := rfl
                            refine r_seq (d_region 1000000 rfl ([X, m.E]) ?_)
                            refine d_tk (i := 0) rfl rfl (by intro z hz; simp only [List.mem_cons, List.not_mem_nil, or_false] at hz; rcases hz with rfl | rfl; exact hXin g; exact mE_in hmi _) (v_field (k := 2) rfl rfl rfl) (d_tk (i := 1) rfl rfl (by intro z hz; simp only [List.mem_cons, List.not_mem_nil, or_false] at hz; rcases hz with rfl | rfl; exact hXin g; exact mE_in hmi _) (v_load (v := .int .u8 B0) rfl rfl (hXc _ _ 2 _ (by simp) rfl)) (d_tk (i := 2) rfl rfl (by intro z hz; simp only [List.mem_cons, List.not_mem_nil, or_false] at hz; rcases hz with rfl | rfl; exact hXin g; exact mE_in hmi _) (v_rem rfl rfl (by decide) hr4) (d_tk (i := 3) rfl rfl (by intro z hz; simp only [List.mem_cons, List.not_mem_nil, or_false] at hz; rcases hz with rfl | rfl; exact hXin g; exact mE_in hmi _) (v_eql rfl rfl) ?_)))
                            by_cases h4 : B0 % 4 = 0
                            · rw [if_pos h4] at h0
                              refine j_slot 103 rfl (v' := .bool true) (congrArg Value.bool (decide_eq_true (by omega))) ?_
                              refine d_tk (i := 4) rfl rfl (by intro z hz; simp only [List.mem_cons, List.not_mem_nil, or_false] at hz; rcases hz with rfl | rfl; exact hXin g; exact mE_in hmi _) (v_move rfl) (d_tk (i := 5) rfl rfl (by intro z hz; simp only [List.mem_cons, List.not_mem_nil, or_false] at hz; rcases hz with rfl | rfl; exact hXin g; exact mE_in hmi _) (v_move rfl) (d_tk (i := 6) rfl rfl (by intro z hz; simp only [List.mem_cons, List.not_mem_nil, or_false] at hz; rcases hz with rfl | rfl; exact hXin g; exact mE_in hmi _) (v_nilCheck rfl) (d_tk (i := 7) rfl rfl (by intro z hz; simp only [List.mem_cons, List.not_mem_nil, or_false] at hz; rcases hz with rfl | rfl; exact hXin g; exact mE_in hmi _) (v_field (k := 0) rfl rfl rfl) (d_tk (i := 8) rfl rfl (by intro z hz; simp only [List.mem_cons, List.not_mem_nil, or_false] at hz; rcases hz with rfl | rfl; exact hXin g; exact mE_in hmi _) (v_load rfl rfl (ecell (m := m) 0 (by first | exact mE_in hmi _ | simp) rfl)) (d_tk (i := 9) rfl rfl (by intro z hz; simp only [List.mem_cons, List.not_mem_nil, or_false] at hz; rcases hz with rfl | rfl; exact hXin g; exact mE_in hmi _) (v_move rfl) (d_tk (i := 10) rfl rfl (by intro z hz; simp only [List.mem_cons, List.not_mem_nil, or_false] at hz; rcases hz with rfl | rfl; exact hXin g; exact mE_in hmi _) (v_nilCheck rfl) (d_tk (i := 11) rfl rfl (by intro z hz; simp only [List.mem_cons, List.not_mem_nil, or_false] at hz; rcases hz with rfl | rfl; exact hXin g; exact mE_in hmi _) (v_field (k := 0) rfl rfl rfl) (d_tk (i := 12) rfl rfl (by intro z hz; simp only [List.mem_cons, List.not_mem_nil, or_false] at hz; rcases hz with rfl | rfl; exact hXin g; exact mE_in hmi _) (v_load rfl rfl (ecell (m := m) 0 (by first | exact mE_in hmi _ | simp) rfl)) (d_tk (i := 14) rfl rfl (by intro z hz; simp only [List.mem_cons, List.not_mem_nil, or_false] at hz; rcases hz with rfl | rfl; exact hXin g; exact mE_in hmi _) (v_field (k := 2) rfl rfl rfl) (d_tk (i := 15) rfl rfl (by intro z hz; simp only [List.mem_cons, List.not_mem_nil, or_false] at hz; rcases hz with rfl | rfl; exact hXin g; exact mE_in hmi _) (v_load (v := .int .u8 B0) rfl rfl (hXc _ _ 2 _ (by simp) rfl)) ?_))))))))))
                              refine d_all [13, 16] (by decide +kernel) (by simp) ?_
                              intro zz hzz
                              simp only [List.mem_cons, List.not_mem_nil, or_false] at hzz
                              rcases hzz with rfl | rfl
                              · refine d1_call rfl rfl rfl rfl (c_call callable15 rfl) (g_rd hget (fun X => r_Commit _ _ m.ra m.r X)) ?_
                                rintro v' F H' ⟨rfl, rfl, rfl⟩ _
                                refine ⟨fun w hw => held_of hw (by first | exact Fz.le_refl _ | assumption) (by intro z hz; simp only [List.mem_cons, List.not_mem_nil, or_false] at hz; rcases hz with rfl | rfl; exact hXin g; exact mE_in hmi _), ?_⟩
                                refine d_one (i := 16) (by decide +kernel) (d1_act rfl rfl rfl rfl (a_buildS (sz := 1) (cs := [.int .u8 B0]) [.tmp 115] rfl rfl rfl rfl rfl rfl rfl rfl rfl rfl) ?_)
                                rintro v' H' ⟨xb, rfl, rfl⟩
                                refine ⟨fun w hw => held_of hw (by first | exact Fz.le_refl _ | assumption) (by intro z hz; simp only [List.mem_cons, List.not_mem_nil, or_false] at hz; rcases hz with rfl | rfl; exact List.mem_cons_of_mem _ (hXin g); exact List.mem_cons_of_mem _ (mE_in hmi _)), ?_⟩
                                rw [hb8]
                                refine j_heap (H' := (Bf.at xb 1).ents 1 (bytesV [UInt8.ofNat B0]) ++ g.H (X :: Fr)) rfl ?_
                                refine j_freezeBf (n := 1) (bf := .at xb 1) (Nat.le_refl 1) (by simp) fun F1 hF1 hs1 => ?_
                                have hsx : SlB F1 [] (.slice (some ⟨xb, 0, none⟩) 1 1) [UInt8.ofNat B0] := hs1
                                refine d_one (i := 17) (by decide +kernel) (d1_call rfl rfl rfl rfl (c_call callable37 rfl) (g_at2 (P := fun r => r = .int .i64 (if m.r.p.lix < m.r.p.cm then 0 else 1)) (p' := if m.r.p.lix < m.r.p.cm then m.r.p.compact [UInt8.ofNat B0] else m.r.p) (hg.frz hF1) hget (fun X => r_Compact _ _ m.ra m.r _ [UInt8.ofNat B0] X (hmr.frz hF1) f6 hsx (by simp) f3)) ?_)
                                rintro v' F2 H' ⟨rfl, g2, m2, hg2, hps2, hga2, hget2, hma2, hra2, hda2, hd2, hp2, hk2, rfl⟩ hF2
                                refine ⟨fun w hw => held_of hw (Fz.le_trans hF1 hF2) (by intro z hz; simp only [List.mem_cons, List.not_mem_nil, or_false] at hz; rcases hz with rfl | rfl; exact hXin g2; exact (show m.E ∈ g2.H (X :: Fr) from by rw [show m.E = m2.E by unfold Mb.E; rw [hma2, hra2, hda2]]; exact mE_in (List.mem_of_getElem? hget2) _)), ?_⟩
                                have hF12 := Fz.le_trans hF1 hF2
                                unfold PS.compactAt at h0
                                rw [hmp] at h0
                                dsimp only at h0
                                by_cases h5 : m.r.p.lix < m.r.p.cm
                                · rw [if_pos h5] at h0 hps2 hp2 ⊢
                                  have h0 := Option.some.inj h0
                                  have hmi2 := List.mem_of_getElem? hget2
                                  have hmr2 := (hg2.ms m2 hmi2).1
                                  have hfr2 : m2.r.p.fresh = 0 := by rw [hp2]; exact f5
                                  have hsv2 : m2.r.p.saved = m2.r.p := by
                                    apply saved_same
                                    rw [hp2]
                                    unfold PR.saves
                                    show (m.r.p.chg || decide (m.r.p.fresh ≠ 0)) = false
                                    rw [f4, f5]
                                    rfl
                                  refine d_tk (i := 18) rfl rfl (by intro z hz; simp only [List.mem_cons, List.not_mem_nil, or_false] at hz; rcases hz with rfl | rfl; exact hXin g2; exact (show m.E ∈ g2.H (X :: Fr) from by rw [show m.E = m2.E by unfold Mb.E; rw [hma2, hra2, hda2]]; exact mE_in (List.mem_of_getElem? hget2) _)) (hF := Fz.le_trans hF1 hF2) (v_eql rfl rfl) (d_tk (i := 19) rfl rfl (by intro z hz; simp only [List.mem_cons, List.not_mem_nil, or_false] at hz; rcases hz with rfl | rfl; exact hXin g2; exact (show m.E ∈ g2.H (X :: Fr) from by rw [show m.E = m2.E by unfold Mb.E; rw [hma2, hra2, hda2]]; exact mE_in (List.mem_of_getElem? hget2) _)) (hF := Fz.le_trans hF1 hF2) (v_pick1 rfl rfl) (d_end (by decide +kernel) (r_true rfl (r_seq (r_region rfl ?_)))))
                                  refine j_slot 5 rfl (v' := ptrV m2.ma) (by rw [hma2]) ?_
                                  refine o_vl rfl rfl (v_move rfl) (o_vl rfl rfl (v_nilCheck rfl) (o_vl rfl rfl (v_field (k := 0) rfl rfl rfl) (o_vl rfl rfl (v_load rfl rfl (ecell (m := m2) 0 (by first | exact mE_in hmi2 _ | simp) rfl)) (o_call rfl rfl rfl rfl (c_call callable38 rfl) (g_at2 (P := fun _ => True) (p' := m2.r.p.saved) hg2 hget2 (fun X => (r_Save' _ _ m2.ra m2.r X hmr2 (by rw [hfr2]; omega)).mono fun v F' H' _ h => ⟨trivial, _, (saved_ok hmr2).frz h.1, rfl, h.2⟩)) ?_))))
                                  rintro v' F3 H' ⟨-, g3, m3, hg3, hps3, hga3, hget3, hma3, hra3, hda3, hd3, hp3, hk3, rfl⟩ hF3
                                  have hmi3 := List.mem_of_getElem? hget3
                                  have hmr3 := (hg3.ms m3 hmi3).1
                                  have hmd3 := (hg3.ms m3 hmi3).2
                                  have hpe3 : m3.r.p = m.r.p.compact [UInt8.ofNat B0] := by rw [hp3, hsv2, hp2]
                                  refine j_slot 5 rfl (v' := ptrV m3.ma) (by rw [hma3]) ?_
                                  refine o_end (d_region 9 rfl ([m3.E]) ?_)
                                  refine d_tk (i := 0) rfl rfl (by intro z hz; simp only [List.mem_cons, List.not_mem_nil, or_false] at hz; rcases hz with rfl; exact mE_in hmi3 _) (v_move rfl) (d_tk (i := 1) rfl rfl (by intro z hz; simp only [List.mem_cons, List.not_mem_nil, or_false] at hz; rcases hz with rfl; exact mE_in hmi3 _) (v_nilCheck rfl) (d_tk (i := 2) rfl rfl (by intro z hz; simp only [List.mem_cons, List.not_mem_nil, or_false] at hz; rcases hz with rfl; exact mE_in hmi3 _) (v_field (k := 1) rfl rfl rfl) (d_tk (i := 3) rfl rfl (by intro z hz; simp only [List.mem_cons, List.not_mem_nil, or_false] at hz; rcases hz with rfl; exact mE_in hmi3 _) (v_load rfl rfl (ecell (m := m3) 1 (by first | exact mE_in hmi3 _ | simp) rfl)) (d_tk (i := 4) rfl rfl (by intro z hz; simp only [List.mem_cons, List.not_mem_nil, or_false] at hz; rcases hz with rfl; exact mE_in hmi3 _) (v_move rfl) (d_tk (i := 5) rfl rfl (by intro z hz; simp only [List.mem_cons, List.not_mem_nil, or_false] at hz; rcases hz with rfl; exact mE_in hmi3 _) (v_nilCheck rfl) (d_tk (i := 6) rfl rfl (by intro z hz; simp only [List.mem_cons, List.not_mem_nil, or_false] at hz; rcases hz with rfl; exact mE_in hmi3 _) (v_field (k := 0) rfl rfl rfl) (d_tk (i := 7) rfl rfl (by intro z hz; simp only [List.mem_cons, List.not_mem_nil, or_false] at hz; rcases hz with rfl; exact mE_in hmi3 _) (v_load rfl rfl (ecell (m := m3) 0 (by first | exact mE_in hmi3 _ | simp) rfl)) (d_one (i := 8) (by decide +kernel) (d1_call rfl rfl rfl rfl (c_call callable21 rfl) (g_rdF (R := fun v F' => ∃ q : Im, q.ok F' ∧ q.pure = m3.r.p.image ∧ v = .agg q.cells.toArray) hget3 (fun X => (r_Image _ _ m3.ra m3.r X hmr3).mono fun v F' H' _ h => ⟨h.2.1, h.2.2⟩)) ?_)))))))))
                                  rintro v' F4 H' ⟨⟨q, hq, hqp, rfl⟩, rfl⟩ hF4
                                  refine ⟨fun w hw => held_of hw (by first | exact Fz.le_refl _ | assumption) (by intro z hz; simp only [List.mem_cons, List.not_mem_nil, or_false] at hz; rcases hz with rfl; exact mE_in hmi3 _), ?_⟩
                                  have hql : q.l.length ≤ 1000 := by
                                    have h1 : q.pure.l.length = q.l.length := List.length_map ..
                                    have h2 : q.pure.l.length ≤ m3.r.p.l.length := by
                                      rw [hqp]
                                      show (m3.r.p.from_ _ _).length ≤ _
                                      unfold PR.from_
                                      split <;> simp
                                      try omega
                                    have h3 : m3.r.p.l.length = m.r.p.l.length - (m.r.p.cm - m.r.p.lix) := by rw [hpe3]; exact List.length_drop
                                    omega
                                  have hwl := whole_le hq hql
                                  have hop3 := hmd3.ops
                                  have hk3' : g3.k = g.k := hk3.trans hk2
                                  refine d_one (i := 9) (by decide +kernel) (d1_lastCall 1000000 rfl rfl rfl rfl (c_call callable28 rfl) (g_dk (k' := g3.k + 1) (P := fun r => r = .int .i64 0) (d' := (q.pure.whole, q.pure.whole.length)) (hg3.frz hF4) hget3 (Nat.le_succ _) (fun X => (wal_Compact _ _ m3.da m3.d.bf m3.d.b m3.d.sure m3.d.ops q X (by omega) hq hql).mono fun v F' H' _ h => ⟨h.1, (match h.2.2 with | ⟨bf', hbo, hH⟩ => ⟨⟨bf', q.pure.whole, q.pure.whole.length, m3.d.ops + 1⟩, ⟨hbo, by dsimp only; omega, by dsimp only; omega, Nat.le_refl _⟩, rfl, hH⟩)⟩)) ?_)
                                  rintro v' F5 H' ⟨-, g4, hg4, hps4, hga4, rfl⟩ hF5
                                  refine ⟨[], ?_⟩
                                  have hFz := Fz.le_trans hF12 (Fz.le_trans hF3 (Fz.le_trans hF4 hF5))
                                  have hfin : g4.ps = s0 := by
                                    rw [hps4, hps3, hps2, hsv2, hp2, ← h0, hqp, hpe3]
                                    dsimp only
                                    rw [List.set_set, hk3']
                                    rfl
                                  refine d_end (by decide +kernel) (r_inBlock ?_)
                                  refine j_keep ?_ (JZ (g4, F5) ⟨hFz, hg4, hga4.trans (hga3.trans hga2), by dsimp only; rw [hfin]; exact hs⟩)
                                  exact ⟨by show _ = some (ptrV g4.ga); rw [hga4, hga3, hga2]; rfl, rfl, trivial⟩
                                · rw [if_neg h5] at h0 hps2 hp2 ⊢
                                  have h0 := Option.some.inj h0
                                  have hps2 : g2.ps = s0 := by
                                    rw [hps2, ← h0]
                                    have h9 : g.ps.ms.set i m.r.p = g.ps.ms := set_keep hmp
                                    rw [h9]
                                  refine d_tk (i := 18) rfl rfl (by intro z hz; simp only [List.mem_cons, List.not_mem_nil, or_false] at hz; rcases hz with rfl | rfl; exact hXin g2; exact (show m.E ∈ g2.H (X :: Fr) from by rw [show m.E = m2.E by unfold Mb.E; rw [hma2, hra2, hda2]]; exact mE_in (List.mem_of_getElem? hget2) _)) (hF := Fz.le_trans hF1 hF2) (v_eql rfl rfl) (d_tk (i := 19) rfl rfl (by intro z hz; simp only [List.mem_cons, List.not_mem_nil, or_false] at hz; rcases hz with rfl | rfl; exact hXin g2; exact (show m.E ∈ g2.H (X :: Fr) from by rw [show m.E = m2.E by unfold Mb.E; rw [hma2, hra2, hda2]]; exact mE_in (List.mem_of_getElem? hget2) _)) (hF := Fz.le_trans hF1 hF2) (v_pick1 rfl rfl) (d_end (by decide +kernel) (r_false rfl (r_skip (r_inBlock ?_)))))
                                  refine j_keep ?_ (JZ (g2, F2) ⟨hF12, hg2, hga2, by dsimp only; rw [hps2]; exact hs⟩)
                                  exact ⟨by show _ = some (ptrV g2.ga); rw [hga2]; rfl, rfl, trivial⟩
                              · skip
                                refine d1_act rfl rfl rfl rfl (a_buildS (sz := 1) (cs := [.int .u8 B0]) [.tmp 115] rfl rfl rfl rfl rfl rfl rfl rfl rfl rfl) ?_
                                rintro v' H' ⟨xb, rfl, rfl⟩
                                refine ⟨fun w hw => held_of hw (by first | exact Fz.le_refl _ | assumption) (by intro z hz; simp only [List.mem_cons, List.not_mem_nil, or_false] at hz; rcases hz with rfl | rfl; exact List.mem_cons_of_mem _ (hXin g); exact List.mem_cons_of_mem _ (mE_in hmi _)), ?_⟩
                                rw [hb8]
                                refine j_heap (H' := (Bf.at xb 1).ents 1 (bytesV [UInt8.ofNat B0]) ++ g.H (X :: Fr)) rfl ?_
                                refine j_freezeBf (n := 1) (bf := .at xb 1) (Nat.le_refl 1) (by simp) fun F1 hF1 hs1 => ?_
                                have hsx : SlB F1 [] (.slice (some ⟨xb, 0, none⟩) 1 1) [UInt8.ofNat B0] := hs1
                                refine d_one (i := 13) (by decide +kernel) (d1_call rfl rfl rfl rfl (c_call callable15 rfl) (g_rd hget (fun X => r_Commit _ _ m.ra m.r X)) ?_)
                                rintro v' F1 H' ⟨rfl, rfl, rfl⟩ _
                                refine ⟨fun w hw => held_of hw hF1 (by intro z hz; simp only [List.mem_cons, List.not_mem_nil, or_false] at hz; rcases hz with rfl | rfl; exact hXin g; exact mE_in hmi _), ?_⟩
                                refine d_one (i := 17) (by decide +kernel) (d1_call rfl rfl rfl rfl (c_call callable37 rfl) (g_at2 (P := fun r => r = .int .i64 (if m.r.p.lix < m.r.p.cm then 0 else 1)) (p' := if m.r.p.lix < m.r.p.cm then m.r.p.compact [UInt8.ofNat B0] else m.r.p) (hg.frz hF1) hget (fun X => r_Compact _ _ m.ra m.r _ [UInt8.ofNat B0] X (hmr.frz hF1) f6 hsx (by simp) f3)) ?_)
                                rintro v' F2 H' ⟨rfl, g2, m2, hg2, hps2, hga2, hget2, hma2, hra2, hda2, hd2, hp2, hk2, rfl⟩ hF2
                                refine ⟨fun w hw => held_of hw (Fz.le_trans hF1 hF2) (by intro z hz; simp only [List.mem_cons, List.not_mem_nil, or_false] at hz; rcases hz with rfl | rfl; exact hXin g2; exact (show m.E ∈ g2.H (X :: Fr) from by rw [show m.E = m2.E by unfold Mb.E; rw [hma2, hra2, hda2]]; exact mE_in (List.mem_of_getElem? hget2) _)), ?_⟩
                                have hF12 := Fz.le_trans hF1 hF2
                                unfold PS.compactAt at h0
                                rw [hmp] at h0
                                dsimp only at h0
                                by_cases h5 : m.r.p.lix < m.r.p.cm
                                · rw [if_pos h5] at h0 hps2 hp2 ⊢
                                  have h0 := Option.some.inj h0
                                  have hmi2 := List.mem_of_getElem? hget2
                                  have hmr2 := (hg2.ms m2 hmi2).1
                                  have hfr2 : m2.r.p.fresh = 0 := by rw [hp2]; exact f5
                                  have hsv2 : m2.r.p.saved = m2.r.p := by
                                    apply saved_same
                                    rw [hp2]
                                    unfold PR.saves
                                    show (m.r.p.chg || decide (m.r.p.fresh ≠ 0)) = false
                                    rw [f4, f5]
                                    rfl
                                  refine d_tk (i := 18) rfl rfl (by intro z hz; simp only [List.mem_cons, List.not_mem_nil, or_false] at hz; rcases hz with rfl | rfl; exact hXin g2; exact (show m.E ∈ g2.H (X :: Fr) from by rw [show m.E = m2.E by unfold Mb.E; rw [hma2, hra2, hda2]]; exact mE_in (List.mem_of_getElem? hget2) _)) (hF := Fz.le_trans hF1 hF2) (v_eql rfl rfl) (d_tk (i := 19) rfl rfl (by intro z hz; simp only [List.mem_cons, List.not_mem_nil, or_false] at hz; rcases hz with rfl | rfl; exact hXin g2; exact (show m.E ∈ g2.H (X :: Fr) from by rw [show m.E = m2.E by unfold Mb.E; rw [hma2, hra2, hda2]]; exact mE_in (List.mem_of_getElem? hget2) _)) (hF := Fz.le_trans hF1 hF2) (v_pick1 rfl rfl) (d_end (by decide +kernel) (r_true rfl (r_seq (r_region rfl ?_)))))
                                  refine j_slot 5 rfl (v' := ptrV m2.ma) (by rw [hma2]) ?_
                                  refine o_vl rfl rfl (v_move rfl) (o_vl rfl rfl (v_nilCheck rfl) (o_vl rfl rfl (v_field (k := 0) rfl rfl rfl) (o_vl rfl rfl (v_load rfl rfl (ecell (m := m2) 0 (by first | exact mE_in hmi2 _ | simp) rfl)) (o_call rfl rfl rfl rfl (c_call callable38 rfl) (g_at2 (P := fun _ => True) (p' := m2.r.p.saved) hg2 hget2 (fun X => (r_Save' _ _ m2.ra m2.r X hmr2 (by rw [hfr2]; omega)).mono fun v F' H' _ h => ⟨trivial, _, (saved_ok hmr2).frz h.1, rfl, h.2⟩)) ?_))))
                                  rintro v' F3 H' ⟨-, g3, m3, hg3, hps3, hga3, hget3, hma3, hra3, hda3, hd3, hp3, hk3, rfl⟩ hF3
                                  have hmi3 := List.mem_of_getElem? hget3
                                  have hmr3 := (hg3.ms m3 hmi3).1
                                  have hmd3 := (hg3.ms m3 hmi3).2
                                  have hpe3 : m3.r.p = m.r.p.compact [UInt8.ofNat B0] := by rw [hp3, hsv2, hp2]
                                  refine j_slot 5 rfl (v' := ptrV m3.ma) (by rw [hma3]) ?_
                                  refine o_end (d_region 9 rfl ([m3.E]) ?_)
                                  refine d_tk (i := 0) rfl rfl (by intro z hz; simp only [List.mem_cons, List.not_mem_nil, or_false] at hz; rcases hz with rfl; exact mE_in hmi3 _) (v_move rfl) (d_tk (i := 1) rfl rfl (by intro z hz; simp only [List.mem_cons, List.not_mem_nil, or_false] at hz; rcases hz with rfl; exact mE_in hmi3 _) (v_nilCheck rfl) (d_tk (i := 2) rfl rfl (by intro z hz; simp only [List.mem_cons, List.not_mem_nil, or_false] at hz; rcases hz with rfl; exact mE_in hmi3 _) (v_field (k := 1) rfl rfl rfl) (d_tk (i := 3) rfl rfl (by intro z hz; simp only [List.mem_cons, List.not_mem_nil, or_false] at hz; rcases hz with rfl; exact mE_in hmi3 _) (v_load rfl rfl (ecell (m := m3) 1 (by first | exact mE_in hmi3 _ | simp) rfl)) (d_tk (i := 4) rfl rfl (by intro z hz; simp only [List.mem_cons, List.not_mem_nil, or_false] at hz; rcases hz with rfl; exact mE_in hmi3 _) (v_move rfl) (d_tk (i := 5) rfl rfl (by intro z hz; simp only [List.mem_cons, List.not_mem_nil, or_false] at hz; rcases hz with rfl; exact mE_in hmi3 _) (v_nilCheck rfl) (d_tk (i := 6) rfl rfl (by intro z hz; simp only [List.mem_cons, List.not_mem_nil, or_false] at hz; rcases hz with rfl; exact mE_in hmi3 _) (v_field (k := 0) rfl rfl rfl) (d_tk (i := 7) rfl rfl (by intro z hz; simp only [List.mem_cons, List.not_mem_nil, or_false] at hz; rcases hz with rfl; exact mE_in hmi3 _) (v_load rfl rfl (ecell (m := m3) 0 (by first | exact mE_in hmi3 _ | simp) rfl)) (d_one (i := 8) (by decide +kernel) (d1_call rfl rfl rfl rfl (c_call callable21 rfl) (g_rdF (R := fun v F' => ∃ q : Im, q.ok F' ∧ q.pure = m3.r.p.image ∧ v = .agg q.cells.toArray) hget3 (fun X => (r_Image _ _ m3.ra m3.r X hmr3).mono fun v F' H' _ h => ⟨h.2.1, h.2.2⟩)) ?_)))))))))
                                  rintro v' F4 H' ⟨⟨q, hq, hqp, rfl⟩, rfl⟩ hF4
                                  refine ⟨fun w hw => held_of hw (by first | exact Fz.le_refl _ | assumption) (by intro z hz; simp only [List.mem_cons, List.not_mem_nil, or_false] at hz; rcases hz with rfl; exact mE_in hmi3 _), ?_⟩
                                  have hql : q.l.length ≤ 1000 := by
                                    have h1 : q.pure.l.length = q.l.length := List.length_map ..
                                    have h2 : q.pure.l.length ≤ m3.r.p.l.length := by
                                      rw [hqp]
                                      show (m3.r.p.from_ _ _).length ≤ _
                                      unfold PR.from_
                                      split <;> simp
                                      try omega
                                    have h3 : m3.r.p.l.length = m.r.p.l.length - (m.r.p.cm - m.r.p.lix) := by rw [hpe3]; exact List.length_drop
                                    omega
                                  have hwl := whole_le hq hql
                                  have hop3 := hmd3.ops
                                  have hk3' : g3.k = g.k := hk3.trans hk2
                                  refine d_one (i := 9) (by decide +kernel) (d1_lastCall 1000000 rfl rfl rfl rfl (c_call callable28 rfl) (g_dk (k' := g3.k + 1) (P := fun r => r = .int .i64 0) (d' := (q.pure.whole, q.pure.whole.length)) (hg3.frz hF4) hget3 (Nat.le_succ _) (fun X => (wal_Compact _ _ m3.da m3.d.bf m3.d.b m3.d.sure m3.d.ops q X (by omega) hq hql).mono fun v F' H' _ h => ⟨h.1, (match h.2.2 with | ⟨bf', hbo, hH⟩ => ⟨⟨bf', q.pure.whole, q.pure.whole.length, m3.d.ops + 1⟩, ⟨hbo, by dsimp only; omega, by dsimp only; omega, Nat.le_refl _⟩, rfl, hH⟩)⟩)) ?_)
                                  rintro v' F5 H' ⟨-, g4, hg4, hps4, hga4, rfl⟩ hF5
                                  refine ⟨[], ?_⟩
                                  have hFz := Fz.le_trans hF12 (Fz.le_trans hF3 (Fz.le_trans hF4 hF5))
                                  have hfin : g4.ps = s0 := by
                                    rw [hps4, hps3, hps2, hsv2, hp2, ← h0, hqp, hpe3]
                                    dsimp only
                                    rw [List.set_set, hk3']
                                    rfl
                                  refine d_end (by decide +kernel) (r_inBlock ?_)
                                  refine j_keep ?_ (JZ (g4, F5) ⟨hFz, hg4, hga4.trans (hga3.trans hga2), by dsimp only; rw [hfin]; exact hs⟩)
                                  exact ⟨by show _ = some (ptrV g4.ga); rw [hga4, hga3, hga2]; rfl, rfl, trivial⟩
                                · rw [if_neg h5] at h0 hps2 hp2 ⊢
                                  have h0 := Option.some.inj h0
                                  have hps2 : g2.ps = s0 := by
                                    rw [hps2, ← h0]
                                    have h9 : g.ps.ms.set i m.r.p = g.ps.ms := set_keep hmp
                                    rw [h9]
                                  refine d_tk (i := 18) rfl rfl (by intro z hz; simp only [List.mem_cons, List.not_mem_nil, or_false] at hz; rcases hz with rfl | rfl; exact hXin g2; exact (show m.E ∈ g2.H (X :: Fr) from by rw [show m.E = m2.E by unfold Mb.E; rw [hma2, hra2, hda2]]; exact mE_in (List.mem_of_getElem? hget2) _)) (hF := Fz.le_trans hF1 hF2) (v_eql rfl rfl) (d_tk (i := 19) rfl rfl (by intro z hz; simp only [List.mem_cons, List.not_mem_nil, or_false] at hz; rcases hz with rfl | rfl; exact hXin g2; exact (show m.E ∈ g2.H (X :: Fr) from by rw [show m.E = m2.E by unfold Mb.E; rw [hma2, hra2, hda2]]; exact mE_in (List.mem_of_getElem? hget2) _)) (hF := Fz.le_trans hF1 hF2) (v_pick1 rfl rfl) (d_end (by decide +kernel) (r_false rfl (r_skip (r_inBlock ?_)))))
                                  refine j_keep ?_ (JZ (g2, F2) ⟨hF12, hg2, hga2, by dsimp only; rw [hps2]; exact hs⟩)
                                  exact ⟨by show _ = some (ptrV g2.ga); rw [hga2]; rfl, rfl, trivial⟩
                            · rw [if_neg h4] at h0
                              have h0 := Option.some.inj h0
                              refine j_slot 103 rfl (v' := .bool false) (congrArg Value.bool (decide_eq_false (by omega))) ?_
                              refine d_tk (i := 4) rfl rfl (by intro z hz; simp only [List.mem_cons, List.not_mem_nil, or_false] at hz; rcases hz with rfl | rfl; exact hXin g; exact mE_in hmi _) (v_move rfl) (d_sk (i := 5) rfl rfl (by intro z hz; simp only [List.mem_cons, List.not_mem_nil, or_false] at hz; rcases hz with rfl | rfl; exact hXin g; exact mE_in hmi _) (d_sk (i := 6) rfl rfl (by intro z hz; simp only [List.mem_cons, List.not_mem_nil, or_false] at hz; rcases hz with rfl | rfl; exact hXin g; exact mE_in hmi _) (d_sk (i := 7) rfl rfl (by intro z hz; simp only [List.mem_cons, List.not_mem_nil, or_false] at hz; rcases hz with rfl | rfl; exact hXin g; exact mE_in hmi _) (d_sk (i := 8) rfl rfl (by intro z hz; simp only [List.mem_cons, List.not_mem_nil, or_false] at hz; rcases hz with rfl | rfl; exact hXin g; exact mE_in hmi _) (d_sk (i := 9) rfl rfl (by intro z hz; simp only [List.mem_cons, List.not_mem_nil, or_false] at hz; rcases hz with rfl | rfl; exact hXin g; exact mE_in hmi _) (d_sk (i := 10) rfl rfl (by intro z hz; simp only [List.mem_cons, List.not_mem_nil, or_false] at hz; rcases hz with rfl | rfl; exact hXin g; exact mE_in hmi _) (d_sk (i := 11) rfl rfl (by intro z hz; simp only [List.mem_cons, List.not_mem_nil, or_false] at hz; rcases hz with rfl | rfl; exact hXin g; exact mE_in hmi _) (d_sk (i := 12) rfl rfl (by intro z hz; simp only [List.mem_cons, List.not_mem_nil, or_false] at hz; rcases hz with rfl | rfl; exact hXin g; exact mE_in hmi _) (d_sk (i := 13) rfl rfl (by intro z hz; simp only [List.mem_cons, List.not_mem_nil, or_false] at hz; rcases hz with rfl | rfl; exact hXin g; exact mE_in hmi _) (d_sk (i := 14) rfl rfl (by intro z hz; simp only [List.mem_cons, List.not_mem_nil, or_false] at hz; rcases hz with rfl | rfl; exact hXin g; exact mE_in hmi _) (d_sk (i := 15) rfl rfl (by intro z hz; simp only [List.mem_cons, List.not_mem_nil, or_false] at hz; rcases hz with rfl | rfl; exact hXin g; exact mE_in hmi _) (d_sk (i := 16) rfl rfl (by intro z hz; simp only [List.mem_cons, List.not_mem_nil, or_false] at hz; rcases hz with rfl | rfl; exact hXin g; exact mE_in hmi _) (d_sk (i := 17) rfl rfl (by intro z hz; simp only [List.mem_cons, List.not_mem_nil, or_false] at hz; rcases hz with rfl | rfl; exact hXin g; exact mE_in hmi _) ?_)))))))))))))
                              refine d_sk (i := 18) rfl rfl (by intro z hz; simp only [List.mem_cons, List.not_mem_nil, or_false] at hz; rcases hz with rfl | rfl; exact hXin g; exact mE_in hmi _) (d_tk (i := 19) rfl rfl (by intro z hz; simp only [List.mem_cons, List.not_mem_nil, or_false] at hz; rcases hz with rfl | rfl; exact hXin g; exact mE_in hmi _) (v_pick0 rfl rfl) (d_end (by decide +kernel) (r_false rfl (r_skip (r_inBlock ?_)))))
                              refine j_keep ?_ (JZ (g, F) ⟨Fz.le_refl _, hg, rfl, by dsimp only; rw [h0]; exact hs⟩)
                              exact ⟨rfl, rfl, trivial⟩
                          · skip
                            refine r_seq (r_region rfl (o_vl rfl rfl (v_eql rfl rfl) (o_vl rfl rfl (v_assign rfl) (o_end (r_if rfl (fun hc => ?_) (fun hc => ?_))))))
                            · skip
                              rw [if_neg (by omega), if_neg (by omega), if_neg (by omega), if_neg (by omega), if_neg (by omega), if_neg (by omega), if_neg (by omega), if_neg (by omega), if_pos (by omega)] at h0
                              unfold PS.drawAt at h0
                              rw [hmp] at h0
                              dsimp only at h0
                              have h0 := Option.some.inj h0
                              obtain ⟨n1, n2, n3, n4⟩ := two_nums B0 hB0
                              refine d_region 8 rfl ([X, m.E]) ?_
                              refine d_tk (i := 0) rfl rfl (by intro z hz; simp only [List.mem_cons, List.not_mem_nil, or_false] at hz; rcases hz with rfl | rfl; exact hXin g; exact mE_in hmi _) (v_move rfl) (d_tk (i := 4) rfl rfl (by intro z hz; simp only [List.mem_cons, List.not_mem_nil, or_false] at hz; rcases hz with rfl | rfl; exact hXin g; exact mE_in hmi _) (v_field (k := 2) rfl rfl rfl) (d_tk (i := 1) rfl rfl (by intro z hz; simp only [List.mem_cons, List.not_mem_nil, or_false] at hz; rcases hz with rfl | rfl; exact hXin g; exact mE_in hmi _) (v_nilCheck rfl) (d_tk (i := 2) rfl rfl (by intro z hz; simp only [List.mem_cons, List.not_mem_nil, or_false] at hz; rcases hz with rfl | rfl; exact hXin g; exact mE_in hmi _) (v_field (k := 0) rfl rfl rfl) (d_tk (i := 3) rfl rfl (by intro z hz; simp only [List.mem_cons, List.not_mem_nil, or_false] at hz; rcases hz with rfl | rfl; exact hXin g; exact mE_in hmi _) (v_load rfl rfl (ecell (m := m) 0 (by first | exact mE_in hmi _ | simp) rfl)) (d_tk (i := 5) rfl rfl (by intro z hz; simp only [List.mem_cons, List.not_mem_nil, or_false] at hz; rcases hz with rfl | rfl; exact hXin g; exact mE_in hmi _) (v_load (v := .int .u8 B0) rfl rfl (hXc _ _ 2 _ (by simp) rfl)) (d_tk (i := 6) rfl rfl (by intro z hz; simp only [List.mem_cons, List.not_mem_nil, or_false] at hz; rcases hz with rfl | rfl; exact hXin g; exact mE_in hmi _) (v_itof rfl rfl rfl rfl) (d_tk (i := 7) rfl rfl (by intro z hz; simp only [List.mem_cons, List.not_mem_nil, or_false] at hz; rcases hz with rfl | rfl; exact hXin g; exact mE_in hmi _) (v_farith rfl rfl rfl n1) (d_one (i := 8) (by decide +kernel) (d1_lastCall 1000000 rfl rfl rfl rfl (c_call callable39 rfl) (g_at (P := fun v => v = noneV) (p' := { m.r.p with dr := twoD B0 }) hg hget (fun X => r_Draw _ _ m.ra m.r (twoB B0) (twoD B0) X hmr (two_dr hB0))) ?_)))))))))
                              rintro v' F2 H' ⟨rfl, g2, hg2, hps2, hga2, rfl⟩ hF2
                              refine ⟨[], ?_⟩
                              refine d_end (by decide +kernel) (r_inBlock ?_)
                              refine j_keep ?_ (JZ (g2, F2) ⟨hF2, hg2, hga2, by dsimp only; rw [hps2, h0]; exact hs⟩)
                              exact ⟨by show _ = some (ptrV g2.ga); rw [hga2]; rfl, rfl, trivial⟩
                            · skip
                              have hK : K = 15 := by omega
                              rw [if_neg (by omega), if_neg (by omega), if_neg (by omega), if_neg (by omega), if_neg (by omega), if_neg (by omega), if_neg (by omega), if_neg (by omega), if_neg (by omega)] at h0
                              refine r_region rfl (o_vl rfl rfl (v_move rfl) (o_call rfl rfl rfl rfl (c_call callable10 rfl) (g_round _ _ g (-1) s0 (X :: Fr) hg h0) ?_))
                              rintro v' F2 H' ⟨rfl, g2, hg2, hps2, hga2, rfl⟩ hF2
                              refine o_end (r_inBlock ?_)
                              refine j_keep ?_ (JZ (g2, F2) ⟨hF2, hg2, hga2, by dsimp only; rw [hps2]; exact hs⟩)
                              exact ⟨by show _ = some (ptrV g2.ga); rw [hga2]; rfl, rfl, trivial⟩
  · rintro ⟨g1, F1⟩ ⟨hF1, hg1, hga1, hs1⟩
    dsimp only at hF1 hg1 hga1 hs1 ⊢
    refine r_region rfl (o_vl rfl rfl (v_move rfl) (o_vl rfl rfl (v_move rfl) (o_call rfl rfl rfl rfl (c_call callable40 rfl) (g_settle _ _ g1 i s' _ hg1 hs1) ?_)))
    rintro v' F2 H' ⟨rfl, g2, hg2, hp2, hga2, rfl⟩ hF2
    refine j_drop (gbox_out g2 X Fr) ?_
    refine o_end ?_
    exact r_fall0 Tryz.func19 rfl ⟨⟨rfl, g2, hg2, hp2, hga2.trans hga1, rfl⟩, Fz.le_trans hF1 hF2⟩
end Go.SX
namespace Go.SX
open Go Go.Proofs
set_option maxRecDepth 4000
open Go.ChangeShapes Go.WideShapes Go.RowKit Go.Deep
structure ActI where
  k : Nat
  a : Nat
  b : Nat
instance : Inhabited ActI := ⟨⟨0, 0, 0⟩⟩
def ActI.cells (r : ActI) : List Value := [.int .u8 r.k, .int .u8 r.a, .int .u8 r.b]
theorem ActI.cl (r : ActI) : r.cells.length = 3 := rfl
structure ActI.ok (r : ActI) : Prop where
  k : r.k < 256
  a : r.a < 256
  b : r.b < 256
def InActs (W : World) (v : Value) (rs : List ActI) : Prop := Sl (allOf W) [] 3 v rs.length (rs.flatMap ActI.cells) ∧ ∀ r ∈ rs, r.ok
structure ActT (P : Program) (e : TypeId) : Prop where
  is : ∃ f0 f1 f2, P.underlying e = some (.struct #[f0, f1, f2]) ∧ P.cellsOf e = 3 ∧ f0.offset = 0 ∧ f1.offset = 1 ∧ f2.offset = 2 ∧
    P.cellsOf f0.type = 1 ∧ P.cellsOf f1.type = 1 ∧ P.cellsOf f2.type = 1 ∧ P.underlying f0.type = some (.int .u8) ∧ P.underlying f1.type = some (.int .u8) ∧ P.underlying f2.type = some (.int .u8)
theorem act_of_trod {H : Type} {enc : TypeId × Value → H} {P : Program} {W : World} {base : Nat} {spare : Nat → Bool} {held : Bool} {e : TypeId} {cs : List Value} {x : DataW H × List MemPlace} {fuel : Nat} (hT : ActT P e)
    (hf : DataW.trod enc P W base spare held fuel e cs = some x) : ∃ r : ActI, cs = r.cells ∧ r.ok := by
  obtain ⟨f0, f1, f2, he, ce, o0, o1, o2, c0, c1, c2, u0, u1, u2⟩ := hT
  obtain ⟨xs, k, _, hxy, hcl, hxl, hx⟩ := DataW.trod_struct he hf
  rw [ce] at hcl
  match xs, hxl, cs, hcl with
  | [y0, y1, y2], _, [v0, v1, v2], _ =>
    have g0 := hx 0 f0 rfl
    have g1 := hx 1 f1 rfl
    have g2 := hx 2 f2 rfl
    simp [o0, c0] at g0
    simp [o1, c1] at g1
    simp [o2, c2] at g2
    obtain ⟨n0, h0, _, w0⟩ := DataW.trod_int u0 g0
    obtain ⟨n1, h1, _, w1⟩ := DataW.trod_int u1 g1
    obtain ⟨n2, h2, _, w2⟩ := DataW.trod_int u2 g2
    obtain rfl : v0 = .int .u8 n0 := by simpa using h0
    obtain rfl : v1 = .int .u8 n1 := by simpa using h1
    obtain rfl : v2 = .int .u8 n2 := by simpa using h2
    simp [Lit.wf, IntKind.min, IntKind.max, IntKind.signed, IntKind.bits] at w0 w1 w2
    refine ⟨⟨n0.toNat, n1.toNat, n2.toNat⟩, ?_, ⟨by dsimp only; omega, by dsimp only; omega, by dsimp only; omega⟩⟩
    have e0 : ((n0.toNat : Nat) : Int) = n0 := by omega
    have e1 : ((n1.toNat : Nat) : Int) = n1 := by omega
    have e2 : ((n2.toNat : Nat) : Int) = n2 := by omega
    simp only [ActI.cells, e0, e1, e2]
theorem in_Act {H : Type} {enc : TypeId × Value → H} {P : Program} {W : World} {base : Nat} {held : Bool} {t e : TypeId} {a : Option Addr} {len cap : Nat} {d : DataW H} {ps : List MemPlace}
    (hu : P.underlying t = some (.slice e)) (hT : ActT P e) (h : DataW.Trod enc P W base (fun _ => true) held t (.slice a len cap) d ps) : ∃ rs, InActs W (.slice a len cap) rs ∧ rs.length ≤ 9223372036854775807 := by
  obtain ⟨fuel, hf⟩ := h
  have ce : P.cellsOf e = 3 := by obtain ⟨_, _, _, _, ce, _⟩ := hT.is; exact ce
  rcases open_slice hu hf with ⟨hcs, _⟩ | ⟨x, l, c, m, n, D, Pl, hcs, _, hl, hm, hmm, _, hx⟩
  · simp [Value.cells] at hcs
    obtain ⟨rfl, rfl, rfl⟩ := hcs
    exact ⟨[], ⟨Sl.nil _ _ _, by simp⟩, by simp⟩
  · simp [Value.cells] at hcs
    obtain ⟨rfl, rfl, rfl⟩ := hcs
    simp only [if_true] at hmm
    subst hmm
    have each : ∀ i, i < m → ∃ r : ActI, r.ok ∧ ∀ j q, r.cells[j]? = some q → W.cell? (x.add (i * 3 + j)) = some q := fun i hi => by
      obtain ⟨cs', h1, h2⟩ := hx i hi
      rw [ce] at h1
      obtain ⟨_, hlen, hcell⟩ := World.cells?_some h1
      obtain ⟨r, hr, hok⟩ := act_of_trod hT h2
      refine ⟨r, hok, fun j q hj => ?_⟩
      have hj3 : j < 3 := by
        rcases Nat.lt_or_ge j 3 with h | h
        · exact h
        · rw [List.getElem?_eq_none (by rw [r.cl]; exact h)] at hj; cases hj
      have := hcell j (by omega)
      rw [add_add] at this
      rw [this, hr]
      exact hj
    obtain ⟨R, hR⟩ := choose_lt each
    have hlen : ((List.range len).map R).length = len := by simp
    refine ⟨(List.range len).map R, ⟨⟨some x, m, by rw [hlen], by rw [hlen, vec_len (c := ActI.cells) ActI.cl, hlen], by rw [hlen]; exact hl, by simp, fun i q hi => ?_⟩, ?_⟩, by unfold maxLen at hm; rw [hlen]; omega⟩
    · have hi3 : i < len * 3 := by
        rcases Nat.lt_or_ge i (len * 3) with h | h
        · exact h
        · rw [List.getElem?_eq_none (by rw [vec_len (c := ActI.cells) ActI.cl, hlen]; exact h)] at hi; cases hi
      have hd : i / 3 < len := by omega
      have hi' : i = i / 3 * 3 + i % 3 := by omega
      rw [hi', vec_get (c := ActI.cells) ActI.cl _ (i / 3) (by rw [hlen]; exact hd) (i % 3) (by omega)] at hi
      simp only [List.getElem_map, List.getElem_range] at hi
      have h1 := (hR (i / 3) (by omega)).2 _ _ hi
      rw [← hi'] at h1
      have h0 := (hR (i / 3) (by omega)).2 0 _ rfl
      have hsp0 := (hR 0 (by omega)).2 0 _ rfl
      have hsp := spot_none hsp0
      have hx0 : x.add (0 * 3 + 0) = x := by simp [Addr.add]
      rw [hx0] at hsp
      refine ⟨x.block, x.off, by rw [← hsp], cell_world ?_⟩
      rw [hsp, sliced_add] at h1
      exact h1
    · intro r hr
      obtain ⟨i, hi, rfl⟩ := List.mem_map.1 hr
      exact (hR i (by have := List.mem_range.1 hi; omega)).1
theorem act_cells {F : Fz} {H : List Ent} {v : Value} {l : List ActI} {i : Nat} (hv : Sl F H 3 v l.length (l.flatMap ActI.cells)) (hi : i < l.length) :
    ∃ b off cap, v = .slice (some ⟨b, off, none⟩) l.length cap ∧ ∀ j c, l[i].cells[j]? = some c → Cell F H b (off + i * 3 + j) c := by
  obtain ⟨b, off, cap, hab, _, hcell⟩ := Sl.view hv (by omega)
  refine ⟨b, off, cap, hab, fun j c hj => ?_⟩
  have hj4 : j < 3 := by
    rcases Nat.lt_or_ge j 3 with h | h
    · exact h
    · rw [List.getElem?_eq_none (by rw [ActI.cl]; exact h)] at hj; cases hj
  have := hcell (i * 3 + j) c (by rw [vec_get (c := ActI.cells) ActI.cl l i hi j hj4]; exact hj)
  rw [← Nat.add_assoc] at this
  exact this
structure Acts (F : Fz) (n N : Nat) (q : Gr × Fz × Nat × Nat) : Prop where
  fz : F.le q.2.1
  ok : q.1.ok q.2.1
  i : q.2.2.1 ≤ N
  safe : Safe n q.1.ps q.2.2.2
  E : q.2.2.2 ≤ 3 * q.2.2.1
  k : q.1.k ≤ 320 * q.2.2.1
end Go.SX
namespace Go.SX
open Go Go.Proofs
set_option maxRecDepth 4000
section
variable {n i : Nat} {p q : PR} {s s1 : PS} {E : Nat}
theorem adv_cl (p : PR) : ∀ x, (p.adv x).rs = p.rs ∧ (p.adv x).chg = p.chg ∧ (p.adv x).fresh = p.fresh
  | 0 => ⟨rfl, rfl, rfl⟩
  | x + 1 => by
    unfold PR.adv
    split
    · exact ⟨rfl, rfl, rfl⟩
    · split
      · exact ⟨rfl, rfl, rfl⟩
      · split
        · unfold PR.commitAt
          split
          · exact ⟨rfl, rfl, rfl⟩
          · split <;> exact ⟨rfl, rfl, rfl⟩
        · exact adv_cl p x
theorem stable_cl (p : PR) : p.stable.rs = p.rs ∧ p.stable.chg = p.chg ∧ p.stable.fresh = p.fresh := by
  unfold PR.stable PR.stable1
  split
  · exact adv_cl { p with st := p.last } p.last
  · exact ⟨rfl, rfl, rfl⟩
theorem flush_is (h : s.flush i = some s1) : ∃ p d, s.ms[i]? = some p ∧ s.ds[i]? = some d ∧ s1 = s.flushTo i p d := by
  unfold PS.flush at h
  split at h
  · rename_i p d hp hd
    split at h
    · exact ⟨p, d, hp, hd, (Option.some.inj h).symm⟩
    · cases h
  · cases h
theorem get_set {α : Type} {l : List α} {i : Nat} {x y : α} (h : l[i]? = some x) : (l.set i y)[i]? = some y := by
  obtain ⟨hl, _⟩ := List.getElem?_eq_some_iff.1 h
  rw [List.getElem?_set, if_pos rfl, if_pos hl]
theorem sync_full (h : s.sync i = some s1) {d : List UInt8 × Nat} (hd : s1.ds[i]? = some d) : d.2 = d.1.length := by
  unfold PS.sync at h
  obtain ⟨sa, ha, h⟩ := Option.bind_eq_some_iff.1 h
  obtain ⟨sb, hb, hc⟩ := Option.bind_eq_some_iff.1 h
  obtain ⟨pa, da, hpa, hda, _, _, rfl⟩ := settle_is ha
  obtain ⟨pb, db, hpb, hdb, rfl⟩ := flush_is hb
  obtain ⟨pc, dc, hpc, hdc, _, _, rfl⟩ := settle_is hc
  have e1 : pb = pa.settled := by
    have h1 : (s.ms.set i pa.settled)[i]? = some pb := hpb
    rw [get_set hpa] at h1
    exact (Option.some.inj h1).symm
  have e2 : pc = pb.stable := by
    have h1 : ((s.ms.set i pa.settled).set i pb.stable)[i]? = some pc := hpc
    rw [get_set (get_set hpa)] at h1
    exact (Option.some.inj h1).symm
  have e3 : dc = (db.1, db.1.length) := by
    have h1 : ((s.ds.set i (pa.disk da)).set i (db.1, db.1.length))[i]? = some dc := hdc
    rw [get_set (get_set hda)] at h1
    exact (Option.some.inj h1).symm
  have e4 : d = pc.disk dc := by
    have h1 : (((s.ds.set i (pa.disk da)).set i (db.1, db.1.length)).set i (pc.disk dc))[i]? = some d := hd
    rw [get_set (get_set (get_set hda))] at h1
    exact (Option.some.inj h1).symm
  obtain ⟨c1, c2, c3⟩ := stable_cl pb
  have d1 : pc.rs = false := by rw [e2, c1, e1]; rfl
  have d2 : pc.chg = false := by rw [e2, c2, e1]; rfl
  have d3 : pc.fresh = 0 := by rw [e2, c3, e1]; rfl
  have hdk : pc.disk dc = dc := by
    unfold PR.disk PR.saves
    rw [d1, d2, d3]
    rfl
  rw [e4, hdk, e3]
theorem Safe.sync (h : Safe n s E) (hi : i < n) (hk : s.k ≤ 88000) (hE : E ≤ 1000) : ∃ s1, s.sync i = some s1 ∧ s1.k = s.k + 3 ∧ Safe n s1 E := by
  rcases h with ⟨hn, h⟩ | ⟨e, h⟩
  · obtain ⟨s1, h1, h2, h3⟩ := h.sync hn hi hk hE
    exact ⟨s1, h1, h2, .inl ⟨hn, h3⟩⟩
  · have : i = 0 := by omega
    rw [this]
    obtain ⟨s1, h1, h2, h3⟩ := h.sync hk hE
    exact ⟨s1, h1, h2, .inr ⟨e, h3⟩⟩
theorem Safe.re (h : Safe n s E) {d : List UInt8 × Nat} (hp : s.ms[i]? = some p) (hd : s.ds[i]? = some d) : Reaches d.1 p.image := by
  rcases h with ⟨hn, G, fl, hg, hb⟩ | ⟨e, p', d', f, D, Vs, h⟩
  · rw [(hg.mi i p hp).shp.image]
    exact (hg.dr i p d hp hd).re
  · have hi : i = 0 := by
      rw [h.ms] at hp
      cases i with
      | zero => rfl
      | succ i => cases hp
    subst hi
    rw [h.ms] at hp
    rw [h.ds] at hd
    obtain rfl : p' = p := Option.some.inj hp
    obtain rfl : d' = d := Option.some.inj hd
    rw [h.sh.image]
    exact h.dr.re
theorem new_image (i : Nat) (q : PI) : (PI.new i q).rest.image = q := by
  obtain ⟨a, b, c, d, e, f, l⟩ := q
  show (⟨a, b, c, d, e, f, PR.from_ _ _ _⟩ : PI) = _
  congr 1
  unfold PR.from_
  split
  · rename_i h
    have hl : (PI.new i ⟨a, b, c, d, e, f, l⟩).rest.last = c + l.length := rfl
    have h2 : (PI.new i ⟨a, b, c, d, e, f, l⟩).rest.lix = c := rfl
    have h3 : (PI.new i ⟨a, b, c, d, e, f, l⟩).rest.l = l := rfl
    rw [hl, h2, h3] at h
    have : l.length = 0 := by omega
    exact (List.length_eq_zero_iff.1 this).symm
  · have h2 : (PI.new i ⟨a, b, c, d, e, f, l⟩).rest.lix = c := rfl
    have h3 : (PI.new i ⟨a, b, c, d, e, f, l⟩).rest.l = l := rfl
    rw [h2, h3, show c + 1 - c - 1 = 0 by omega, List.drop_zero, List.take_length]
theorem Safe.back (h : Safe n s1 E) (hs : s.sync i = some s1) {d : List UInt8 × Nat} (hp : s1.ms[i]? = some p) (hd : s1.ds[i]? = some d) : kept d 0 = d.1 ∧ scanP nilI d.1 = (p.image, d.1.length) := by
  have hf := sync_full hs hd
  refine ⟨?_, (h.re hp hd).end_⟩
  unfold kept
  rw [hf, Nat.zero_min, Nat.add_zero, List.take_length]
end
end Go.SX
namespace Go.SX
open Go Go.Proofs
set_option maxRecDepth 4000
open Go.ChangeShapes Go.WideShapes Go.RowKit Go.Deep
theorem sub_get {l cs : List Value} (a n : Nat) (hl : cs = (l.drop a).take n) {j : Nat} {c : Value} (h : cs[j]? = some c) : l[a + j]? = some c := by
  rw [hl, List.getElem?_take] at h
  split at h
  · rw [List.getElem?_drop] at h
    exact h
  · cases h
set_option maxHeartbeats 2000000 in
theorem law_RaftKeeps (O : World) (F : Fz) (n A : Nat) (va : Value) (rs : List ActI) (Fr : List Ent) (hn : n < 256) (hA : A < 256) (hv : Sl F [] 3 va rs.length (rs.flatMap ActI.cells)) (hl : rs.length ≤ 9223372036854775807) (hrs : ∀ r ∈ rs, r.ok) :
    Does Tryz.prog O 7 #[.int .u8 n, va, .int .u8 A] F Fr (fun v F' H' => v = .bool true) := by
  obtain ⟨ad, cd, rfl, _⟩ := Sl.shape hv
  refine does_of_run (args := [_, _, _]) Tryz.func7 rfl rfl ?_
  have hpn : ∀ g : Gr, g.ps.ms.length = g.ms.length := fun g => by simp [Gr.ps]
  refine r_seq (r_region rfl (o_vl rfl rfl (v_assign rfl) (o_end (r_seq (r_seq (r_region rfl (o_call rfl rfl rfl rfl (c_call callable8 rfl) (g_awake _ _ _) ?_)))))))
  rintro v' F1 Fr ⟨rfl, rfl⟩ hF1
  refine o_vl rfl rfl (v_not rfl) (o_vl rfl rfl (v_move rfl) (o_vl rfl rfl (v_move rfl) (o_vl rfl rfl (v_len rfl rfl) (o_vl rfl rfl (v_gtr rfl rfl) ?_))))
  refine j_prop 18 rfl (fun h6 => ?_) (fun h6 => ?_)
  · refine o_vl rfl rfl (v_pick0 rfl rfl) (o_end (r_true rfl (r_seq (r_region rfl (o_call rfl rfl rfl rfl (c_call callable8 rfl) (g_awake _ _ _) ?_)))))
    rintro v' F2 Fr ⟨rfl, rfl⟩ hF2
    refine o_vl rfl rfl (v_assign rfl) (o_end ?_)
    exact r_ret1 Tryz.func7 rfl rfl ⟨rfl, Fz.le_trans hF1 hF2⟩
  · refine o_vl rfl rfl (v_pick0 rfl rfl) (o_end (r_false rfl (r_skip (r_seq (r_region rfl (o_vl rfl rfl (v_move rfl) (o_vl rfl rfl (v_conv rfl rfl rfl (wrap_i64 (by omega) (by omega))) (o_vl rfl rfl (v_rem rfl rfl (by decide) (r := ((n % 3 : Nat) : Int)) rfl) (o_vl rfl rfl (v_add rfl rfl (r := ((1 + n % 3 : Nat) : Int)) (wrap_i64 (by omega) (by omega))) (o_call rfl rfl rfl rfl (c_call callable9 rfl) (g_new _ _ (1 + n % 3) Fr (by omega) (by omega)) ?_))))))))))
    rintro v' F2 H' ⟨g, hg, hps, rfl, rfl⟩ hF2
    have hF2 := Fz.le_trans hF1 hF2
    have hn3 : 1 + n % 3 = 1 ∨ 1 + n % 3 = 2 ∨ 1 + n % 3 = 3 := by omega
    obtain ⟨N, hN⟩ : ∃ N, N = 1 + n % 3 := ⟨_, rfl⟩
    rw [← hN] at hn3 hps
    have hs0 : Safe N g.ps 0 := by rw [hps]; exact Safe.new hn3
    have hk0 : g.k = 0 := congrArg PS.k hps
    have hN1 : 1 ≤ N := by omega
    refine o_vl rfl rfl (v_assign rfl) (o_end (r_seq (r_seq (r_region rfl (o_vl rfl rfl (v_assign rfl) (o_end (r_block ?_)))))))
    refine r_loop (fun q : Gr × Fz × Nat × Nat => Acts F N rs.length q) (fun q => [(1, .slice ad rs.length cd), (2, .int .u8 A), (7, ptrV q.1.ga), (8, .int .i64 q.2.2.1)]) (fun q => q.2.1) (fun q => q.1.H Fr) (fun q => rs.length - q.2.2.1) (g, F2, 0, 0) ⟨hF2, hg, Nat.zero_le _, hs0, Nat.zero_le _, by dsimp only; omega⟩ ⟨rfl, rfl, rfl, rfl, trivial⟩ rfl rfl ?_
    rintro ⟨g, F4, i, E⟩ ⟨hF4, hg, hi, hs, hE, hk⟩ IH
    dsimp only at hF4 hg hi hs hE hk ⊢
    have hgn : g.ms.length = N := by rw [← hpn]; exact hs.len
    refine r_seq (r_seq (r_region rfl (o_vl rfl rfl (v_move rfl) (o_vl rfl rfl (v_move rfl) (o_vl rfl rfl (v_len rfl rfl) (o_vl rfl rfl (v_lss rfl rfl) (o_end (r_if rfl (fun h => ?_) (fun h => ?_)))))))))
    · have hil : i < rs.length := by omega
      obtain ⟨b0, off0, c0, hab, hcl⟩ := act_cells hv hil
      simp only [Value.slice.injEq] at hab
      obtain ⟨rfl, _, rfl⟩ := hab
      obtain ⟨hr1, hr2, hr3⟩ := hrs rs[i] (List.getElem_mem _)
      generalize rs[i] = r at *
      obtain ⟨s0, s1, ha, hb, hk1, E', hE', hs'⟩ := hs.act twoD r.k r.a r.b (by show g.k ≤ _; omega) (by omega)
      rw [hpn] at ha hb
      have hfi : Fine g.ps (r.a % g.ms.length) := hs.fine (by rw [hgn]; exact Nat.mod_lt _ (by omega)) (by show g.k ≤ _; omega) (by omega)
      have hk1 : s1.k ≤ g.k + 320 := hk1
      refine r_skip (r_seq (r_block (r_region rfl (o_vl rfl rfl (v_move rfl) (o_vl rfl rfl (v_move rfl) (o_vl rfl rfl (v_move rfl) (o_vl rfl rfl (v_indexN (sz := 3) rfl rfl rfl rfl hil) (o_vl rfl rfl (v_loadAgg (sz := 3) (cs := r.cells) rfl rfl rfl rfl (fun j c hj => (hcl j c hj).mono hF4 (by simp))) (o_call rfl rfl rfl rfl (c_call callable19 rfl) (g_act _ _ g r.k r.a r.b s0 s1 Fr hg (by omega) hr1 hr2 hr3 ha hb hfi (by omega)) ?_)))))))))
      rintro v' F5 H' ⟨rfl, g2, hg2, hps2, hga2, rfl⟩ hF5
      rw [← hps2] at hs' hk1
      have hk2 : g2.k ≤ g.k + 320 := hk1
      refine o_end (r_inBlock (r_region rfl (o_vl rfl rfl (v_move rfl) (o_vl rfl rfl (v_add rfl rfl (r := ((i + 1 : Nat) : Int)) (wrap_i64 (by omega) (by omega))) (o_vl rfl rfl (v_assign rfl) (o_end ?_))))))
      refine j_keep ?_ (IH (g2, F5, i + 1, E') ⟨Fz.le_trans hF4 hF5, hg2, by dsimp only; omega, hs', by dsimp only; omega, by dsimp only; omega⟩ (by dsimp only; omega))
      exact ⟨rfl, rfl, by show _ = some (ptrV g2.ga); rw [hga2]; rfl, rfl, trivial⟩
    · obtain ⟨j, hj⟩ : ∃ j, j = A % g.ms.length := ⟨_, rfl⟩
      have hjl : j < g.ms.length := by rw [hj]; exact Nat.mod_lt _ (by omega)
      have hrem : Int.tmod (A : Int) (g.ms.length : Int) = (j : Int) := by rw [hj]; rfl
      have hjN : j < N := by omega
      obtain ⟨m, lb, c, M, hget, hmr, hmi, hmp, hlvc, hlm, hptr⟩ := Gr.rd hg hjl
      obtain ⟨s1, hs1, hk1, hsf1⟩ := hs.sync hjN (by show g.k ≤ _; omega) (by omega)
      have hk1 : s1.k = g.k + 3 := hk1
      refine r_exit rfl (r_seq (r_region rfl (o_vl rfl rfl (v_move rfl) (o_vl rfl rfl (v_conv rfl rfl rfl (wrap_i64 (by omega) (by omega))) (o_vl rfl rfl (v_move rfl) (o_vl rfl rfl (v_nilCheck rfl) (o_vl rfl rfl (v_field (k := 0) rfl rfl rfl) (o_vl rfl rfl (v_load (v := .slice (some ⟨lb, 0, none⟩) g.ms.length c) rfl rfl (hlvc _ _ (by simp [Gr.H]))) (o_vl rfl rfl (v_len rfl rfl) (o_vl rfl rfl (v_rem rfl rfl (by omega) hrem) (o_vl rfl rfl (v_assign rfl) (o_end (r_seq ?_)))))))))))))
      refine r_region rfl (o_vl rfl rfl (v_move rfl) (o_vl rfl rfl (v_move rfl) (o_call rfl rfl rfl rfl (c_call callable20 rfl) (g_sync _ _ g j s1 Fr hg hs1) ?_)))
      rintro v' F5 H' ⟨rfl, g2, hg2, hps2, hga2, rfl⟩ hF5
      have hF5 := Fz.le_trans hF4 hF5
      have hk2 : g2.k = g.k + 3 := by rw [← hk1, ← hps2]; rfl
      have hj2 : j < g2.ms.length := by rw [← hpn, hps2, hsf1.len]; exact hjN
      obtain ⟨m2, lb2, c2, M2, hget2, hmr2, hmi2, hmp2, hlvc2, hlm2, hptr2⟩ := Gr.rd hg2 hj2
      have hmd2 := (hg2.ms m2 hmi2).2
      rw [hps2] at hmp2
      have hdp2 : s1.ds[j]? = some m2.d.pure := by rw [← hps2]; simp [Gr.ps, hget2]
      obtain ⟨hkp, hsc⟩ := hsf1.back hs1 hmp2 hdp2
      have hfi := hsf1.fine hjN (by omega) (by omega)
      have hbo := hfi.boot _ hdp2 0
      rw [hkp] at hbo
      obtain ⟨f1, f2, f3, f4, f5, f6⟩ := hfi.snap _ hmp2
      have hbad2 : s1.bad = false := hsf1.bad
      refine o_end (r_seq (r_region rfl ?_))
      refine j_slot 7 rfl (v' := ptrV g2.ga) (by rw [hga2]) ?_
      refine o_vl rfl rfl (v_move rfl) (o_vl rfl rfl (v_nilCheck rfl) (o_vl rfl rfl (v_field (k := 0) rfl rfl rfl) (o_vl rfl rfl (v_load (v := .slice (some ⟨lb2, 0, none⟩) g2.ms.length c2) rfl rfl (hlvc2 _ _ (by simp [Gr.H]))) (o_vl rfl rfl (v_move rfl) (o_vl rfl rfl (v_index1 (i := j) rfl rfl rfl rfl hj2) (o_vl rfl rfl (v_load (v := ptrV m2.ma) rfl rfl (hptr2 _ _ (hlm2 _))) (o_vl rfl rfl (v_nilCheck rfl) (o_vl rfl rfl (v_field (k := 0) rfl rfl rfl) (o_vl rfl rfl (v_load rfl rfl (ecell (m := m2) 0 (by first | exact mE_in hmi2 _ | simp) rfl)) (o_call rfl rfl rfl rfl (c_call callable21 rfl) (g_rdF (R := fun v F' => ∃ q : Im, q.ok F' ∧ q.pure = m2.r.p.image ∧ v = .agg q.cells.toArray) hget2 (fun X => (r_Image _ _ m2.ra m2.r X hmr2).mono fun v F' H' _ h => ⟨h.2.1, h.2.2⟩)) ?_))))))))))
      rintro v' F6 H' ⟨⟨q, hq, hqp, rfl⟩, rfl⟩ hF6
      have hg2 := hg2.frz hF6
      have hF6 := Fz.le_trans hF5 hF6
      refine o_act rfl rfl rfl rfl (a_alloc rfl) ?_
      rintro v' H' ⟨x, rfl, rfl⟩
      refine o_act0 rfl rfl rfl (a_store (sz := 7) 0 rfl rfl rfl (by simpa [Value.cells] using hq.one) rfl rfl (Nat.le_of_ble_eq_true rfl)) ?_
      obtain ⟨X, hX⟩ : ∃ X : Ent, X = .mem x q.cells 7 := ⟨_, rfl⟩
      refine j_heap (H' := X :: g2.H Fr) (by rw [hX]; rfl) ?_
      refine j_perm (gbox_in g2 X Fr) ?_
      refine o_end (r_seq (r_region rfl (o_vl rfl rfl (v_move rfl) (o_vl rfl rfl (v_nilCheck rfl) (o_vl rfl rfl (v_field (k := 0) rfl rfl rfl) (o_vl rfl rfl (v_load (v := .slice (some ⟨lb2, 0, none⟩) g2.ms.length c2) rfl rfl (hlvc2 _ _ (by simp [Gr.H]))) (o_vl rfl rfl (v_move rfl) (o_vl rfl rfl (v_index1 (i := j) rfl rfl rfl rfl hj2) (o_vl rfl rfl (v_load (v := ptrV m2.ma) rfl rfl (hptr2 _ _ (hlm2 _))) (o_vl rfl rfl (v_nilCheck rfl) (o_vl rfl rfl (v_field (k := 1) rfl rfl rfl) (o_vl rfl rfl (v_load rfl rfl (ecell (m := m2) 1 (by first | exact mE_in hmi2 _ | simp) rfl)) (o_call rfl rfl rfl rfl (c_call callable22 rfl) (g_crash _ _ g2 j m2 0 (X :: Fr) hg2 hget2 (by omega) (by omega)) ?_)))))))))))))
      rintro v' F7 H' ⟨rfl, g3, hg3, hps3, hga3, rfl⟩ hF7
      have hq := hq.frz hF7
      have hF7 := Fz.le_trans hF6 hF7
      have hj3 : j < g3.ms.length := by
        have h1 : g3.ps.ms.length = g2.ps.ms.length := by rw [hps3]
        rw [hpn, hpn] at h1
        omega
      have hk3 : g3.k = g2.k := congrArg PS.k hps3
      obtain ⟨m3, _, _, _, hget3, hmr3, hmi3, hmp3, _, _, _⟩ := Gr.rd hg3 hj3
      have hd3 : m3.d.pure = (m2.d.b.take (m2.d.sure + min 0 (m2.d.b.length - m2.d.sure)), m2.d.sure + min 0 (m2.d.b.length - m2.d.sure)) := by
        have h1 : g3.ps.ds[j]? = some m3.d.pure := by simp [Gr.ps, hget3]
        rw [hps3] at h1
        dsimp only at h1
        rw [List.getElem?_set, if_pos rfl, if_pos (by simpa [Gr.ps] using hj2)] at h1
        exact (Option.some.inj h1).symm
      have hb3 : m3.d.b = m2.d.b := by
        have h1 : m3.d.b = kept m2.d.pure 0 := congrArg Prod.fst hd3
        rw [h1, hkp]
        rfl
      have hbo : BootOk j m3.d.b := by rw [hb3]; exact hbo
      have hsc : scanP nilI m3.d.b = (q.pure, m3.d.b.length) := by rw [hb3, hqp]; exact hsc
      refine o_end (r_seq (r_region rfl ?_))
      refine j_slot 7 rfl (v' := ptrV g3.ga) (by rw [hga3]) ?_
      refine o_vl rfl rfl (v_move rfl) (o_vl rfl rfl (v_move rfl) (o_call rfl rfl rfl rfl (c_call callable23 rfl) (g_boot _ _ g3 j m3 (X :: Fr) hg3 hget3 hbo.len (by omega) hbo.new hbo.B hbo.le) ?_))
      rintro v' F8 H' ⟨rfl, g4, su, hg4, hsu, hps4, hga4, rfl⟩ hF8
      have hq := hq.frz hF8
      have hF8 := Fz.le_trans hF7 hF8
      rw [hsc] at hps4
      dsimp only at hps4
      have hj4 : j < g4.ms.length := by
        have h1 : g4.ps.ms.length = g3.ps.ms.length := by rw [hps4]; dsimp only; rw [List.length_set]
        rw [hpn, hpn] at h1
        omega
      obtain ⟨m4, lb4, c4, M4, hget4, hmr4, hmi4, hmp4, hlvc4, hlm4, hptr4⟩ := Gr.rd hg4 hj4
      have hp4 : m4.r.p = (PI.new j q.pure).rest := by
        rw [hps4] at hmp4
        dsimp only at hmp4
        rw [List.getElem?_set, if_pos rfl, if_pos (by rw [hpn]; exact hj3)] at hmp4
        exact (Option.some.inj hmp4).symm
      have hbad4 : g4.bad = false := by
        have h1 : g4.ps.bad = g3.ps.bad := by rw [hps4]
        have h2 : g3.ps.bad = g2.ps.bad := by rw [hps3]
        have h3 : g4.bad = g2.ps.bad := h1.trans h2
        rw [h3, hps2, hbad2]
      refine o_end (r_seq (r_region rfl ?_))
      refine j_slot 7 rfl (v' := ptrV g4.ga) (by rw [hga4]) ?_
      refine o_vl rfl rfl (v_move rfl) (o_vl rfl rfl (v_nilCheck rfl) (o_vl rfl rfl (v_field (k := 0) rfl rfl rfl) (o_vl rfl rfl (v_load (v := .slice (some ⟨lb4, 0, none⟩) g4.ms.length c4) rfl rfl (hlvc4 _ _ (by simp [Gr.H]))) (o_vl rfl rfl (v_move rfl) (o_vl rfl rfl (v_index1 (i := j) rfl rfl rfl rfl hj4) (o_vl rfl rfl (v_load (v := ptrV m4.ma) rfl rfl (hptr4 _ _ (hlm4 _))) (o_vl rfl rfl (v_nilCheck rfl) (o_vl rfl rfl (v_field (k := 0) rfl rfl rfl) (o_vl rfl rfl (v_load rfl rfl (ecell (m := m4) 0 (by first | exact mE_in hmi4 _ | simp) rfl)) (o_call rfl rfl rfl rfl (c_call callable21 rfl) (g_rdF (R := fun v F' => ∃ q : Im, q.ok F' ∧ q.pure = m4.r.p.image ∧ v = .agg q.cells.toArray) hget4 (fun X => (r_Image _ _ m4.ra m4.r X hmr4).mono fun v F' H' _ h => ⟨h.2.1, h.2.2⟩)) ?_))))))))))
      rintro v' F9 H' ⟨⟨q2, hq2, hqp2, rfl⟩, rfl⟩ hF9
      have hg4 := hg4.frz hF9
      have hq := hq.frz hF9
      have hF9 := Fz.le_trans hF8 hF9
      rw [hp4, new_image] at hqp2
      refine o_act rfl rfl rfl rfl (a_alloc rfl) ?_
      rintro v' H' ⟨y, rfl, rfl⟩
      refine o_act0 rfl rfl rfl (a_store (sz := 7) 0 rfl rfl rfl (by simpa [Value.cells] using hq2.one) rfl rfl (Nat.le_of_ble_eq_true rfl)) ?_
      obtain ⟨Y, hY⟩ : ∃ Y : Ent, Y = .mem y q2.cells 7 := ⟨_, rfl⟩
      refine j_heap (H' := Y :: g4.H (X :: Fr)) (by rw [hY]; rfl) ?_
      refine j_perm (gbox_in g4 Y (X :: Fr)) ?_
      refine o_end (r_seq (r_region rfl (o_vl rfl rfl (v_move rfl) (o_vl rfl rfl (v_nilCheck rfl) (o_vl rfl rfl (v_field (k := 0) rfl rfl rfl) (o_vl rfl rfl (v_load (v := .slice (some ⟨lb4, 0, none⟩) g4.ms.length c4) rfl rfl (hlvc4 _ _ (by simp [Gr.H]))) (o_vl rfl rfl (v_move rfl) (o_vl rfl rfl (v_index1 (i := j) rfl rfl rfl rfl hj4) (o_vl rfl rfl (v_load (v := ptrV m4.ma) rfl rfl (hptr4 _ _ (hlm4 _))) (o_vl rfl rfl (v_nilCheck rfl) (o_vl rfl rfl (v_field (k := 0) rfl rfl rfl) (o_vl rfl rfl (v_load rfl rfl (ecell (m := m4) 0 (by first | exact mE_in hmi4 _ | simp) rfl)) (o_vl rfl rfl (v_assign rfl) ?_)))))))))))))
      refine o_end (r_seq ?_)
      obtain ⟨a1, c1, hdv, _⟩ := Sl.shape hq.dv
      obtain ⟨a2, c2', hlv, _⟩ := Sl.shape hq.lv
      obtain ⟨a3, c3, hdv2, _⟩ := Sl.shape hq2.dv
      obtain ⟨a4, c4', hlv2, _⟩ := Sl.shape hq2.lv
      have hXc : ∀ F H a j c, X ∈ H → q.cells[a + j]? = some c → Cell F H x (0 + a + j) c := fun F H a j c hm hc => by rw [Nat.zero_add]; rw [hX] at hm; exact cell_own hm hc
      have hYc : ∀ F H a j c, Y ∈ H → q2.cells[a + j]? = some c → Cell F H y (0 + a + j) c := fun F H a j c hm hc => by rw [Nat.zero_add]; rw [hY] at hm; exact cell_own hm hc
      have hql : q.l.length ≤ 1000 := by
        have h1 : q.pure.l.length = q.l.length := List.length_map ..
        have h2 : q.pure.l.length ≤ m2.r.p.l.length := by
          rw [hqp]
          show (m2.r.p.from_ _ _).length ≤ _
          unfold PR.from_
          split <;> simp
          try omega
        omega
      have hqc : q.cells = [.int .u64 q.term, .int .i64 q.vote, .int .u64 q.ix, .int .u64 q.tm, .int .u64 q.vt, .slice a1 q.data.length c1, .slice a2 q.l.length c2'] := by unfold Im.cells; rw [hdv, hlv]
      have hqc2 : q2.cells = [.int .u64 q2.term, .int .i64 q2.vote, .int .u64 q2.ix, .int .u64 q2.tm, .int .u64 q2.vt, .slice a3 q2.data.length c3, .slice a4 q2.l.length c4'] := by unfold Im.cells; rw [hdv2, hlv2]
      have hS : ∀ Fr, Does Tryz.prog O 24 #[.agg [.int .u64 q.term, .int .i64 q.vote, .int .u64 q.ix, .int .u64 q.tm, .int .u64 q.vt, .slice a1 q.data.length c1, .slice a2 q.l.length c2'].toArray, .agg [.int .u64 q2.term, .int .i64 q2.vote, .int .u64 q2.ix, .int .u64 q2.tm, .int .u64 q2.vt, .slice a3 q2.data.length c3, .slice a4 q2.l.length c4'].toArray] F9 Fr (fun r F' H' => r = .bool true ∧ F' = F9 ∧ H' = Fr) := fun Fr => by
        have h := ref_Same O F9 q q2 Fr hq hq2 hqp2.symm (by omega)
        rw [hqc, hqc2] at h
        exact h
      refine d_region 1000000 rfl ([X, Y, g4.E]) ?_
      refine d_tk (i := 0) rfl rfl (by intro z hz; simp only [List.mem_cons, List.not_mem_nil, or_false] at hz; rcases hz with rfl | rfl | rfl <;> simp [Gr.H]) (v_field (k := 0) rfl rfl rfl) (d_tk (i := 1) rfl rfl (by intro z hz; simp only [List.mem_cons, List.not_mem_nil, or_false] at hz; rcases hz with rfl | rfl | rfl <;> simp [Gr.H]) (v_loadAgg (sz := 2) (cs := [.int .u64 q.term, .int .i64 q.vote]) rfl rfl rfl rfl (fun j c hj => hXc _ _ 0 j c (by simp) (sub_get 0 2 rfl hj))) (d_tk (i := 2) rfl rfl (by intro z hz; simp only [List.mem_cons, List.not_mem_nil, or_false] at hz; rcases hz with rfl | rfl | rfl <;> simp [Gr.H]) (v_field (k := 2) rfl rfl rfl) (d_tk (i := 3) rfl rfl (by intro z hz; simp only [List.mem_cons, List.not_mem_nil, or_false] at hz; rcases hz with rfl | rfl | rfl <;> simp [Gr.H]) (v_loadAgg (sz := 4) (cs := [.int .u64 q.ix, .int .u64 q.tm, .int .u64 q.vt, .slice a1 q.data.length c1]) rfl rfl rfl rfl (fun j c hj => hXc _ _ 2 j c (by simp) (sub_get 2 4 (by rw [← hdv]; rfl) hj))) (d_tk (i := 4) rfl rfl (by intro z hz; simp only [List.mem_cons, List.not_mem_nil, or_false] at hz; rcases hz with rfl | rfl | rfl <;> simp [Gr.H]) (v_field (k := 6) rfl rfl rfl) (d_tk (i := 5) rfl rfl (by intro z hz; simp only [List.mem_cons, List.not_mem_nil, or_false] at hz; rcases hz with rfl | rfl | rfl <;> simp [Gr.H]) (v_load (v := .slice a2 q.l.length c2') rfl rfl (hXc _ _ 6 0 _ (by simp) (by rw [← hlv]; rfl))) (d_tk (i := 6) rfl rfl (by intro z hz; simp only [List.mem_cons, List.not_mem_nil, or_false] at hz; rcases hz with rfl | rfl | rfl <;> simp [Gr.H]) (v_build rfl rfl) (d_tk (i := 7) rfl rfl (by intro z hz; simp only [List.mem_cons, List.not_mem_nil, or_false] at hz; rcases hz with rfl | rfl | rfl <;> simp [Gr.H]) (v_field (k := 0) rfl rfl rfl) (d_tk (i := 8) rfl rfl (by intro z hz; simp only [List.mem_cons, List.not_mem_nil, or_false] at hz; rcases hz with rfl | rfl | rfl <;> simp [Gr.H]) (v_loadAgg (sz := 2) (cs := [.int .u64 q2.term, .int .i64 q2.vote]) rfl rfl rfl rfl (fun j c hj => hYc _ _ 0 j c (by simp) (sub_get 0 2 rfl hj))) (d_tk (i := 9) rfl rfl (by intro z hz; simp only [List.mem_cons, List.not_mem_nil, or_false] at hz; rcases hz with rfl | rfl | rfl <;> simp [Gr.H]) (v_field (k := 2) rfl rfl rfl) (d_tk (i := 10) rfl rfl (by intro z hz; simp only [List.mem_cons, List.not_mem_nil, or_false] at hz; rcases hz with rfl | rfl | rfl <;> simp [Gr.H]) (v_loadAgg (sz := 4) (cs := [.int .u64 q2.ix, .int .u64 q2.tm, .int .u64 q2.vt, .slice a3 q2.data.length c3]) rfl rfl rfl rfl (fun j c hj => hYc _ _ 2 j c (by simp) (sub_get 2 4 (by rw [← hdv2]; rfl) hj))) (d_tk (i := 11) rfl rfl (by intro z hz; simp only [List.mem_cons, List.not_mem_nil, or_false] at hz; rcases hz with rfl | rfl | rfl <;> simp [Gr.H]) (v_field (k := 6) rfl rfl rfl) (d_tk (i := 12) rfl rfl (by intro z hz; simp only [List.mem_cons, List.not_mem_nil, or_false] at hz; rcases hz with rfl | rfl | rfl <;> simp [Gr.H]) (v_load (v := .slice a4 q2.l.length c4') rfl rfl (hYc _ _ 6 0 _ (by simp) (by rw [← hlv2]; rfl))) (d_tk (i := 13) rfl rfl (by intro z hz; simp only [List.mem_cons, List.not_mem_nil, or_false] at hz; rcases hz with rfl | rfl | rfl <;> simp [Gr.H]) (v_build rfl rfl) ?_)))))))))))))
      refine d_one (i := 14) (by decide +kernel) (d1_call rfl rfl rfl rfl (c_call callable24 rfl) (hS _) ?_)
      rintro v' F9 H' ⟨rfl, rfl, rfl⟩ _
      refine ⟨fun w hw => held_of hw (by first | exact Fz.le_refl _ | assumption) (by intro z hz; simp only [List.mem_cons, List.not_mem_nil, or_false] at hz; rcases hz with rfl | rfl | rfl <;> simp [Gr.H]), ?_⟩
      refine d_tk (i := 15) rfl rfl (by intro z hz; simp only [List.mem_cons, List.not_mem_nil, or_false] at hz; rcases hz with rfl | rfl | rfl <;> simp [Gr.H]) (v_move rfl) (d_tk (i := 16) rfl rfl (by intro z hz; simp only [List.mem_cons, List.not_mem_nil, or_false] at hz; rcases hz with rfl | rfl | rfl <;> simp [Gr.H]) (v_move rfl) (d_one (i := 17) (by decide +kernel) (d1_call rfl rfl rfl rfl (c_call callable25 rfl) (g_rd hget4 (fun X => r_Role _ _ m4.ra m4.r X)) ?_)))
      rintro v' F9 H' ⟨rfl, rfl, rfl⟩ _
      refine ⟨fun w hw => held_of hw (by first | exact Fz.le_refl _ | assumption) (by intro z hz; simp only [List.mem_cons, List.not_mem_nil, or_false] at hz; rcases hz with rfl | rfl | rfl <;> simp [Gr.H]), ?_⟩
      rw [hp4]
      refine d_tk (i := 18) rfl rfl (by intro z hz; simp only [List.mem_cons, List.not_mem_nil, or_false] at hz; rcases hz with rfl | rfl | rfl <;> simp [Gr.H]) (v_eql rfl rfl) ?_
      refine j_slot 113 rfl (v' := .bool true) (by rfl) ?_
      refine d_tk (i := 19) rfl rfl (by intro z hz; simp only [List.mem_cons, List.not_mem_nil, or_false] at hz; rcases hz with rfl | rfl | rfl <;> simp [Gr.H]) (v_pick1 rfl rfl) (d_tk (i := 20) rfl rfl (by intro z hz; simp only [List.mem_cons, List.not_mem_nil, or_false] at hz; rcases hz with rfl | rfl | rfl <;> simp [Gr.H]) (v_move rfl) (d_tk (i := 21) rfl rfl (by intro z hz; simp only [List.mem_cons, List.not_mem_nil, or_false] at hz; rcases hz with rfl | rfl | rfl <;> simp [Gr.H]) (v_move rfl) (d_one (i := 22) (by decide +kernel) (d1_call rfl rfl rfl rfl (c_call callable13 rfl) (g_rd hget4 (fun X => r_Leader _ _ m4.ra m4.r X)) ?_))))
      rintro v' F9 H' ⟨rfl, rfl, rfl⟩ _
      refine ⟨fun w hw => held_of hw (by first | exact Fz.le_refl _ | assumption) (by intro z hz; simp only [List.mem_cons, List.not_mem_nil, or_false] at hz; rcases hz with rfl | rfl | rfl <;> simp [Gr.H]), ?_⟩
      rw [hp4]
      refine d_tk (i := 23) rfl rfl (by intro z hz; simp only [List.mem_cons, List.not_mem_nil, or_false] at hz; rcases hz with rfl | rfl | rfl <;> simp [Gr.H]) (v_eql rfl rfl) ?_
      refine j_slot 118 rfl (v' := .bool true) (by rfl) ?_
      refine d_tk (i := 24) rfl rfl (by intro z hz; simp only [List.mem_cons, List.not_mem_nil, or_false] at hz; rcases hz with rfl | rfl | rfl <;> simp [Gr.H]) (v_pick1 rfl rfl) (d_tk (i := 25) rfl rfl (by intro z hz; simp only [List.mem_cons, List.not_mem_nil, or_false] at hz; rcases hz with rfl | rfl | rfl <;> simp [Gr.H]) (v_move rfl) (d_tk (i := 26) rfl rfl (by intro z hz; simp only [List.mem_cons, List.not_mem_nil, or_false] at hz; rcases hz with rfl | rfl | rfl <;> simp [Gr.H]) (v_move rfl) (d_tk (i := 28) rfl rfl (by intro z hz; simp only [List.mem_cons, List.not_mem_nil, or_false] at hz; rcases hz with rfl | rfl | rfl <;> simp [Gr.H]) (v_field (k := 2) rfl rfl rfl) (d_tk (i := 29) rfl rfl (by intro z hz; simp only [List.mem_cons, List.not_mem_nil, or_false] at hz; rcases hz with rfl | rfl | rfl <;> simp [Gr.H]) (v_field (k := 0) rfl rfl rfl) (d_tk (i := 30) rfl rfl (by intro z hz; simp only [List.mem_cons, List.not_mem_nil, or_false] at hz; rcases hz with rfl | rfl | rfl <;> simp [Gr.H]) (v_load (v := .int .u64 q.ix) rfl rfl (hXc _ _ 2 0 _ (by simp) rfl)) (d_one (i := 27) (by decide +kernel) (d1_call rfl rfl rfl rfl (c_call callable15 rfl) (g_rd hget4 (fun X => r_Commit _ _ m4.ra m4.r X)) ?_)))))))
      rintro v' F9 H' ⟨rfl, rfl, rfl⟩ _
      refine ⟨fun w hw => held_of hw (by first | exact Fz.le_refl _ | assumption) (by intro z hz; simp only [List.mem_cons, List.not_mem_nil, or_false] at hz; rcases hz with rfl | rfl | rfl <;> simp [Gr.H]), ?_⟩
      rw [hp4]
      refine d_tk (i := 31) rfl rfl (by intro z hz; simp only [List.mem_cons, List.not_mem_nil, or_false] at hz; rcases hz with rfl | rfl | rfl <;> simp [Gr.H]) (v_eql rfl rfl) ?_
      refine j_slot 126 rfl (v' := .bool true) (congrArg Value.bool (decide_eq_true rfl)) ?_
      refine d_tk (i := 32) rfl rfl (by intro z hz; simp only [List.mem_cons, List.not_mem_nil, or_false] at hz; rcases hz with rfl | rfl | rfl <;> simp [Gr.H]) (v_pick1 rfl rfl) (d_tk (i := 33) rfl rfl (by intro z hz; simp only [List.mem_cons, List.not_mem_nil, or_false] at hz; rcases hz with rfl | rfl | rfl <;> simp [Gr.H]) (v_move rfl) (d_tk (i := 34) rfl rfl (by intro z hz; simp only [List.mem_cons, List.not_mem_nil, or_false] at hz; rcases hz with rfl | rfl | rfl <;> simp [Gr.H]) (v_move rfl) (d_tk (i := 36) rfl rfl (by intro z hz; simp only [List.mem_cons, List.not_mem_nil, or_false] at hz; rcases hz with rfl | rfl | rfl <;> simp [Gr.H]) (v_field (k := 0) rfl rfl rfl) (d_tk (i := 37) rfl rfl (by intro z hz; simp only [List.mem_cons, List.not_mem_nil, or_false] at hz; rcases hz with rfl | rfl | rfl <;> simp [Gr.H]) (v_field (k := 0) rfl rfl rfl) (d_tk (i := 38) rfl rfl (by intro z hz; simp only [List.mem_cons, List.not_mem_nil, or_false] at hz; rcases hz with rfl | rfl | rfl <;> simp [Gr.H]) (v_load (v := .int .u64 q.term) rfl rfl (hXc _ _ 0 0 _ (by simp) rfl)) (d_one (i := 35) (by decide +kernel) (d1_call rfl rfl rfl rfl (c_call callable14 rfl) (g_rd hget4 (fun X => r_Term _ _ m4.ra m4.r X)) ?_)))))))
      rintro v' F9 H' ⟨rfl, rfl, rfl⟩ _
      refine ⟨fun w hw => held_of hw (by first | exact Fz.le_refl _ | assumption) (by intro z hz; simp only [List.mem_cons, List.not_mem_nil, or_false] at hz; rcases hz with rfl | rfl | rfl <;> simp [Gr.H]), ?_⟩
      rw [hp4]
      refine d_tk (i := 39) rfl rfl (by intro z hz; simp only [List.mem_cons, List.not_mem_nil, or_false] at hz; rcases hz with rfl | rfl | rfl <;> simp [Gr.H]) (v_eql rfl rfl) ?_
      refine j_slot 134 rfl (v' := .bool true) (congrArg Value.bool (decide_eq_true rfl)) ?_
      refine d_tk (i := 40) rfl rfl (by intro z hz; simp only [List.mem_cons, List.not_mem_nil, or_false] at hz; rcases hz with rfl | rfl | rfl <;> simp [Gr.H]) (v_pick1 rfl rfl) (d_tk (i := 41) rfl rfl (by intro z hz; simp only [List.mem_cons, List.not_mem_nil, or_false] at hz; rcases hz with rfl | rfl | rfl <;> simp [Gr.H]) (v_move rfl) (d_tk (i := 42) rfl rfl (by intro z hz; simp only [List.mem_cons, List.not_mem_nil, or_false] at hz; rcases hz with rfl | rfl | rfl <;> simp [Gr.H]) (v_move rfl) (d_tk (i := 43) rfl rfl (by intro z hz; simp only [List.mem_cons, List.not_mem_nil, or_false] at hz; rcases hz with rfl | rfl | rfl <;> simp [Gr.H]) (v_nilCheck rfl) (d_tk (i := 44) rfl rfl (by intro z hz; simp only [List.mem_cons, List.not_mem_nil, or_false] at hz; rcases hz with rfl | rfl | rfl <;> simp [Gr.H]) (v_field (k := 4) rfl rfl rfl) (d_tk (i := 45) rfl rfl (by intro z hz; simp only [List.mem_cons, List.not_mem_nil, or_false] at hz; rcases hz with rfl | rfl | rfl <;> simp [Gr.H]) (v_load rfl rfl (gcell0 (g := g4) 4 (by first | (simp [Gr.H]; done) | simp) rfl)) ?_)))))
      refine j_slot 140 rfl (v' := .bool false) (by rw [hbad4]) ?_
      refine d_tk (i := 46) rfl rfl (by intro z hz; simp only [List.mem_cons, List.not_mem_nil, or_false] at hz; rcases hz with rfl | rfl | rfl <;> simp [Gr.H]) (v_not rfl) (d_tk (i := 47) rfl rfl (by intro z hz; simp only [List.mem_cons, List.not_mem_nil, or_false] at hz; rcases hz with rfl | rfl | rfl <;> simp [Gr.H]) (v_pick1 rfl rfl) (d_tk (i := 48) rfl rfl (by intro z hz; simp only [List.mem_cons, List.not_mem_nil, or_false] at hz; rcases hz with rfl | rfl | rfl <;> simp [Gr.H]) (v_assign rfl) (d_end (by decide +kernel) ?_)))
      exact r_ret1 Tryz.func7 rfl rfl ⟨rfl, hF9⟩
theorem in_RaftKeeps (W : World) (c : Int) (hc : (Lit.int .u8 c).wf = true) (v : Value) (rs : List ActI) (h : InActs W v rs) (hz : rs.length ≤ 9223372036854775807) (d : Int) (hd : (Lit.int .u8 d).wf = true) :
    Calls Tryz.prog 7 #[.int .u8 c, v, .int .u8 d] W fun e w' => e = .returned (.bool true) ∧ Go.RowKit.Below W.heap.size W w' := by
  simp [Lit.wf, IntKind.min, IntKind.max, IntKind.signed, IntKind.bits] at hc hd
  obtain ⟨c, rfl⟩ := Int.eq_ofNat_of_zero_le hc.1
  obtain ⟨d, rfl⟩ := Int.eq_ofNat_of_zero_le hd.1
  exact below_of_does (law_RaftKeeps _ _ c d v rs [] (by omega) (by omega) h.1 hz h.2)
end Go.SX
