/- Contracts and plain laws, laid together. -/
import Derived.Calls
import Derived.Orders
import Derived.OrdersHeld
import Derived.Tactics
import Derived.OwnWalk
import Derived.Laws.Small
import Derived.Laws.Strings
import Derived.Laws.Pointers
import Derived.Laws.CopyRow
import Derived.Laws.Append
import Derived.Laws.AppendOwn
import Derived.Laws.BytesArg
import Derived.Laws.Slices
import Derived.Laws.MakeOwn
import Derived.Laws.Tables
import Derived.Great.BuildSlice
import Derived.Laws.Cover3
import Derived.Laws.Concat
import Derived.Test.YtbciniijhlaomaaGreatProg
import Derived.Below
import Derived.SizedLaws
import Derived.ChangeSlices
import Derived.ChangeOld
import Derived.Laws.StructEq
import Derived.Deep.Matrix
import Derived.Deep.SlicePairs
import Derived.Deep.Grids
import Derived.MapKept
import Derived.Carry
import Derived.WideLaws
import Derived.Laws.Externs
import Derived.Laws.FloatArith
import Derived.Test.YtbciniijhlaomaaGreatMe5
namespace Go.SX
open Go Go.Proofs
set_option maxRecDepth 4000
def Fa.addVw (G : Fa) (i : Nat) (N : Vw → Prop) : Fa := { G with vw := fun j v => G.vw j v ∨ (j = i ∧ N v) }
structure Fa.NewV (G : Fa) (n i : Nat) (v : Vw) : Prop where
  up : ∃ v0, G.vw i v0 ∧ v0.term ≤ v.term
  vot : ∀ T c, G.vot i T c → T < v.term ∨ (T = v.term ∧ v.vote = (c : Int))
  acc : ∀ T, 0 < G.acc i T → T ≤ v.term
  good : Good G.LL v.fl
  tm : ∀ e ∈ v.fl, e.tm ≤ v.term
  S : ∀ T c L k, G.LL T = some (c, L) → Own L T k → k ≤ G.acc i T → G.Chb n T k → L.take k <+: v.fl
theorem Fa.chb_addVw {G : Fa} {n i : Nat} {N : Vw → Prop} (hN : ∀ v, N v → G.NewV n i v) {T k : Nat} : (G.addVw i N).Chb n T k ↔ G.Chb n T k := by
  constructor
  · rintro ⟨Q, h1, h2⟩
    refine ⟨Q, h1, fun j hj hb => (h2 j hj hb).imp id ?_⟩
    rintro ⟨v, hv | ⟨rfl, hv⟩, ht⟩
    · exact ⟨v, hv, ht⟩
    · obtain ⟨v0, h3, h4⟩ := (hN v hv).up
      exact ⟨v0, h3, by omega⟩
  · rintro ⟨Q, h1, h2⟩
    refine ⟨Q, h1, fun j hj hb => (h2 j hj hb).imp id ?_⟩
    rintro ⟨v, hv, ht⟩
    exact ⟨v, .inl hv, ht⟩
theorem CI.addVw {n : Nat} {G : Fa} (h : CI n G) {i : Nat} {N : Vw → Prop} (hN : ∀ v, N v → G.NewV n i v) : CI n (G.addVw i N) where
  fixL := h.fixL
  askG := h.askG
  ne j hj := by
    obtain ⟨v, hv⟩ := h.ne j hj
    exact ⟨v, .inl hv⟩
  vot0 := h.vot0
  vot1 j T c v hj hv hw := by
    rcases hw with hw | ⟨rfl, hw⟩
    · exact h.vot1 j T c v hj hv hw
    · exact (hN v hw).vot T c hv
  acc1 j T v hj ha hw := by
    rcases hw with hw | ⟨rfl, hw⟩
    · exact h.acc1 j T v hj ha hw
    · exact (hN v hw).acc T ha
  accB := h.accB
  vot2 := h.vot2
  votS j T c l T0 c0 L k hj hv ha ht hl ho hk hc := h.votS j T c l T0 c0 L k hj hv ha ht hl ho hk ((Fa.chb_addVw hN).1 hc)
  led := h.led
  vwG j v hj hw := by
    rcases hw with hw | ⟨rfl, hw⟩
    · exact h.vwG j v hj hw
    · exact ⟨(hN v hw).good, (hN v hw).tm⟩
  S j v T c L k hj hw hl ho hk hc := by
    have hcb := (Fa.chb_addVw hN).1 hc
    clear hc
    rcases hw with hw | ⟨rfl, hw⟩
    · exact h.S j v T c L k hj hw hl ho hk hcb
    · exact (hN v hw).S T c L k hl ho hk hcb
  P T T' c L c' L' k ht hl hl' ho hc := h.P T T' c L c' L' k ht hl hl' ho ((Fa.chb_addVw hN).1 hc)
def Fa.setLL (G : Fa) (T c : Nat) (L : List PE) : Fa := { G with LL := fun t => if t = T then some (c, L) else G.LL t }
theorem Fa.setLL_at {G : Fa} {T c : Nat} {L : List PE} : (G.setLL T c L).LL T = some (c, L) := if_pos rfl
theorem Fa.setLL_ne {G : Fa} {T c t : Nat} {L : List PE} (h : t ≠ T) : (G.setLL T c L).LL t = G.LL t := if_neg h
theorem CI.lead {n : Nat} (hn : n = 2 ∨ n = 3) {G : Fa} (h : CI n G) {T i : Nat} {f : List PE} {Q : Nat} (hi : i < n) (h0 : G.LL T = none) (hQ : Maj n Q) (hv : ∀ j < n, Q.testBit j = true → G.vot j T i) (ha : G.asks i T = some f) (hg : Good G.LL f) (ht : ∀ e ∈ f, e.tm < T) (hfx : Fixd f) :
    CI n (G.setLL T i f) ∧ LLle G.LL (G.setLL T i f).LL := by
  have hle : LLle G.LL (G.setLL T i f).LL := fun t c L hl => by
    by_cases e : t = T
    · subst e
      rw [h0] at hl
      cases hl
    · exact ⟨L, by rw [Fa.setLL_ne e]; exact hl, List.prefix_refl _⟩
  have hown : ∀ k, ¬ Own f T k := by
    rintro k ⟨_, e, he, hte⟩
    have := ht e (List.mem_of_getElem? he)
    omega
  have hold : ∀ {t c L}, (G.setLL T i f).LL t = some (c, L) → (∃ k, Own L t k) → G.LL t = some (c, L) := by
    intro t c L hl ⟨k, ho⟩
    by_cases e : t = T
    · subst e
      rw [Fa.setLL_at] at hl
      cases hl
      exact absurd ho (hown k)
    · rw [Fa.setLL_ne e] at hl
      exact hl
  refine ⟨?_, hle⟩
  exact {
    fixL := fun t c L hl => by
      by_cases q : t = T
      · subst q
        rw [Fa.setLL_at] at hl
        cases hl
        exact hfx
      · rw [Fa.setLL_ne q] at hl
        exact h.fixL t c L hl
    askG := fun c t l ha => ⟨(h.askG c t l ha).1.mono hle, (h.askG c t l ha).2⟩
    ne := h.ne
    vot0 := h.vot0
    vot1 := h.vot1
    acc1 := h.acc1
    accB := fun j t hj hp => by
      obtain ⟨c, L, h1, h2⟩ := h.accB j t hj hp
      obtain ⟨L', h3, h4⟩ := hle _ _ _ h1
      exact ⟨c, L', h3, Nat.le_trans h2 h4.length_le⟩
    vot2 := h.vot2
    votS := fun j t c l T0 c0 L k hj hvt hak htt hl ho hk hc => h.votS j t c l T0 c0 L k hj hvt hak htt (hold hl ⟨k, ho⟩) ho hk hc
    led := fun t c L hl => by
      by_cases e : t = T
      · subst e
        rw [Fa.setLL_at] at hl
        cases hl
        exact ⟨hi, ⟨Q, hQ, hv⟩, hg.mono hle, fun e he => Nat.le_of_lt (ht e he)⟩
      · rw [Fa.setLL_ne e] at hl
        obtain ⟨h1, h2, h3, h4⟩ := h.led t c L hl
        exact ⟨h1, h2, h3.mono hle, h4⟩
    vwG := fun j v hj hw => ⟨(h.vwG j v hj hw).1.mono hle, (h.vwG j v hj hw).2⟩
    S := fun j v t c L k hj hw hl ho hk hc => h.S j v t c L k hj hw (hold hl ⟨k, ho⟩) ho hk hc
    P := fun t T' c L c' L' k htt hl hl' ho hc => by
      have hlo := hold hl ⟨k, ho⟩
      clear hl
      by_cases e : T' = T
      · subst e
        rw [Fa.setLL_at] at hl'
        cases hl'
        obtain ⟨Q', h1, h2⟩ := hc
        obtain ⟨j, hj, hb, hb'⟩ := maj_meet hn h1 hQ
        rcases h2 j hj hb with h5 | h5
        · exact h.votS j T' i f t c L k hj (hv j hj hb') ha htt hlo ho h5 ⟨Q', h1, h2⟩
        · exact absurd h5 (h.past hj (hv j hj hb') htt)
      · rw [Fa.setLL_ne e] at hl'
        exact h.P t T' c L c' L' k htt hlo hl' ho hc }
theorem CI.put {n : Nat} (hn : n = 2 ∨ n = 3) {G : Fa} (h : CI n G) {T i : Nat} {f : List PE} {e : PE} (hl0 : G.LL T = some (i, f)) (ht : e.tm = T) (hfx : Fixd (f ++ [e])) :
    CI n (G.setLL T i (f ++ [e])) ∧ LLle G.LL (G.setLL T i (f ++ [e])).LL := by
  have hle : LLle G.LL (G.setLL T i (f ++ [e])).LL := fun t c L hl => by
    by_cases q : t = T
    · subst q
      rw [hl0] at hl
      cases hl
      exact ⟨f ++ [e], Fa.setLL_at, List.prefix_append _ _⟩
    · exact ⟨L, by rw [Fa.setLL_ne q]; exact hl, List.prefix_refl _⟩
  obtain ⟨hi, hQ, hgf, htf⟩ := h.led T i f hl0
  -- entries that are there already
  have hold : ∀ {t c L k}, (G.setLL T i (f ++ [e])).LL t = some (c, L) → Own L t k → (t = T → k ≤ f.length) → ∃ L0, G.LL t = some (c, L0) ∧ Own L0 t k ∧ L0.take k = L.take k := by
    intro t c L k hl ho hk
    by_cases q : t = T
    · subst q
      rw [Fa.setLL_at] at hl
      cases hl
      have hk := hk rfl
      exact ⟨f, hl0, ho.back (List.prefix_append _ _) hk, by rw [List.take_append_of_le_length hk]⟩
    · rw [Fa.setLL_ne q] at hl
      exact ⟨L, hl, ho, rfl⟩
  have hacc : ∀ {j k}, j < n → 1 ≤ k → k ≤ G.acc j T → k ≤ f.length := by
    intro j k hj h1 hk
    obtain ⟨c, L, h2, h3⟩ := h.accB j T hj (by omega)
    rw [hl0] at h2
    cases h2
    omega
  refine ⟨?_, hle⟩
  exact {
    fixL := fun t c L hl => by
      by_cases q : t = T
      · subst q
        rw [Fa.setLL_at] at hl
        cases hl
        exact hfx
      · rw [Fa.setLL_ne q] at hl
        exact h.fixL t c L hl
    askG := fun c t l ha => ⟨(h.askG c t l ha).1.mono hle, (h.askG c t l ha).2⟩
    ne := h.ne
    vot0 := h.vot0
    vot1 := h.vot1
    acc1 := h.acc1
    accB := fun j t hj hp => by
      obtain ⟨c, L, h1, h2⟩ := h.accB j t hj hp
      obtain ⟨L', h3, h4⟩ := hle _ _ _ h1
      exact ⟨c, L', h3, Nat.le_trans h2 h4.length_le⟩
    vot2 := h.vot2
    votS := fun j t c l T0 c0 L k hj hvt hak htt hl ho hk hc => by
      obtain ⟨L0, h1, h2, h3⟩ := hold hl ho (fun q => by subst q; exact hacc hj ho.1 hk)
      rw [← h3]
      exact h.votS j t c l T0 c0 L0 k hj hvt hak htt h1 h2 hk hc
    led := fun t c L hl => by
      by_cases q : t = T
      · subst q
        rw [Fa.setLL_at] at hl
        cases hl
        refine ⟨hi, hQ, ?_, ?_⟩
        · intro k x hx
          by_cases hk : k < f.length
          · rw [List.getElem?_append_left hk] at hx
            obtain ⟨c, L, h1, h2⟩ := hgf.mono hle k x hx
            exact ⟨c, L, h1, by rw [List.take_append_of_le_length (by omega)]; exact h2⟩
          · rw [List.getElem?_append_right (by omega)] at hx
            have h0 : k - f.length = 0 := by
              rcases Nat.eq_zero_or_pos (k - f.length) with h | h
              · exact h
              · rw [List.getElem?_eq_none (by rw [List.length_singleton]; exact h)] at hx; cases hx
            rw [h0] at hx
            cases hx
            rw [ht]
            exact ⟨i, _, Fa.setLL_at, List.take_prefix _ _⟩
        · intro x hx
          rcases List.mem_append.1 hx with hx | hx
          · exact htf x hx
          · rw [List.mem_singleton.1 hx, ht]
            exact Nat.le_refl _
      · rw [Fa.setLL_ne q] at hl
        obtain ⟨h1, h2, h3, h4⟩ := h.led t c L hl
        exact ⟨h1, h2, h3.mono hle, h4⟩
    vwG := fun j v hj hw => ⟨(h.vwG j v hj hw).1.mono hle, (h.vwG j v hj hw).2⟩
    S := fun j v t c L k hj hw hl ho hk hc => by
      obtain ⟨L0, h1, h2, h3⟩ := hold hl ho (fun q => by subst q; exact hacc hj ho.1 hk)
      rw [← h3]
      exact h.S j v t c L0 k hj hw h1 h2 hk hc
    P := fun t T' c L c' L' k htt hl hl' ho hc => by
      have hc : G.Chb n t k := hc
      have hk : t = T → k ≤ f.length := by
        intro q
        subst q
        rcases Nat.lt_or_ge f.length k with h9 | h9
        · exfalso
          rw [Fa.setLL_ne (by omega)] at hl'
          refine h.notChb hn htt hl' (fun j hj => ?_) hc
          rcases Nat.lt_or_ge (G.acc j t) k with h8 | h8
          · exact h8
          · exact absurd (hacc hj ho.1 h8) (by omega)
        · exact h9
      obtain ⟨L0, h1, h2, h3⟩ := hold hl ho hk
      rw [← h3]
      by_cases q : T' = T
      · subst q
        rw [Fa.setLL_at] at hl'
        cases hl'
        exact (h.P t T' c L0 i f k htt h1 hl0 h2 hc).trans (List.prefix_append _ _)
      · rw [Fa.setLL_ne q] at hl'
        exact h.P t T' c L0 c' L' k htt h1 hl' h2 hc }
def Fa.sync (G : Fa) (i : Nat) (v : Vw) (ac : Nat → Nat) : Fa :=
  { G with vw := fun j w => if j = i then w = v else G.vw j w, acc := fun j T => if j = i then ac T else G.acc j T, vot := fun j T c => if j = i then G.pv i T = some c else G.vot j T c }
structure Fa.SyncOk (G : Fa) (n i : Nat) (v : Vw) (ac : Nat → Nat) : Prop where
  vw : G.vw i v
  ge : ∀ T, G.acc i T ≤ ac T
  bnd : ∀ T, 0 < ac T → T ≤ v.term ∧ ∃ c L, G.LL T = some (c, L) ∧ ac T ≤ L.length
  up : ∀ T, G.acc i T < ac T → ∃ w, G.vw i w ∧ w.term ≤ T
  S : ∀ T c L k, G.LL T = some (c, L) → Own L T k → k ≤ ac T → G.Chb n T k → L.take k <+: v.fl
  pv1 : ∀ T c, G.pv i T = some c → T < v.term ∨ (T = v.term ∧ v.vote = (c : Int))
  pvS : ∀ T c, G.pv i T = some c → c < n ∧ (c = i ∨ G.vot c T c) ∧ ∃ l, G.asks c T = some l ∧ ∀ T0 c0 L k, T0 < T → G.LL T0 = some (c0, L) → Own L T0 k → k ≤ ac T0 → G.Chb n T0 k → L.take k <+: l
theorem Fa.chb_sync {G : Fa} {n i : Nat} {v : Vw} {ac : Nat → Nat} (hs : G.SyncOk n i v ac) {T k : Nat} (h : (G.sync i v ac).Chb n T k) : G.Chb n T k := by
  obtain ⟨Q, h1, h2⟩ := h
  refine ⟨Q, h1, fun j hj hb => ?_⟩
  by_cases e : j = i
  · subst e
    rcases h2 j hj hb with h3 | ⟨w, h3, h4⟩
    · have h3 : k ≤ ac T := by simpa [Fa.sync] using h3
      by_cases h5 : k ≤ G.acc j T
      · exact .inl h5
      · exact .inr (hs.up T (by omega))
    · have h3 : w = v := by simpa [Fa.sync] using h3
      subst h3
      exact .inr ⟨w, hs.vw, h4⟩
  · rcases h2 j hj hb with h3 | ⟨w, h3, h4⟩
    · exact .inl (by simpa [Fa.sync, e] using h3)
    · exact .inr ⟨w, by simpa [Fa.sync, e] using h3, h4⟩
theorem Fa.sync_vot {G : Fa} {n i : Nat} {v : Vw} {ac : Nat → Nat} (h : CI n G) (hi : i < n) {j T c : Nat} (hj : j < n) (hv : G.vot j T c) : (G.sync i v ac).vot j T c := by
  show if j = i then _ else _
  by_cases e : j = i
  · rw [if_pos e]
    subst e
    exact h.vot0 j T c hj hv
  · rw [if_neg e]
    exact hv
theorem CI.sync {n : Nat} {G : Fa} (h : CI n G) {i : Nat} (hi : i < n) {v : Vw} {ac : Nat → Nat} (hs : G.SyncOk n i v ac) : CI n (G.sync i v ac) := by
  have hvi : ∀ {T c}, (G.sync i v ac).vot i T c → G.pv i T = some c := fun {T c} hv => by simpa [Fa.sync] using hv
  have hvj : ∀ {j T c}, j ≠ i → (G.sync i v ac).vot j T c → G.vot j T c := fun {j T c} e hv => by simpa [Fa.sync, e] using hv
  have hwi : ∀ {w}, (G.sync i v ac).vw i w → w = v := fun {w} hw => by simpa [Fa.sync] using hw
  have hwj : ∀ {j w}, j ≠ i → (G.sync i v ac).vw j w → G.vw j w := fun {j w} e hw => by simpa [Fa.sync, e] using hw
  have hai : ∀ {T}, (G.sync i v ac).acc i T = ac T := fun {T} => if_pos rfl
  have haj : ∀ {j T}, j ≠ i → (G.sync i v ac).acc j T = G.acc j T := fun {j T} e => if_neg e
  exact {
    fixL := h.fixL
    askG := h.askG
    ne := fun j hj => by
      by_cases e : j = i
      · exact ⟨v, by simp [Fa.sync, e]⟩
      · obtain ⟨w, hw⟩ := h.ne j hj
        exact ⟨w, by simpa [Fa.sync, e] using hw⟩
    vot0 := fun j T c hj hv => by
      by_cases e : j = i
      · subst e; exact hvi hv
      · exact h.vot0 j T c hj (hvj e hv)
    vot1 := fun j T c w hj hv hw => by
      by_cases e : j = i
      · subst e
        rw [hwi hw]
        exact hs.pv1 T c (hvi hv)
      · exact h.vot1 j T c w hj (hvj e hv) (hwj e hw)
    acc1 := fun j T w hj ha hw => by
      by_cases e : j = i
      · subst e
        rw [hai] at ha
        rw [hwi hw]
        exact (hs.bnd T ha).1
      · rw [haj e] at ha
        exact h.acc1 j T w hj ha (hwj e hw)
    accB := fun j T hj ha => by
      by_cases e : j = i
      · subst e
        rw [hai] at ha ⊢
        exact (hs.bnd T ha).2
      · rw [haj e] at ha ⊢
        exact h.accB j T hj ha
    vot2 := fun j T c hj hv => by
      by_cases e : j = i
      · subst e
        obtain ⟨h1, h2, l, h3, _⟩ := hs.pvS T c (hvi hv)
        refine ⟨h1, ?_, l, h3⟩
        rcases h2 with h2 | h2
        · subst h2; exact hv
        · exact Fa.sync_vot h hi h1 h2
      · obtain ⟨h1, h2, l, h3⟩ := h.vot2 j T c hj (hvj e hv)
        exact ⟨h1, Fa.sync_vot h hi h1 h2, l, h3⟩
    votS := fun j T c l T0 c0 L k hj hv ha ht hl ho hk hc => by
      have hcb := Fa.chb_sync hs hc
      clear hc
      by_cases e : j = i
      · subst e
        rw [hai] at hk
        obtain ⟨_, _, l', h3, h4⟩ := hs.pvS T c (hvi hv)
        have ha : G.asks c T = some l := ha
        rw [h3] at ha
        cases ha
        exact h4 T0 c0 L k ht hl ho hk hcb
      · rw [haj e] at hk
        exact h.votS j T c l T0 c0 L k hj (hvj e hv) ha ht hl ho hk hcb
    led := fun T c L hl => by
      obtain ⟨h1, ⟨Q, h2, h3⟩, h4, h5⟩ := h.led T c L hl
      exact ⟨h1, ⟨Q, h2, fun j hj hb => Fa.sync_vot h hi hj (h3 j hj hb)⟩, h4, h5⟩
    vwG := fun j w hj hw => by
      by_cases e : j = i
      · subst e
        rw [hwi hw]
        exact h.vwG j v hj hs.vw
      · exact h.vwG j w hj (hwj e hw)
    S := fun j w T c L k hj hw hl ho hk hc => by
      have hcb := Fa.chb_sync hs hc
      clear hc
      by_cases e : j = i
      · subst e
        rw [hwi hw]
        rw [hai] at hk
        exact hs.S T c L k hl ho hk hcb
      · rw [haj e] at hk
        exact h.S j w T c L k hj (hwj e hw) hl ho hk hcb
    P := fun T T' c L c' L' k ht hl hl' ho hc => h.P T T' c L c' L' k ht hl hl' ho (Fa.chb_sync hs hc) }
def Fa.crash (G : Fa) (i : Nat) (v : Vw) : Fa :=
  { G with vw := fun j w => if j = i then w = v else G.vw j w, pv := fun j T => if j = i then (if T < v.term then G.pv i T else if T = v.term then (if 0 ≤ v.vote then some v.vote.toNat else none) else none) else G.pv j T, asks := fun j T => if j = i ∧ v.term < T then none else G.asks j T }
theorem Fa.chb_crash {G : Fa} {n i : Nat} {v : Vw} (hv : G.vw i v) {T k : Nat} (h : (G.crash i v).Chb n T k) : G.Chb n T k := by
  obtain ⟨Q, h1, h2⟩ := h
  refine ⟨Q, h1, fun j hj hb => (h2 j hj hb).imp id ?_⟩
  rintro ⟨w, h3, h4⟩
  by_cases e : j = i
  · subst e
    have h3 : w = v := by simpa [Fa.crash] using h3
    subst h3
    exact ⟨w, hv, h4⟩
  · exact ⟨w, by simpa [Fa.crash, e] using h3, h4⟩
theorem Fa.crash_asks {G : Fa} {n i : Nat} {v : Vw} (h : CI n G) (hi : i < n) (hv : G.vw i v) {c T : Nat} (hc : G.vot c T c) : (G.crash i v).asks c T = G.asks c T := by
  show (if c = i ∧ v.term < T then none else G.asks c T) = _
  rw [if_neg]
  rintro ⟨rfl, h1⟩
  rcases h.vot1 c T c v hi hc hv with h2 | ⟨h2, _⟩ <;> omega
theorem CI.crash {n : Nat} {G : Fa} (h : CI n G) {i : Nat} (hi : i < n) {v : Vw} (hv : G.vw i v) : CI n (G.crash i v) := by
  have hwi : ∀ {w}, (G.crash i v).vw i w → w = v := fun {w} hw => by simpa [Fa.crash] using hw
  have hwj : ∀ {j w}, j ≠ i → (G.crash i v).vw j w → G.vw j w := fun {j w} e hw => by simpa [Fa.crash, e] using hw
  have hw' : ∀ {j w}, (G.crash i v).vw j w → G.vw j w := fun {j w} hw => by
    by_cases e : j = i
    · subst e; rw [hwi hw]; exact hv
    · exact hwj e hw
  exact {
    fixL := h.fixL
    askG := fun c T l ha => h.askG c T l (by
      have ha : (if c = i ∧ v.term < T then none else G.asks c T) = some l := ha
      split at ha
      · cases ha
      · exact ha)
    ne := fun j hj => by
      by_cases e : j = i
      · exact ⟨v, by simp [Fa.crash, e]⟩
      · obtain ⟨w, hw⟩ := h.ne j hj
        exact ⟨w, by simpa [Fa.crash, e] using hw⟩
    vot0 := fun j T c hj hvt => by
      have h0 := h.vot0 j T c hj hvt
      show (if j = i then _ else _) = _
      by_cases e : j = i
      · subst e
        rw [if_pos rfl]
        rcases h.vot1 j T c v hj hvt hv with h1 | ⟨h1, h2⟩
        · rw [if_pos h1]; exact h0
        · rw [if_neg (by omega), if_pos h1, h2, if_pos (by omega)]
          rfl
      · rw [if_neg e]
        exact h0
    vot1 := fun j T c w hj hvt hw => h.vot1 j T c w hj hvt (hw' hw)
    acc1 := fun j T w hj ha hw => h.acc1 j T w hj ha (hw' hw)
    accB := h.accB
    vot2 := fun j T c hj hvt => by
      obtain ⟨h1, h2, l, h3⟩ := h.vot2 j T c hj hvt
      exact ⟨h1, h2, l, by rw [Fa.crash_asks h hi hv h2]; exact h3⟩
    votS := fun j T c l T0 c0 L k hj hvt ha ht hl ho hk hc => by
      obtain ⟨h1, h2, _⟩ := h.vot2 j T c hj hvt
      rw [Fa.crash_asks h hi hv h2] at ha
      exact h.votS j T c l T0 c0 L k hj hvt ha ht hl ho hk (Fa.chb_crash hv hc)
    led := h.led
    vwG := fun j w hj hw => h.vwG j w hj (hw' hw)
    S := fun j w T c L k hj hw hl ho hk hc => h.S j w T c L k hj (hw' hw) hl ho hk (Fa.chb_crash hv hc)
    P := fun T T' c L c' L' k ht hl hl' ho hc => h.P T T' c L c' L' k ht hl hl' ho (Fa.chb_crash hv hc) }
def Fa.cast (G : Fa) (i T c : Nat) : Fa := { G with pv := fun j t => if j = i ∧ t = T then some c else G.pv j t }
def Fa.ask (G : Fa) (i T : Nat) (l : List PE) : Fa := { G with asks := fun j t => if j = i ∧ t = T then some l else G.asks j t }
theorem CI.cast {n : Nat} {G : Fa} (h : CI n G) {i T c : Nat} (hu : ∀ c', G.vot i T c' → c' = c) : CI n (G.cast i T c) :=
  { h with
    vot0 := fun j t c' hj hv => by
      show (if j = i ∧ t = T then some c else G.pv j t) = _
      by_cases e : j = i ∧ t = T
      · rw [if_pos e]
        obtain ⟨rfl, rfl⟩ := e
        rw [hu c' hv]
      · rw [if_neg e]
        exact h.vot0 j t c' hj hv
    votS := h.votS, led := h.led, S := h.S, P := h.P }
theorem CI.ask {n : Nat} {G : Fa} (h : CI n G) {i T : Nat} {l : List PE} (hi : i < n) (hu : ¬ G.vot i T i) (hg : Good G.LL l) (hb : ∀ e ∈ l, e.tm < T) : CI n (G.ask i T l) :=
  { h with
    askG := fun c t l' ha => by
      have ha : (if c = i ∧ t = T then some l else G.asks c t) = some l' := ha
      split at ha
      · rename_i e
        rw [← Option.some.inj ha, e.2]
        exact ⟨hg, hb⟩
      · exact h.askG c t l' ha
    vot2 := fun j t c hj hv => by
      obtain ⟨h1, h2, l', h3⟩ := h.vot2 j t c hj hv
      refine ⟨h1, h2, ?_⟩
      by_cases e : c = i ∧ t = T
      · exact ⟨l, if_pos e⟩
      · exact ⟨l', by show (if c = i ∧ t = T then some l else G.asks c t) = _; rw [if_neg e]; exact h3⟩
    votS := fun j t c l' T0 c0 L k hj hv ha ht hl ho hk hc => by
      have hne : ¬ (c = i ∧ t = T) := by
        rintro ⟨rfl, rfl⟩
        exact hu (h.vot2 j t c hj hv).2.1
      have ha : (if c = i ∧ t = T then some l else G.asks c t) = some l' := ha
      rw [if_neg hne] at ha
      exact h.votS j t c l' T0 c0 L k hj hv ha ht hl ho hk hc
    led := h.led, S := h.S, P := h.P }
end Go.SX
namespace Go.SX
open Go Go.Proofs
set_option maxRecDepth 4000
def Fa.Com (G : Fa) (n T : Nat) (l : List PE) : Prop := l = [] ∨ ∃ T0 c0 L k, T0 ≤ T ∧ G.LL T0 = some (c0, L) ∧ Own L T0 k ∧ G.Chn n T0 k ∧ l <+: L.take k
def pk (out : List PM) (T k : Nat) : Prop := ∃ m ∈ out, m.kd = 6 ∧ m.ok = true ∧ m.tm = T ∧ k ≤ m.ix
def Fa.SV (G : Fa) (n i : Nat) (out : List PM) (T : Nat) (l : List PE) : Prop := ∀ T0 c0 L k, T0 < T → G.LL T0 = some (c0, L) → Own L T0 k → (k ≤ G.acc i T0 ∨ pk out T0 k) → G.Chb n T0 k → L.take k <+: l
def Fa.VG (G : Fa) (n i : Nat) (out : List PM) (T c : Nat) : Prop := c < n ∧ (c = i ∨ G.vot c T c) ∧ ∃ l, G.asks c T = some l ∧ G.SV n i out T l
def Fa.AP (G : Fa) (n : Nat) (m : PM) : Prop := ∃ L, G.LL m.tm = some (m.fr, L) ∧ m.ix ≤ L.length ∧ m.lt = tmK L m.ix ∧ m.es <+: L.drop m.ix ∧ m.cm ≤ L.length ∧ G.Com n m.tm (L.take m.cm)
def Fa.IN (G : Fa) (n : Nat) (m : PM) : Prop := ∃ L, G.LL m.tm = some (m.fr, L) ∧ m.six ≤ L.length ∧ m.stm = tmK L m.six ∧ m.svt = 2 ^ n - 1 ∧ m.sd.length ≤ 500000 ∧ G.Com n m.tm (L.take m.six)
structure Fa.Pend (G : Fa) (n i term : Nat) (f : List PE) (m : PM) : Prop where
  fr : m.fr = i
  ask : m.kd = 3 → ∃ l, G.asks i m.tm = some l ∧ m.ix = l.length ∧ m.lt = lastTm l ∧ G.pv i m.tm = some i
  vote : m.kd = 4 → m.ok = true → G.pv i m.tm = some m.to
  ap : m.kd = 5 → G.AP n m
  inst : m.kd = 7 → G.IN n m
  ack : m.kd = 6 → m.ok = true → m.tm ≤ term ∧ (∃ v, G.vw i v ∧ v.term ≤ m.tm) ∧ ∃ c L, G.LL m.tm = some (c, L) ∧ m.ix ≤ L.length ∧ ∀ k, k ≤ m.ix → Own L m.tm k → G.Chb n m.tm k → L.take k <+: f
structure Fa.Net (G : Fa) (n : Nat) (m : PM) : Prop where
  fr : m.fr < n
  ask : m.kd = 3 → ∃ l, G.asks m.fr m.tm = some l ∧ m.ix = l.length ∧ m.lt = lastTm l ∧ G.vot m.fr m.tm m.fr
  vote : m.kd = 4 → m.ok = true → G.vot m.fr m.tm m.to
  ap : m.kd = 5 → G.AP n m
  inst : m.kd = 7 → G.IN n m
  ack : m.kd = 6 → m.ok = true → m.ix ≤ G.acc m.fr m.tm
structure MI (n : Nat) (G : Fa) (i : Nat) (p : PR) (f : List PE) : Prop where
  me : p.me = i
  lf : p.l = f.drop p.lix
  lle : p.lix ≤ f.length
  ltm : p.ltm = tmK f p.lix
  six : p.six = p.lix
  stm : p.stm = p.ltm
  lvt : p.lvt = 2 ^ n - 1
  svt : p.svt = 2 ^ n - 1
  fix : Fixd f
  vwm : G.vw i ⟨p.term, p.vote, f, p.lix, p.sd⟩
  vwle : ∀ v, G.vw i v → v.term ≤ p.term
  vwV : ∀ v, G.vw i v → 0 ≤ v.vote → G.VG n i p.out v.term v.vote.toNat
  vwC : ∀ v, G.vw i v → v.base ≤ v.fl.length ∧ G.Com n v.term (v.fl.take v.base) ∧ Fixd v.fl ∧ v.sd.length ≤ 500000 ∧ -1 ≤ v.vote
  com : G.Com n p.term (f.take p.cm)
  cmle : p.cm ≤ f.length
  lixcm : p.lix ≤ p.cm
  st : p.st ≤ f.length
  pv1 : ∀ T c, G.pv i T = some c → T < p.term ∨ (T = p.term ∧ p.vote = (c : Int))
  pv2 : 0 ≤ p.vote → G.pv i p.term = some p.vote.toNat
  pvS : ∀ T c, G.pv i T = some c → G.VG n i p.out T c
  askB : ∀ T l, G.asks i T = some l → T ≤ p.term
  cand : p.role = 2 → G.asks i p.term = some f ∧ (∀ L, G.LL p.term ≠ some (i, L)) ∧ p.vote = (i : Int) ∧ ∀ j, j < n → j ≠ i → p.yes.testBit j = true → G.vot j p.term i
  lead : p.role = 3 → G.LL p.term = some (i, f) ∧ (∀ j, j < n → j ≠ i → p.mt.getD j 0 ≤ G.acc j p.term) ∧ ∀ k, k ≤ p.st → Own f p.term k → k ≤ G.acc i p.term
  out : ∀ m ∈ p.out, G.Pend n i p.term f m
structure Fa.le (n i : Nat) (G G' : Fa) : Prop where
  LL : LLle G.LL G'.LL
  LLo : ∀ T c L, c ≠ i → (G.LL T = some (c, L) ↔ G'.LL T = some (c, L))
  acc : ∀ T, G.acc i T ≤ G'.acc i T
  acco : ∀ j T, j ≠ i → G'.acc j T = G.acc j T
  vot : ∀ j T c, j < n → G.vot j T c → G'.vot j T c
  pvo : ∀ j T, j ≠ i → G'.pv j T = G.pv j T
  askso : ∀ j T, j ≠ i → G'.asks j T = G.asks j T
  asks : ∀ T l, G.vot i T i → G.asks i T = some l → G'.asks i T = some l
  vwo : ∀ j v, j ≠ i → (G'.vw j v ↔ G.vw j v)
  chb : ∀ T k, G'.Chb n T k → G.Chb n T k
theorem Fa.le.refl (n i : Nat) (G : Fa) : Fa.le n i G G := ⟨.refl _, fun _ _ _ _ => .rfl, fun _ => Nat.le_refl _, fun _ _ _ => rfl, fun _ _ _ _ h => h, fun _ _ _ => rfl, fun _ _ _ => rfl, fun _ _ _ h => h, fun _ _ _ => .rfl, fun _ _ h => h⟩
theorem LLle.trans {a b c : Nat → Option (Nat × List PE)} (h1 : LLle a b) (h2 : LLle b c) : LLle a c := fun T x L h => by
  obtain ⟨L1, h3, h4⟩ := h1 T x L h
  obtain ⟨L2, h5, h6⟩ := h2 T x L1 h3
  exact ⟨L2, h5, h4.trans h6⟩
theorem Fa.le.trans {n i : Nat} (hi : i < n) {a b c : Fa} (h1 : Fa.le n i a b) (h2 : Fa.le n i b c) : Fa.le n i a c where
  LL := h1.LL.trans h2.LL
  LLo T x L hx := (h1.LLo T x L hx).trans (h2.LLo T x L hx)
  acc T := Nat.le_trans (h1.acc T) (h2.acc T)
  acco j T hj := (h2.acco j T hj).trans (h1.acco j T hj)
  vot j T x hj h := h2.vot j T x hj (h1.vot j T x hj h)
  pvo j T hj := (h2.pvo j T hj).trans (h1.pvo j T hj)
  askso j T hj := (h2.askso j T hj).trans (h1.askso j T hj)
  asks T l hv ha := h2.asks T l (h1.vot _ _ _ hi hv) (h1.asks T l hv ha)
  vwo j v hj := (h2.vwo j v hj).trans (h1.vwo j v hj)
  chb T k h := h1.chb T k (h2.chb T k h)
theorem Fa.le.accle {n i : Nat} {a b : Fa} (h : Fa.le n i a b) (j T : Nat) : a.acc j T ≤ b.acc j T := by
  by_cases e : j = i
  · subst e; exact h.acc T
  · rw [h.acco j T e]; exact Nat.le_refl _
theorem Fa.le.chn {n i : Nat} {a b : Fa} (h : Fa.le n i a b) {T k : Nat} (hc : a.Chn n T k) : b.Chn n T k := by
  obtain ⟨Q, h1, h2⟩ := hc
  exact ⟨Q, h1, fun j hj hb => Nat.le_trans (h2 j hj hb) (h.accle j T)⟩
theorem Own.take {L L' : List PE} {T k : Nat} (ho : Own L T k) (hp : L <+: L') : L'.take k = L.take k := pre_take hp ho.le.2
theorem Fa.le.com {n i : Nat} {a b : Fa} (h : Fa.le n i a b) {T : Nat} {l : List PE} (hc : a.Com n T l) : b.Com n T l := by
  rcases hc with rfl | ⟨T0, c0, L, k, h1, h2, h3, h4, h5⟩
  · exact .inl rfl
  · obtain ⟨L', h6, h7⟩ := h.LL _ _ _ h2
    exact .inr ⟨T0, c0, L', k, h1, h6, h3.pre h7, h.chn h4, by rw [h3.take h7]; exact h5⟩
theorem Fa.Com.up {G : Fa} {n T T' : Nat} {l : List PE} (h : G.Com n T l) (ht : T ≤ T') : G.Com n T' l := by
  rcases h with rfl | ⟨T0, c0, L, k, h1, h2⟩
  · exact .inl rfl
  · exact .inr ⟨T0, c0, L, k, Nat.le_trans h1 ht, h2⟩
theorem Fa.Com.pre {G : Fa} {n T : Nat} {l l' : List PE} (h : G.Com n T l) (hp : l' <+: l) : G.Com n T l' := by
  rcases h with rfl | ⟨T0, c0, L, k, h1, h2, h3, h4, h5⟩
  · exact .inl (List.prefix_nil.1 hp)
  · exact .inr ⟨T0, c0, L, k, h1, h2, h3, h4, hp.trans h5⟩
theorem LLle.back {LL LL' : Nat → Option (Nat × List PE)} (hle : LLle LL LL') {T c c' k : Nat} {L L' : List PE} (h : LL T = some (c, L)) (h' : LL' T = some (c', L')) (ho : Own L' T k) (hk : k ≤ L.length) : c' = c ∧ Own L T k ∧ L'.take k = L.take k := by
  obtain ⟨L1, h1, h2⟩ := hle _ _ _ h
  rw [h'] at h1
  cases h1
  exact ⟨rfl, ho.back h2 hk, pre_take h2 hk⟩
theorem tmK_pre {L L' : List PE} (h : L <+: L') {k : Nat} (hk : k ≤ L.length) : tmK L' k = tmK L k := by
  cases k with
  | zero => rfl
  | succ k =>
    show ((L'[k]?).map PE.tm).getD 0 = ((L[k]?).map PE.tm).getD 0
    rw [pre_get' h (by omega)]
theorem Fa.le.ap {n i : Nat} {a b : Fa} (h : Fa.le n i a b) {m : PM} (hm : a.AP n m) : b.AP n m := by
  obtain ⟨L, h1, h2, h3, h4, h5, h8⟩ := hm
  obtain ⟨L', h6, h7⟩ := h.LL _ _ _ h1
  refine ⟨L', h6, Nat.le_trans h2 h7.length_le, ?_, ?_, Nat.le_trans h5 h7.length_le, ?_⟩
  · rw [h3, tmK_pre h7 h2]
  · obtain ⟨t, rfl⟩ := h7
    rw [List.drop_append_of_le_length h2]
    exact h4.trans (List.prefix_append _ _)
  · rw [pre_take h7 h5]
    exact h.com h8
theorem Fa.le.inst {n i : Nat} {a b : Fa} (h : Fa.le n i a b) {m : PM} (hm : a.IN n m) : b.IN n m := by
  obtain ⟨L, h1, h2, h3, h4, h8, h5⟩ := hm
  obtain ⟨L', h6, h7⟩ := h.LL _ _ _ h1
  exact ⟨L', h6, Nat.le_trans h2 h7.length_le, by rw [h3, tmK_pre h7 h2], h4, h8, by rw [pre_take h7 h2]; exact h.com h5⟩
theorem Fa.le.asks' {n i : Nat} {a b : Fa} (h : Fa.le n i a b) {c T : Nat} {l : List PE} (ha : a.asks c T = some l) (hv : c ≠ i ∨ a.vot c T c) : b.asks c T = some l := by
  by_cases e : c = i
  · subst e
    exact h.asks T l (hv.resolve_left (fun e => e rfl)) ha
  · rw [h.askso c T e]; exact ha
theorem Fa.le.net {n i : Nat} {a b : Fa} (h : Fa.le n i a b) {m : PM} (hm : a.Net n m) : b.Net n m where
  fr := hm.fr
  ask hk := by
    obtain ⟨l, h1, h2, h3, h4⟩ := hm.ask hk
    exact ⟨l, h.asks' h1 (.inr h4), h2, h3, h.vot _ _ _ hm.fr h4⟩
  vote hk ho := h.vot _ _ _ hm.fr (hm.vote hk ho)
  ap hk := h.ap (hm.ap hk)
  inst hk := h.inst (hm.inst hk)
  ack hk ho := Nat.le_trans (hm.ack hk ho) (h.accle _ _)
theorem Fa.le.pend {n i j term : Nat} {a b : Fa} (h : Fa.le n i a b) (hj : j ≠ i) {f : List PE} {m : PM} (hm : a.Pend n j term f m) : b.Pend n j term f m where
  fr := hm.fr
  ask hk := by
    obtain ⟨l, h1, h2, h3, h4⟩ := hm.ask hk
    exact ⟨l, by rw [h.askso j _ hj]; exact h1, h2, h3, by rw [h.pvo j _ hj]; exact h4⟩
  vote hk ho := by rw [h.pvo j _ hj]; exact hm.vote hk ho
  ap hk := h.ap (hm.ap hk)
  inst hk := h.inst (hm.inst hk)
  ack hk ho := by
    obtain ⟨h1, ⟨v, h2, h3⟩, c, L, h4, h5, h6⟩ := hm.ack hk ho
    obtain ⟨L', h7, h8⟩ := h.LL _ _ _ h4
    refine ⟨h1, ⟨v, (h.vwo j v hj).2 h2, h3⟩, c, L', h7, Nat.le_trans h5 h8.length_le, fun k hk' hown hc => ?_⟩
    rw [pre_take h8 (by omega)]
    exact h6 k hk' (hown.back h8 (by omega)) (h.chb _ _ hc)
theorem Fa.le.sv {n i j : Nat} {a b : Fa} (h : Fa.le n i a b) (hc : CI n a) (hj : ∀ T, b.acc j T = a.acc j T) (hjn : j < n) {out : List PM} {term T : Nat} {f l : List PE} (ho : ∀ m ∈ out, a.Pend n j term f m) (hs : a.SV n j out T l) : b.SV n j out T l := by
  intro T0 c0 L k ht hl hown hk hcb
  have hcb := h.chb _ _ hcb
  have hold : ∃ c L0, a.LL T0 = some (c, L0) ∧ k ≤ L0.length := by
    rcases hk with hk | ⟨m, hm, h1, h2, h3, h4⟩
    · rw [hj T0] at hk
      have := hown.le.1
      obtain ⟨c, L0, h1, h2⟩ := hc.accB j T0 hjn (by omega)
      exact ⟨c, L0, h1, by omega⟩
    · obtain ⟨_, _, c, L0, h5, h6, _⟩ := (ho m hm).ack h1 h2
      rw [h3] at h5
      exact ⟨c, L0, h5, by omega⟩
  obtain ⟨c, L0, h1, h2⟩ := hold
  obtain ⟨rfl, h3, h4⟩ := h.LL.back h1 hl hown h2
  rw [h4]
  exact hs T0 c0 L0 k ht h1 h3 (hk.imp (fun q => by rw [hj T0] at q; exact q) id) hcb
theorem Fa.le.vg {n i j : Nat} {a b : Fa} (h : Fa.le n i a b) (hc : CI n a) (hj : ∀ T, b.acc j T = a.acc j T) (hak : ∀ T l, a.asks j T = some l → b.asks j T = some l) (hjn : j < n) {out : List PM} {term T c : Nat} {f : List PE} (ho : ∀ m ∈ out, a.Pend n j term f m) (hs : a.VG n j out T c) : b.VG n j out T c := by
  obtain ⟨h1, h2, l, h3, h4⟩ := hs
  refine ⟨h1, h2.imp id (h.vot _ _ _ h1), l, ?_, h.sv hc hj hjn ho h4⟩
  rcases h2 with h2 | h2
  · subst h2; exact hak _ _ h3
  · exact h.asks' h3 (.inr h2)
theorem MI.other {n i j : Nat} {a b : Fa} {p : PR} {f : List PE} (h : MI n a j p f) (hle : Fa.le n i a b) (hc : CI n a) (hj : j ≠ i) (hjn : j < n) : MI n b j p f :=
  { h with
    vwm := (hle.vwo j _ hj).2 h.vwm
    vwle := fun v hv => h.vwle v ((hle.vwo j v hj).1 hv)
    vwV := fun v hv h0 => hle.vg hc (fun T => hle.acco j T hj) (fun T l ha => by rw [hle.askso j T hj]; exact ha) hjn h.out (h.vwV v ((hle.vwo j v hj).1 hv) h0)
    vwC := fun v hv => by
      obtain ⟨h1, h2, h3⟩ := h.vwC v ((hle.vwo j v hj).1 hv)
      exact ⟨h1, hle.com h2, h3⟩
    com := hle.com h.com
    pv1 := fun T c hp => h.pv1 T c (by rw [← hle.pvo j T hj]; exact hp)
    pv2 := fun h0 => by rw [hle.pvo j _ hj]; exact h.pv2 h0
    pvS := fun T c hp => hle.vg hc (fun T => hle.acco j T hj) (fun T l ha => by rw [hle.askso j T hj]; exact ha) hjn h.out (h.pvS T c (by rw [← hle.pvo j T hj]; exact hp))
    askB := fun T l ha => by
      rw [hle.askso j T hj] at ha
      exact h.askB T l ha
    cand := fun hr => by
      obtain ⟨h1, h2, h3, h4⟩ := h.cand hr
      exact ⟨by rw [hle.askso j _ hj]; exact h1, fun L hl => h2 L ((hle.LLo _ _ _ hj).2 hl), h3, fun x hx hxj hb => hle.vot _ _ _ hx (h4 x hx hxj hb)⟩
    lead := fun hr => by
      obtain ⟨h1, h2, h3⟩ := h.lead hr
      exact ⟨(hle.LLo _ _ _ hj).1 h1, fun x hx hxj => Nat.le_trans (h2 x hx hxj) (hle.accle _ _), fun k hk ho => Nat.le_trans (h3 k hk ho) (hle.accle _ _)⟩
    out := fun m hm => hle.pend hj (h.out m hm) }
end Go.SX
namespace Go.SX
open Go Go.Proofs
set_option maxRecDepth 4000
theorem foldl_keep {α β : Type} (g : β → α → β) (b : β) : ∀ l : List α, (∀ x ∈ l, g b x = b) → l.foldl g b = b
  | [], _ => rfl
  | x :: r, h => by
    rw [List.foldl_cons, h x (List.mem_cons_self ..)]
    exact foldl_keep g b r fun y hy => h y (List.mem_cons_of_mem _ hy)
section
variable {n i : Nat} {G : Fa} {p : PR} {f : List PE}
theorem MI.last (h : MI n G i p f) : p.last = f.length := by
  have := h.lle
  unfold PR.last
  rw [h.lf, List.length_drop]
  omega
theorem MI.voters (h : MI n G i p f) : p.voters = (2 ^ n - 1, p.lix) := by
  unfold PR.voters
  rw [foldl_keep, h.lvt]
  intro e he
  rw [h.lf] at he
  obtain ⟨k, hk⟩ := List.mem_iff_getElem?.1 (List.mem_of_mem_drop he)
  have := (h.fix k e hk).2
  exact if_neg (by omega)
theorem MI.most (h : MI n G i p f) {Q : Nat} (hq : p.most Q = true) : Maj n Q := by
  unfold PR.most at hq
  rw [h.voters, decide_eq_true_eq] at hq
  exact hq
theorem MI.termAt (h : MI n G i p f) {k : Nat} (h1 : p.lix ≤ k) (h2 : k ≤ f.length) : p.termAt k = (tmK f k, true) := by
  have hl := h.last
  unfold PR.last at hl
  unfold PR.termAt
  rw [if_neg (by omega)]
  by_cases e : k = p.lix
  · rw [if_pos e, h.ltm, e]
  · rw [if_neg e, h.lf, List.getElem?_drop]
    cases k with
    | zero => omega
    | succ k =>
      rw [show p.lix + (k + 1 - p.lix - 1) = k by omega]
      rfl
theorem MI.termOk (h : MI n G i p f) {k : Nat} (h1 : (p.termAt k).2 = true) : p.lix ≤ k ∧ k ≤ f.length := by
  have hl := h.last
  unfold PR.last at hl
  have := termAt_ok h1
  omega
theorem MI.lastTerm (h : MI n G i p f) : p.lastTerm = lastTm f := by
  unfold PR.lastTerm
  rw [h.last, h.termAt h.lle (Nat.le_refl _)]
  rfl
theorem MI.vol (h : MI n G i p f) (q : PR) (hme : q.me = p.me) (ht : q.term = p.term) (hv : q.vote = p.vote) (h1 : q.lix = p.lix) (h2 : q.ltm = p.ltm) (h3 : q.lvt = p.lvt) (h4 : q.l = p.l) (h5 : q.cm = p.cm) (h6 : q.six = p.six) (h7 : q.stm = p.stm) (h8 : q.svt = p.svt) (h9 : q.sd = p.sd) (h10 : q.out = p.out) (h11 : q.st ≤ f.length)
    (hc : q.role = 2 → G.asks i p.term = some f ∧ (∀ L, G.LL p.term ≠ some (i, L)) ∧ p.vote = (i : Int) ∧ ∀ j, j < n → j ≠ i → q.yes.testBit j = true → G.vot j p.term i)
    (hl : q.role = 3 → G.LL p.term = some (i, f) ∧ (∀ j, j < n → j ≠ i → q.mt.getD j 0 ≤ G.acc j p.term) ∧ ∀ k, k ≤ q.st → Own f p.term k → k ≤ G.acc i p.term) : MI n G i q f where
  me := by rw [hme]; exact h.me
  lf := by rw [h4, h1]; exact h.lf
  lle := by rw [h1]; exact h.lle
  ltm := by rw [h1, h2]; exact h.ltm
  six := by rw [h1, h6]; exact h.six
  stm := by rw [h2, h7]; exact h.stm
  lvt := by rw [h3]; exact h.lvt
  svt := by rw [h8]; exact h.svt
  fix := h.fix
  vwm := by rw [ht, hv, h1, h9]; exact h.vwm
  vwle := by rw [ht]; exact h.vwle
  vwV := by rw [h10]; exact h.vwV
  vwC := h.vwC
  com := by rw [ht, h5]; exact h.com
  cmle := by rw [h5]; exact h.cmle
  lixcm := by rw [h1, h5]; exact h.lixcm
  st := h11
  pv1 := by rw [ht, hv]; exact h.pv1
  pv2 := by rw [ht, hv]; exact h.pv2
  pvS := by rw [h10]; exact h.pvS
  askB := by rw [ht]; exact h.askB
  cand := by rw [ht, hv]; exact hc
  lead := by rw [ht]; exact hl
  out := by rw [h10, ht]; exact h.out
theorem MI.rest (h : MI n G i p f) : MI n G i p.rest f := h.vol p.rest rfl rfl rfl rfl rfl rfl rfl rfl rfl rfl rfl rfl rfl h.st h.cand h.lead
theorem Fa.SV.out {out out' : List PM} {T : Nat} {l : List PE} (h : G.SV n i out T l) (ho : ∀ T0 k, T0 < T → pk out' T0 k → pk out T0 k) : G.SV n i out' T l := fun T0 c0 L k ht hl hown hk hc => h T0 c0 L k ht hl hown (hk.imp id (ho T0 k ht)) hc
theorem Fa.VG.out {out out' : List PM} {T c : Nat} (h : G.VG n i out T c) (ho : ∀ T0 k, T0 < T → pk out' T0 k → pk out T0 k) : G.VG n i out' T c := by
  obtain ⟨h1, h2, l, h3, h4⟩ := h
  exact ⟨h1, h2, l, h3, h4.out ho⟩
theorem MI.pvle (h : MI n G i p f) {T c : Nat} (hp : G.pv i T = some c) : T ≤ p.term := by
  rcases h.pv1 T c hp with h1 | ⟨h1, _⟩ <;> omega
theorem MI.outs (h : MI n G i p f) {out : List PM} (h1 : ∀ m ∈ out, G.Pend n i p.term f m) (h2 : ∀ T0 k, T0 < p.term → pk out T0 k → pk p.out T0 k) : MI n G i { p with out := out } f :=
  { h with
    vwV := fun v hv h0 => (h.vwV v hv h0).out fun T0 k ht hk => h2 T0 k (by have := h.vwle v hv; omega) hk
    pvS := fun T c hp => (h.pvS T c hp).out fun T0 k ht hk => h2 T0 k (by have := h.pvle hp; omega) hk
    out := h1 }
def PR.stamp (p : PR) (m : PM) : PM := { m with fr := p.me, tm := if m.tm = 0 then p.term else m.tm }
theorem MI.send (h : MI n G i p f) (m : PM) (hm : G.Pend n i p.term f (p.stamp m)) (ht : m.kd = 6 → m.ok = true → p.term ≤ (p.stamp m).tm) : MI n G i (p.send m) f := by
  have hold : ∀ q ∈ (if m.kd = 5 then p.out.filter (fun q => !q.sel m.to) else p.out), q ∈ p.out := by
    intro q hq
    split at hq
    · exact (List.mem_filter.1 hq).1
    · exact hq
  refine h.outs (out := (if m.kd = 5 then p.out.filter (fun q => !q.sel m.to) else p.out) ++ [p.stamp m]) ?_ ?_
  · intro q hq
    rcases List.mem_append.1 hq with hq | hq
    · exact h.out q (hold q hq)
    · rw [List.mem_singleton.1 hq]
      exact hm
  · rintro T0 k h0 ⟨q, hq, h1, h2, h3, h4⟩
    rcases List.mem_append.1 hq with hq | hq
    · exact ⟨q, hold q hq, h1, h2, h3, h4⟩
    · rw [List.mem_singleton.1 hq] at h1 h2 h3
      have := ht h1 h2
      omega
theorem MI.send0 (h : MI n G i p f) (m : PM) (h3 : m.kd ≠ 3) (h5 : m.kd ≠ 5) (h7 : m.kd ≠ 7) (hk : m.kd = 4 ∨ m.kd = 6 → m.ok = false) : MI n G i (p.send m) f := by
  refine h.send m ⟨h.me, fun e => absurd e h3, fun e ho => ?_, fun e => absurd e h5, fun e => absurd e h7, fun e ho => ?_⟩ fun e ho => ?_
  · have : m.ok = true := ho
    rw [hk (.inl e)] at this
    cases this
  · have : m.ok = true := ho
    rw [hk (.inr e)] at this
    cases this
  · rw [hk (.inr e)] at ho
    cases ho
theorem MI.pre (h : MI n G i p f) (m : PM) : MI n G i (p.pre m) f := by
  unfold PR.pre
  split <;> exact h.send0 _ (by simp) (by simp) (by simp) (by simp)
theorem MI.late (h : MI n G i p f) (m : PM) : MI n G i (p.late m) f := by
  unfold PR.late
  split
  · exact h.send0 _ (by simp) (by simp) (by simp) (by simp)
  · split
    · exact h.send0 _ (by simp) (by simp) (by simp) (by simp)
    · exact h
theorem MI.feed (h : MI n G i p f) (hr : p.role = 3) (j : Nat) : MI n G i (p.feed j) f := by
  obtain ⟨hl, _, _⟩ := h.lead hr
  have hcm := h.cmle
  have hst : ∀ m : PM, m.tm = 0 → (p.stamp m).tm = p.term := fun m hm => by
    unfold PR.stamp
    rw [if_pos hm]
  unfold PR.feed PR.feedM
  split
  · rename_i hok
    have hb := h.termOk hok
    refine h.send _ ⟨h.me, fun e => by simp [PR.stamp] at e, fun e ho => by simp [PR.stamp] at e, fun _ => ?_, fun e => by simp [PR.stamp] at e, fun e ho => by simp [PR.stamp] at e⟩ (fun e => by simp at e)
    refine ⟨f, ?_, hb.2, ?_, ?_, hcm, ?_⟩
    · show G.LL (if (0 : Nat) = 0 then p.term else 0) = some (p.me, f)
      rw [if_pos rfl, h.me]
      exact hl
    · show (p.termAt _).1 = _
      rw [h.termAt hb.1 hb.2]
      rfl
    · show fewP (p.from_ (p.nx.getD j 0 - 1 + 1) 16) <+: f.drop (p.nx.getD j 0 - 1)
      generalize p.nx.getD j 0 - 1 = a at hb ⊢
      unfold fewP PR.from_
      refine (List.take_prefix _ _).trans ?_
      split
      · exact List.nil_prefix
      · rw [h.lf, List.drop_drop, show p.lix + (a + 1 - p.lix - 1) = a by omega]
        exact List.take_prefix _ _
    · exact h.com
  · refine h.send _ ⟨h.me, fun e => by simp [PR.stamp] at e, fun e ho => by simp [PR.stamp] at e, fun e => by simp [PR.stamp] at e, fun _ => ?_, fun e ho => by simp [PR.stamp] at e⟩ (fun e => by simp at e)
    refine ⟨f, ?_, ?_, ?_, ?_, (h.vwC _ h.vwm).2.2.2.1, ?_⟩
    · show G.LL (if (0 : Nat) = 0 then p.term else 0) = some (p.me, f)
      rw [if_pos rfl, h.me]
      exact hl
    · show p.six ≤ _
      rw [h.six]; exact h.lle
    · show p.stm = tmK f p.six
      rw [h.stm, h.six]; exact h.ltm
    · exact h.svt
    · show G.Com n (if (0 : Nat) = 0 then p.term else 0) (f.take p.six)
      rw [if_pos rfl, h.six]
      exact h.com.pre (take_le_pre h.lixcm)
theorem MI.feeds (hr : p.role = 3) : ∀ (l : List Nat) (p : PR), MI n G i p f → p.role = 3 → MI n G i (l.foldl PR.feed p) f
  | [], _, h, _ => h
  | j :: r, p, h, hr' => MI.feeds hr r (p.feed j) (h.feed hr' j) hr'
theorem MI.tell (h : MI n G i p f) (hr : p.role = 3) : MI n G i p.tell f := MI.feeds hr _ p h hr
theorem MI.asks (h : MI n G i p f) : MI n G i p.asks f := by
  unfold PR.asks
  generalize p.others = l
  induction l generalizing p with
  | nil => exact h
  | cons j r ih => exact ih (h.send0 _ (by simp [PR.askM]) (by simp [PR.askM]) (by simp [PR.askM]) (by simp [PR.askM]))
theorem MI.canv (h : MI n G i p f) (ha : G.asks i p.term = some f) (hp : G.pv i p.term = some i) : MI n G i p.canv f := by
  unfold PR.canv
  generalize p.others = l
  induction l generalizing p with
  | nil => exact h
  | cons j r ih =>
    refine ih (h.send _ ⟨h.me, fun _ => ⟨f, ?_, ?_, ?_, ?_⟩, fun e ho => by simp [PR.stamp, PR.canM] at e, fun e => by simp [PR.stamp, PR.canM] at e, fun e => by simp [PR.stamp, PR.canM] at e, fun e ho => by simp [PR.stamp, PR.canM] at e⟩ (fun e => by simp [PR.canM] at e)) ha hp
    · exact ha
    · exact h.last
    · exact h.lastTerm
    · exact hp
end
end Go.SX
namespace Go.SX
open Go Go.Proofs
set_option maxRecDepth 4000
theorem Fa.le_addVw {n i : Nat} {G : Fa} {N : Vw → Prop} (hN : ∀ v, N v → G.NewV n i v) : Fa.le n i G (G.addVw i N) where
  LL := .refl _
  LLo _ _ _ _ := .rfl
  acc _ := Nat.le_refl _
  acco _ _ _ := rfl
  vot _ _ _ _ h := h
  pvo _ _ _ := rfl
  askso _ _ _ := rfl
  asks _ _ _ h := h
  vwo j v hj := ⟨fun h => h.resolve_right (fun e => hj e.1), .inl⟩
  chb T k h := (Fa.chb_addVw hN).1 h
theorem Fa.le_cast {n i T c : Nat} {G : Fa} : Fa.le n i G (G.cast i T c) where
  LL := .refl _
  LLo _ _ _ _ := .rfl
  acc _ := Nat.le_refl _
  acco _ _ _ := rfl
  vot _ _ _ _ h := h
  pvo j t hj := if_neg fun e => hj e.1
  askso _ _ _ := rfl
  asks _ _ _ h := h
  vwo _ _ _ := .rfl
  chb _ _ h := h
theorem Fa.le_ask {n i T : Nat} {l : List PE} {G : Fa} (hu : ¬ G.vot i T i) : Fa.le n i G (G.ask i T l) where
  LL := .refl _
  LLo _ _ _ _ := .rfl
  acc _ := Nat.le_refl _
  acco _ _ _ := rfl
  vot _ _ _ _ h := h
  pvo _ _ _ := rfl
  askso j t hj := if_neg fun e => hj e.1
  asks t l' hv ha := by
    show (if i = i ∧ t = T then some l else G.asks i t) = _
    rw [if_neg]
    · exact ha
    · rintro ⟨_, rfl⟩
      exact hu hv
  vwo _ _ _ := .rfl
  chb _ _ h := h
structure Fa.ext (n i : Nat) (G G' : Fa) : Prop where
  LL : G'.LL = G.LL
  acc : G'.acc = G.acc
  vot : G'.vot = G.vot
  chb : ∀ T k, G'.Chb n T k → G.Chb n T k
  asks : ∀ c T l, G.asks c T = some l → G'.asks c T = some l
  pv : ∀ T c, G.pv i T = some c → G'.pv i T = some c
  vw : ∀ v, G.vw i v → G'.vw i v
section
variable {n i : Nat} {G G' : Fa} {p : PR} {f : List PE}
theorem Fa.ext.sv (h : Fa.ext n i G G') {out : List PM} {T : Nat} {l : List PE} (hs : G.SV n i out T l) : G'.SV n i out T l := by
  intro T0 c0 L k ht hl ho hk hc
  rw [h.LL] at hl
  rw [h.acc] at hk
  exact hs T0 c0 L k ht hl ho hk (h.chb _ _ hc)
theorem Fa.ext.vg (h : Fa.ext n i G G') {out : List PM} {T c : Nat} (hs : G.VG n i out T c) : G'.VG n i out T c := by
  obtain ⟨h1, h2, l, h3, h4⟩ := hs
  exact ⟨h1, by rw [h.vot]; exact h2, l, h.asks _ _ _ h3, h.sv h4⟩
theorem Fa.ext.com (h : Fa.ext n i G G') {T : Nat} {l : List PE} (hs : G.Com n T l) : G'.Com n T l := by
  rcases hs with rfl | ⟨T0, c0, L, k, h1, h2, h3, ⟨Q, h4, h5⟩, h6⟩
  · exact .inl rfl
  · exact .inr ⟨T0, c0, L, k, h1, by rw [h.LL]; exact h2, h3, ⟨Q, h4, fun j hj hb => by rw [h.acc]; exact h5 j hj hb⟩, h6⟩
theorem Fa.ext.pend (h : Fa.ext n i G G') {t t' : Nat} (ht : t ≤ t') {m : PM} (hm : G.Pend n i t f m) : G'.Pend n i t' f m where
  fr := hm.fr
  ask hk := by
    obtain ⟨l, h1, h2, h3, h4⟩ := hm.ask hk
    exact ⟨l, h.asks _ _ _ h1, h2, h3, h.pv _ _ h4⟩
  vote hk ho := h.pv _ _ (hm.vote hk ho)
  ap hk := by
    obtain ⟨L, h1, h2, h3, h4, h5, h6⟩ := hm.ap hk
    exact ⟨L, by rw [h.LL]; exact h1, h2, h3, h4, h5, h.com h6⟩
  inst hk := by
    obtain ⟨L, h1, h2, h3, h4, h6, h5⟩ := hm.inst hk
    exact ⟨L, by rw [h.LL]; exact h1, h2, h3, h4, h6, h.com h5⟩
  ack hk ho := by
    obtain ⟨h1, ⟨v, h2, h3⟩, c, L, h4, h5, h6⟩ := hm.ack hk ho
    exact ⟨by omega, ⟨v, h.vw v h2, h3⟩, c, L, by rw [h.LL]; exact h4, h5, fun k hk' hown hc => h6 k hk' hown (h.chb _ _ hc)⟩
theorem MI.hard (h : MI n G i p f) (hx : Fa.ext n i G G') {t : Nat} {vt : Int} (hvt : -1 ≤ vt) (ht : p.term ≤ t) (hv : ∀ v, G'.vw i v → G.vw i v ∨ v = ⟨t, vt, f, p.lix, p.sd⟩) (hvn : G'.vw i ⟨t, vt, f, p.lix, p.sd⟩)
    (hpv1 : ∀ T c, G'.pv i T = some c → T < t ∨ (T = t ∧ vt = (c : Int))) (hpv2 : 0 ≤ vt → G'.pv i t = some vt.toNat) (hpvS : ∀ T c, G'.pv i T = some c → G'.VG n i p.out T c)
    (hask : ∀ T l, G'.asks i T = some l → T ≤ t)
    (q : PR) (hme : q.me = p.me) (ht' : q.term = t) (hv' : q.vote = vt) (h1 : q.lix = p.lix) (h2 : q.ltm = p.ltm) (h3 : q.lvt = p.lvt) (h4 : q.l = p.l) (h5 : q.cm = p.cm) (h6 : q.six = p.six) (h7 : q.stm = p.stm) (h8 : q.svt = p.svt) (h9 : q.sd = p.sd) (h10 : q.out = p.out) (h11 : q.st = p.st)
    (hc : q.role = 2 → G'.asks i t = some f ∧ (∀ L, G'.LL t ≠ some (i, L)) ∧ vt = (i : Int) ∧ ∀ j, j < n → j ≠ i → q.yes.testBit j = true → G'.vot j t i)
    (hl : q.role ≠ 3) : MI n G' i q f where
  me := by rw [hme]; exact h.me
  lf := by rw [h4, h1]; exact h.lf
  lle := by rw [h1]; exact h.lle
  ltm := by rw [h1, h2]; exact h.ltm
  six := by rw [h1, h6]; exact h.six
  stm := by rw [h2, h7]; exact h.stm
  lvt := by rw [h3]; exact h.lvt
  svt := by rw [h8]; exact h.svt
  fix := h.fix
  vwm := by rw [ht', hv', h1, h9]; exact hvn
  vwle v hw := by
    rw [ht']
    rcases hv v hw with hw | rfl
    · exact Nat.le_trans (h.vwle v hw) ht
    · exact Nat.le_refl _
  vwV v hw h0 := by
    rw [h10]
    rcases hv v hw with hw | rfl
    · exact hx.vg (h.vwV v hw h0)
    · exact hpvS _ _ (hpv2 h0)
  vwC v hw := by
    rcases hv v hw with hw | rfl
    · obtain ⟨h1, h2, h3⟩ := h.vwC v hw
      exact ⟨h1, hx.com h2, h3⟩
    · exact ⟨h.lle, hx.com ((h.com.up ht).pre (take_le_pre h.lixcm)), h.fix, (h.vwC _ h.vwm).2.2.2.1, hvt⟩
  com := by rw [ht', h5]; exact hx.com (h.com.up ht)
  cmle := by rw [h5]; exact h.cmle
  lixcm := by rw [h1, h5]; exact h.lixcm
  st := by rw [h11]; exact h.st
  pv1 := by rw [ht', hv']; exact hpv1
  pv2 := by rw [ht', hv']; exact hpv2
  pvS := by rw [h10]; exact hpvS
  askB := by rw [ht']; exact hask
  cand := by rw [ht', hv']; exact hc
  lead := fun e => absurd e hl
  out := by
    rw [h10, ht']
    exact fun m hm => hx.pend ht (h.out m hm)
def Hd (p q : PR) : Prop := q.chg = true ∨ (q.chg = p.chg ∧ q.term = p.term ∧ q.vote = p.vote)
theorem Hd.trans {a b c : PR} (h1 : Hd a b) (h2 : Hd b c) : Hd a c := by
  rcases h2 with h2 | ⟨h2, h3, h4⟩
  · exact .inl h2
  · rcases h1 with h1 | ⟨h1, h5, h6⟩
    · exact .inl (h2.trans h1)
    · exact .inr ⟨h2.trans h1, h3.trans h5, h4.trans h6⟩
def Up0 (n i : Nat) (G : Fa) (p : PR) (f : List PE) (q : PR) : Prop := ∃ G', CI n G' ∧ MI n G' i q f ∧ Fa.le n i G G' ∧ (∀ v, G.vw i v → G'.vw i v) ∧ q.fresh = p.fresh ∧ q.rs = p.rs ∧ q.lix = p.lix ∧ q.sd = p.sd ∧ G'.LL = G.LL ∧ Hd p q
theorem Up0.self {q : PR} (hc : CI n G) (h : MI n G i q f) (h1 : q.fresh = p.fresh) (h2 : q.rs = p.rs) (h3 : q.lix = p.lix) (h4 : q.sd = p.sd) (h5 : Hd p q) : Up0 n i G p f q := ⟨G, hc, h, .refl _ _ _, fun _ h => h, h1, h2, h3, h4, rfl, h5⟩
theorem CI.pvOf (hc : CI n G) (hi : i < n) {v : Vw} (hv : G.vw i v) : (∀ T c, G.vot i T c → T < v.term ∨ (T = v.term ∧ v.vote = (c : Int))) ∧ ∀ T, 0 < G.acc i T → T ≤ v.term := ⟨fun T c h => hc.vot1 i T c v hi h hv, fun T h => hc.acc1 i T v hi h hv⟩
theorem MI.follow (hc : CI n G) (hi : i < n) (h : MI n G i p f) (t : Nat) (ld : Int) : ∃ G', CI n G' ∧ MI n G' i (p.follow t ld) f ∧ Fa.le n i G G' ∧ (∀ v, G.vw i v → G'.vw i v) ∧ G'.LL = G.LL ∧ Hd p (p.follow t ld) := by
  have hhd : Hd p (p.follow t ld) := by
    unfold PR.follow
    split
    · exact .inl rfl
    · exact .inr ⟨rfl, rfl, rfl⟩
  revert hhd
  unfold PR.follow
  intro hhd
  split at hhd
  · rename_i ht
    rw [if_pos ht]
    obtain ⟨p1, p2⟩ := hc.pvOf hi h.vwm
    have hN : ∀ v, v = ⟨t, -1, f, p.lix, p.sd⟩ → G.NewV n i v := by
      rintro v rfl
      exact ⟨⟨_, h.vwm, Nat.le_of_lt ht⟩, fun T c hv => by
        rcases p1 T c hv with h1 | ⟨h1, _⟩
        · exact .inl (Nat.lt_trans h1 ht)
        · exact .inl (h1 ▸ ht), fun T ha => Nat.le_trans (p2 T ha) (Nat.le_of_lt ht), (hc.vwG i _ hi h.vwm).1, fun e he => Nat.le_trans ((hc.vwG i _ hi h.vwm).2 e he) (Nat.le_of_lt ht), fun T c L k hl ho hk hb => hc.S i ⟨p.term, p.vote, f, p.lix, p.sd⟩ T c L k hi h.vwm hl ho hk hb⟩
    have hx : Fa.ext n i G (G.addVw i (· = ⟨t, -1, f, p.lix, p.sd⟩)) := ⟨rfl, rfl, rfl, fun T k hb => (Fa.chb_addVw hN).1 hb, fun _ _ _ h => h, fun _ _ h => h, fun _ h => .inl h⟩
    refine ⟨_, hc.addVw hN, ?_, Fa.le_addVw hN, fun v hv => .inl hv, rfl, hhd⟩
    refine h.hard hx (t := t) (vt := -1) (by omega) (Nat.le_of_lt ht) (fun v hv => hv.imp id (fun e => e.2)) (.inr ⟨rfl, rfl⟩) (fun T c hp => ?_) (fun h0 => by omega) (fun T c hp => hx.vg (h.pvS T c hp)) (fun T l ha => ?_) _ rfl rfl rfl rfl rfl rfl rfl rfl rfl rfl rfl rfl rfl rfl (fun e => by simp at e) (by simp)
    · have := h.pvle hp
      exact .inl (by omega)
    · have := h.askB T l ha
      omega
  · rename_i ht
    rw [if_neg ht]
    exact ⟨G, hc, h.vol _ rfl rfl rfl rfl rfl rfl rfl rfl rfl rfl rfl rfl rfl h.st (fun e => by simp at e) (fun e => by simp at e), .refl _ _ _, fun _ h => h, rfl, hhd⟩
theorem follow_keep (p : PR) (t : Nat) (ld : Int) : (p.follow t ld).fresh = p.fresh ∧ (p.follow t ld).rs = p.rs ∧ (p.follow t ld).lix = p.lix ∧ (p.follow t ld).sd = p.sd ∧ (p.follow t ld).role = 0 ∧ (p.follow t ld).l = p.l := by
  unfold PR.follow
  split <;> exact ⟨rfl, rfl, rfl, rfl, rfl, rfl⟩
theorem follow_term (p : PR) (t : Nat) (ld : Int) (h : p.term ≤ t) : (p.follow t ld).term = t := by
  unfold PR.follow
  split
  · rfl
  · show p.term = t
    omega
theorem MI.camp0 (hn : n = 2 ∨ n = 3) (hc : CI n G) (hi : i < n) (h : MI n G i p f) : ∃ G', CI n G' ∧ MI n G' i p.camp0 f ∧ Fa.le n i G G' ∧ (∀ v, G.vw i v → G'.vw i v) ∧ G'.asks i (p.term + 1) = some f ∧ G'.pv i (p.term + 1) = some i ∧ G'.LL = G.LL := by
  obtain ⟨p1, p2⟩ := hc.pvOf hi h.vwm
  have hnv : ∀ c, ¬ G.vot i (p.term + 1) c := fun c hv => by
    rcases p1 _ c hv with h1 | ⟨h1, _⟩
    · have : p.term + 1 < p.term := h1
      omega
    · have : p.term + 1 = p.term := h1
      omega
  have hG := hc.vwG i _ hi h.vwm
  have c1 : CI n (G.ask i (p.term + 1) f) := hc.ask hi (hnv i) hG.1 fun e he => Nat.lt_succ_of_le (hG.2 e he)
  have c2 : CI n ((G.ask i (p.term + 1) f).cast i (p.term + 1) i) := c1.cast fun c' hv => absurd hv (hnv c')
  have hN : ∀ v, v = (⟨p.term + 1, (i : Int), f, p.lix, p.sd⟩ : Vw) → ((G.ask i (p.term + 1) f).cast i (p.term + 1) i).NewV n i v := by
    rintro v rfl
    exact ⟨⟨_, h.vwm, Nat.le_succ _⟩, fun T c hv => by
      rcases p1 T c hv with h1 | ⟨h1, _⟩
      · exact .inl (Nat.lt_succ_of_lt h1)
      · exact .inl (h1 ▸ Nat.lt_succ_self _), fun T ha => Nat.le_succ_of_le (p2 T ha), hG.1, fun e he => Nat.le_succ_of_le (hG.2 e he), fun T c L k hl ho hk hb => hc.S i ⟨p.term, p.vote, f, p.lix, p.sd⟩ T c L k hi h.vwm hl ho hk hb⟩
  have hx : Fa.ext n i G (((G.ask i (p.term + 1) f).cast i (p.term + 1) i).addVw i (· = ⟨p.term + 1, (i : Int), f, p.lix, p.sd⟩)) := by
    refine ⟨rfl, rfl, rfl, fun T k hb => (Fa.chb_addVw hN).1 hb, fun c T l ha => ?_, fun T c hp => ?_, fun _ h => .inl h⟩
    · show (if c = i ∧ T = p.term + 1 then some f else G.asks c T) = _
      rw [if_neg]
      · exact ha
      · rintro ⟨rfl, rfl⟩
        have := h.askB _ _ ha
        omega
    · show (if i = i ∧ T = p.term + 1 then some i else G.pv i T) = _
      rw [if_neg]
      · exact hp
      · rintro ⟨_, rfl⟩
        have := h.pvle hp
        omega
  have hpv : ∀ T c, (if i = i ∧ T = p.term + 1 then some i else G.pv i T) = some c → (T = p.term + 1 ∧ c = i) ∨ G.pv i T = some c := by
    intro T c hp
    split at hp
    · rename_i e
      exact .inl ⟨e.2, (Option.some.inj hp).symm⟩
    · exact .inr hp
  have hvg : (((G.ask i (p.term + 1) f).cast i (p.term + 1) i).addVw i (· = ⟨p.term + 1, (i : Int), f, p.lix, p.sd⟩)).VG n i p.out (p.term + 1) i := by
    refine ⟨hi, .inl rfl, f, if_pos ⟨rfl, rfl⟩, ?_⟩
    refine hx.sv ?_
    intro T0 c0 L k ht hl ho hk hb
    rcases hk with hk | ⟨m, hm, h1, h2, h3, h4⟩
    · exact hc.S i _ T0 c0 L k hi h.vwm hl ho hk hb
    · obtain ⟨_, _, c, L', h5, h6, h7⟩ := (h.out m hm).ack h1 h2
      rw [h3] at h5 h7
      rw [hl] at h5
      cases h5
      exact h7 k h4 ho hb
  refine ⟨_, c2.addVw hN, ?_, ((Fa.le_ask (hnv i)).trans hi Fa.le_cast).trans hi (Fa.le_addVw hN), hx.vw, if_pos ⟨rfl, rfl⟩, if_pos ⟨rfl, rfl⟩, rfl⟩
  refine h.hard hx (t := p.term + 1) (vt := (i : Int)) (by omega) (Nat.le_succ _) (fun v hv => hv.imp id (fun e => e.2)) (.inr ⟨rfl, rfl⟩) (fun T c hp => ?_) (fun h0 => ?_) (fun T c hp => ?_) (fun T l ha => ?_) _ rfl rfl (by show (p.me : Int) = i; rw [h.me]) rfl rfl rfl rfl rfl rfl rfl rfl rfl rfl rfl (fun _ => ⟨if_pos ⟨rfl, rfl⟩, fun L hl => ?_, rfl, fun j hj hji hb => ?_⟩) (by show (2 : Nat) ≠ 3; decide)
  · rcases hpv T c hp with ⟨h1, h2⟩ | h1
    · exact .inr ⟨h1, by rw [h2]⟩
    · have := h.pvle h1
      exact .inl (by omega)
  · rw [Int.toNat_natCast]
    exact if_pos ⟨rfl, rfl⟩
  · rcases hpv T c hp with ⟨rfl, rfl⟩ | h1
    · exact hvg
    · exact hx.vg (h.pvS T c h1)
  · have ha : (if i = i ∧ T = p.term + 1 then some f else G.asks i T) = some l := ha
    split at ha
    · rename_i e
      omega
    · have := h.askB T l ha
      omega
  · obtain ⟨_, ⟨Q, h2, h3⟩, _⟩ := hc.led _ _ _ hl
    obtain ⟨j, hj, hb, _⟩ := maj_meet hn h2 h2
    exact hnv i (hc.vot2 _ _ _ hj (h3 j hj hb)).2.1
  · exfalso
    have hb : (2 ^ p.me).testBit j = true := hb
    rw [h.me, Nat.testBit_two_pow] at hb
    exact hji (of_decide_eq_true hb).symm
theorem lastTm_of {l : List PE} {e : PE} (h : l[l.length - 1]? = some e) (h0 : 0 < l.length) : lastTm l = e.tm := by
  unfold lastTm
  cases hl : l.length with
  | zero => omega
  | succ k =>
    show ((l[k]?).map PE.tm).getD 0 = _
    rw [hl] at h
    rw [show l[k]? = some e from h]
    rfl
theorem CI.newer (hc : CI n G) {f l : List PE} (hf : Good G.LL f) (hl : Good G.LL l) (hnew : lastTm f < lastTm l ∨ (lastTm l = lastTm f ∧ f.length ≤ l.length)) {T0 c0 k : Nat} {L : List PE} (hL : G.LL T0 = some (c0, L)) (ho : Own L T0 k) (hb : G.Chb n T0 k) (hp : L.take k <+: f) : L.take k <+: l := by
  obtain ⟨h1, e0, h2, h3⟩ := ho
  have hkL : k ≤ L.length := (show Own L T0 k from ⟨h1, e0, h2, h3⟩).le.2
  have hlen : k ≤ f.length := by
    have := hp.length_le
    rw [List.length_take] at this
    omega
  have hfk : f[k - 1]? = some e0 := pre_get hp (by rw [List.getElem?_take, if_pos (by omega)]; exact h2)
  obtain ⟨ef, hef⟩ : ∃ e, f[f.length - 1]? = some e := ⟨_, List.getElem?_eq_getElem (by omega)⟩
  have htf := lastTm_of hef (by omega)
  have hmon := hf.mon hc hfk hef (by omega)
  obtain ⟨cf, Lf, g1, g2⟩ := hf _ _ hef
  rw [show f.length - 1 + 1 = f.length by omega, List.take_length] at g2
  have hl0 : 0 < l.length := by
    rcases Nat.eq_zero_or_pos l.length with h | h
    · exfalso
      have : lastTm l = 0 := by unfold lastTm; rw [h]; rfl
      omega
    · exact h
  obtain ⟨el, hel⟩ : ∃ e, l[l.length - 1]? = some e := ⟨_, List.getElem?_eq_getElem (by omega)⟩
  have htl := lastTm_of hel hl0
  obtain ⟨cl, Ll, g3, g4⟩ := hl _ _ hel
  rw [show l.length - 1 + 1 = l.length by omega, List.take_length] at g4
  rcases hnew with hnew | ⟨hnew, hle⟩
  · have hP := hc.P T0 el.tm c0 L cl Ll k (by omega) hL g3 ⟨h1, e0, h2, h3⟩ hb
    have hk : k ≤ l.length := by
      rcases Nat.lt_or_ge l.length k with h | h
      · exfalso
        have q1 := pre_get g4 hel
        have q2 : Ll[k - 1]? = some e0 := pre_get hP (by rw [List.getElem?_take, if_pos (by omega)]; exact h2)
        have := ((hc.led _ _ _ g3).2.2.1).mon hc q1 q2 (by omega)
        omega
      · exact h
    exact prefix_total hP g4 (by rw [List.length_take]; omega)
  · rw [htl, htf] at hnew
    rw [hnew, g1] at g3
    cases g3
    exact prefix_total (hp.trans g2) g4 (by rw [List.length_take]; omega)
theorem MI.has (hc : CI n G) (hi : i < n) (h : MI n G i p f) {T0 c0 k : Nat} {L : List PE} (hl : G.LL T0 = some (c0, L)) (ho : Own L T0 k) (hk : k ≤ G.acc i T0 ∨ pk p.out T0 k) (hb : G.Chb n T0 k) : L.take k <+: f := by
  rcases hk with hk | ⟨m, hm, h1, h2, h3, h4⟩
  · exact hc.S i _ T0 c0 L k hi h.vwm hl ho hk hb
  · obtain ⟨_, _, c, L', h5, h6, h7⟩ := (h.out m hm).ack h1 h2
    rw [h3] at h5 h7
    rw [hl] at h5
    cases h5
    exact h7 k h4 ho hb
theorem MI.asked (hc : CI n G) (hi : i < n) (h : MI n G i p f) {m : PM} (hm : G.Net n m) (hk : m.kd = 3) (ht : m.tm = p.term) (hfr : m.fr ≠ i) : Up0 n i G p f (p.asked m) := by
  unfold PR.asked
  obtain ⟨l, a1, a2, a3, a4⟩ := hm.ask hk
  have hG := hc.vwG i _ hi h.vwm
  by_cases hok : p.askOk m = true
  · rw [if_pos hok, hok]
    have hok2 := hok
    unfold PR.askOk at hok2
    rw [Bool.and_eq_true, Bool.and_eq_true, Bool.or_eq_true, decide_eq_true_eq, decide_eq_true_eq, decide_eq_true_eq] at hok2
    obtain ⟨⟨hv, hr⟩, hnew⟩ := hok2
    unfold PR.newer at hnew
    rw [Bool.or_eq_true, Bool.and_eq_true, decide_eq_true_eq, decide_eq_true_eq, decide_eq_true_eq, h.lastTerm, h.last, a2, a3] at hnew
    have hvg : G.VG n i p.out p.term m.fr := by
      refine ⟨hm.fr, .inr (by rw [← ht]; exact a4), l, by rw [← ht]; exact a1, fun T0 c0 L k h0 hl ho hk hb => ?_⟩
      exact hc.newer hG.1 (hc.askG _ _ _ a1).1 hnew hl ho hb (h.has hc hi hl ho hk hb)
    unfold PR.voted
    rw [if_pos hok]
    by_cases hv0 : p.vote < 0
    · rw [if_pos hv0]
      obtain ⟨p1, p2⟩ := hc.pvOf hi h.vwm
      have hnv : ∀ c, ¬ G.vot i p.term c := fun c hvt => by
        rcases p1 _ c hvt with h1 | ⟨_, h1⟩
        · exact absurd h1 (Nat.lt_irrefl _)
        · have : p.vote = (c : Int) := h1
          omega
      have c1 : CI n (G.cast i p.term m.fr) := hc.cast fun c' hvt => absurd hvt (hnv c')
      have hN : ∀ v, v = (⟨p.term, (m.fr : Int), f, p.lix, p.sd⟩ : Vw) → (G.cast i p.term m.fr).NewV n i v := by
        rintro v rfl
        exact ⟨⟨_, h.vwm, Nat.le_refl _⟩, fun T c hvt => by
          rcases p1 T c hvt with h1 | ⟨h1, _⟩
          · exact .inl h1
          · exact absurd hvt (by rw [h1]; exact hnv c), p2, hG.1, hG.2, fun T c L k hl ho hk hb => hc.S i ⟨p.term, p.vote, f, p.lix, p.sd⟩ T c L k hi h.vwm hl ho hk hb⟩
      have hpn : ∀ c, G.pv i p.term ≠ some c := fun c hp => by
        rcases h.pv1 _ c hp with h1 | ⟨_, h1⟩
        · omega
        · omega
      have hx : Fa.ext n i G ((G.cast i p.term m.fr).addVw i (· = ⟨p.term, (m.fr : Int), f, p.lix, p.sd⟩)) := by
        refine ⟨rfl, rfl, rfl, fun T k hb => (Fa.chb_addVw hN).1 hb, fun _ _ _ h => h, fun T c hp => ?_, fun _ h => .inl h⟩
        show (if i = i ∧ T = p.term then some m.fr else G.pv i T) = _
        rw [if_neg]
        · exact hp
        · rintro ⟨_, rfl⟩
          exact hpn c hp
      have hpv : ∀ T c, (if i = i ∧ T = p.term then some m.fr else G.pv i T) = some c → (T = p.term ∧ c = m.fr) ∨ G.pv i T = some c := by
        intro T c hp
        split at hp
        · rename_i e
          exact .inl ⟨e.2, (Option.some.inj hp).symm⟩
        · exact .inr hp
      have h' : MI n ((G.cast i p.term m.fr).addVw i (· = ⟨p.term, (m.fr : Int), f, p.lix, p.sd⟩)) i { p with vote := m.fr, chg := true } f := by
        refine h.hard hx (t := p.term) (vt := (m.fr : Int)) (by omega) (Nat.le_refl _) (fun v hv => hv.imp id (fun e => e.2)) (.inr ⟨rfl, rfl⟩) (fun T c hp => ?_) (fun h0 => ?_) (fun T c hp => ?_) (fun T l' ha => h.askB T l' ha) _ rfl rfl rfl rfl rfl rfl rfl rfl rfl rfl rfl rfl rfl rfl (fun e => ?_) ?_
        · rcases hpv T c hp with ⟨h1, h2⟩ | h1
          · exact .inr ⟨h1, by rw [h2]⟩
          · rcases h.pv1 T c h1 with h3 | ⟨h3, h4⟩
            · exact .inl h3
            · omega
        · rw [Int.toNat_natCast]
          exact if_pos ⟨rfl, rfl⟩
        · rcases hpv T c hp with ⟨rfl, rfl⟩ | h1
          · exact hx.vg hvg
          · exact hx.vg (h.pvS T c h1)
        · have : p.role = 2 := e
          omega
        · show p.role ≠ 3
          omega
      refine ⟨_, c1.addVw hN, ?_, (Fa.le_cast (n := n)).trans hi (Fa.le_addVw hN), hx.vw, rfl, rfl, rfl, rfl, rfl, .inl rfl⟩
      refine h'.rest.send _ ⟨h.me, fun e => by simp [PR.stamp] at e, fun _ _ => ?_, fun e => by simp [PR.stamp] at e, fun e => by simp [PR.stamp] at e, fun e ho => by simp [PR.stamp] at e⟩ (fun e => by simp at e)
      exact if_pos ⟨rfl, rfl⟩
    · rw [if_neg hv0]
      have hv := hv.resolve_left hv0
      refine Up0.self hc (h.rest.send _ ⟨h.me, fun e => by simp [PR.stamp] at e, fun _ _ => ?_, fun e => by simp [PR.stamp] at e, fun e => by simp [PR.stamp] at e, fun e ho => by simp [PR.stamp] at e⟩ (fun e => by simp at e)) rfl rfl rfl rfl (.inr ⟨rfl, rfl, rfl⟩)
      have := h.pv2 (by omega)
      rw [hv, Int.toNat_natCast] at this
      exact this
  · rw [if_neg hok]
    have hok : p.askOk m = false := by simpa using hok
    rw [hok]
    exact Up0.self hc (h.send0 _ (by simp) (by simp) (by simp) (by simp)) rfl rfl rfl rfl (.inr ⟨rfl, rfl, rfl⟩)
end
end Go.SX
namespace Go.SX
open Go Go.Proofs
set_option maxRecDepth 4000
section
variable {n i : Nat} {G G' : Fa} {p : PR} {f f' : List PE}
theorem MI.logs (hc : CI n G) (hi : i < n) (h : MI n G i p f) (hle : Fa.le n i G G') (hacc : ∀ T, G'.acc i T = G.acc i T) (hpv : ∀ T, G'.pv i T = G.pv i T) (hak : ∀ T, G'.asks i T = G.asks i T) (hvw : ∀ v, G.vw i v → G'.vw i v)
    (hnew : ∀ v, G'.vw i v → G.vw i v ∨ (v.term = p.term ∧ v.vote = p.vote ∧ v.base ≤ v.fl.length ∧ G'.Com n p.term (v.fl.take v.base) ∧ Fixd v.fl ∧ v.sd.length ≤ 500000))
    (hkeep : ∀ T0 c0 L k, T0 ≤ p.term → G.LL T0 = some (c0, L) → Own L T0 k → G.Chb n T0 k → L.take k <+: f → L.take k <+: f')
    (q : PR) (hme : q.me = p.me) (ht : q.term = p.term) (hv : q.vote = p.vote) (ho : q.out = p.out) (lf : q.l = f'.drop q.lix) (lle : q.lix ≤ f'.length) (ltm : q.ltm = tmK f' q.lix) (six : q.six = q.lix) (stm : q.stm = q.ltm) (lvt : q.lvt = 2 ^ n - 1) (svt : q.svt = 2 ^ n - 1) (fix : Fixd f')
    (vwm : G'.vw i ⟨p.term, p.vote, f', q.lix, q.sd⟩) (com : G'.Com n p.term (f'.take q.cm)) (cmle : q.cm ≤ f'.length) (lixcm : q.lix ≤ q.cm) (st : q.st ≤ f'.length)
    (cand : q.role = 2 → G'.asks i p.term = some f' ∧ (∀ L, G'.LL p.term ≠ some (i, L)) ∧ p.vote = (i : Int) ∧ ∀ j, j < n → j ≠ i → q.yes.testBit j = true → G'.vot j p.term i) (lead : q.role = 3 → G'.LL p.term = some (i, f') ∧ (∀ j, j < n → j ≠ i → q.mt.getD j 0 ≤ G'.acc j p.term) ∧ ∀ k, k ≤ q.st → Own f' p.term k → k ≤ G'.acc i p.term) : MI n G' i q f' := by
  have hvg : ∀ {T c}, G.VG n i p.out T c → G'.VG n i p.out T c := fun {T c} hg => hle.vg hc hacc (fun T l ha => by rw [hak]; exact ha) hi h.out hg
  exact {
    me := by rw [hme]; exact h.me
    lf := lf
    lle := lle
    ltm := ltm
    six := six
    stm := stm
    lvt := lvt
    svt := svt
    fix := fix
    vwm := by rw [ht, hv]; exact vwm
    vwle := fun v hw => by
      rw [ht]
      rcases hnew v hw with h1 | h1
      · exact h.vwle v h1
      · omega
    vwV := fun v hw h0 => by
      rw [ho]
      rcases hnew v hw with h1 | ⟨h1, h2, _⟩
      · exact hvg (h.vwV v h1 h0)
      · rw [h1, h2]
        exact hvg (h.vwV _ h.vwm (by rw [h2] at h0; exact h0))
    vwC := fun v hw => by
      rcases hnew v hw with h1 | ⟨h1, h2, h3, h4, h5⟩
      · obtain ⟨g1, g2, g3⟩ := h.vwC v h1
        exact ⟨g1, hle.com g2, g3⟩
      · exact ⟨h3, by rw [h1]; exact h4, h5.1, h5.2, by rw [h2]; exact (h.vwC _ h.vwm).2.2.2.2⟩
    com := by rw [ht]; exact com
    cmle := cmle
    lixcm := lixcm
    st := st
    pv1 := fun T c hp => by rw [ht, hv]; exact h.pv1 T c (by rw [← hpv]; exact hp)
    pv2 := fun h0 => by rw [ht, hv, hpv]; exact h.pv2 (by rw [← hv]; exact h0)
    pvS := fun T c hp => by rw [ho]; exact hvg (h.pvS T c (by rw [← hpv]; exact hp))
    askB := fun T l ha => by rw [ht]; exact h.askB T l (by rw [← hak]; exact ha)
    cand := by rw [ht, hv]; exact cand
    lead := by rw [ht]; exact lead
    out := by
      rw [ho, ht]
      intro m hm
      have hp := h.out m hm
      exact {
        fr := hp.fr
        ask := fun hk => by
          obtain ⟨l, h1, h2, h3, h4⟩ := hp.ask hk
          exact ⟨l, by rw [hak]; exact h1, h2, h3, by rw [hpv]; exact h4⟩
        vote := fun hk hok => by rw [hpv]; exact hp.vote hk hok
        ap := fun hk => hle.ap (hp.ap hk)
        inst := fun hk => hle.inst (hp.inst hk)
        ack := fun hk hok => by
          obtain ⟨h1, ⟨v, h2, h3⟩, c, L, h4, h5, h6⟩ := hp.ack hk hok
          obtain ⟨L', h7, h8⟩ := hle.LL _ _ _ h4
          refine ⟨h1, ⟨v, hvw v h2, h3⟩, c, L', h7, Nat.le_trans h5 h8.length_le, fun k hk' hown hb => ?_⟩
          rw [pre_take h8 (by omega)]
          have ho' := hown.back h8 (by omega)
          have hb' := hle.chb _ _ hb
          exact hkeep _ c L k h1 h4 ho' hb' (h6 k hk' ho' hb') } }
theorem Fa.Com.inL (hc : CI n G) {T c : Nat} {L l : List PE} (h : G.Com n T l) (hl : G.LL T = some (c, L)) : l <+: L := by
  rcases h with rfl | ⟨T0, c0, L0, k, h1, h2, h3, h4, h5⟩
  · exact List.nil_prefix
  · refine h5.trans ?_
    rcases Nat.lt_or_ge T0 T with h6 | h6
    · exact hc.P T0 T c0 L0 c L k h6 h2 hl h3 h4.chb
    · have : T0 = T := by omega
      subst this
      rw [h2] at hl
      cases hl
      exact List.take_prefix _ _
theorem Fa.le_put {T : Nat} {L : List PE} (hle : LLle G.LL (G.setLL T i L).LL) (h0 : ∀ c L', G.LL T = some (c, L') → c = i) : Fa.le n i G (G.setLL T i L) where
  LL := hle
  LLo t c L' hci := by
    by_cases e : t = T
    · subst e
      rw [Fa.setLL_at]
      constructor
      · intro hl
        exact absurd (h0 c L' hl) hci
      · intro hl
        cases hl
        exact absurd rfl hci
    · rw [Fa.setLL_ne e]
  acc _ := Nat.le_refl _
  acco _ _ _ := rfl
  vot _ _ _ _ h := h
  pvo _ _ _ := rfl
  askso _ _ _ := rfl
  asks _ _ h h' := h'
  vwo _ _ _ := .rfl
  chb _ _ h := h
def PR.newE (p : PR) (data : List UInt8) : PE := ⟨p.lix + p.l.length + 1, p.term, 0, data⟩
theorem MI.put (hn : n = 2 ∨ n = 3) (hc : CI n G) (hi : i < n) (h : MI n G i p f) (hr : p.role = 3) (hfr : p.fresh = 0) (data : List UInt8) :
    ∃ G', CI n G' ∧ MI n G' i (p.put 0 data) (f ++ [p.newE data]) ∧ Fa.le n i G G' ∧ (∀ v, G.vw i v → G'.vw i v) ∧ (p.put 0 data).fresh = f.length + 1 ∧ ∀ T c L, G'.LL T = some (c, L) → G.LL T = some (c, L) ∨ (T = p.term ∧ L.length ≤ (f ++ [p.newE data]).length) := by
  obtain ⟨hl, hmt, hst⟩ := h.lead hr
  have hlast := h.last
  unfold PR.last at hlast
  have hlle := h.lle
  have hst' := h.st
  have hcm := h.cmle
  have hfx : Fixd (f ++ [p.newE data]) := by
    intro k e hk
    by_cases hkf : k < f.length
    · rw [List.getElem?_append_left hkf] at hk
      exact h.fix k e hk
    · rw [List.getElem?_append_right (by omega)] at hk
      have h0 : k - f.length = 0 := by
        rcases Nat.eq_zero_or_pos (k - f.length) with h | h
        · exact h
        · rw [List.getElem?_eq_none (by rw [List.length_singleton]; exact h)] at hk; cases hk
      rw [h0] at hk
      cases hk
      exact ⟨by show p.lix + p.l.length + 1 = k + 1; omega, rfl⟩
  obtain ⟨c1, hll⟩ := hc.put hn hl (e := p.newE data) rfl hfx
  have hle1 : Fa.le n i G (G.setLL p.term i (f ++ [p.newE data])) := Fa.le_put hll fun c L' hl' => by
    rw [hl] at hl'
    cases hl'
    rfl
  obtain ⟨p1, p2⟩ := hc.pvOf hi h.vwm
  have hG := hc.led _ _ _ hl
  have hGL := (c1.led _ _ _ Fa.setLL_at)
  have hkeep : ∀ T0 c0 L k, T0 ≤ p.term → G.LL T0 = some (c0, L) → Own L T0 k → G.Chb n T0 k → L.take k <+: f → L.take k <+: f ++ [p.newE data] := fun _ _ _ _ _ _ _ _ hp => hp.trans (List.prefix_append _ _)
  have hN : ∀ v, v = (⟨p.term, p.vote, f ++ [p.newE data], p.lix, p.sd⟩ : Vw) → (G.setLL p.term i (f ++ [p.newE data])).NewV n i v := by
    rintro v rfl
    exact ⟨⟨_, h.vwm, Nat.le_refl _⟩, p1, p2, hGL.2.2.1, hGL.2.2.2, fun T c L k hl' ho hk hb =>
      (c1.S i ⟨p.term, p.vote, f, p.lix, p.sd⟩ T c L k hi h.vwm hl' ho hk hb).trans (List.prefix_append _ _)⟩
  have hle2 := hle1.trans hi (Fa.le_addVw hN)
  refine ⟨_, c1.addVw hN, ?_, hle2, fun v hv => .inl hv, ?_, fun T c L hL => ?_⟩
  · refine h.logs hc hi hle2 (fun _ => rfl) (fun _ => rfl) (fun _ => rfl) (fun v hv => .inl hv) ?_ hkeep _ rfl rfl rfl rfl ?_ ?_ ?_ h.six h.stm h.lvt h.svt hfx (.inr ⟨rfl, rfl⟩) ?_ ?_ h.lixcm ?_ (fun e => by have e : p.role = 2 := e; omega) (fun _ => ⟨Fa.setLL_at, hmt, ?_⟩)
    · rintro v (hv | ⟨_, rfl⟩)
      · exact .inl hv
      · refine .inr ⟨rfl, rfl, ?_, ?_, hfx, (h.vwC _ h.vwm).2.2.2.1⟩
        · show p.lix ≤ (f ++ [p.newE data]).length
          rw [List.length_append]; omega
        · show Fa.Com _ n p.term ((f ++ [p.newE data]).take p.lix)
          rw [List.take_append_of_le_length hlle]
          exact hle2.com (h.com.pre (take_le_pre h.lixcm))
    · show p.l ++ [_] = (f ++ [p.newE data]).drop p.lix
      rw [List.drop_append_of_le_length hlle, ← h.lf]
      rfl
    · show p.lix ≤ _
      rw [List.length_append]; omega
    · show p.ltm = tmK _ p.lix
      rw [tmK_pre (List.prefix_append _ _) hlle]
      exact h.ltm
    · show Fa.Com _ n p.term ((f ++ [p.newE data]).take p.cm)
      rw [List.take_append_of_le_length hcm]
      exact hle2.com h.com
    · show p.cm ≤ _
      rw [List.length_append]; omega
    · show min p.st (p.lix + p.l.length + 1 - 1) ≤ _
      rw [List.length_append]; omega
    · intro k hk ho
      have hk : k ≤ min p.st (p.lix + p.l.length + 1 - 1) := hk
      exact hst k (by omega) (ho.back (List.prefix_append _ _) (by omega))
  · show (if p.fresh = 0 ∨ _ then p.lix + p.l.length + 1 else p.fresh) = _
    rw [if_pos (.inl hfr)]
    omega
  · by_cases e : T = p.term
    · subst e
      have hL : (G.setLL p.term i (f ++ [p.newE data])).LL p.term = some (c, L) := hL
      rw [Fa.setLL_at] at hL
      cases hL
      exact .inr ⟨rfl, Nat.le_refl _⟩
    · have hL : (G.setLL p.term i (f ++ [p.newE data])).LL T = some (c, L) := hL
      rw [Fa.setLL_ne e] at hL
      exact .inl hL
theorem MI.lead0 (hn : n = 2 ∨ n = 3) (hc : CI n G) (hi : i < n) (h : MI n G i p f) (hr : p.role = 2) (hy : Maj n p.yes) : ∃ G', CI n G' ∧ MI n G' i p.lead0 f ∧ Fa.le n i G G' ∧ (∀ v, G.vw i v → G'.vw i v) ∧ ∀ T c L, G'.LL T = some (c, L) → G.LL T = some (c, L) ∨ (T = p.term ∧ L.length ≤ f.length) := by
  obtain ⟨ha, hnl, hv, hb⟩ := h.cand hr
  obtain ⟨j0, hj0, hj0i, hb0⟩ := maj_other hn hi hy
  have hvi : G.vot i p.term i := (hc.vot2 _ _ _ hj0 (hb j0 hj0 hj0i hb0)).2.1
  have hall : ∀ j < n, p.yes.testBit j = true → G.vot j p.term i := fun j hj hbj => by
    by_cases e : j = i
    · subst e; exact hvi
    · exact hb j hj e hbj
  have hnone : G.LL p.term = none := by
    cases hl : G.LL p.term with
    | none => rfl
    | some x =>
      obtain ⟨c, L⟩ := x
      have := hc.one hn hl hy hall
      subst this
      exact absurd hl (hnl L)
  obtain ⟨g1, g2⟩ := hc.askG _ _ _ ha
  obtain ⟨c1, hll⟩ := hc.lead hn hi hnone hy hall ha g1 g2 h.fix
  have hle1 : Fa.le n i G (G.setLL p.term i f) := Fa.le_put hll fun c L' hl' => by
    rw [hnone] at hl'
    cases hl'
  refine ⟨_, c1, ?_, hle1, fun v hv => hv, fun T c L hL => ?_⟩
  rotate_left
  · by_cases e : T = p.term
    · subst e
      rw [Fa.setLL_at] at hL
      cases hL
      exact .inr ⟨rfl, Nat.le_refl _⟩
    · rw [Fa.setLL_ne e] at hL
      exact .inl hL
  refine h.logs hc hi hle1 (fun _ => rfl) (fun _ => rfl) (fun _ => rfl) (fun v hv => hv) (fun v hv => .inl hv) (fun _ _ _ _ _ _ _ _ hp => hp) _ rfl rfl rfl rfl h.lf h.lle h.ltm h.six h.stm h.lvt h.svt h.fix h.vwm (hle1.com h.com) h.cmle h.lixcm h.st (fun e => by have e : (3 : Nat) = 2 := e; omega) (fun _ => ⟨Fa.setLL_at, fun j hj hji => ?_, fun k hk ho => ?_⟩)
  · show (List.replicate 7 0).getD j 0 ≤ _
    rw [List.getD_eq_getElem?_getD, List.getElem?_replicate]
    split <;> exact Nat.zero_le _
  · obtain ⟨_, e, he, hte⟩ := ho
    have := g2 e (List.mem_of_getElem? he)
    omega
end
end Go.SX
namespace Go.SX
open Go Go.Proofs
set_option maxRecDepth 4000
section
variable {n i : Nat} {G G' : Fa} {p : PR} {f f' : List PE}
theorem MI.goodF (hc : CI n G) (hi : i < n) (h : MI n G i p f) : Good G.LL f ∧ ∀ e ∈ f, e.tm ≤ p.term := hc.vwG i _ hi h.vwm
theorem MI.mg (hc : CI n G) (hi : i < n) (h : MI n G i p f) {L : List PE} (hL : Good G.LL L) (hfx : Fixd L) : ∀ (es : List PE) (a : Nat), p.lix ≤ a → a ≤ f.length → f.take a = L.take a → es <+: L.drop a →
    (p.mg es = (0, p.l) ∧ a + es.length ≤ f.length ∧ f.take (a + es.length) = L.take (a + es.length)) ∨
    (a < (p.mg es).1 ∧ (p.mg es).1 ≤ a + es.length ∧ a + es.length ≤ L.length ∧ (p.mg es).2 = (L.take (a + es.length)).drop p.lix ∧ (p.mg es).1 - 1 ≤ f.length ∧ f.take ((p.mg es).1 - 1) = L.take ((p.mg es).1 - 1) ∧ ¬ L.take (p.mg es).1 <+: f)
  | [], a, h1, h2, h3, h4 => .inl ⟨rfl, h2, h3⟩
  | x :: r, a, h1, h2, h3, h4 => by
    have hlast := h.last
    unfold PR.last at hlast
    have hlen := h4.length_le
    rw [List.length_drop, List.length_cons] at hlen
    have hx : L[a]? = some x := by
      have := pre_get h4 (k := 0) (e := x) rfl
      rw [List.getElem?_drop, Nat.add_zero] at this
      exact this
    have hr : r <+: L.drop (a + 1) := by
      obtain ⟨t, ht⟩ := h4
      refine ⟨t, ?_⟩
      rw [show a + 1 = a + 1 by rfl, ← List.drop_drop, ← ht]
      rfl
    have hix := (hfx a x hx).1
    unfold PR.mg
    rw [if_neg (by omega)]
    by_cases ht : p.termAt x.ix = (x.tm, true)
    · rw [if_pos ht]
      have hb := h.termOk (by rw [ht])
      rw [hix] at hb
      rw [hix, h.termAt hb.1 hb.2] at ht
      have ht := (Prod.mk.inj ht).1
      have hy : f[a]? = some f[a] := List.getElem?_eq_getElem (by omega)
      have hty : f[a].tm = x.tm := by
        have ht : ((f[a]?).map PE.tm).getD 0 = x.tm := ht
        rw [hy] at ht
        exact ht
      have hsame := (h.goodF hc hi).1.same hL hy hx hty
      have ih := MI.mg hc hi h hL hfx r (a + 1) (by omega) (by omega) hsame hr
      rw [List.length_cons, show a + (r.length + 1) = a + 1 + r.length by omega]
      rcases ih with ih | ⟨g1, g2⟩
      · exact .inl ih
      · exact .inr ⟨by omega, g2⟩
    · rw [if_neg ht, if_neg (by omega)]
      have hL1 : L.take (a + (x :: r).length) = L.take a ++ (x :: r) := by
        rw [List.take_add, take_pre (a := x :: r) (by rw [List.take_length]; exact h4) (Nat.le_refl _), List.take_length]
      refine .inr ⟨by dsimp only; omega, by dsimp only; rw [List.length_cons]; omega, by rw [List.length_cons]; omega, ?_, by dsimp only; omega, ?_, ?_⟩
      · rw [hL1, ← h3]
        show p.l.take (x.ix - p.lix - 1) ++ (x :: r) = _
        rw [List.drop_append_of_le_length (by rw [List.length_take]; omega), List.drop_take, h.lf, hix, show a + 1 - p.lix - 1 = a - p.lix by omega]
      · show f.take (x.ix - 1) = L.take (x.ix - 1)
        rw [hix]
        exact h3
      · show ¬ L.take x.ix <+: f
        intro hp
        apply ht
        have hfa : f[a]? = some x := pre_get hp (by rw [List.getElem?_take, if_pos (by omega)]; exact hx)
        have hal : a < f.length := by
          rcases Nat.lt_or_ge a f.length with h | h
          · exact h
          · rw [List.getElem?_eq_none h] at hfa; cases hfa
        rw [hix, h.termAt (by omega) (by omega)]
        show (((f[a]?).map PE.tm).getD 0, true) = _
        rw [hfa]
        rfl
structure Part (G' : Fa) (i : Nat) (p : PR) (f : List PE) (q : PR) (f' : List PE) : Prop where
  lix : q.lix = p.lix
  sd : q.sd = p.sd
  rs : q.rs = false
  hd : Hd p q
  log : (q.fresh = 0 ∧ f' = f) ∨ (0 < q.fresh ∧ q.fresh ≤ f'.length ∧ p.lix < q.fresh ∧ q.fresh - 1 ≤ f.length ∧ f'.take (q.fresh - 1) = f.take (q.fresh - 1) ∧ G'.vw i ⟨q.term, q.vote, f, p.lix, p.sd⟩ ∧ ∀ x, q.fresh ≤ x → x ≤ f'.length → G'.vw i ⟨q.term, q.vote, f'.take x, p.lix, p.sd⟩)
def Grow (r : Nat) (G G' : Fa) (p q : PR) (f f' : List PE) : Prop := G'.LL = G.LL ∨ (p.role = r ∧ q.role = 3 ∧ q.rs = false ∧ f'.length = f.length + 1 ∧ ∀ T c L, G'.LL T = some (c, L) → G.LL T = some (c, L) ∨ (T = q.term ∧ L.length ≤ f'.length))
def Up (n i r : Nat) (G : Fa) (p : PR) (f : List PE) (q : PR) : Prop := ∃ G' f', CI n G' ∧ MI n G' i q f' ∧ Fa.le n i G G' ∧ (∀ v, G.vw i v → G'.vw i v) ∧ ((q.rs = true ∧ q.fresh = 0) ∨ Part G' i p f q f') ∧ Grow r G G' p q f f'
theorem MI.cmt (h : MI n G i p f) {c : Nat} (h1 : G.Com n p.term (f.take c)) (h2 : c ≤ f.length) (h3 : p.lix ≤ c) : MI n G i { p with cm := c } f :=
  { h with com := h1, cmle := h2, lixcm := h3 }
theorem MI.yes (hc : CI n G) (h : MI n G i p f) {c : Nat} {L : List PE} (hl : G.LL p.term = some (c, L)) {x : Nat} (hx : x ≤ L.length) (hp : L.take x <+: f) (to : Nat) : MI n G i (p.send { PM.z with kd := 6, to := to, ok := true, ix := x }) f := by
  refine h.send _ ⟨h.me, fun e => by simp [PR.stamp] at e, fun e ho => by simp [PR.stamp] at e, fun e => by simp [PR.stamp] at e, fun e => by simp [PR.stamp] at e, fun _ _ => ⟨?_, ⟨_, h.vwm, ?_⟩, c, L, ?_, hx, fun k hk _ _ => (take_le_pre hk).trans hp⟩⟩ (fun _ _ => ?_)
  · exact Nat.le_refl _
  · exact Nat.le_refl _
  · exact hl
  · exact Nat.le_refl _
theorem MI.take1 (hc : CI n G) (hi : i < n) (h : MI n G i p f) (hr : p.role = 0) (hfr : p.fresh = 0) (hrs : p.rs = false) {m : PM} {c : Nat} {L : List PE} (hl : G.LL p.term = some (c, L)) (hix : m.ix ≤ L.length) (hlt : m.lt = tmK L m.ix) (hes : m.es <+: L.drop m.ix) (hcL : m.cm ≤ L.length) (hcm : G.Com n p.term (L.take m.cm)) (h1 : p.lix ≤ m.ix) (hfit : p.fit m.ix m.lt = true) :
    ∃ G' f', CI n G' ∧ MI n G' i (p.take1 m) f' ∧ Fa.le n i G G' ∧ (∀ v, G.vw i v → G'.vw i v) ∧ Part G' i p f (p.take1 m) f' ∧ G'.LL = G.LL ∧ m.ix + m.es.length ≤ L.length ∧ L.take (m.ix + m.es.length) <+: f' := by
  have hG := h.goodF hc hi
  have hLd := hc.led _ _ _ hl
  have hLf := hc.fixL _ _ _ hl
  unfold PR.fit at hfit
  rw [Bool.and_eq_true, decide_eq_true_eq] at hfit
  have hb := h.termOk hfit.1
  have h3 : f.take m.ix = L.take m.ix := by
    cases hm : m.ix with
    | zero => rfl
    | succ a =>
      have h2 := hfit.2
      rw [h.termAt hb.1 hb.2, hlt, hm] at h2
      have hfa : f[a]? = some f[a] := List.getElem?_eq_getElem (by omega)
      have hLa : L[a]? = some L[a] := List.getElem?_eq_getElem (by omega)
      refine hG.1.same hLd.2.2.1 hfa hLa ?_
      have h2 : ((f[a]?).map PE.tm).getD 0 = ((L[a]?).map PE.tm).getD 0 := h2
      rw [hfa, hLa] at h2
      exact h2
  have hM : m.ix + m.es.length ≤ L.length := by
    have := hes.length_le
    rw [List.length_drop] at this
    omega
  obtain ⟨M, hMe⟩ : ∃ M, M = m.ix + m.es.length := ⟨_, rfl⟩
  obtain ⟨cf, hcf⟩ : ∃ cf, cf = max p.cm (min m.cm M) := ⟨_, rfl⟩
  have hcmle := h.cmle
  have hlixcm := h.lixcm
  unfold PR.take1
  rw [← hMe] at hM ⊢
  rcases MI.mg hc hi h hLd.2.2.1 hLf m.es m.ix h1 hb.2 h3 hes with ⟨g1, g2, g3⟩ | ⟨g1, g2, _, g4, g5, g6, g7⟩
  · rw [← hMe] at g2 g3
    rw [g1]
    dsimp only
    rw [if_neg (by omega), ← hcf]
    refine ⟨G, f, hc, ?_, .refl _ _ _, fun _ h => h, ⟨rfl, rfl, hrs, .inr ⟨rfl, rfl, rfl⟩, .inl ⟨hfr, rfl⟩⟩, rfl, hM, by rw [← g3]; exact List.take_prefix _ _⟩
    refine h.cmt (c := cf) ?_ (by omega) (by omega)
    by_cases e : cf = p.cm
    · rw [e]; exact h.com
    · have e1 : cf ≤ M ∧ cf ≤ m.cm := by omega
      have : f.take cf = L.take cf := by
        have := congrArg (List.take cf) g3
        rw [List.take_take, List.take_take, Nat.min_eq_left e1.1] at this
        exact this
      rw [this]
      exact hcm.pre (take_le_pre e1.2)
  · rw [← hMe] at g2 g4
    obtain ⟨j, hj⟩ : ∃ j, j = (p.mg m.es).1 := ⟨_, rfl⟩
    rw [← hj] at g1 g2 g5 g6 g7 ⊢
    rw [g4]
    dsimp only
    rw [if_pos (by omega)]
    have hlenM : (L.take M).length = M := by rw [List.length_take]; omega
    -- what agrees with both ends ahead of the conflict
    have hcut : ∀ {a : List PE}, a <+: f → a <+: L → a.length < j := by
      intro a h5 h6
      rcases Nat.lt_or_ge a.length j with h7 | h7
      · exact h7
      · exfalso
        apply g7
        rw [pre_take h6 h7]
        exact (List.take_prefix _ _).trans h5
    have hkL : ∀ T0 c0 L0 k, T0 ≤ p.term → G.LL T0 = some (c0, L0) → Own L0 T0 k → G.Chb n T0 k → L0.take k <+: L := by
      intro T0 c0 L0 k h5 h6 ho hb'
      rcases Nat.lt_or_ge T0 p.term with h7 | h7
      · exact hc.P T0 p.term c0 L0 c L k h7 h6 hl ho hb'
      · have : T0 = p.term := by omega
        subst this
        rw [hl] at h6
        cases h6
        exact List.take_prefix _ _
    have hkx : ∀ T0 c0 L0 k x, j ≤ x → T0 ≤ p.term → G.LL T0 = some (c0, L0) → Own L0 T0 k → G.Chb n T0 k → L0.take k <+: f → L0.take k <+: L.take x := by
      intro T0 c0 L0 k x hx h5 h6 ho hb' hp
      have h7 := hkL T0 c0 L0 k h5 h6 ho hb'
      have h8 := hcut hp h7
      have h9 := h7.length_le
      exact prefix_total h7 (List.take_prefix _ _) (by rw [List.length_take (l := L)]; omega)
    have hcj : p.cm < j ∧ L.take p.cm = f.take p.cm := by
      have h5 := h.com.inL hc hl
      have h6 := hcut (List.take_prefix _ _) h5
      rw [List.length_take] at h6
      exact ⟨by omega, take_pre h5 hcmle⟩
    obtain ⟨p1, p2⟩ := hc.pvOf hi h.vwm
    have hN : ∀ v, (∃ x, j ≤ x ∧ x ≤ M ∧ v = (⟨p.term, p.vote, L.take x, p.lix, p.sd⟩ : Vw)) → G.NewV n i v := by
      rintro v ⟨x, hx1, hx2, rfl⟩
      exact ⟨⟨_, h.vwm, Nat.le_refl _⟩, p1, p2, hLd.2.2.1.pre (List.take_prefix _ _), fun e he => hLd.2.2.2 e (List.mem_of_mem_take he), fun T0 c0 L0 k h5 ho hk hb' =>
        hkx T0 c0 L0 k x hx1 (p2 T0 (by have := ho.1; omega)) h5 ho hb' (hc.S i ⟨p.term, p.vote, f, p.lix, p.sd⟩ T0 c0 L0 k hi h.vwm h5 ho hk hb')⟩
    have hle := Fa.le_addVw hN
    refine ⟨_, L.take M, hc.addVw hN, ?_, hle, fun v hv => .inl hv, ?_, rfl, hM, List.prefix_refl _⟩
    · have hlx : L.take p.lix = f.take p.lix := by
        have := congrArg (List.take p.lix) hcj.2
        rw [List.take_take, List.take_take, Nat.min_eq_left hlixcm] at this
        exact this
      refine h.logs hc hi hle (fun _ => rfl) (fun _ => rfl) (fun _ => rfl) (fun v hv => .inl hv) ?_ (fun T0 c0 L0 k h5 h6 ho hb' hp => hkx T0 c0 L0 k M g2 h5 h6 ho hb' hp) _ rfl rfl rfl rfl rfl ?_ ?_ h.six h.stm h.lvt h.svt ?_ (.inr ⟨rfl, M, g2, Nat.le_refl _, rfl⟩) ?_ ?_ ?_ ?_ (fun e => by have e : p.role = 2 := e; omega) (fun e => by have e : p.role = 3 := e; omega)
      · rintro v (hv | ⟨_, x, hx1, hx2, rfl⟩)
        · exact .inl hv
        · refine .inr ⟨rfl, rfl, ?_, ?_, ?_, (h.vwC _ h.vwm).2.2.2.1⟩
          · show p.lix ≤ (L.take x).length
            rw [List.length_take]; omega
          · show Fa.Com _ n p.term ((L.take x).take p.lix)
            rw [List.take_take, Nat.min_eq_left (by omega), hlx]
            exact hle.com (h.com.pre (take_le_pre hlixcm))
          · intro k e he
            exact hLf k e (pre_get (List.take_prefix _ _) he)
      · show p.lix ≤ _
        rw [hlenM]; omega
      · show p.ltm = tmK _ p.lix
        rw [h.ltm]
        rw [tmK_pre (List.take_prefix p.lix f) (by rw [List.length_take]; have := h.lle; omega), ← hlx]
        exact (tmK_pre (take_le_pre (by omega)) (by rw [List.length_take]; omega)).symm
      · intro k e he
        exact hLf k e (pre_get (List.take_prefix _ _) he)
      · show Fa.Com _ n p.term ((L.take M).take (max p.cm (min m.cm M)))
        rw [← hcf]
        refine hle.com ?_
        rw [List.take_take, Nat.min_eq_left (by omega)]
        by_cases e : cf = p.cm
        · rw [e, hcj.2]; exact h.com
        · exact hcm.pre (take_le_pre (by omega))
      · show max p.cm (min m.cm M) ≤ _
        rw [hlenM]; omega
      · show p.lix ≤ max p.cm (min m.cm M)
        omega
      · show min p.st (j - 1) ≤ _
        rw [hlenM]; omega
    · refine ⟨rfl, rfl, hrs, .inr ⟨rfl, rfl, rfl⟩, .inr ?_⟩
      have hfe : (if p.fresh = 0 ∨ j < p.fresh then j else p.fresh) = j := if_pos (.inl hfr)
      show 0 < (if p.fresh = 0 ∨ j < p.fresh then j else p.fresh) ∧ (if p.fresh = 0 ∨ j < p.fresh then j else p.fresh) ≤ _ ∧ p.lix < (if p.fresh = 0 ∨ j < p.fresh then j else p.fresh) ∧ (if p.fresh = 0 ∨ j < p.fresh then j else p.fresh) - 1 ≤ _ ∧ (L.take M).take ((if p.fresh = 0 ∨ j < p.fresh then j else p.fresh) - 1) = f.take ((if p.fresh = 0 ∨ j < p.fresh then j else p.fresh) - 1) ∧ _ ∧ ∀ x, (if p.fresh = 0 ∨ j < p.fresh then j else p.fresh) ≤ x → _
      rw [hfe]
      refine ⟨by omega, by rw [hlenM]; exact g2, by omega, g5, ?_, .inl h.vwm, fun x hx1 hx2 => .inr ⟨rfl, x, hx1, by rw [hlenM] at hx2; exact hx2, ?_⟩⟩
      · rw [List.take_take, Nat.min_eq_left (by omega), g6]
      · show (⟨p.term, p.vote, (L.take M).take x, p.lix, p.sd⟩ : Vw) = _
        rw [hlenM] at hx2
        rw [List.take_take, Nat.min_eq_left hx2]
theorem MI.take (hc : CI n G) (hi : i < n) (h : MI n G i p f) (hr : p.role = 0) (hfr : p.fresh = 0) (hrs : p.rs = false) {m : PM} (hm : G.AP n m) (ht : m.tm = p.term) : Up n i 2 G p f (p.take m) := by
  obtain ⟨L, hl, hix, hlt, hes, hcL, hcm⟩ := hm
  rw [ht] at hl hcm
  unfold PR.take
  split
  · rename_i h1
    have h2 := (h.com.pre (take_le_pre h.lixcm)).inL hc hl
    have h3 := h.lle
    have h4 := h2.length_le
    rw [List.length_take] at h4
    have h5 := h.yes hc hl (x := p.lix) (by omega) (by rw [take_pre h2 h3]; exact List.take_prefix _ _) m.fr
    exact ⟨G, f, hc, h5, .refl _ _ _, fun _ h => h, .inr ⟨rfl, rfl, hrs, .inr ⟨rfl, rfl, rfl⟩, .inl ⟨hfr, rfl⟩⟩, .inl rfl⟩
  · split
    · exact ⟨G, f, hc, h.send0 _ (by simp) (by simp) (by simp) (by simp), .refl _ _ _, fun _ h => h, .inr ⟨rfl, rfl, hrs, .inr ⟨rfl, rfl, rfl⟩, .inl ⟨hfr, rfl⟩⟩, .inl rfl⟩
    · rename_i h1 h2
      obtain ⟨G', f', c', h', hle, hvw, hpart, hLL, hM, hp⟩ := h.take1 hc hi hr hfr hrs hl hix hlt hes hcL hcm (by omega) (by simpa using h2)
      have htt : (p.take1 m).term = p.term := by
        unfold PR.take1
        dsimp only
        split <;> rfl
      have h5 := h'.yes c' (c := m.fr) (L := L) (by rw [htt, hLL]; exact hl) hM hp m.fr
      exact ⟨G', f', c', h5, hle, hvw, .inr ⟨hpart.lix, hpart.sd, hpart.rs, hpart.hd, hpart.log⟩, .inl hLL⟩
end
end Go.SX
namespace Go.SX
open Go Go.Proofs
set_option maxRecDepth 4000
def PR.propose (p : PR) (data : List UInt8) : PR := if p.role = 3 then (p.put 0 data).tell else p
theorem r_Propose (O : World) (F : Fz) (a : Nat) (r : Rf) (dv : Value) (data : List UInt8) (Fr : List Ent) (hr : r.ok F) (hd : SlB F [] dv data) (hdl : data.length ≤ 524288) (hl : r.p.lix + r.p.l.length < 300000) (hn : r.p.role = 3 → ∀ i < 7, 1 ≤ r.p.nx.getD i 0) (ho : r.p.out.length + 7 ≤ 300000) :
    Does Tryz.prog O 18 #[ptrV a, dv] F (RfH a r Fr) (fun v F' H' => v = (if r.p.role = 3 then .tuple #[.int .u64 (r.p.lix + r.p.l.length + 1 : Nat), .int .i64 0] else .tuple #[.int .u64 0, .int .i64 7]) ∧ ∃ r' : Rf, r'.ok F' ∧ r'.p = r.p.propose data ∧ H' = RfH a r' Fr) := by
  obtain ⟨ad, cd, rfl, _⟩ := Sl.shape hd
  refine does_of_run (args := [_, _]) Tryz.func18 rfl rfl ?_
  refine r_seq (r_region rfl (o_vl rfl rfl (v_assign rfl) (o_vl rfl rfl (v_assign rfl) (o_end (r_seq (r_seq (r_region rfl (o_vl rfl rfl (v_move rfl) (o_call rfl rfl rfl rfl (c_call callable26 rfl) (r_Leads _ _ a r _) ?_)))))))))
  rintro v' F H' ⟨rfl, rfl, rfl⟩ _
  by_cases h3 : r.p.role = 3
  · skip
    rw [decide_eq_true h3, if_pos h3]
    refine o_vl rfl rfl (v_not rfl) (o_end (r_false rfl (r_skip (r_seq (r_seq (r_region rfl (o_vl rfl rfl (v_move rfl) (o_vl rfl rfl (v_len rfl rfl) (o_vl rfl rfl (v_gtr rfl rfl) (o_end (r_if rfl (fun h5 => ?_) (fun h5 => ?_))))))))))))
    · exfalso
      omega
    · refine r_skip (r_seq (r_region rfl (o_vl rfl rfl (v_move rfl) (o_vl rfl rfl (v_move rfl) (o_call rfl rfl rfl rfl (c_call callable34 rfl) (r_put _ _ a r 0 (.slice ad data.length cd) data Fr hr (by decide) hd hdl (by simp) hl) ?_)))))
      rintro v' F2 H' ⟨rfl, q, hq, hqp, rfl⟩ hF2
      have hqnx : q.p.nx = r.p.nx := by rw [hqp]; rfl
      have hqo : q.p.out = r.p.out := by rw [hqp]; rfl
      refine o_vl rfl rfl (v_assign rfl) (o_end (r_seq (r_region rfl (o_vl rfl rfl (v_move rfl) (o_call rfl rfl rfl rfl (c_call callable36 rfl) (r_tell _ _ a q Fr hq (by rw [hqnx]; exact hn h3) (by rw [hqo]; exact ho)) ?_)))))
      rintro v' F3 H' ⟨rfl, q2, hq2, hq2p, rfl⟩ hF3
      refine o_end (r_seq (r_region rfl (o_vl rfl rfl (v_move rfl) (o_vl rfl rfl (v_assign rfl) (o_vl rfl rfl (v_assign rfl) (o_end ?_))))))
      exact r_ret2 Tryz.func18 rfl rfl rfl ⟨⟨rfl, q2, hq2, by rw [hq2p, hqp]; unfold PR.propose; rw [if_pos h3], rfl⟩, Fz.le_trans hF2 hF3⟩
  · skip
    rw [decide_eq_false h3, if_neg h3]
    refine o_vl rfl rfl (v_not rfl) (o_end (r_true rfl (r_seq (r_region rfl (o_vl rfl rfl (v_assign rfl) (o_vl rfl rfl (v_assign rfl) (o_end ?_)))))))
    exact r_ret2 Tryz.func18 rfl rfl rfl ⟨⟨rfl, r, hr, by unfold PR.propose; rw [if_neg h3], rfl⟩, Fz.le_refl _⟩
end Go.SX
namespace Go.SX
open Go Go.Proofs
set_option maxRecDepth 4000
section
variable {n i : Nat} {G G' : Fa} {p : PR} {f f' : List PE}
theorem Up.pre {r : Nat} {G1 : Fa} {p1 q : PR} (hi : i < n) (hle : Fa.le n i G G1) (hvw : ∀ v, G.vw i v → G1.vw i v) (h1 : p1.lix = p.lix) (h2 : p1.sd = p.sd) (h3 : Hd p p1) (h4 : G1.LL = G.LL) (h5 : p1.role = r → p.role = r) (h : Up n i r G1 p1 f q) : Up n i r G p f q := by
  obtain ⟨G', f', c, m, l, w, pt, gr⟩ := h
  refine ⟨G', f', c, m, hle.trans hi l, fun v hv => w v (hvw v hv), pt.imp id fun pt => ?_, ?_⟩
  · obtain ⟨g1, g2, g3, g5, g4⟩ := pt
    rw [h1] at g1 g4
    rw [h2] at g2 g4
    exact ⟨g1, g2, g3, h3.trans g5, g4⟩
  · unfold Grow at gr ⊢
    rw [h4] at gr
    exact gr.imp id fun g => ⟨h5 g.1, g.2⟩
theorem Up0.up {r : Nat} {q : PR} (h : Up0 n i G p f q) (h1 : p.fresh = 0) (h2 : p.rs = false) : Up n i r G p f q := by
  obtain ⟨G', c, m, l, w, g1, g2, g3, g4, g5, g6⟩ := h
  exact ⟨G', f, c, m, l, w, .inr ⟨g3, g4, by rw [g2]; exact h2, g6, .inl ⟨by rw [g1]; exact h1, rfl⟩⟩, .inl g5⟩
theorem Up.self {r : Nat} {q : PR} (hc : CI n G) (h : MI n G i q f) (h1 : q.fresh = 0) (h2 : q.rs = false) (h3 : q.lix = p.lix) (h4 : q.sd = p.sd) (h5 : Hd p q := by exact .inr ⟨rfl, rfl, rfl⟩) : Up n i r G p f q := ⟨G, f, hc, h, .refl _ _ _, fun _ h => h, .inr ⟨h3, h4, h2, h5, .inl ⟨h1, rfl⟩⟩, .inl rfl⟩
theorem MI.install (hc : CI n G) (hi : i < n) (h : MI n G i p f) (hr : p.role = 0) (hfr : p.fresh = 0) (hrs : p.rs = false) {m : PM} (hm : G.IN n m) (ht : m.tm = p.term) : Up n i 2 G p f (p.install m) := by
  obtain ⟨L, hl, hsx, hst, hsv, hsd, hcm⟩ := hm
  rw [ht] at hl hcm
  have hG := h.goodF hc hi
  have hLd := hc.led _ _ _ hl
  have hLf := hc.fixL _ _ _ hl
  have hlc := h.lixcm
  have hlen6 : (L.take m.six).length = m.six := by rw [List.length_take]; omega
  unfold PR.install PR.install1
  split
  · rename_i h6
    split
    · rename_i h7
      have hb := h.termOk h7.1
      have hs : f.take m.six = L.take m.six := by
        cases hx : m.six with
        | zero => rfl
        | succ a =>
          have h8 := h7.2
          rw [h.termAt hb.1 hb.2, hst, hx] at h8
          have hfa : f[a]? = some f[a] := List.getElem?_eq_getElem (by omega)
          have hLa : L[a]? = some L[a] := List.getElem?_eq_getElem (by omega)
          refine hG.1.same hLd.2.2.1 hfa hLa ?_
          have h8 : ((f[a]?).map PE.tm).getD 0 = ((L[a]?).map PE.tm).getD 0 := h8
          rw [hfa, hLa] at h8
          exact h8
      have h9 := h.cmt (c := m.six) (by rw [hs]; exact hcm) hb.2 hb.1
      exact Up.self hc (h9.yes hc (L := L) hl hsx (by rw [← hs]; exact List.take_prefix _ _) m.fr) hfr hrs rfl rfl
    · rename_i h7
      have hno : ¬ L.take m.six <+: f := by
        intro hp
        apply h7
        have h8 : m.six ≤ f.length := by have := hp.length_le; omega
        rw [h.termAt (by omega) h8]
        refine ⟨rfl, ?_⟩
        show tmK f m.six = _
        rw [hst, tmK_pre (List.take_prefix m.six L) (k := m.six) (by omega)]
        exact tmK_pre hp (by omega)
      have hkeep : ∀ T0 c0 L0 k, T0 ≤ p.term → G.LL T0 = some (c0, L0) → Own L0 T0 k → G.Chb n T0 k → L0.take k <+: f → L0.take k <+: L.take m.six := by
        intro T0 c0 L0 k h5 h6 ho hb hp
        have hkL : L0.take k <+: L := by
          rcases Nat.lt_or_ge T0 p.term with h7 | h7
          · exact hc.P T0 p.term c0 L0 m.fr L k h7 h6 hl ho hb
          · have : T0 = p.term := by omega
            subst this
            rw [hl] at h6
            cases h6
            exact List.take_prefix _ _
        rcases Nat.lt_or_ge (L0.take k).length m.six with h8 | h8
        · exact prefix_total hkL (List.take_prefix _ _) (by omega)
        · exfalso
          apply hno
          rw [pre_take hkL h8]
          exact (List.take_prefix _ _).trans hp
      obtain ⟨p1, p2⟩ := hc.pvOf hi h.vwm
      have hN : ∀ v, v = (⟨p.term, p.vote, L.take m.six, m.six, m.sd⟩ : Vw) → G.NewV n i v := by
        rintro v rfl
        exact ⟨⟨_, h.vwm, Nat.le_refl _⟩, p1, p2, hLd.2.2.1.pre (List.take_prefix _ _), fun e he => hLd.2.2.2 e (List.mem_of_mem_take he), fun T0 c0 L0 k h5 ho hk hb' =>
          hkeep T0 c0 L0 k (p2 T0 (by have := ho.1; omega)) h5 ho hb' (hc.S i ⟨p.term, p.vote, f, p.lix, p.sd⟩ T0 c0 L0 k hi h.vwm h5 ho hk hb')⟩
      have hle := Fa.le_addVw hN
      have hfx : Fixd (L.take m.six) := fun k e he => hLf k e (pre_get (List.take_prefix _ _) he)
      have hcm' : (G.addVw i fun v => v = (⟨p.term, p.vote, L.take m.six, m.six, m.sd⟩ : Vw)).Com n p.term ((L.take m.six).take m.six) := by
        rw [List.take_take, Nat.min_self]
        exact hle.com hcm
      have h9 : MI n (G.addVw i fun v => v = (⟨p.term, p.vote, L.take m.six, m.six, m.sd⟩ : Vw)) i { p with lix := m.six, ltm := m.stm, lvt := m.svt, l := [], cm := m.six, st := m.six, fresh := 0, six := m.six, stm := m.stm, svt := m.svt, sd := m.sd, rs := true } (L.take m.six) := by
        refine h.logs hc hi hle (fun _ => rfl) (fun _ => rfl) (fun _ => rfl) (fun v hv => .inl hv) ?_ hkeep _ rfl rfl rfl rfl ?_ (Nat.le_of_eq hlen6.symm) ?_ rfl rfl hsv hsv hfx (.inr ⟨rfl, rfl⟩) hcm' (Nat.le_of_eq hlen6.symm) (Nat.le_refl _) (Nat.le_of_eq hlen6.symm) (fun e => by have e : p.role = 2 := e; omega) (fun e => by have e : p.role = 3 := e; omega)
        · rintro v (hv | ⟨_, rfl⟩)
          · exact .inl hv
          · exact .inr ⟨rfl, rfl, Nat.le_of_eq hlen6.symm, hcm', hfx, hsd⟩
        · show [] = (L.take m.six).drop m.six
          rw [List.drop_eq_nil_of_le (by omega)]
        · show m.stm = tmK (L.take m.six) m.six
          rw [hst]
          exact tmK_pre (List.take_prefix _ _) (by omega)
      exact ⟨_, _, hc.addVw hN, h9.yes (hc.addVw hN) (L := L) hl hsx (List.prefix_refl _) m.fr, hle, fun v hv => .inl hv, .inl ⟨rfl, rfl⟩, .inl rfl⟩
  · have h2 := h.com.inL hc hl
    have h3 := h.cmle
    have h4 := h2.length_le
    rw [List.length_take] at h4
    exact Up.self hc (h.yes hc (x := p.cm) hl (by omega) (by rw [take_pre h2 h3]; exact List.take_prefix _ _) m.fr) hfr hrs rfl rfl
theorem someTo_bit (p : PR) (x : Nat) : ∀ k j, (p.someTo x k).testBit j = true → j < k ∧ p.has x j = true
  | 0, j, h => by simp [PR.someTo] at h
  | k + 1, j, h => by
    unfold PR.someTo at h
    rw [List.range_succ, List.foldl_append] at h
    simp only [List.foldl_cons, List.foldl_nil] at h
    have ih := someTo_bit p x k j
    unfold PR.someTo at ih
    split at h
    · rename_i hk
      rw [Nat.testBit_or, Bool.or_eq_true] at h
      rcases h with h | h
      · have := ih h
        exact ⟨by omega, this.2⟩
      · rw [Nat.testBit_two_pow] at h
        have := of_decide_eq_true h
        subst this
        exact ⟨Nat.lt_succ_self _, hk⟩
    · have := ih h
      exact ⟨by omega, this.2⟩
theorem MI.adv (hi : i < n) (h : MI n G i p f) (hr : p.role = 3) : ∀ x, x ≤ f.length → p.adv x = p ∨ ∃ k, p.adv x = { p with cm := k } ∧ p.cm < k ∧ k ≤ f.length ∧ Own f p.term k ∧ G.Chn n p.term k
  | 0, _ => .inl rfl
  | x + 1, hx => by
    obtain ⟨hl, hmt, hst⟩ := h.lead hr
    have hlc := h.lixcm
    unfold PR.adv
    split
    · exact .inl rfl
    · rename_i h1
      split
      · exact .inl rfl
      · rename_i h2
        split
        · rename_i h3
          refine .inr ⟨x + 1, ?_, by omega, hx, ?_⟩
          · unfold PR.commitAt PR.votes
            have hv : ({ p with cm := x + 1 } : PR).voters = p.voters := rfl
            rw [hv, h.voters, h.me, Nat.testBit_two_pow_sub_one, if_pos (by simpa using hi)]
          · have hown : Own f p.term (x + 1) := by
              rw [h.termAt (by omega) hx] at h2
              have h2 : ((f[x]?).map PE.tm).getD 0 = p.term := by simpa [tmK] using h2
              have hfa : f[x]? = some f[x] := List.getElem?_eq_getElem (by omega)
              rw [hfa] at h2
              exact ⟨by omega, f[x], hfa, h2⟩
            refine ⟨hown, p.someTo (x + 1) 7, h.most h3, fun j hj hb => ?_⟩
            have hb := (someTo_bit p (x + 1) 7 j hb).2
            unfold PR.has at hb
            rw [h.me] at hb
            split at hb
            · rename_i e
              subst e
              exact hst _ (of_decide_eq_true hb) hown
            · rename_i e
              exact Nat.le_trans (of_decide_eq_true hb) (hmt j hj e)
        · exact MI.adv hi h hr x (by omega)
theorem MI.advance (hi : i < n) (h : MI n G i p f) (hr : p.role = 3) : MI n G i p.advance f ∧ ∃ c, p.advance = { p with cm := c } := by
  unfold PR.advance
  rw [h.last]
  have hl := (h.lead hr).1
  have hlc := h.lixcm
  rcases h.adv hi hr f.length (Nat.le_refl _) with e | ⟨k, e, h1, h2, h3, h4⟩
  · rw [e]; exact ⟨h, p.cm, rfl⟩
  · rw [e]
    exact ⟨h.cmt (.inr ⟨p.term, i, f, k, Nat.le_refl _, hl, h3, h4, List.prefix_refl _⟩) h2 (by omega), k, rfl⟩
theorem getD_set' (l : List Nat) (k v j : Nat) : (l.set k v).getD j 0 = l.getD j 0 ∨ (k = j ∧ (l.set k v).getD j 0 = v) := by
  rw [List.getD_eq_getElem?_getD, List.getD_eq_getElem?_getD, List.getElem?_set]
  split
  · rename_i e
    split
    · exact .inr ⟨e, rfl⟩
    · rename_i h1
      rw [List.getElem?_eq_none (by omega)]
      exact .inl rfl
  · exact .inl rfl
theorem MI.acked (hi : i < n) (hc : CI n G) (h : MI n G i p f) (hfr : p.fresh = 0) (hrs : p.rs = false) {m : PM} (hm : G.Net n m) (hk : m.kd = 6) (ht : m.tm = p.term) (hmf : m.fr ≠ i) : Up n i 2 G p f (p.acked m) := by
  unfold PR.acked
  split
  · exact Up.self hc h hfr hrs rfl rfl
  · rename_i hr
    have hr : p.role = 3 := by omega
    obtain ⟨hl, hmt, hst⟩ := h.lead hr
    split
    · split
      · exact Up.self hc ((h.vol { p with nx := p.nx.set m.fr (p.ackN m) } rfl rfl rfl rfl rfl rfl rfl rfl rfl rfl rfl rfl rfl h.st h.cand h.lead).feed hr _) hfr hrs rfl rfl
      · exact Up.self hc h hfr hrs rfl rfl
    · rename_i hok
      split
      · exact Up.self hc h hfr hrs rfl rfl
      · have h1 : MI n G i { p with mt := p.mt.set m.fr (max (p.mt.getD m.fr 0) m.ix), nx := p.nx.set m.fr (max (p.nx.getD m.fr 0) (max (p.mt.getD m.fr 0) m.ix + 1)) } f := by
          refine h.vol _ rfl rfl rfl rfl rfl rfl rfl rfl rfl rfl rfl rfl rfl h.st h.cand fun _ => ⟨hl, fun j hj hji => ?_, hst⟩
          show (p.mt.set m.fr _).getD j 0 ≤ _
          rcases getD_set' p.mt m.fr (max (p.mt.getD m.fr 0) m.ix) j with e | ⟨e, e2⟩
          · rw [e]; exact hmt j hj hji
          · rw [e2]
            subst e
            have := hm.ack hk (by simpa using hok)
            rw [ht] at this
            exact Nat.max_le.2 ⟨hmt _ hj hji, this⟩
        obtain ⟨h2, c, hcc⟩ := h1.advance hi hr
        have h3 : MI n G i (p.ack1 m) f := h2
        have e1 : (p.ack1 m).role = 3 := by unfold PR.ack1; rw [hcc]; exact hr
        have e2 : (p.ack1 m).fresh = 0 := by unfold PR.ack1; rw [hcc]; exact hfr
        have e3 : (p.ack1 m).rs = false := by unfold PR.ack1; rw [hcc]; exact hrs
        have e4 : (p.ack1 m).lix = p.lix := by unfold PR.ack1; rw [hcc]
        have e5 : (p.ack1 m).sd = p.sd := by unfold PR.ack1; rw [hcc]
        have e6 : Hd p (p.ack1 m) := by unfold PR.ack1; rw [hcc]; exact .inr ⟨rfl, rfl, rfl⟩
        split
        · exact Up.self hc (h3.feed e1 _) e2 e3 e4 e5 e6
        · exact Up.self hc h3 e2 e3 e4 e5 e6
theorem feeds_but : ∀ (l : List Nat) (p : PR), ∃ o, l.foldl PR.feed p = { p with out := o }
  | [], p => ⟨p.out, rfl⟩
  | j :: r, p => by
    obtain ⟨o, h⟩ := feeds_but r (p.feed j)
    exact ⟨o, by rw [List.foldl_cons, h]; rfl⟩
theorem tell_but (p : PR) : ∃ o, p.tell = { p with out := o } := feeds_but _ p
theorem MI.putTell (hn : n = 2 ∨ n = 3) (hc : CI n G) (hi : i < n) (h : MI n G i p f) (hr : p.role = 3) (hfr : p.fresh = 0) (hrs : p.rs = false) (data : List UInt8) : Up n i 3 G p f (p.put 0 data).tell := by
  obtain ⟨G', c', m', l', w', e', gl⟩ := h.put hn hc hi hr hfr data
  obtain ⟨o, ho⟩ := tell_but (p.put 0 data)
  have m2 := m'.tell (by show p.role = 3; exact hr)
  refine ⟨G', _, c', m2, l', w', .inr ?_, .inr ⟨hr, by rw [ho]; exact hr, by rw [ho]; exact hrs, by rw [List.length_append]; rfl, by rw [ho]; exact gl⟩⟩
  rw [ho] at m2 ⊢
  refine ⟨rfl, rfl, hrs, .inr ⟨rfl, rfl, rfl⟩, .inr ?_⟩
  have hfe : ({ p.put 0 data with out := o } : PR).fresh = f.length + 1 := e'
  have hll := h.lle
  rw [hfe]
  refine ⟨by omega, by rw [List.length_append]; exact Nat.le_refl _, by omega, by omega, ?_, w' _ h.vwm, fun x h1 h2 => ?_⟩
  · rw [Nat.add_sub_cancel, List.take_left, List.take_length]
  · rw [List.length_append, List.length_singleton] at h2
    rw [List.take_of_length_le (by rw [List.length_append]; exact h1)]
    exact m2.vwm
theorem MI.lead_ (hn : n = 2 ∨ n = 3) (hc : CI n G) (hi : i < n) (h : MI n G i p f) (hr : p.role = 2) (hy : Maj n p.yes) (hfr : p.fresh = 0) (hrs : p.rs = false) : Up n i 2 G p f p.lead_ := by
  obtain ⟨G1, c1, m1, l1, w1, gl⟩ := h.lead0 hn hc hi hr hy
  obtain ⟨G', f', c, m, l, w, pt, gr⟩ := m1.putTell hn c1 hi rfl hfr hrs []
  refine ⟨G', f', c, m, l1.trans hi l, fun v hv => w v (w1 v hv), pt.imp id fun pt => ⟨pt.lix, pt.sd, pt.rs, (show Hd p p.lead0 from .inr ⟨rfl, rfl, rfl⟩).trans pt.hd, pt.log⟩, ?_⟩
  rcases gr with gr | ⟨g1, g2, g0, g3, g4⟩
  · exfalso
    rcases pt with pt | pt
    · obtain ⟨o, ho⟩ := tell_but (p.lead0.put 0 [])
      have hx : ((p.lead0.put 0 []).tell).rs = p.rs := by rw [ho]; rfl
      rw [hx, hrs] at pt
      cases pt.1
    · have g5 := (m.lead (by obtain ⟨o, ho⟩ := tell_but (p.lead0.put 0 []); rw [ho]; rfl)).1
      obtain ⟨o, ho⟩ := tell_but (p.lead0.put 0 [])
      have g6 : ((p.lead0.put 0 []).tell).term = p.term := by rw [ho]; rfl
      have g7 : G1.LL p.term = some (i, f) := (m1.lead rfl).1
      rw [g6, gr, g7] at g5
      have g8 : f = f' := (Prod.mk.inj (Option.some.inj g5)).2
      have g9 := m.last
      have g10 := m1.last
      have g11 : ((p.lead0.put 0 []).tell).last = p.lead0.last + 1 := by
        rw [ho]
        show p.lix + (p.l ++ [_]).length = p.lix + p.l.length + 1
        rw [List.length_append]
        rfl
      rw [g9, ← g8] at g11
      omega
  · refine .inr ⟨hr, g2, g0, g3, fun T c L hL => ?_⟩
    rcases g4 T c L hL with h1 | h1
    · rcases gl T c L h1 with h2 | h2
      · exact .inl h2
      · refine .inr ⟨?_, by omega⟩
        obtain ⟨o, ho⟩ := tell_but (p.lead0.put 0 [])
        show T = ((p.lead0.put 0 []).tell).term
        rw [ho]
        exact h2.1
    · exact .inr h1
theorem MI.notMost (hn : n = 2 ∨ n = 3) (hi : i < n) (h : MI n G i p f) : ¬ p.most (2 ^ p.me) = true := by
  intro hm
  obtain ⟨j, hj, hji, hb⟩ := maj_other hn hi (h.most hm)
  rw [h.me, Nat.testBit_two_pow] at hb
  exact hji (of_decide_eq_true hb).symm
theorem sends_but (g : PR → Nat → PM) : ∀ (l : List Nat) (p : PR), ∃ o, l.foldl (fun q i => q.send (g q i)) p = { p with out := o }
  | [], p => ⟨p.out, rfl⟩
  | j :: r, p => by
    obtain ⟨o, h⟩ := sends_but g r (p.send (g p j))
    exact ⟨o, by rw [List.foldl_cons, h]; rfl⟩
theorem MI.campaign (hn : n = 2 ∨ n = 3) (hc : CI n G) (hi : i < n) (h : MI n G i p f) (hfr : p.fresh = 0) (hrs : p.rs = false) : Up n i 2 G p f p.campaign := by
  obtain ⟨G1, c1, m1, l1, w1, a1, v1, ll⟩ := h.camp0 hn hc hi
  have m2 := m1.canv a1 v1
  obtain ⟨o, ho⟩ := sends_but PR.canM p.camp0.others p.camp0
  have ho : p.camp0.canv = { p.camp0 with out := o } := ho
  unfold PR.campaign
  rw [if_neg]
  · exact ⟨G1, f, c1, m2, l1, w1, .inr ⟨by rw [ho]; rfl, by rw [ho]; rfl, by rw [ho]; exact hrs, by rw [ho]; exact .inl rfl, .inl ⟨by rw [ho]; exact hfr, rfl⟩⟩, .inl ll⟩
  · have hy : p.camp0.canv.yes = 2 ^ p.camp0.canv.me := by rw [ho]; rfl
    rw [hy]
    exact m2.notMost hn hi
theorem MI.ask (hn : n = 2 ∨ n = 3) (hc : CI n G) (hi : i < n) (h : MI n G i p f) (hfr : p.fresh = 0) (hrs : p.rs = false) : Up n i 2 G p f p.ask := by
  have m1 : MI n G i p.ask0 f := h.vol p.ask0 rfl rfl rfl rfl rfl rfl rfl rfl rfl rfl rfl rfl rfl h.st (fun e => by have e : (1 : Nat) = 2 := e; omega) (fun e => by have e : (1 : Nat) = 3 := e; omega)
  have m2 := m1.asks
  obtain ⟨o, ho⟩ := sends_but PR.askM p.ask0.others p.ask0
  have ho : p.ask0.asks = { p.ask0 with out := o } := ho
  unfold PR.ask
  rw [if_neg]
  · exact Up.self hc m2 (by rw [ho]; exact hfr) (by rw [ho]; exact hrs) (by rw [ho]; rfl) (by rw [ho]; rfl) (by rw [ho]; exact .inr ⟨rfl, rfl, rfl⟩)
  · have hy : p.ask0.asks.yes = 2 ^ p.ask0.asks.me := by rw [ho]; rfl
    rw [hy]
    exact m2.notMost hn hi
theorem MI.tick (hn : n = 2 ∨ n = 3) (hc : CI n G) (hi : i < n) (h : MI n G i p f) (hfr : p.fresh = 0) (hrs : p.rs = false) : Up n i 2 G p f p.tick := by
  have h1 : MI n G i p.tick1 f := h.vol p.tick1 rfl rfl rfl rfl rfl rfl rfl rfl rfl rfl rfl rfl rfl h.st h.cand h.lead
  unfold PR.tick
  split
  · rename_i hr
    split
    · have h2 : MI n G i { p with ticks := 0 } f := h.vol { p with ticks := 0 } rfl rfl rfl rfl rfl rfl rfl rfl rfl rfl rfl rfl rfl h.st h.cand h.lead
      obtain ⟨o, ho⟩ := tell_but { p with ticks := 0 }
      exact Up.self hc (h2.tell hr) (by rw [ho]; exact hfr) (by rw [ho]; exact hrs) (by rw [ho]) (by rw [ho]) (by rw [ho]; exact .inr ⟨rfl, rfl, rfl⟩)
    · exact Up.self hc h1 hfr hrs rfl rfl
  · split
    · split
      · exact Up.pre (p1 := p.tick1.rest) hi (.refl _ _ _) (fun _ h => h) rfl rfl (.inr ⟨rfl, rfl, rfl⟩) rfl (fun e => e) (h1.rest.ask hn hc hi hfr hrs)
      · exact Up.self hc h1.rest hfr hrs rfl rfl
    · exact Up.self hc h1 hfr hrs rfl rfl
theorem addYes_bit {p : PR} {k j : Nat} (h : (p.addYes k).yes.testBit j = true) : p.yes.testBit j = true ∨ k = j := by
  have h : (p.yes ||| 2 ^ k).testBit j = true := h
  rw [Nat.testBit_or, Bool.or_eq_true, Nat.testBit_two_pow] at h
  exact h.imp id of_decide_eq_true
theorem MI.step2 (hn : n = 2 ∨ n = 3) (hc : CI n G) (hi : i < n) (h : MI n G i p f) (hfr : p.fresh = 0) (hrs : p.rs = false) {m : PM} (hm : G.Net n m) (ht : m.tm = p.term) (hto : m.to = i) (hmf : m.fr ≠ i) : Up n i 2 G p f (p.step2 m) := by
  unfold PR.step2
  split
  · rename_i hk
    exact (h.asked hc hi hm hk ht hmf).up hfr hrs
  · split
    · rename_i hk
      split
      · rename_i hr
        obtain ⟨hr, hok⟩ := hr
        have hv := hm.vote hk hok
        rw [ht, hto] at hv
        have h1 : MI n G i (p.addYes m.fr) f := by
          refine h.vol _ rfl rfl rfl rfl rfl rfl rfl rfl rfl rfl rfl rfl rfl h.st (fun e => ?_) h.lead
          obtain ⟨a1, a2, a3, a4⟩ := h.cand hr
          refine ⟨a1, a2, a3, fun j hj hji hb => ?_⟩
          rcases addYes_bit hb with hb | hb
          · exact a4 j hj hji hb
          · rw [← hb]; exact hv
        split
        · rename_i hmo
          exact Up.pre (p1 := p.addYes m.fr) hi (.refl _ _ _) (fun _ h => h) rfl rfl (.inr ⟨rfl, rfl, rfl⟩) rfl (fun e => e) (h1.lead_ hn hc hi hr (h1.most hmo) hfr hrs)
        · exact Up.self hc h1 hfr hrs rfl rfl
      · exact Up.self hc h hfr hrs rfl rfl
    · split
      · rename_i hk
        obtain ⟨G1, c1, m1, l1, w1, ll, hd⟩ := h.follow hc hi m.tm m.fr
        obtain ⟨e1, e2, e3, e4, e5, e6⟩ := follow_keep p m.tm m.fr
        have e7 := follow_term p m.tm m.fr (by omega)
        exact Up.pre hi l1 w1 e3 e4 hd ll (fun e => by rw [e5] at e; omega) (Up.pre (p1 := (p.follow m.tm m.fr).rest) hi (.refl _ _ _) (fun _ h => h) rfl rfl (.inr ⟨rfl, rfl, rfl⟩) rfl (fun e => e) (m1.rest.take c1 hi e5 (by show (p.follow m.tm m.fr).fresh = 0; rw [e1]; exact hfr) (by show (p.follow m.tm m.fr).rs = false; rw [e2]; exact hrs) (l1.ap (hm.ap hk)) (by show m.tm = (p.follow m.tm m.fr).term; rw [e7])))
      · split
        · rename_i hk
          obtain ⟨G1, c1, m1, l1, w1, ll, hd⟩ := h.follow hc hi m.tm m.fr
          obtain ⟨e1, e2, e3, e4, e5, e6⟩ := follow_keep p m.tm m.fr
          have e7 := follow_term p m.tm m.fr (by omega)
          exact Up.pre hi l1 w1 e3 e4 hd ll (fun e => by rw [e5] at e; omega) (Up.pre (p1 := (p.follow m.tm m.fr).rest) hi (.refl _ _ _) (fun _ h => h) rfl rfl (.inr ⟨rfl, rfl, rfl⟩) rfl (fun e => e) (m1.rest.install c1 hi e5 (by show (p.follow m.tm m.fr).fresh = 0; rw [e1]; exact hfr) (by show (p.follow m.tm m.fr).rs = false; rw [e2]; exact hrs) (l1.inst (hm.inst hk)) (by show m.tm = (p.follow m.tm m.fr).term; rw [e7])))
        · split
          · rename_i hk
            exact h.acked hi hc hfr hrs hm hk ht hmf
          · exact Up.self hc h hfr hrs rfl rfl
theorem MI.step (hn : n = 2 ∨ n = 3) (hc : CI n G) (hi : i < n) (h : MI n G i p f) (hfr : p.fresh = 0) (hrs : p.rs = false) {m : PM} (hm : G.Net n m) : Up n i 2 G p f (p.step m) := by
  unfold PR.step
  split
  · exact Up.self hc h hfr hrs rfl rfl
  · rename_i hcond
    have hto : m.to = i := by rw [← h.me]; omega
    have hmf : m.fr ≠ i := by rw [← h.me]; omega
    unfold PR.step1
    split
    · have h1 := h.pre m
      unfold PR.pre at h1 ⊢
      split
      · rename_i e
        rw [if_pos e] at h1
        exact Up.self hc h1 hfr hrs rfl rfl
      · rename_i e
        rw [if_neg e] at h1
        exact Up.self hc h1 hfr hrs rfl rfl
    · split
      · split
        · rename_i hr
          have h1 : MI n G i (p.addYes m.fr) f := h.vol _ rfl rfl rfl rfl rfl rfl rfl rfl rfl rfl rfl rfl rfl h.st (fun e => by have e : p.role = 2 := e; omega) (fun e => by have e : p.role = 3 := e; omega)
          split
          · exact Up.pre (p1 := p.addYes m.fr) hi (.refl _ _ _) (fun _ h => h) rfl rfl (.inr ⟨rfl, rfl, rfl⟩) rfl (fun e => e) (h1.campaign hn hc hi hfr hrs)
          · exact Up.self hc h1 hfr hrs rfl rfl
        · exact Up.self hc h hfr hrs rfl rfl
      · split
        · rename_i ht
          obtain ⟨G1, c1, m1, l1, w1, ll, hd⟩ := h.follow hc hi m.tm (-1)
          obtain ⟨e1, e2, e3, e4, e5, e6⟩ := follow_keep p m.tm (-1)
          have e7 := follow_term p m.tm (-1) (by omega)
          exact Up.pre hi l1 w1 e3 e4 hd ll (fun e => by rw [e5] at e; omega) (m1.step2 hn c1 hi (by rw [e1]; exact hfr) (by rw [e2]; exact hrs) (l1.net hm) e7.symm hto hmf)
        · split
          · have h1 := h.late m
            unfold PR.late at h1 ⊢
            split
            · rename_i e
              rw [if_pos e] at h1
              exact Up.self hc h1 hfr hrs rfl rfl
            · rename_i e
              rw [if_neg e] at h1
              split
              · rename_i e2
                rw [if_pos e2] at h1
                exact Up.self hc h1 hfr hrs rfl rfl
              · exact Up.self hc h hfr hrs rfl rfl
          · exact h.step2 hn hc hi hfr hrs hm (by omega) hto hmf
theorem MI.propose (hn : n = 2 ∨ n = 3) (hc : CI n G) (hi : i < n) (h : MI n G i p f) (hfr : p.fresh = 0) (hrs : p.rs = false) (data : List UInt8) : Up n i 3 G p f (p.propose data) := by
  unfold PR.propose
  split
  · rename_i hr
    exact h.putTell hn hc hi hr hfr hrs data
  · exact Up.self hc h hfr hrs rfl rfl
end
end Go.SX
namespace Go.SX
open Go Go.Proofs
set_option maxRecDepth 4000
def twoB (b : Nat) : Nat := (floatBits .quo .f64 (FloatKind.f64.nearest b) 4641240890982006784).getD 0
def twoD (b : Nat) : Nat := ((drawB (twoB b)).getD 0).toNat
theorem two_nums : ∀ b : Nat, b < 256 → floatBits .quo .f64 (FloatKind.f64.nearest b) 4641240890982006784 = some (twoB b) ∧ fcmpB .neq (twoB b) (twoB b) = some false ∧ twoD b ≤ 3 ∧ drawB (twoB b) = some (twoD b : Int) := by decide +kernel
theorem two_dr {b : Nat} (h : b < 256) : DrOk (twoB b) (twoD b) := by
  obtain ⟨_, h1, h2, h3⟩ := two_nums b h
  exact drOk h1 h2 h3
theorem r_Draw (O : World) (F : Fz) (a : Nat) (r : Rf) (b d : Nat) (Fr : List Ent) (hr : r.ok F) (hd : DrOk b d) :
    Does Tryz.prog O 39 #[ptrV a, .float .f64 b] F (RfH a r Fr) (fun v F' H' => v = noneV ∧ ∃ r' : Rf, r'.ok F' ∧ r'.p = { r.p with dr := d } ∧ H' = RfH a r' Fr) := by
  refine does_of_run (args := [_, _]) Tryz.func39 rfl rfl ?_
  refine r_seq (r_region rfl (o_vl rfl rfl (v_move rfl) (o_vl rfl rfl (v_pneqnil rfl rfl rfl) (o_end (r_true rfl (r_region rfl (o_vl rfl rfl (v_move rfl) (o_vl rfl rfl (v_move rfl) (o_vl rfl rfl (v_nilCheck rfl) (o_vl rfl rfl (v_field (k := 3) rfl rfl rfl) ?_))))))))))
  refine j_heap (H' := RfE a r :: RfT r Fr) rfl ?_
  refine o_act0 rfl rfl rfl (a_rf { r with p := { r.p with dr := d }, fb := b } rfl rfl rfl rfl (Nat.le_of_ble_eq_true rfl) rfl) ?_
  refine j_heap (H' := RfH a { r with p := { r.p with dr := d }, fb := b } Fr) rfl ?_
  refine o_end ?_
  exact r_fall0 Tryz.func39 rfl ⟨⟨rfl, { r with p := { r.p with dr := d }, fb := b }, ⟨{ hr.B with dr := hd.1 }, hr.l, hr.lok, hr.lbf, hr.out, hr.outok, hr.obf, hr.sd, hd⟩, rfl, rfl⟩, Fz.le_refl _⟩
def PR.compact (p : PR) (data : List UInt8) : PR := { p with lix := p.cm, ltm := (p.termAt p.cm).1, lvt := p.voters.1, l := p.l.drop (p.cm - p.lix), six := p.cm, stm := (p.termAt p.cm).1, svt := p.voters.1, sd := data }
theorem voters_lvt {p : PR} (h : ∀ e ∈ p.l, e.kd = 0) : p.voters.1 = p.lvt := by
  unfold PR.voters
  have : ∀ (l : List PE) (q : Nat × Nat), (∀ e ∈ l, e.kd = 0) → l.foldl (fun q e => if e.kd = 1 then (maskB e.data, e.ix) else q) q = q := by
    intro l
    induction l with
    | nil => intro q _; rfl
    | cons x r ih =>
      intro q hl
      rw [List.foldl_cons, if_neg (by have := hl x (List.mem_cons_self ..); omega)]
      exact ih q fun e he => hl e (List.mem_cons_of_mem _ he)
  rw [this _ _ h]
theorem lgVotersAt_lvt {vt i : Nat} {l : List En} (h : ∀ e ∈ l, e.kd = 0) : lgVotersAt vt l i = vt := by
  unfold lgVotersAt
  have : ∀ (l : List En) (q : Nat), (∀ e ∈ l, e.kd = 0) → l.foldl (fun p e => if e.ix ≤ i ∧ e.kd = 1 then maskB e.data else p) q = q := by
    intro l
    induction l with
    | nil => intro q _; rfl
    | cons x r ih =>
      intro q hl
      rw [List.foldl_cons, if_neg (by have := hl x (List.mem_cons_self ..); omega)]
      exact ih q fun e he => hl e (List.mem_cons_of_mem _ he)
  exact this _ _ h
theorem rl_VotersAt (O : World) (F : Fz) (a : Nat) (r : Rf) (i : Nat) (Fr : List Ent) (hr : r.ok F) (hk : ∀ e ∈ r.p.l, e.kd = 0) : Does Tryz.prog O 60 #[ptrV r.lg, .int .u64 i] F (RfH a r Fr) (fun v F' H' => v = .int .u64 r.p.voters.1 ∧ F' = F ∧ H' = RfH a r Fr) := by
  have hb := hr.bnd
  have hk' : ∀ e ∈ r.l, e.kd = 0 := fun e he => hk e.pure (by rw [← hr.l]; exact List.mem_map.2 ⟨e, he, rfl⟩)
  rw [voters_lvt hk, ← lgVotersAt_lvt (vt := r.p.lvt) (i := i) hk']
  exact does_same (perm_in (RfE a r) (LgE r.lg r.p.lix r.p.ltm r.p.lvt r.lbf r.l.length) (r.lbf.ents 4 (enV r.l)) (r.obf.ents 13 (mgV r.out) ++ Fr)) (lg_VotersAt O F r.lg r.p.lix r.p.ltm r.p.lvt r.lbf r.l i _ (by omega) hr.lbf hr.lok (fun e he => by have := hr.dl e he; omega))
theorem rl_Compact (O : World) (F : Fz) (a : Nat) (r : Rf) (i : Nat) (Fr : List Ent) (hr : r.ok F) (hk : ∀ e ∈ r.p.l, e.kd = 0) (h1 : r.p.lix ≤ i) (h2 : i ≤ r.p.last) : Does Tryz.prog O 62 #[ptrV r.lg, .int .u64 i] F (RfH a r Fr) (fun v F' H' => v = .int .i64 0 ∧ F' = F ∧ ∃ r' : Rf, r'.ok F ∧ r'.p = { r.p with lix := i, ltm := (r.p.termAt i).1, lvt := r.p.voters.1, l := r.p.l.drop (i - r.p.lix) } ∧ H' = RfH a r' Fr) := by
  have hb := hr.bnd
  have hll : r.p.last = r.p.lix + r.p.l.length := rfl
  have hlen := hr.len
  have hk' : ∀ e ∈ r.l, e.kd = 0 := fun e he => hk e.pure (by rw [← hr.l]; exact List.mem_map.2 ⟨e, he, rfl⟩)
  have ht := lgTerm_pure r.p.lix r.p.ltm r.l r.p hr.l rfl rfl i
  refine does_permB (perm_in (RfE a r) (LgE r.lg r.p.lix r.p.ltm r.p.lvt r.lbf r.l.length) (r.lbf.ents 4 (enV r.l)) (r.obf.ents 13 (mgV r.out) ++ Fr)) (lg_Compact O F r.lg r.p.lix r.p.ltm r.p.lvt r.lbf r.l i _ (by omega) hr.lbf (by omega) hr.lok (by omega) (fun e he => by have := hr.dl e he; omega) h1 (by omega)) ?_
  rintro v F' H' _ ⟨rfl, rfl, bf', hbf', rfl⟩
  rw [lgVotersAt_lvt hk', ht]
  refine ⟨RfH a { r with l := r.l.drop (i - r.p.lix), lbf := bf', p := { r.p with lix := i, ltm := (r.p.termAt i).1, lvt := r.p.lvt, l := r.p.l.drop (i - r.p.lix) } } Fr, (perm_in (RfE a r) (LgE r.lg i (r.p.termAt i).1 r.p.lvt bf' (r.l.drop (i - r.p.lix)).length) (bf'.ents 4 (enV (r.l.drop (i - r.p.lix)))) (r.obf.ents 13 (mgV r.out) ++ Fr)).symm, rfl, rfl, { r with l := r.l.drop (i - r.p.lix), lbf := bf', p := { r.p with lix := i, ltm := (r.p.termAt i).1, lvt := r.p.lvt, l := r.p.l.drop (i - r.p.lix) } }, ⟨{ hr.B with last := ?_, ltm := termAt_le hr.B i, l := fun e he => hr.B.l e (List.mem_of_mem_drop he) }, ?_, fun e he => hr.lok e (List.mem_of_mem_drop he), hbf', hr.out, hr.outok, hr.obf, hr.sd, hr.dr⟩, by rw [voters_lvt hk], rfl⟩
  · show i + (r.p.l.drop (i - r.p.lix)).length ≤ 300000
    have := hr.B.last
    rw [List.length_drop]
    omega
  · show (r.l.drop (i - r.p.lix)).map En.pure = r.p.l.drop (i - r.p.lix)
    rw [List.map_drop, hr.l]
set_option maxHeartbeats 1000000 in
theorem r_Compact (O : World) (F : Fz) (a : Nat) (r : Rf) (dv : Value) (data : List UInt8) (Fr : List Ent) (hr : r.ok F) (hk : ∀ e ∈ r.p.l, e.kd = 0) (hd : SlB F [] dv data) (hdl : data.length ≤ 524288) (hcm : r.p.cm ≤ r.p.last) :
    Does Tryz.prog O 37 #[ptrV a, .int .u64 r.p.cm, dv] F (RfH a r Fr) (fun v F' H' => v = .int .i64 (if r.p.lix < r.p.cm then 0 else 1) ∧ ∃ r' : Rf, r'.ok F' ∧ r'.p = (if r.p.lix < r.p.cm then r.p.compact data else r.p) ∧ H' = RfH a r' Fr) := by
  refine does_of_run (args := [_, _, _]) Tryz.func37 rfl rfl ?_
  have hla : r.p.last ≤ 300000 := hr.B.last
  obtain ⟨C, hC⟩ : ∃ C, C = r.p.cm := ⟨_, rfl⟩
  rw [← hC]
  have hCl : C ≤ r.p.last := by omega
  refine r_seq (r_region rfl (o_vl rfl rfl (v_assign rfl) (o_end (r_seq (r_seq (r_region rfl (o_vl rfl rfl (v_move rfl) (o_vl rfl rfl (v_peqnil rfl rfl rfl) (o_vl rfl rfl (v_move rfl) (o_vl rfl rfl (v_move rfl) (o_vl rfl rfl (v_move rfl) (o_vl rfl rfl (v_nilCheck rfl) (o_vl rfl rfl (v_field (k := 9) rfl rfl rfl) ?_)))))))))))))
  refine o_vl rfl rfl (v_load rfl rfl (rfc (r := r) 9 (by first | exact List.mem_cons_self .. | simp [RfH]) rfl)) ?_
  rw [← hC]
  refine j_slot 16 rfl (v' := .int .u64 C) rfl ?_
  refine o_vl rfl rfl (v_gtr rfl rfl) ?_
  refine j_slot 17 rfl (v' := .bool false) (congrArg Value.bool (decide_eq_false (by omega))) ?_
  refine o_vl rfl rfl (v_pick0 rfl rfl) (o_vl rfl rfl (v_move rfl) (o_vl rfl rfl (v_move rfl) (o_vl rfl rfl (v_move rfl) (o_vl rfl rfl (v_nilCheck rfl) (o_vl rfl rfl (v_field (k := 8) rfl rfl rfl) (o_vl rfl rfl (v_load rfl rfl (rfc (r := r) 8 (by first | exact List.mem_cons_self .. | simp [RfH]) rfl)) (o_call rfl rfl rfl rfl (c_call callable44 rfl) (rl_Base _ _ a r _) ?_)))))))
  rintro v' F H' ⟨rfl, rfl, rfl⟩ _
  refine o_vl rfl rfl (v_leq rfl rfl) ?_
  refine j_prop 26 rfl (fun h => ?_) (fun h => ?_)
  · rw [if_neg (by omega), if_neg (by omega)]
    refine o_vl rfl rfl (v_pick0 rfl rfl) (o_end (r_true rfl (r_seq (r_region rfl (o_vl rfl rfl (v_assign rfl) (o_end ?_))))))
    exact r_ret1 Tryz.func37 rfl rfl ⟨⟨rfl, r, hr, rfl, rfl⟩, Fz.le_refl _⟩
  · rw [if_pos (by omega), if_pos (by omega)]
    refine o_vl rfl rfl (v_pick0 rfl rfl) (o_end (r_false rfl (r_skip (r_seq (r_region rfl (o_vl rfl rfl (v_move rfl) (o_vl rfl rfl (v_nilCheck rfl) (o_vl rfl rfl (v_field (k := 8) rfl rfl rfl) (o_vl rfl rfl (v_load rfl rfl (rfc (r := r) 8 (by first | exact List.mem_cons_self .. | simp [RfH]) rfl)) (o_vl rfl rfl (v_move rfl) (o_call rfl rfl rfl rfl (c_call callable31 rfl) (rl_Term _ _ a r C _ hr (by omega)) ?_)))))))))))
    rintro v' F H' ⟨rfl, rfl, rfl⟩ _
    refine o_vl rfl rfl (v_move rfl) (o_vl rfl rfl (v_extract rfl rfl) (o_vl rfl rfl (v_extract rfl rfl) (o_vl rfl rfl (v_assign rfl) (o_vl rfl rfl (v_assign rfl) (o_end (r_seq (r_region rfl (o_vl rfl rfl (v_move rfl) (o_vl rfl rfl (v_move rfl) (o_vl rfl rfl (v_move rfl) (o_vl rfl rfl (v_move rfl) (o_vl rfl rfl (v_nilCheck rfl) (o_vl rfl rfl (v_field (k := 8) rfl rfl rfl) ?_)))))))))))))
    refine o_vl rfl rfl (v_load rfl rfl (rfc (r := r) 8 (by first | exact List.mem_cons_self .. | simp [RfH]) rfl)) (o_vl rfl rfl (v_move rfl) (o_call rfl rfl rfl rfl (c_call callable60 rfl) (rl_VotersAt _ _ a r C _ hr hk) ?_))
    rintro v' F H' ⟨rfl, rfl, rfl⟩ _
    refine o_vl rfl rfl (v_move rfl) (o_call rfl rfl rfl rfl (c_call callable61 rfl) (sl_Clone _ _ dv data _ (hd.frz (Fz.le_refl _)) (by omega)) ?_)
    rintro v' F H' ⟨rfl, bf, hbf, rfl, rfl⟩ _
    refine j_freezeBf hbf (by simp) fun F1 hF1 hs1 => ?_
    obtain ⟨T, hT⟩ : ∃ T, T = (r.p.termAt C).1 := ⟨_, rfl⟩
    obtain ⟨V, hV⟩ : ∃ V, V = r.p.voters.1 := ⟨_, rfl⟩
    have hTl : T ≤ 300000 := by rw [hT]; exact termAt_le hr.B C
    have hVl : V < 128 := by rw [hV]; exact voters_lt hr.B
    have hs1' : SlB F1 [] (bf.val data.length) data := hs1
    obtain ⟨a1, c1, hv1, _⟩ := Sl.shape hs1'
    have hone : oneCellB (bf.val data.length) = true := by rw [hv1]; rfl
    obtain ⟨r1, hr1⟩ : ∃ r1 : Rf, r1 = { r with p := { r.p with six := C, stm := T, svt := V, sd := data }, sdv := bf.val data.length } := ⟨_, rfl⟩
    have hr1ok : r1.ok F1 := by
      rw [hr1]
      exact ⟨{ hr.B with six := by show C ≤ 300000; omega, stm := hTl, svt := hVl, sd := hdl }, hr.l, fun e he => (hr.lok e he).frz hF1, hr.lbf, hr.out, fun m hm => (hr.outok m hm).frz hF1, hr.obf, hs1', hr.dr⟩
    rw [← hT, ← hV]
    refine o_vl rfl rfl (v_build rfl rfl) ?_
    refine j_slot 48 rfl (v' := .agg #[.int .u64 C, .int .u64 T, .int .u64 V, bf.val data.length]) rfl ?_
    refine j_heap (H' := RfE a r :: RfT r Fr) rfl ?_
    refine o_vl rfl rfl (v_nilCheck rfl) (o_vl rfl rfl (v_field (k := 31) rfl rfl rfl) (o_act0 rfl rfl rfl (a_rf4 r1 rfl (by simp only [List.all_cons, List.all_nil, hone, Bool.and_true]; rfl) rfl rfl (Nat.le_of_ble_eq_true rfl) (by rw [hr1]; rfl)) ?_))
    refine j_heap (H' := RfH a r1 Fr) (by rw [hr1]; rfl) ?_
    refine o_end (r_seq (r_region rfl (o_vl rfl rfl (v_move rfl) (o_vl rfl rfl (v_nilCheck rfl) (o_vl rfl rfl (v_field (k := 8) rfl rfl rfl) (o_vl rfl rfl (v_load rfl rfl (rfc (r := r1) 8 (by first | exact List.mem_cons_self .. | simp [RfH]) rfl)) (o_vl rfl rfl (v_move rfl) ?_)))))))
    have hlg : r1.lg = r.lg := by rw [hr1]
    refine o_call rfl rfl rfl rfl (c_call callable62 rfl) (rl_Compact _ _ a r1 C _ hr1ok (by rw [hr1]; exact hk) (by rw [hr1]; show r.p.lix ≤ C; omega) (by rw [hr1]; exact hCl)) ?_
    rintro v' F2 H' ⟨rfl, rfl, r2, hr2, hr2p, rfl⟩ _
    refine o_vl rfl rfl (v_assign rfl) (o_end ?_)
    exact r_ret1 Tryz.func37 rfl rfl ⟨⟨rfl, r2, hr2, by rw [hr2p, hr1, hT, hV, hC]; rfl, rfl⟩, hF1⟩
end Go.SX
namespace Go.SX
open Go Go.Proofs
set_option maxRecDepth 4000
section
variable {n i : Nat} {G G' : Fa} {p : PR} {f f' : List PE}
def PM.isAck (T : Nat) (m : PM) : Bool := decide (m.kd = 6) && (m.ok && decide (m.tm = T))
def ackMax (out : List PM) (T : Nat) : Nat := (out.filter (PM.isAck T)).foldl (fun a m => max a m.ix) 0
theorem foldl_max : ∀ (l : List PM) (a : Nat), a ≤ l.foldl (fun a m => max a m.ix) a ∧ (∀ m ∈ l, m.ix ≤ l.foldl (fun a m => max a m.ix) a) ∧ (l.foldl (fun a m => max a m.ix) a = a ∨ ∃ m ∈ l, m.ix = l.foldl (fun a m => max a m.ix) a)
  | [], a => ⟨Nat.le_refl _, fun m hm => (List.not_mem_nil hm).elim, .inl rfl⟩
  | x :: r, a => by
    obtain ⟨h1, h2, h3⟩ := foldl_max r (max a x.ix)
    simp only [List.foldl_cons]
    refine ⟨by omega, fun m hm => ?_, ?_⟩
    · rcases List.mem_cons.1 hm with rfl | hm
      · omega
      · exact h2 m hm
    · rcases h3 with h3 | ⟨m, hm, h3⟩
      · rcases Nat.le_total x.ix a with h4 | h4
        · exact .inl (by omega)
        · exact .inr ⟨x, List.mem_cons_self .., by omega⟩
      · exact .inr ⟨m, List.mem_cons_of_mem _ hm, h3⟩
theorem isAck_is {T : Nat} {m : PM} : m.isAck T = true ↔ m.kd = 6 ∧ m.ok = true ∧ m.tm = T := by
  unfold PM.isAck
  rw [Bool.and_eq_true, Bool.and_eq_true, decide_eq_true_eq, decide_eq_true_eq]
theorem ackMax_ge {out : List PM} {m : PM} (hm : m ∈ out) (h1 : m.kd = 6) (h2 : m.ok = true) : m.ix ≤ ackMax out m.tm :=
  (foldl_max _ 0).2.1 m (List.mem_filter.2 ⟨hm, isAck_is.2 ⟨h1, h2, rfl⟩⟩)
theorem ackMax_pk {out : List PM} {T : Nat} : ackMax out T = 0 ∨ ∃ m ∈ out, m.kd = 6 ∧ m.ok = true ∧ m.tm = T ∧ m.ix = ackMax out T := by
  rcases (foldl_max (out.filter (PM.isAck T)) 0).2.2 with h | ⟨m, hm, h⟩
  · exact .inl h
  · obtain ⟨h1, h2⟩ := List.mem_filter.1 hm
    obtain ⟨h3, h4, h5⟩ := isAck_is.1 h2
    exact .inr ⟨m, h1, h3, h4, h5, h⟩
def PR.accs (p : PR) (G : Fa) (i : Nat) (f : List PE) (T : Nat) : Nat := max (G.acc i T) (max (ackMax p.out T) (if p.role = 3 ∧ T = p.term then f.length else 0))
theorem accs_or {k T : Nat} (h1 : 1 ≤ k) (hk : k ≤ p.accs G i f T) : k ≤ G.acc i T ∨ pk p.out T k ∨ (p.role = 3 ∧ T = p.term ∧ k ≤ f.length) := by
  unfold PR.accs at hk
  by_cases h2 : k ≤ G.acc i T
  · exact .inl h2
  · by_cases h3 : k ≤ ackMax p.out T
    · rcases ackMax_pk (out := p.out) (T := T) with h4 | ⟨m, hm, h4, h5, h6, h7⟩
      · omega
      · exact .inr (.inl ⟨m, hm, h4, h5, h6, by omega⟩)
    · split at hk
      · rename_i h4
        exact .inr (.inr ⟨h4.1, h4.2, by omega⟩)
      · omega
theorem MI.accs0 (hc : CI n G) (hi : i < n) (h : MI n G i p f) (T : Nat) (ha : 0 < p.accs G i f T) : T ≤ p.term ∧ ∃ c L, G.LL T = some (c, L) ∧ p.accs G i f T ≤ L.length := by
  have hP : ∀ x, (x = G.acc i T ∨ x = ackMax p.out T ∨ x = (if p.role = 3 ∧ T = p.term then f.length else 0)) → 0 < x → T ≤ p.term ∧ ∃ c L, G.LL T = some (c, L) ∧ x ≤ L.length := by
    rintro x (rfl | rfl | rfl) hx
    · obtain ⟨c, L, h1, h2⟩ := hc.accB i T hi hx
      exact ⟨hc.acc1 i T _ hi hx h.vwm, c, L, h1, h2⟩
    · rcases ackMax_pk (out := p.out) (T := T) with h4 | ⟨m, hm, h4, h5, h6, h7⟩
      · omega
      · obtain ⟨g1, _, c, L, g2, g3, _⟩ := (h.out m hm).ack h4 h5
        rw [h6] at g1 g2
        exact ⟨g1, c, L, g2, by omega⟩
    · split at hx
      · rename_i h4
        rw [if_pos h4]
        exact ⟨Nat.le_of_eq h4.2, i, f, by rw [h4.2]; exact (h.lead h4.1).1, Nat.le_refl _⟩
      · omega
  refine hP (p.accs G i f T) ?_ ha
  unfold PR.accs
  rcases Nat.le_total (G.acc i T) (max (ackMax p.out T) (if p.role = 3 ∧ T = p.term then f.length else 0)) with h1 | h1
  · rw [Nat.max_eq_right h1]
    rcases Nat.le_total (ackMax p.out T) (if p.role = 3 ∧ T = p.term then f.length else 0) with h2 | h2
    · rw [Nat.max_eq_right h2]; exact .inr (.inr rfl)
    · rw [Nat.max_eq_left h2]; exact .inr (.inl rfl)
  · rw [Nat.max_eq_left h1]; exact .inl rfl
def PR.view (p : PR) (f : List PE) : Vw := ⟨p.term, p.vote, f, p.lix, p.sd⟩
theorem MI.syncOk (hc : CI n G) (hi : i < n) (h : MI n G i p f) : G.SyncOk n i (p.view f) (p.accs G i f) where
  vw := h.vwm
  ge T := Nat.le_max_left _ _
  bnd T ha := h.accs0 hc hi T ha
  up T ha := by
    rcases accs_or (p := p) (G := G) (i := i) (f := f) (k := p.accs G i f T) (by omega) (Nat.le_refl _) with h1 | ⟨m, hm, h1, h2, h3, h4⟩ | h1
    · omega
    · obtain ⟨_, g, _⟩ := (h.out m hm).ack h1 h2
      rw [h3] at g
      exact g
    · exact ⟨_, h.vwm, Nat.le_of_eq h1.2.1.symm⟩
  S T c L k hl ho hk hb := by
    rcases accs_or ho.1 hk with h1 | h1 | h1
    · exact h.has hc hi hl ho (.inl h1) hb
    · exact h.has hc hi hl ho (.inr h1) hb
    · have := (h.lead h1.1).1
      rw [← h1.2.1, hl] at this
      cases this
      exact List.take_prefix _ _
  pv1 T c hp := h.pv1 T c hp
  pvS T c hp := by
    obtain ⟨h1, h2, l, h3, h4⟩ := h.pvS T c hp
    refine ⟨h1, h2, l, h3, fun T0 c0 L k ht hl ho hk hb => ?_⟩
    rcases accs_or ho.1 hk with h5 | h5 | h5
    · exact h4 T0 c0 L k ht hl ho (.inl h5) hb
    · exact h4 T0 c0 L k ht hl ho (.inr h5) hb
    · have := h.pvle hp
      omega
theorem Fa.le_sync (hc : CI n G) (hi : i < n) {v : Vw} {ac : Nat → Nat} (hs : G.SyncOk n i v ac) : Fa.le n i G (G.sync i v ac) where
  LL := .refl _
  LLo _ _ _ _ := .rfl
  acc T := by
    show _ ≤ (if i = i then ac T else _)
    rw [if_pos rfl]
    exact hs.ge T
  acco j T hj := if_neg hj
  vot j T c hj hv := Fa.sync_vot hc hi hj hv
  pvo _ _ _ := rfl
  askso _ _ _ := rfl
  asks _ _ _ h := h
  vwo j v' hj := by
    show (if j = i then v' = v else G.vw j v') ↔ _
    rw [if_neg hj]
  chb _ _ h := Fa.chb_sync hs h
theorem MI.sync (hc : CI n G) (hi : i < n) (h : MI n G i p f) : ∃ G', CI n G' ∧ MI n G' i p.stable f ∧ Fa.le n i G G' ∧ (∀ m ∈ p.out, G'.Net n m) ∧ (∀ v, G'.vw i v ↔ v = p.view f) ∧ (∃ c, p.stable = { p with st := p.last, out := [], cm := c }) ∧ p.stable1.out = p.out ∧ G'.LL = G.LL := by
  have hs := h.syncOk hc hi
  have hle := Fa.le_sync hc hi hs
  have hwi : ∀ v, (G.sync i (p.view f) (p.accs G i f)).vw i v ↔ v = p.view f := fun v => by
    show (if i = i then v = p.view f else _) ↔ _
    rw [if_pos rfl]
  have hai : ∀ T, (G.sync i (p.view f) (p.accs G i f)).acc i T = p.accs G i f T := fun T => if_pos rfl
  have hvi : ∀ T c, (G.sync i (p.view f) (p.accs G i f)).vot i T c ↔ G.pv i T = some c := fun T c => by
    show (if i = i then G.pv i T = some c else _) ↔ _
    rw [if_pos rfl]
  have hvg : ∀ T c, G.pv i T = some c → (G.sync i (p.view f) (p.accs G i f)).VG n i [] T c := fun T c hp => by
    obtain ⟨h1, h2, l, h3, h4⟩ := hs.pvS T c hp
    refine ⟨h1, h2.imp id (hle.vot _ _ _ h1), l, h3, fun T0 c0 L k ht hl ho hk hb => ?_⟩
    rcases hk with hk | ⟨m, hm, _⟩
    · rw [hai] at hk
      exact h4 T0 c0 L k ht hl ho hk (hle.chb _ _ hb)
    · exact (List.not_mem_nil hm).elim
  have hm : MI n (G.sync i (p.view f) (p.accs G i f)) i { p with st := p.last, out := [] } f := {
    h with
    vwm := (hwi _).2 rfl
    vwle := fun v hv => by rw [(hwi v).1 hv]; exact Nat.le_refl _
    vwV := fun v hv h0 => by
      rw [(hwi v).1 hv] at h0 ⊢
      exact hvg _ _ (h.pv2 h0)
    vwC := fun v hv => by
      rw [(hwi v).1 hv]
      obtain ⟨g1, g2, g3⟩ := h.vwC _ h.vwm
      exact ⟨g1, hle.com g2, g3⟩
    com := hle.com h.com
    st := by show p.last ≤ _; rw [h.last]; exact Nat.le_refl _
    pv1 := h.pv1
    pv2 := h.pv2
    pvS := hvg
    askB := h.askB
    cand := fun e => by
      obtain ⟨g1, g2, g3, g4⟩ := h.cand e
      exact ⟨g1, g2, g3, fun j hj hji hb => hle.vot _ _ _ hj (g4 j hj hji hb)⟩
    lead := fun e => by
      obtain ⟨g1, g2, g3⟩ := h.lead e
      refine ⟨g1, fun j hj hji => Nat.le_trans (g2 j hj hji) (hle.accle _ _), fun k hk ho => ?_⟩
      show k ≤ (G.sync i (p.view f) (p.accs G i f)).acc i p.term
      rw [hai]
      unfold PR.accs
      have e : p.role = 3 := e
      rw [if_pos ⟨e, rfl⟩]
      have := ho.le.2
      omega
    out := fun m hm => (List.not_mem_nil hm).elim }
  have hnet : ∀ m ∈ p.out, (G.sync i (p.view f) (p.accs G i f)).Net n m := fun m hm => by
    have hp := h.out m hm
    exact {
      fr := by rw [hp.fr]; exact hi
      ask := fun hk => by
        obtain ⟨l, g1, g2, g3, g4⟩ := hp.ask hk
        rw [hp.fr]
        exact ⟨l, g1, g2, g3, (hvi _ _).2 g4⟩
      vote := fun hk ho => by
        rw [hp.fr]
        exact (hvi _ _).2 (hp.vote hk ho)
      ap := fun hk => hle.ap (hp.ap hk)
      inst := fun hk => hle.inst (hp.inst hk)
      ack := fun hk ho => by
        rw [hp.fr, hai]
        have := ackMax_ge hm hk ho
        unfold PR.accs
        omega }
  by_cases hr : p.role = 3
  · have hadv : ∀ (q : PR) (o : List PM) (x : Nat), ({ q with out := o } : PR).adv x = { q.adv x with out := o } := by
      intro q o x
      induction x with
      | zero => rfl
      | succ x ih =>
        unfold PR.adv
        have e1 : ({ q with out := o } : PR).termAt (x + 1) = q.termAt (x + 1) := rfl
        have e2 : ∀ k s, ({ q with out := o } : PR).someTo k s = q.someTo k s := fun _ _ => rfl
        have e3 : ∀ s, ({ q with out := o } : PR).most s = q.most s := fun _ => rfl
        rw [e1, e2, e3]
        split
        · rfl
        · split
          · rfl
          · split
            · unfold PR.commitAt
              have e4 : ({ ({ q with out := o } : PR) with cm := x + 1 } : PR).votes q.me = ({ q with cm := x + 1 } : PR).votes q.me := rfl
              have e5 : ({ q with out := o } : PR).voters = q.voters := rfl
              dsimp only at e4 ⊢
              rw [e4, e5]
              split
              · rfl
              · split <;> rfl
            · exact ih
    obtain ⟨m2, c, e⟩ := hm.advance hi hr
    have e0 : ({ p with st := p.last, out := [] } : PR).advance = p.stable := by
      unfold PR.stable PR.stable1
      rw [if_pos hr]
      exact hadv { p with st := p.last } [] p.last
    rw [e0] at m2 e
    refine ⟨_, hc.sync hi hs, m2, hle, hnet, hwi, ⟨c, e⟩, ?_, rfl⟩
    unfold PR.stable1
    rw [if_pos hr]
    exact (adv_nx _ _).2
  · have e0 : p.stable = { p with st := p.last, out := [] } := by
      unfold PR.stable PR.stable1
      rw [if_neg hr]
    refine ⟨_, hc.sync hi hs, by rw [e0]; exact hm, hle, hnet, hwi, ⟨p.cm, by rw [e0]⟩, ?_, rfl⟩
    unfold PR.stable1
    rw [if_neg hr]
theorem Fa.le_crash (hc : CI n G) (hi : i < n) {v : Vw} (hv : G.vw i v) : Fa.le n i G (G.crash i v) where
  LL := .refl _
  LLo _ _ _ _ := .rfl
  acc T := Nat.le_refl _
  acco j T hj := rfl
  vot j T c hj hv := hv
  pvo j T hj := if_neg hj
  askso j T hj := if_neg fun e => hj e.1
  asks T l h1 h2 := by rw [Fa.crash_asks hc hi hv h1]; exact h2
  vwo j v' hj := by
    show (if j = i then v' = v else G.vw j v') ↔ _
    rw [if_neg hj]
  chb _ _ h := Fa.chb_crash hv h
structure Back (n i : Nat) (v : Vw) (q : PR) : Prop where
  me : q.me = i
  term : q.term = v.term
  vote : q.vote = v.vote
  role : q.role = 0
  lix : q.lix = v.base
  ltm : q.ltm = tmK v.fl v.base
  l : q.l = v.fl.drop v.base
  lvt : q.lvt = 2 ^ n - 1
  svt : q.svt = 2 ^ n - 1
  six : q.six = v.base
  stm : q.stm = tmK v.fl v.base
  sd : q.sd = v.sd
  cm : q.cm = v.base
  st : q.st ≤ v.fl.length
  out : q.out = []
theorem MI.crash (hc : CI n G) (hi : i < n) (h : MI n G i p f) {v : Vw} (hv : G.vw i v) {q : PR} (hb : Back n i v q) : ∃ G', CI n G' ∧ MI n G' i q v.fl ∧ Fa.le n i G G' ∧ (∀ w, G'.vw i w ↔ w = v) ∧ G'.LL = G.LL := by
  have hle := Fa.le_crash hc hi hv
  obtain ⟨w1, w2, w3⟩ := h.vwC v hv
  have hwi : ∀ w, (G.crash i v).vw i w ↔ w = v := fun w => by
    show (if i = i then w = v else _) ↔ _
    rw [if_pos rfl]
  have hpv : ∀ T, (G.crash i v).pv i T = (if T < v.term then G.pv i T else if T = v.term then (if 0 ≤ v.vote then some v.vote.toNat else none) else none) := fun T => if_pos rfl
  have hvg : ∀ T c, T ≤ v.term → G.VG n i p.out T c → (G.crash i v).VG n i [] T c := by
    rintro T c ht ⟨h1, h2, l, h3, h4⟩
    refine ⟨h1, h2, l, ?_, fun T0 c0 L k ht0 hl ho hk hcb => ?_⟩
    · show (if c = i ∧ v.term < T then none else G.asks c T) = _
      rw [if_neg (by omega)]
      exact h3
    · rcases hk with hk | ⟨m, hm, _⟩
      · exact h4 T0 c0 L k ht0 hl ho (.inl hk) (hle.chb _ _ hcb)
      · exact (List.not_mem_nil hm).elim
  refine ⟨_, hc.crash hi hv, ?_, hle, hwi, rfl⟩
  exact {
    me := hb.me
    lf := by rw [hb.l, hb.lix]
    lle := by rw [hb.lix]; exact w1
    ltm := by rw [hb.ltm, hb.lix]
    six := by rw [hb.six, hb.lix]
    stm := by rw [hb.stm, hb.ltm]
    lvt := hb.lvt
    svt := hb.svt
    fix := w3.1
    vwm := (hwi _).2 (by rw [hb.term, hb.vote, hb.lix, hb.sd])
    vwle := fun w hw => by rw [(hwi w).1 hw, hb.term]; exact Nat.le_refl _
    vwV := fun w hw h0 => by
      rw [(hwi w).1 hw] at h0 ⊢
      rw [hb.out]
      exact hvg _ _ (Nat.le_refl _) (h.vwV v hv h0)
    vwC := fun w hw => by
      rw [(hwi w).1 hw]
      exact ⟨w1, hle.com w2, w3⟩
    com := by rw [hb.term, hb.cm]; exact hle.com w2
    cmle := by rw [hb.cm]; exact w1
    lixcm := by rw [hb.cm, hb.lix]; exact Nat.le_refl _
    st := hb.st
    pv1 := fun T c hp => by
      rw [hpv] at hp
      rw [hb.term, hb.vote]
      split at hp
      · rename_i h1; exact .inl h1
      · split at hp
        · rename_i h2
          split at hp
          · rename_i h3
            have := Option.some.inj hp
            exact .inr ⟨h2, by omega⟩
          · cases hp
        · cases hp
    pv2 := fun h0 => by
      rw [hb.vote] at h0 ⊢
      rw [hb.term, hpv, if_neg (Nat.lt_irrefl _), if_pos rfl, if_pos h0]
    pvS := fun T c hp => by
      rw [hpv] at hp
      rw [hb.out]
      split at hp
      · rename_i h1; exact hvg T c (Nat.le_of_lt h1) (h.pvS T c hp)
      · split at hp
        · rename_i h2
          split at hp
          · rename_i h3
            rw [← Option.some.inj hp, h2]
            exact hvg _ _ (Nat.le_refl _) (h.vwV v hv h3)
          · cases hp
        · cases hp
    askB := fun T l ha => by
      have ha : (if i = i ∧ v.term < T then none else G.asks i T) = some l := ha
      rw [hb.term]
      split at ha
      · cases ha
      · omega
    cand := fun e => by rw [hb.role] at e; omega
    lead := fun e => by rw [hb.role] at e; omega
    out := fun m hm => by rw [hb.out] at hm; exact (List.not_mem_nil hm).elim }
theorem MI.compact (hc : CI n G) (hi : i < n) (h : MI n G i p f) (data : List UInt8) (hdl : data.length ≤ 500000) : ∃ G', CI n G' ∧ MI n G' i (p.compact data) f ∧ Fa.le n i G G' ∧ (∀ v, G.vw i v → G'.vw i v) ∧ G'.LL = G.LL := by
  obtain ⟨p1, p2⟩ := hc.pvOf hi h.vwm
  have hG := h.goodF hc hi
  have hlc := h.lixcm
  have hN : ∀ v, v = (⟨p.term, p.vote, f, p.cm, data⟩ : Vw) → G.NewV n i v := by
    rintro v rfl
    exact ⟨⟨_, h.vwm, Nat.le_refl _⟩, p1, p2, hG.1, hG.2, fun T0 c0 L0 k h5 ho hk hb' => hc.S i ⟨p.term, p.vote, f, p.lix, p.sd⟩ T0 c0 L0 k hi h.vwm h5 ho hk hb'⟩
  have hle := Fa.le_addVw hN
  refine ⟨_, hc.addVw hN, ?_, hle, fun v hv => .inl hv, rfl⟩
  have ht : (p.termAt p.cm).1 = tmK f p.cm := by rw [h.termAt hlc h.cmle]
  refine h.logs hc hi hle (fun _ => rfl) (fun _ => rfl) (fun _ => rfl) (fun v hv => .inl hv) ?_ (fun _ _ _ _ _ _ _ _ hp => hp) _ rfl rfl rfl rfl ?_ h.cmle ht rfl rfl ?_ ?_ h.fix (.inr ⟨rfl, rfl⟩) (hle.com h.com) h.cmle (Nat.le_refl _) h.st h.cand h.lead
  · rintro v (hv | ⟨_, rfl⟩)
    · exact .inl hv
    · exact .inr ⟨rfl, rfl, h.cmle, hle.com h.com, h.fix, hdl⟩
  · show p.l.drop (p.cm - p.lix) = f.drop p.cm
    rw [h.lf, List.drop_drop]
    congr 1
    omega
  · show p.voters.1 = _
    rw [h.voters]
  · show p.voters.1 = _
    rw [h.voters]
end
end Go.SX
namespace Go.SX
open Go Go.Proofs
set_option maxRecDepth 4000
structure DR (V : PI → Prop) (b : List UInt8) (s : Nat) (cur : PI) : Prop where
  re : Reaches b cur
  le : s ≤ b.length
  cut : ∀ c, s ≤ c → c ≤ b.length → ∃ q m, V q ∧ Reaches (b.take m) q ∧ scanP nilI (b.take c) = (q, m) ∧ m ≤ c
theorem DR.mono {V V' : PI → Prop} {b : List UInt8} {s : Nat} {cur : PI} (h : DR V b s cur) (hV : ∀ q, V q → V' q) : DR V' b s cur := ⟨h.re, h.le, fun c h1 h2 => by
  obtain ⟨q, m, h3, h4⟩ := h.cut c h1 h2
  exact ⟨q, m, hV q h3, h4⟩⟩
theorem DR.whole {V : PI → Prop} {b : List UInt8} {cur : PI} (h : Reaches b cur) (hV : V cur) : DR V b b.length cur := ⟨h, Nat.le_refl _, fun c h1 h2 => by
  have : c = b.length := by omega
  subst this
  exact ⟨cur, b.length, hV, by rw [List.take_length]; exact h, by rw [List.take_length]; exact h.end_, Nat.le_refl _⟩⟩
theorem DR.sync {V V' : PI → Prop} {b : List UInt8} {s : Nat} {cur : PI} (h : DR V b s cur) (hV : V' cur) : DR V' b b.length cur := .whole h.re hV
theorem DR.app {V : PI → Prop} {b : List UInt8} {s : Nat} {cur q : PI} (h : DR V b s cur) (hc : V cur) (hq : V q) {k : Nat} {d : List UInt8} (hd : d.length ≤ 1048576) (hk : k < 256) (ha : addP cur k d = some q) : DR V (b ++ recB k d) s q := by
  have hr := h.re.more hd hk ha
  have hs := h.le
  refine ⟨hr, by rw [List.length_append]; omega, fun c h1 h2 => ?_⟩
  rcases Nat.lt_or_ge c b.length with h3 | h3
  · obtain ⟨q', m, g1, g2, g3, g4⟩ := h.cut c h1 (by omega)
    exact ⟨q', m, g1, by rw [List.take_append_of_le_length (by omega)]; exact g2, by rw [List.take_append_of_le_length (by omega)]; exact g3, g4⟩
  · rcases Nat.lt_or_ge c (b ++ recB k d).length with h4 | h4
    · refine ⟨cur, b.length, hc, by rw [List.take_left]; exact h.re, ?_, h3⟩
      rw [List.take_append, List.take_of_length_le h3]
      rw [List.length_append, recB_length] at h4
      exact h.re.stop (takeB_cut hd (by omega))
    · have : c = (b ++ recB k d).length := by omega
      subst this
      exact ⟨q, _, hq, by rw [List.take_length]; exact hr, by rw [List.take_length]; exact hr.end_, Nat.le_refl _⟩
theorem DR.ents {V : PI → Prop} {s : Nat} {X : PI} {f' : List PE} (hfx : Fixd f') (hfit : ∀ e ∈ f', e.fit) : ∀ (r : List PE) (j : Nat) (lc : List PE) (b : List UInt8), DR V b s { X with l := lc } → V { X with l := lc } → f'.drop j = r → X.ix ≤ j → lc.take (j - X.ix) = (f'.take j).drop X.ix → j - X.ix ≤ lc.length →
    (∀ x, j < x → x ≤ f'.length → V { X with l := (f'.take x).drop X.ix }) → DR V (b ++ entsB r) s { X with l := if r = [] then lc else f'.drop X.ix }
  | [], j, lc, b, h, hV, hr, hj, hl, hjl, hx => by
    rw [if_pos rfl]
    simpa [entsB] using h
  | e :: r, j, lc, b, h, hV, hr, hj, hl, hjl, hx => by
    have hjf : j < f'.length := by
      rcases Nat.lt_or_ge j f'.length with h1 | h1
      · exact h1
      · rw [List.drop_eq_nil_of_le h1] at hr; cases hr
    have hej : f'[j]? = some e := by
      have : (f'.drop j)[0]? = some e := by rw [hr]; rfl
      rw [List.getElem?_drop, Nat.add_zero] at this
      exact this
    have hix := (hfx j e hej).1
    have he := hfit e (List.mem_of_getElem? hej)
    have htk : (f'.take (j + 1)).drop X.ix = (f'.take j).drop X.ix ++ [e] := by
      rw [List.take_add_one, hej, Option.toList_some, List.drop_append_of_le_length (by rw [List.length_take]; omega)]
    have had : addP { X with l := lc } 2 (entP e.ix e.tm e.kd e.data) = some { X with l := (f'.take (j + 1)).drop X.ix } := by
      rw [addP, if_neg (by decide), if_pos rfl, entR_entP he.ix he.tm he.kd (by have := he.data; omega)]
      show addE _ e = _
      unfold addE
      dsimp only
      rw [if_neg (by omega), show e.ix - X.ix - 1 = j - X.ix by omega, hl, htk]
    have h1 := h.app hV (hx (j + 1) (by omega) hjf) (by simp; have := he.data; omega) (by decide) had
    have ih := DR.ents hfx hfit r (j + 1) _ _ h1 (hx (j + 1) (by omega) hjf) (by rw [← List.drop_drop, hr]; rfl) (by omega) (by rw [List.take_of_length_le (by rw [List.length_drop, List.length_take]; omega)]) (by rw [List.length_drop, List.length_take]; omega) (fun x h2 h3 => hx x (by omega) h3)
    have e1 : b ++ entsB (e :: r) = b ++ recB 2 (entP e.ix e.tm e.kd e.data) ++ entsB r := by simp [PE.bs, entsB]
    rw [e1, if_neg (by simp)]
    split at ih
    · rename_i hr0
      have : j + 1 = f'.length := by
        have h5 : (f'.drop j).length = 1 := by rw [hr, hr0]; rfl
        rw [List.length_drop] at h5
        omega
      rw [this, List.take_length] at ih
      exact ih
    · exact ih
def Vw.pi (n : Nat) (v : Vw) : PI := ⟨v.term, v.vote, v.base, tmK v.fl v.base, 2 ^ n - 1, v.sd, v.fl.drop v.base⟩
def Fa.PV (G : Fa) (n i : Nat) (q : PI) : Prop := ∃ v, G.vw i v ∧ q = v.pi n
structure Fits (p : PR) (f : List PE) : Prop where
  term : p.term < 18446744073709551616
  v1 : -1 ≤ p.vote
  v2 : p.vote < 65535
  es : ∀ e ∈ f, e.fit
  sd : p.sd.length ≤ 1048000
  len : f.length < 18446744073709551616
section
variable {n i : Nat} {G G' : Fa} {p q : PR} {f f' : List PE}
structure Shp (n : Nat) (p : PR) (f : List PE) : Prop where
  lf : p.l = f.drop p.lix
  lle : p.lix ≤ f.length
  ltm : p.ltm = tmK f p.lix
  six : p.six = p.lix
  stm : p.stm = p.ltm
  svt : p.svt = 2 ^ n - 1
  fix : Fixd f
theorem MI.shp (h : MI n G i p f) : Shp n p f := ⟨h.lf, h.lle, h.ltm, h.six, h.stm, h.svt, h.fix⟩
theorem Shp.last (h : Shp n p f) : p.last = f.length := by
  have := h.lle
  unfold PR.last
  rw [h.lf, List.length_drop]
  omega
theorem Shp.pi (h : Shp n p f) : (p.view f).pi n = ⟨p.term, p.vote, p.lix, p.ltm, 2 ^ n - 1, p.sd, p.l⟩ := by
  unfold PR.view Vw.pi
  dsimp only
  rw [h.lf, h.ltm]
theorem Shp.image (h : Shp n p f) : p.image = (p.view f).pi n := by
  rw [h.pi]
  unfold PR.image PR.from_
  rw [h.six, h.stm, h.svt]
  congr 1
  have hl : p.last = p.lix + p.l.length := rfl
  split
  · rename_i h1
    have : p.l.length = 0 := by omega
    exact (List.length_eq_zero_iff.1 this).symm
  · rw [show p.lix + 1 - p.lix - 1 = 0 by omega, List.drop_zero, List.take_length]
theorem Shp.saveE (h : Shp n p f) (h1 : 0 < p.fresh) (h2 : p.fresh ≤ f.length) (h3 : p.lix < p.fresh) : p.saveE = f.drop (p.fresh - 1) := by
  have hl := h.last
  unfold PR.saveE PR.from_
  rw [if_pos h1, hl, if_neg (by omega), h.lf, List.drop_drop, show p.lix + (p.fresh - p.lix - 1) = p.fresh - 1 by omega]
  exact List.take_of_length_le (by rw [List.length_drop]; omega)
theorem DR.settle (hn : n = 1 ∨ n = 2 ∨ n = 3) {V : PI → Prop} {d : List UInt8 × Nat} (hd : DR V d.1 d.2 ((p.view f).pi n)) (hV : ∀ x, V x → G'.PV n i x) (hVp : V ((p.view f).pi n)) (hchg : p.chg = false) (m' : Shp n q f') (hvm : G'.vw i (q.view f')) (hp : q.rs = true ∨ Part G' i p f q f') (hf : Fits q f') : DR (G'.PV n i) (q.disk d).1 (q.disk d).2 ((q.view f').pi n) := by
  have hmem : G'.PV n i ((q.view f').pi n) := ⟨_, hvm, rfl⟩
  unfold PR.disk
  by_cases hrs : q.rs = true
  · rw [if_pos hrs, m'.image]
    refine DR.whole (whole_reaches _ (.inr ?_) hf.term hf.v1 hf.v2 ?_ ?_ ?_ ?_ ?_ ?_) hmem
    · show 2 ^ n - 1 ≠ 0
      rcases hn with rfl | rfl | rfl <;> decide
    · show q.lix < _
      have := m'.lle
      have := hf.len
      omega
    · show tmK f' q.lix < _
      cases hk : q.lix with
      | zero => exact Nat.zero_lt_succ _
      | succ k =>
        show ((f'[k]?).map PE.tm).getD 0 < _
        cases hfk : f'[k]? with
        | none => exact Nat.zero_lt_succ _
        | some e => exact (hf.es e (List.mem_of_getElem? hfk)).tm
    · show 2 ^ n - 1 < _
      rcases hn with rfl | rfl | rfl <;> decide
    · exact hf.sd
    · intro e he
      exact hf.es e (List.mem_of_mem_drop he)
    · intro j hj
      have h1 : (f'.drop q.lix)[j]? = some ((q.view f').pi n).l[j] := List.getElem?_eq_getElem (l := ((q.view f').pi n).l) hj
      rw [List.getElem?_drop] at h1
      have := (m'.fix _ _ h1).1
      show _ = q.lix + j + 1
      omega
  · have hp := hp.resolve_left hrs
    rw [if_neg hrs]
    obtain ⟨g1, g2, g3, g4, g5⟩ := hp
    -- the hard state
    have hX : ∀ l, (⟨q.term, q.vote, p.lix, tmK f p.lix, 2 ^ n - 1, p.sd, l⟩ : PI) = { (⟨q.term, q.vote, p.lix, tmK f p.lix, 2 ^ n - 1, p.sd, []⟩ : PI) with l := l } := fun _ => rfl
    have hV1 : G'.PV n i ⟨q.term, q.vote, p.lix, tmK f p.lix, 2 ^ n - 1, p.sd, f.drop p.lix⟩ := by
      rcases g5 with ⟨_, e⟩ | ⟨_, _, _, _, _, hw, _⟩
      · refine ⟨_, hvm, ?_⟩
        unfold PR.view Vw.pi
        dsimp only
        rw [e, g1, g2]
      · exact ⟨_, hw, rfl⟩
    have hd1 : DR (G'.PV n i) (d.1 ++ hdrB q.chg q.term q.vote) d.2 ⟨q.term, q.vote, p.lix, tmK f p.lix, 2 ^ n - 1, p.sd, f.drop p.lix⟩ := by
      have h0 := hd.mono hV
      cases hc : q.chg with
      | true =>
        unfold hdrB
        rw [if_pos rfl]
        refine h0.app (hV _ hVp) hV1 (by simp) (by decide) ?_
        have : (((q.vote + 1).toNat : Nat) : Int) - 1 = q.vote := by have := hf.v1; omega
        have h1 := hf.v1
        have h2 := hf.v2
        rw [addP, if_pos rfl, hardR_hardP hf.term (by omega), this]
        rfl
      | false =>
        rcases g4 with h1 | ⟨_, h1, h2⟩
        · rw [hc] at h1; cases h1
        · unfold hdrB
          rw [if_neg (by simp), List.append_nil, h1, h2]
          exact h0
    rcases g5 with ⟨e0, e⟩ | ⟨e1, e2, e3, e4, e5, _, e6⟩
    · have hse : q.saveE = [] := by unfold PR.saveE; rw [if_neg (by omega)]
      have hfin : (⟨q.term, q.vote, p.lix, tmK f p.lix, 2 ^ n - 1, p.sd, f.drop p.lix⟩ : PI) = (q.view f').pi n := by
        unfold PR.view Vw.pi
        dsimp only
        rw [e, g1, g2]
      rw [hfin] at hd1
      split
      · dsimp only
        unfold saveB
        rw [hse]
        simpa [entsB] using hd1
      · rename_i hs
        have hc : q.chg = false := by
          unfold PR.saves at hs
          cases h : q.chg with
          | false => rfl
          | true => rw [h] at hs; simp at hs
        rw [hc] at hd1
        unfold hdrB at hd1
        rw [if_neg (by simp), List.append_nil] at hd1
        exact hd1
    · have hse := m'.saveE e1 e2 (by rw [g1]; exact e3)
      have htm : tmK f p.lix = tmK f' p.lix := by
        have h1 : tmK (f'.take (q.fresh - 1)) p.lix = tmK (f.take (q.fresh - 1)) p.lix := by rw [e5]
        rw [← tmK_pre (L := f'.take (q.fresh - 1)) (List.take_prefix _ _) (by rw [List.length_take]; omega), ← tmK_pre (L := f.take (q.fresh - 1)) (List.take_prefix _ _) (by rw [List.length_take]; omega)] at h1
        exact h1.symm
      rw [if_pos (by unfold PR.saves; rw [decide_eq_true (by omega)]; simp)]
      dsimp only
      unfold saveB
      rw [hse, ← List.append_assoc]
      have hfin := DR.ents (V := G'.PV n i) (s := d.2) (X := ⟨q.term, q.vote, p.lix, tmK f p.lix, 2 ^ n - 1, p.sd, []⟩) m'.fix hf.es (f'.drop (q.fresh - 1)) (q.fresh - 1) (f.drop p.lix) _ hd1 hV1 rfl (by show p.lix ≤ _; omega) ?_ (by show q.fresh - 1 - p.lix ≤ _; rw [List.length_drop]; omega) ?_
      · rw [if_neg (by intro h; have := congrArg List.length h; rw [List.length_drop] at this; simp at this; omega)] at hfin
        have : (q.view f').pi n = ⟨q.term, q.vote, p.lix, tmK f p.lix, 2 ^ n - 1, p.sd, f'.drop p.lix⟩ := by
          unfold PR.view Vw.pi
          dsimp only
          rw [g1, g2, htm]
        rw [this]
        exact hfin
      · show (f.drop p.lix).take (q.fresh - 1 - p.lix) = (f'.take (q.fresh - 1)).drop p.lix
        rw [e5, List.drop_take]
      · intro x h1 h2
        refine ⟨_, e6 x (by omega) h2, ?_⟩
        show _ = (⟨q.term, q.vote, p.lix, tmK (f'.take x) p.lix, 2 ^ n - 1, p.sd, (f'.take x).drop p.lix⟩ : PI)
        have : tmK (f'.take x) p.lix = tmK f p.lix := by
          rw [htm]
          exact (tmK_pre (List.take_prefix _ _) (by rw [List.length_take]; omega)).symm
        rw [this]
end
end Go.SX
namespace Go.SX
open Go Go.Proofs
set_option maxRecDepth 4000
def PS.rounds (off : Int) : Nat → PS → Option PS
  | 0, s => some s
  | n + 1, s => if s.bad = true then none else (s.round off).bind (PS.rounds off n)
def chk (o : Option PS) (f : PS → Bool) : Bool := match o with
  | some s => f s
  | none => false
def PR.ready (p : PR) : Bool := decide (p.role = 3) && decide ((p.termAt p.cm).1 = p.term)
def PS.awakeB (s : PS) : Bool := !s.bad && match s.ms[0]? with
  | some p => decide (p.role = 3) && p.ready && decide (p.cm = 1)
  | none => false
theorem awake_run : chk (PS.rounds (-1) 4 (PS.new 1)) PS.awakeB = true := by decide +kernel
end Go.SX
namespace Go.SX
open Go Go.Proofs
set_option maxRecDepth 4000
section
variable {β : Type}
end
def Known (dn : List (Nat × PE)) (p : PR) (c : Nat) : Prop := ∀ k, p.lix < k → k ≤ c → k ≤ p.cm ∧ ∃ e, p.entry k = some e ∧ e.ix = k ∧ lookN dn k = some e
theorem lookN_put {α : Type} : ∀ (l : List (Nat × α)) (k : Nat) (v : α) (j : Nat), lookN (putN l k v) j = if j = k then some v else lookN l j
  | [], k, v, j => by
    simp only [putN, lookN]
    by_cases h : k = j
    · rw [if_pos h, if_pos h.symm]
    · rw [if_neg h, if_neg (fun e => h e.symm)]
  | x :: r, k, v, j => by
    simp only [putN]
    by_cases hx : x.1 = k
    · rw [if_pos hx]
      simp only [lookN]
      by_cases h : k = j
      · rw [if_pos h, if_pos h.symm]
      · rw [if_neg h, if_neg (fun e => h e.symm), if_neg (by omega)]
    · rw [if_neg hx]
      simp only [lookN, lookN_put r k v j]
      by_cases h : x.1 = j
      · rw [if_pos h, if_neg (by omega), if_pos h]
      · rw [if_neg h, if_neg h]
theorem PE.same_self (a : PE) : a.same a = true := by simp [PE.same]
def LogSame (p q : PR) : Prop := q.lix = p.lix ∧ q.l = p.l ∧ p.cm ≤ q.cm
theorem LogSame.refl (p : PR) : LogSame p p := ⟨rfl, rfl, Nat.le_refl _⟩
theorem LogSame.trans {p q r : PR} (h1 : LogSame p q) (h2 : LogSame q r) : LogSame p r := ⟨h2.1.trans h1.1, h2.2.1.trans h1.2.1, Nat.le_trans h1.2.2 h2.2.2⟩
theorem Known.same {dn : List (Nat × PE)} {p q : PR} {c : Nat} (h : Known dn p c) (hs : LogSame p q) : Known dn q c := by
  obtain ⟨h1, h2, h3⟩ := hs
  intro k hk hkc
  rw [h1] at hk
  obtain ⟨hkm, e, he, hi, hl⟩ := h k hk hkc
  refine ⟨by omega, e, ?_, hi, hl⟩
  unfold PR.entry PR.last at he ⊢
  rw [h1, h2]
  split at he
  · cases he
  · rw [if_neg (by omega)]
    exact he
theorem Known.more {dn dn' : List (Nat × PE)} {p : PR} {c : Nat} (h : Known dn p c) (hd : ∀ j w, lookN dn j = some w → lookN dn' j = some w) : Known dn' p c := fun k h1 h2 => by
  obtain ⟨hkm, e, he, hi, hl⟩ := h k h1 h2
  exact ⟨hkm, e, he, hi, hd k e hl⟩
theorem Known.zero (dn : List (Nat × PE)) (p : PR) : Known dn p 0 := fun k h1 h2 => by omega
end Go.SX
namespace Go.SX
open Go Go.Proofs
set_option maxRecDepth 4000
def Fa.DoneAt (G : Fa) (n k : Nat) (e : PE) : Prop := 1 ≤ k ∧ ∃ T c L kk, G.LL T = some (c, L) ∧ Own L T kk ∧ G.Chn n T kk ∧ k ≤ kk ∧ L[k - 1]? = some e
structure GI (n : Nat) (s : PS) (G : Fa) (fl : Nat → List PE) : Prop where
  len : s.ms.length = n
  dl : s.ds.length = n
  ci : CI n G
  mi : ∀ (i : Nat) (p : PR), s.ms[i]? = some p → MI n G i p (fl i)
  cl : ∀ (i : Nat) (p : PR), s.ms[i]? = some p → p.chg = false ∧ p.fresh = 0 ∧ p.rs = false ∧ (p.role = 3 → p.lead = (i : Int))
  net : ∀ m ∈ s.net, G.Net n m
  dr : ∀ (i : Nat) (p : PR) (d : List UInt8 × Nat), s.ms[i]? = some p → s.ds[i]? = some d → DR (G.PV n i) d.1 d.2 ((p.view (fl i)).pi n)
  ld : ∀ T i, lookN s.ld T = some i ↔ ∃ L, G.LL T = some (i, L)
  dn : ∀ k e, lookN s.dn k = some e → G.DoneAt n k e
  bad : s.bad = false
section
variable {n i : Nat} {G G' : Fa} {p q : PR} {f f' : List PE}
theorem Fa.DoneAt.one (hc : CI n G) {k : Nat} {e e' : PE} (h : G.DoneAt n k e) (h' : G.DoneAt n k e') : e = e' := by
  obtain ⟨h1, T, c, L, kk, h2, h3, h4, h5, h6⟩ := h
  obtain ⟨_, T', c', L', kk', g2, g3, g4, g5, g6⟩ := h'
  rcases Nat.lt_trichotomy T T' with h | h | h
  · have hp := hc.P T T' c L c' L' kk h h2 g2 h3 h4.chb
    have : L'[k - 1]? = some e := pre_get hp (by rw [List.getElem?_take, if_pos (by omega)]; exact h6)
    rw [g6] at this
    exact (Option.some.inj this).symm
  · subst h
    rw [h2] at g2
    cases g2
    rw [h6] at g6
    exact Option.some.inj g6
  · have hp := hc.P T' T c' L' c L kk' h g2 h2 g3 g4.chb
    have : L[k - 1]? = some e' := pre_get hp (by rw [List.getElem?_take, if_pos (by omega)]; exact g6)
    rw [h6] at this
    exact Option.some.inj this
theorem Fa.le.done (hle : Fa.le n i G G') {k : Nat} {e : PE} (h : G.DoneAt n k e) : G'.DoneAt n k e := by
  obtain ⟨h1, T, c, L, kk, h2, h3, h4, h5, h6⟩ := h
  obtain ⟨L', h7, h8⟩ := hle.LL _ _ _ h2
  exact ⟨h1, T, c, L', kk, h7, h3.pre h8, hle.chn h4, h5, pre_get h8 h6⟩
theorem MI.doneAt (h : MI n G i p f) {k : Nat} (h1 : 1 ≤ k) (h2 : k ≤ p.cm) : ∃ e, f[k - 1]? = some e ∧ e.ix = k ∧ G.DoneAt n k e := by
  have hcm := h.cmle
  have he : f[k - 1]? = some f[k - 1] := List.getElem?_eq_getElem (by omega)
  refine ⟨_, he, ?_, h1, ?_⟩
  · have := (h.fix _ _ he).1
    omega
  · rcases h.com with h0 | ⟨T0, c0, L, kk, g1, g2, g3, g4, g5⟩
    · have : min p.cm f.length = 0 := by rw [← List.length_take, h0]; rfl
      omega
    · have hlen := g5.length_le
      rw [List.length_take, List.length_take] at hlen
      refine ⟨T0, c0, L, kk, g2, g3, g4, by omega, ?_⟩
      have h3 := pre_get g5 (k := k - 1) (e := f[k - 1]) (by rw [List.getElem?_take, if_pos (by omega)]; exact he)
      rw [List.getElem?_take] at h3
      split at h3
      · exact h3
      · cases h3
theorem cmtF_ok {P : Nat → PE → Prop} (hP : ∀ k e e', P k e → P k e' → e = e') (p : PR) : ∀ (m k : Nat) (dn : List (Nat × PE)), (∀ j, k ≤ j → j < k + m → ∃ e, p.entry j = some e ∧ e.ix = j ∧ P j e) → (∀ j w, lookN dn j = some w → P j w) → (cmtF p m k dn false).2 = false ∧ ∀ j w, lookN (cmtF p m k dn false).1 j = some w → P j w
  | 0, k, dn, h1, h2 => ⟨rfl, h2⟩
  | m + 1, k, dn, h1, h2 => by
    obtain ⟨e, he, hi, hp⟩ := h1 k (Nat.le_refl _) (by omega)
    have hent : p.ent k = e := by unfold PR.ent; rw [he]; rfl
    unfold cmtF
    have hB : cmtB p k dn false = false := by
      unfold cmtB
      rw [hent, he]
      cases hl : lookN dn k with
      | none => simp [hi]
      | some w =>
        have := hP k e w hp (h2 k w hl)
        subst this
        simp [hi, PE.same_self]
    rw [hB, hent]
    refine cmtF_ok hP p m (k + 1) _ (fun j hj hj2 => h1 j (by omega) (by omega)) fun j w hl => ?_
    rw [lookN_put] at hl
    split at hl
    · rename_i e2
      rw [e2, ← Option.some.inj hl]
      exact hp
    · exact h2 j w hl
theorem mem_lookN {α : Type} : ∀ {l : List (Nat × α)} {x : Nat × α}, x ∈ l → ∃ v, lookN l x.1 = some v
  | y :: r, x, h => by
    simp only [lookN]
    by_cases e : y.1 = x.1
    · exact ⟨_, if_pos e⟩
    · rw [if_neg e]
      rcases List.mem_cons.1 h with h | h
      · exact absurd (by rw [h]) e
      · exact mem_lookN h
theorem topOf_ge {α : Type} {l : List (Nat × α)} {T : Nat} {v : α} (h : lookN l T = some v) : T ≤ topOf l := (topOf_le l 0).2 _ (lookN_mem l T v h)
theorem GI.settle {s0 s : PS} {fl : Nat → List PE} (hg : GI n s0 G fl) (hi : i < n) {d : List UInt8 × Nat} (hms : s.ms = s0.ms.set i q) (hds : s.ds = s0.ds.set i d) (hld : s.ld = s0.ld) (hdn : s.dn = s0.dn) (hbad : s.bad = s0.bad) (hk : s.k ≤ 90000) (hsv : q.saveOk = true)
    (hc : CI n G') (hm : MI n G' i q f') (hle : Fa.le n i G G') (hnet : ∀ m ∈ s.net, G'.Net n m) (hgr : ∀ T c L, G'.LL T = some (c, L) → (∃ L0, G.LL T = some (c, L0)) ∨ (q.role = 3 ∧ T = q.term ∧ c = i)) (hlead : q.role = 3 → q.lead = (i : Int))
    (hdr : DR (G'.PV n i) (q.disk d).1 (q.disk d).2 ((q.view f').pi n)) : ∃ s1, s.settle i = some s1 ∧ GI n s1 G' (fun j => if j = i then f' else fl j) ∧ s1.net = s.net ∧ s1.k = s.k + 1 ∧ s1.ms = s.ms.set i q.settled ∧ s1.ds = s.ds.set i (q.disk d) := by
  have hil : i < s0.ms.length := by rw [hg.len]; exact hi
  have hq : s.ms[i]? = some q := by rw [hms, List.getElem?_set, if_pos rfl, if_pos hil]
  have hd : s.ds[i]? = some d := by rw [hds, List.getElem?_set, if_pos rfl, if_pos (by rw [hg.dl]; exact hi)]
  have hlast := hm.last
  -- leaders
  have hl2 : (q.leads i s.ld s.dn s.bad).2 = false := by
    rw [hbad, hg.bad]
    unfold PR.leads
    split
    · rename_i hr
      have hl := (hm.lead hr).1
      have h1 : leadB i q s.ld false = false := by
        unfold leadB
        rw [hlead hr]
        cases hlo : lookN s.ld q.term with
        | none => simp
        | some k =>
          rw [hld] at hlo
          obtain ⟨L, hL⟩ := (hg.ld _ _).1 hlo
          obtain ⟨L', hL', _⟩ := hle.LL _ _ _ hL
          rw [hl] at hL'
          cases hL'
          simp
      dsimp only
      rw [h1]
      unfold overB
      rw [Bool.false_or, Bool.and_eq_false_iff]
      by_cases ht : topOf (putN s.ld q.term i) = q.term
      · right
        rw [List.any_eq_false]
        intro x hx
        obtain ⟨e, he⟩ := mem_lookN hx
        rw [hdn] at he
        obtain ⟨h2, T, c, L, kk, h3, h4, h5, h6, h7⟩ := hg.dn _ _ he
        obtain ⟨L', h8, h9⟩ := hle.LL _ _ _ h3
        have hT : T ≤ q.term := by
          rw [← ht]
          by_cases e : T = q.term
          · rw [ht, e]; exact Nat.le_refl _
          · have h10 : lookN (putN s.ld q.term i) T = some c := by
              rw [lookN_put, if_neg e, hld]
              exact (hg.ld _ _).2 ⟨L, h3⟩
            exact topOf_ge h10
        have hkk : kk ≤ f'.length := by
          rcases Nat.lt_or_ge T q.term with h11 | h11
          · have := hc.P T q.term c L' i f' kk h11 h8 hl (h4.pre h9) (hle.chn h5).chb
            have := this.length_le
            rw [List.length_take] at this
            have := (h4.pre h9).le.2
            omega
          · have : T = q.term := by omega
            subst this
            rw [hl] at h8
            cases h8
            exact (h4.pre h9).le.2
        rw [hlast]
        simp only [decide_eq_true_eq]
        omega
      · left
        exact decide_eq_false ht
    · rfl
  have hld2 : ∀ T j, lookN (q.leads i s.ld s.dn s.bad).1 T = some j ↔ ∃ L, G'.LL T = some (j, L) := by
    intro T j
    have hback : ∀ {c L}, G'.LL T = some (c, L) → ¬ (q.role = 3 ∧ T = q.term) → ∃ L0, G.LL T = some (c, L0) := fun {c L} h hne => (hgr _ _ _ h).resolve_right (fun g => hne ⟨g.1, g.2.1⟩)
    unfold PR.leads
    split
    · rename_i hr
      have hl := (hm.lead hr).1
      dsimp only
      rw [lookN_put]
      by_cases e : T = q.term
      · rw [if_pos e, e, hl]
        constructor
        · intro h
          have h := Option.some.inj h
          exact ⟨f', by rw [h]⟩
        · rintro ⟨L, h⟩
          cases h
          rfl
      · rw [if_neg e, hld]
        constructor
        · intro h
          obtain ⟨L, hL⟩ := (hg.ld _ _).1 h
          obtain ⟨L', hL', _⟩ := hle.LL _ _ _ hL
          exact ⟨L', hL'⟩
        · rintro ⟨L, h⟩
          exact (hg.ld _ _).2 (hback h (fun g => e g.2))
    · rename_i hr
      dsimp only
      rw [hld]
      constructor
      · intro h
        obtain ⟨L, hL⟩ := (hg.ld _ _).1 h
        obtain ⟨L', hL', _⟩ := hle.LL _ _ _ hL
        exact ⟨L', hL'⟩
      · rintro ⟨L, h⟩
        exact (hg.ld _ _).2 (hback h (fun g => hr g.1))
  -- what is committed
  obtain ⟨c1, c2⟩ := cmtF_ok (P := G'.DoneAt n) (fun k e e' h h' => h.one hc h') q (q.cm - q.lix) (q.lix + 1) s.dn (fun j h1 h2 => by
    obtain ⟨e, g1, g2, g3⟩ := hm.doneAt (k := j) (by omega) (by omega)
    refine ⟨e, ?_, g2, g3⟩
    have hcm := hm.cmle
    unfold PR.entry
    rw [if_neg (by omega), hm.lf, List.getElem?_drop, show q.lix + (j - q.lix - 1) = j - 1 by omega]
    exact g1) (fun j w hw => by
    rw [hdn] at hw
    exact hle.done (hg.dn _ _ hw))
  refine ⟨s.settleTo i q d (q.leads i s.ld s.dn s.bad).1 (cmtF q (q.cm - q.lix) (q.lix + 1) s.dn false).1 false, ?_, ?_, rfl, rfl, rfl, rfl⟩
  · unfold PS.settle
    rw [hq, hd]
    dsimp only
    rw [hsv, if_pos (by simpa using hk), frc_eq, hl2, c1]
  · have hms2 : ∀ (j : Nat) (p' : PR), (s.ms.set i q.settled)[j]? = some p' → (j = i ∧ p' = q.settled) ∨ (j ≠ i ∧ s0.ms[j]? = some p') := by
      intro j p' h
      rw [List.getElem?_set] at h
      by_cases e : i = j
      · rw [if_pos e] at h
        split at h
        · exact .inl ⟨e.symm, (Option.some.inj h).symm⟩
        · cases h
      · rw [if_neg e, hms, List.getElem?_set, if_neg e] at h
        exact .inr ⟨fun h => e h.symm, h⟩
    have hjn : ∀ {j : Nat} {p' : PR}, s0.ms[j]? = some p' → j < n := fun {j p'} h => by
      rw [← hg.len]
      rcases Nat.lt_or_ge j s0.ms.length with h1 | h1
      · exact h1
      · rw [List.getElem?_eq_none h1] at h; cases h
    exact {
      len := by show (s.ms.set i q.settled).length = n; rw [List.length_set, hms, List.length_set, hg.len]
      dl := by show (s.ds.set i _).length = n; rw [List.length_set, hds, List.length_set, hg.dl]
      ci := hc
      mi := fun j p' h => by
        rcases hms2 j p' h with ⟨rfl, rfl⟩ | ⟨h1, h2⟩
        · rw [if_pos rfl]
          exact hm.vol q.settled rfl rfl rfl rfl rfl rfl rfl rfl rfl rfl rfl rfl rfl hm.st hm.cand hm.lead
        · rw [if_neg h1]
          exact (hg.mi j p' h2).other hle hg.ci h1 (hjn h2)
      cl := fun j p' h => by
        rcases hms2 j p' h with ⟨rfl, rfl⟩ | ⟨h1, h2⟩
        · exact ⟨rfl, rfl, rfl, hlead⟩
        · exact hg.cl j p' h2
      net := hnet
      dr := fun j p' d' h h' => by
        have h' : (s.ds.set i (q.disk d))[j]? = some d' := h'
        rcases hms2 j p' h with ⟨rfl, rfl⟩ | ⟨h1, h2⟩
        · rw [List.getElem?_set, if_pos rfl] at h'
          split at h'
          · rw [← Option.some.inj h', if_pos rfl]
            exact hdr
          · cases h'
        · rw [List.getElem?_set, if_neg (fun e => h1 e.symm), hds, List.getElem?_set, if_neg (fun e => h1 e.symm)] at h'
          rw [if_neg h1]
          refine (hg.dr j p' d' h2 h').mono fun x hx => ?_
          obtain ⟨v, hv, hvx⟩ := hx
          exact ⟨v, (hle.vwo j v h1).2 hv, hvx⟩
      ld := hld2
      dn := c2
      bad := rfl }
end
end Go.SX
namespace Go.SX
open Go Go.Proofs
set_option maxRecDepth 4000
structure MB (K : Nat) (m : PM) : Prop where
  tm : m.tm ≤ K
  ix : m.ix + m.es.length ≤ K
  es : ∀ e ∈ m.es, e.ix ≤ K ∧ e.data.length ≤ 1
  six : m.six ≤ K
structure Bd (K o : Nat) (p : PR) : Prop where
  tick : p.ticks ≤ K
  term : p.term ≤ K
  vote : -1 ≤ p.vote
  ol : p.out.length ≤ o
  out : ∀ m ∈ p.out, MB (K + 1) m
  nx : p.role = 3 → (∀ i < 7, 1 ≤ p.nx.getD i 0) ∧ p.lead = (p.me : Int)
  nl : p.nx.length = 7
  es : ∀ e ∈ p.l, e.ix ≤ K ∧ e.data.length ≤ 1
structure Lm (K n : Nat) (p : PR) : Prop where
  last : p.last ≤ K
  cm : p.cm ≤ K
  six : p.six ≤ K
  vt : p.voters.1 = 2 ^ n - 1
theorem MB.mono {K K' : Nat} {m : PM} (h : MB K m) (hk : K ≤ K') : MB K' m := ⟨Nat.le_trans h.tm hk, Nat.le_trans h.ix hk, fun e he => ⟨Nat.le_trans (h.es e he).1 hk, (h.es e he).2⟩, Nat.le_trans h.six hk⟩
theorem Bd.mono {K K' o o' : Nat} {p : PR} (h : Bd K o p) (hk : K ≤ K') (ho : o ≤ o') : Bd K' o' p := ⟨Nat.le_trans h.tick hk, Nat.le_trans h.term hk, h.vote, Nat.le_trans h.ol ho, fun m hm => (h.out m hm).mono (Nat.succ_le_succ hk), h.nx, h.nl, fun e he => ⟨Nat.le_trans (h.es e he).1 hk, (h.es e he).2⟩⟩
theorem Lm.mono {K K' n : Nat} {p : PR} (h : Lm K n p) (hk : K ≤ K') : Lm K' n p := ⟨Nat.le_trans h.last hk, Nat.le_trans h.cm hk, Nat.le_trans h.six hk, h.vt⟩
section
variable {K o n : Nat} {p : PR}
theorem Bd.send (h : Bd K o p) (m : PM) (h1 : m.tm ≤ K + 1) (h2 : m.ix + m.es.length ≤ K + 1) (h3 : ∀ e ∈ m.es, e.ix ≤ K + 1 ∧ e.data.length ≤ 1) (h4 : m.six ≤ K + 1) : Bd K (o + 1) (p.send m) where
  tick := h.tick
  term := h.term
  vote := h.vote
  ol := Nat.le_trans (send_len p m) (Nat.succ_le_succ h.ol)
  out q hq := by
    rcases List.mem_append.1 hq with hq | hq
    · have : q ∈ p.out := by
        split at hq
        · exact (List.mem_filter.1 hq).1
        · exact hq
      exact h.out q this
    · rw [List.mem_singleton.1 hq]
      refine ⟨?_, h2, h3, h4⟩
      show (if m.tm = 0 then p.term else m.tm) ≤ _
      have := h.term
      split <;> omega
  nx := h.nx
  nl := h.nl
  es := h.es
theorem Bd.send0 (h : Bd K o p) (kd to : Nat) (ok : Bool) (ix tm : Nat) (h1 : ix ≤ K + 1) (h2 : tm ≤ K + 1) : Bd K (o + 1) (p.send { PM.z with kd := kd, to := to, ok := ok, ix := ix, tm := tm }) := h.send _ h2 h1 (by simp) (by simp)
theorem Bd.feed (h : Bd K o p) (hl : Lm K n p) (i : Nat) : Bd K (o + 1) (p.feed i) := by
  have h1 := hl.last
  have h2 := hl.six
  unfold PR.feed PR.feedM
  split
  · rename_i hok
    have hb := termAt_ok hok
    have hll : p.last = p.lix + p.l.length := rfl
    refine h.send _ (by simp) ?_ ?_ (by simp)
    · show p.nx.getD i 0 - 1 + (fewP (p.from_ (p.nx.getD i 0 - 1 + 1) 16)).length ≤ K + 1
      have h3 := few_len (p.from_ (p.nx.getD i 0 - 1 + 1) 16)
      have h4 : (p.from_ (p.nx.getD i 0 - 1 + 1) 16).length ≤ p.last - (p.nx.getD i 0 - 1) := by
        unfold PR.from_
        split
        · simp
        · rw [List.length_take, List.length_drop]
          omega
      omega
    · intro e he
      exact ⟨Nat.le_succ_of_le (h.es e (from_mem (few_mem he))).1, (h.es e (from_mem (few_mem he))).2⟩
  · exact h.send _ (by simp) (by simp) (by simp) (Nat.le_succ_of_le h2)
theorem feed_lm (hl : Lm K n p) (i : Nat) : Lm K n (p.feed i) := ⟨hl.last, hl.cm, hl.six, hl.vt⟩
theorem feeds_bd : ∀ (l : List Nat) {o : Nat} {p : PR}, Bd K o p → Lm K n p → Bd K (o + l.length) (l.foldl PR.feed p)
  | [], o, p, h, _ => h
  | j :: r, o, p, h, hl => by
    have := feeds_bd r (h.feed hl j) (feed_lm hl j)
    rw [List.foldl_cons, List.length_cons, show o + (r.length + 1) = o + 1 + r.length by omega]
    exact this
theorem others3 : ∀ n : Nat, n ≤ 3 → ((List.range 7).filter fun i => (2 ^ n - 1).testBit i).length ≤ 3 := by decide
theorem others_le (hl : Lm K n p) (hn : n ≤ 3) : p.others.length ≤ 3 := by
  refine Nat.le_trans ?_ (others3 n hn)
  unfold PR.others
  refine (List.Sublist.length_le ?_)
  have : (fun i => decide (i ≠ p.me) && p.votes i) = fun i => decide (i ≠ p.me) && (fun i => (2 ^ n - 1).testBit i) i := by
    funext i
    unfold PR.votes
    rw [hl.vt]
  rw [this, ← List.filter_filter]
  exact List.filter_sublist
theorem Bd.tell (h : Bd K o p) (hl : Lm K n p) (hn : n ≤ 3) : Bd K (o + 3) p.tell := (feeds_bd p.others h hl).mono (Nat.le_refl _) (by have := others_le hl hn; omega)
theorem Bd.asks (h : Bd K o p) (hl : Lm K n p) (hn : n ≤ 3) : Bd K (o + 3) p.asks := by
  have hol := others_le hl hn
  unfold PR.asks
  generalize p.others = l at hol ⊢
  have hg : ∀ (l : List Nat) {o : Nat} {p : PR}, Bd K o p → Lm K n p → Bd K (o + l.length) (l.foldl (fun q i => q.send (q.askM i)) p) := by
    intro l
    induction l with
    | nil => intro o p h _; exact h
    | cons j r ih =>
      intro o p h hl
      rw [List.foldl_cons, List.length_cons, show o + (r.length + 1) = o + 1 + r.length by omega]
      exact ih (h.send (p.askM j) (by show p.term + 1 ≤ K + 1; have := h.term; omega) (by show p.last + 0 ≤ K + 1; have := hl.last; omega) (by simp [PR.askM]) (by simp [PR.askM])) ⟨hl.last, hl.cm, hl.six, hl.vt⟩
  exact (hg l h hl).mono (Nat.le_refl _) (by omega)
theorem Bd.canv (h : Bd K o p) (hl : Lm K n p) (hn : n ≤ 3) : Bd K (o + 3) p.canv := by
  have hol := others_le hl hn
  unfold PR.canv
  generalize p.others = l at hol ⊢
  have hg : ∀ (l : List Nat) {o : Nat} {p : PR}, Bd K o p → Lm K n p → Bd K (o + l.length) (l.foldl (fun q i => q.send (q.canM i)) p) := by
    intro l
    induction l with
    | nil => intro o p h _; exact h
    | cons j r ih =>
      intro o p h hl
      rw [List.foldl_cons, List.length_cons, show o + (r.length + 1) = o + 1 + r.length by omega]
      exact ih (h.send (p.canM j) (by simp [PR.canM]) (by show p.last + 0 ≤ K + 1; have := hl.last; omega) (by simp [PR.canM]) (by simp [PR.canM])) ⟨hl.last, hl.cm, hl.six, hl.vt⟩
  exact (hg l h hl).mono (Nat.le_refl _) (by omega)
theorem Bd.rest (h : Bd K o p) : Bd K o p.rest := ⟨Nat.zero_le _, h.term, h.vote, h.ol, h.out, h.nx, h.nl, h.es⟩
theorem Lm.rest (h : Lm K n p) : Lm K n p.rest := ⟨h.last, h.cm, h.six, h.vt⟩
theorem Bd.follow (h : Bd K o p) {t : Nat} (ht : t ≤ K) (ld : Int) : Bd K o (p.follow t ld) := by
  unfold PR.follow
  split
  · exact ⟨h.tick, ht, by simp, h.ol, h.out, fun e => by simp at e, h.nl, h.es⟩
  · exact ⟨h.tick, h.term, h.vote, h.ol, h.out, fun e => by simp at e, h.nl, h.es⟩
theorem Lm.follow (h : Lm K n p) (t : Nat) (ld : Int) : Lm K n (p.follow t ld) := by
  unfold PR.follow
  split <;> exact ⟨h.last, h.cm, h.six, h.vt⟩
theorem Bd.camp (h : Bd K o p) (hl : Lm K n p) (hn : n ≤ 3) (ht : p.term + 1 ≤ K) : Bd K (o + 3) p.camp0.canv := by
  have h1 : Bd K o p.camp0 := ⟨Nat.zero_le _, ht, by show (-1 : Int) ≤ (p.me : Int); omega, h.ol, h.out, fun e => by have e : (2 : Nat) = 3 := e; omega, h.nl, h.es⟩
  exact h1.canv ⟨hl.last, hl.cm, hl.six, hl.vt⟩ hn
theorem Bd.put (h : Bd K o p) (hl : p.last + 1 ≤ K) (kd : Nat) (data : List UInt8) (hdl : data.length ≤ 1) : Bd K o (p.put kd data) :=
  ⟨h.tick, h.term, h.vote, h.ol, h.out, h.nx, h.nl, fun e he => by
    have he : e ∈ p.l ++ [_] := he
    rcases List.mem_append.1 he with he | he
    · exact h.es e he
    · rw [List.mem_singleton.1 he]
      exact ⟨hl, hdl⟩⟩
theorem put_lm (h : Lm K n p) (hl : p.last + 1 ≤ K) (data : List UInt8) : Lm K n (p.put 0 data) := by
  refine ⟨?_, h.cm, h.six, ?_⟩
  · show p.lix + (p.l ++ [_]).length ≤ K
    have : p.last = p.lix + p.l.length := rfl
    rw [List.length_append, List.length_singleton]
    omega
  · show ((p.l ++ [(⟨p.lix + p.l.length + 1, p.term, 0, data⟩ : PE)]).foldl (fun (q : Nat × Nat) (e : PE) => if e.kd = 1 then (maskB e.data, e.ix) else q) (p.lvt, p.lix)).1 = _
    rw [List.foldl_append]
    exact h.vt
theorem getD_rep (v : Nat) : ∀ i < 7, (List.replicate 7 v).getD i 0 = v := by
  intro i hi
  rw [List.getD_eq_getElem?_getD, List.getElem?_replicate, if_pos hi]
  rfl
theorem Bd.lead_ (h : Bd K o p) (hl : Lm K n p) (hn : n ≤ 3) (h1 : p.last + 1 ≤ K) : Bd K (o + 3) p.lead_ := by
  have h2 : Bd K o p.lead0 := ⟨Nat.zero_le _, h.term, h.vote, h.ol, h.out, fun _ => ⟨fun i hi => by show 1 ≤ (List.replicate 7 (p.last + 1)).getD i 0; rw [getD_rep _ i hi]; omega, rfl⟩, by show (List.replicate 7 _).length = 7; simp, h.es⟩
  exact (h2.put h1 0 [] (by simp)).tell (put_lm (p := p.lead0) ⟨hl.last, hl.cm, hl.six, hl.vt⟩ h1 []) hn
theorem adv_bd (h : Bd K o p) : ∀ x, Bd K o (p.adv x)
  | 0 => h
  | x + 1 => by
    unfold PR.adv
    split
    · exact h
    · split
      · exact h
      · split
        · unfold PR.commitAt
          split
          · exact ⟨h.tick, h.term, h.vote, h.ol, h.out, h.nx, h.nl, h.es⟩
          · split
            · exact ⟨Nat.zero_le _, h.term, h.vote, h.ol, h.out, fun e => by have e : (0 : Nat) = 3 := e; omega, h.nl, h.es⟩
            · exact ⟨h.tick, h.term, h.vote, h.ol, h.out, h.nx, h.nl, h.es⟩
        · exact adv_bd h x
theorem getD_set1 (l : List Nat) (k v : Nat) (h : ∀ i < 7, 1 ≤ l.getD i 0) (hv : 1 ≤ v) : ∀ i < 7, 1 ≤ (l.set k v).getD i 0 := by
  intro i hi
  rcases getD_set' l k v i with e | ⟨_, e⟩
  · rw [e]; exact h i hi
  · rw [e]; exact hv
theorem Bd.take (h : Bd K o p) (hl : Lm K n p) {m : PM} (hm : MB (K + 1) m) (hmk : ∀ e ∈ m.es, e.ix ≤ K ∧ e.data.length ≤ 1) : Bd K (o + 1) (p.take m) := by
  have h1 := hl.last
  have hll : p.last = p.lix + p.l.length := rfl
  have hix := hm.ix
  unfold PR.take
  split
  · exact h.send0 6 m.fr true p.lix 0 (by omega) (by omega)
  · split
    · refine h.send0 6 m.fr false _ 0 ?_ (by omega)
      split <;> omega
    · refine Bd.send0 (p := p.take1 m) ?_ 6 m.fr true (m.ix + m.es.length) 0 hix (by omega)
      unfold PR.take1
      dsimp only
      have hes : ∀ e ∈ (p.mg m.es).2, e.ix ≤ K ∧ e.data.length ≤ 1 := by
        have : ∀ es : List PE, (∀ e ∈ es, e.ix ≤ K ∧ e.data.length ≤ 1) → ∀ e ∈ (p.mg es).2, e.ix ≤ K ∧ e.data.length ≤ 1 := by
          intro es
          induction es with
          | nil => intro _ e he; exact h.es e he
          | cons x r ih =>
            intro hx e he
            have ih := ih (fun e he => hx e (List.mem_cons_of_mem _ he))
            unfold PR.mg at he
            split at he
            · exact ih e he
            · split at he
              · exact ih e he
              · split at he
                · exact h.es e he
                · rcases List.mem_append.1 he with he | he
                  · exact h.es e (List.mem_of_mem_take he)
                  · exact hx e he
        exact this m.es hmk
      split <;> exact ⟨h.tick, h.term, h.vote, h.ol, h.out, h.nx, h.nl, hes⟩
theorem Bd.install (h : Bd K o p) (hl : Lm K n p) {m : PM} (hm : MB (K + 1) m) : Bd K (o + 1) (p.install m) := by
  have h1 := hl.cm
  have h2 := hm.six
  unfold PR.install
  refine Bd.send0 (p := p.install1 m) ?_ 6 m.fr true (p.install1 m).cm 0 ?_ (by omega)
  · unfold PR.install1
    split
    · split
      · exact ⟨h.tick, h.term, h.vote, h.ol, h.out, h.nx, h.nl, h.es⟩
      · exact ⟨h.tick, h.term, h.vote, h.ol, h.out, h.nx, h.nl, fun e he => (List.not_mem_nil he).elim⟩
    · exact h
  · unfold PR.install1
    split
    · split <;> exact h2
    · omega
theorem Bd.acked (h : Bd K o p) (hl : Lm K n p) (m : PM) : Bd K (o + 1) (p.acked m) := by
  unfold PR.acked
  split
  · exact h.mono (Nat.le_refl _) (by omega)
  · rename_i hr
    have hr : p.role = 3 := by omega
    have hnx := h.nx hr
    split
    · split
      · refine Bd.feed (n := n) (p := { p with nx := p.nx.set m.fr (p.ackN m) }) ?_ ⟨hl.last, hl.cm, hl.six, hl.vt⟩ _
        exact ⟨h.tick, h.term, h.vote, h.ol, h.out, fun _ => ⟨getD_set1 _ _ _ hnx.1 (by unfold PR.ackN; omega), hnx.2⟩, by simp [h.nl], h.es⟩
      · exact h.mono (Nat.le_refl _) (by omega)
    · split
      · exact h.mono (Nat.le_refl _) (by omega)
      · have h1 : Bd K o { p with mt := p.mt.set m.fr (max (p.mt.getD m.fr 0) m.ix), nx := p.nx.set m.fr (max (p.nx.getD m.fr 0) (max (p.mt.getD m.fr 0) m.ix + 1)) } :=
          ⟨h.tick, h.term, h.vote, h.ol, h.out, fun _ => ⟨getD_set1 _ _ _ hnx.1 (by omega), hnx.2⟩, by simp [h.nl], h.es⟩
        have h2 : Bd K o (p.ack1 m) := adv_bd h1 _
        split
        · have hadv : ∀ (q : PR) x, (q.adv x).l = q.l ∧ (q.adv x).lix = q.lix ∧ (q.adv x).six = q.six ∧ (q.adv x).lvt = q.lvt := by
            intro q x
            induction x with
            | zero => exact ⟨rfl, rfl, rfl, rfl⟩
            | succ x ih =>
              unfold PR.adv
              split
              · exact ⟨rfl, rfl, rfl, rfl⟩
              · split
                · exact ⟨rfl, rfl, rfl, rfl⟩
                · split
                  · unfold PR.commitAt
                    split
                    · exact ⟨rfl, rfl, rfl, rfl⟩
                    · split <;> exact ⟨rfl, rfl, rfl, rfl⟩
                  · exact ih
          obtain ⟨a1, a2, a3, a4⟩ := hadv { p with mt := p.mt.set m.fr (max (p.mt.getD m.fr 0) m.ix), nx := p.nx.set m.fr (max (p.nx.getD m.fr 0) (max (p.mt.getD m.fr 0) m.ix + 1)) } ({ p with mt := p.mt.set m.fr (max (p.mt.getD m.fr 0) m.ix), nx := p.nx.set m.fr (max (p.nx.getD m.fr 0) (max (p.mt.getD m.fr 0) m.ix + 1)) } : PR).last
          have b1 : (p.ack1 m).l = p.l := a1
          have b2 : (p.ack1 m).lix = p.lix := a2
          have b3 : (p.ack1 m).six = p.six := a3
          have b4 : (p.ack1 m).lvt = p.lvt := a4
          have hl2 : Lm K n ({ p.ack1 m with cm := 0 } : PR) := by
            refine ⟨?_, Nat.zero_le _, ?_, ?_⟩
            · show (p.ack1 m).lix + (p.ack1 m).l.length ≤ K
              rw [b1, b2]
              exact hl.last
            · show (p.ack1 m).six ≤ K
              rw [b3]
              exact hl.six
            · show ((p.ack1 m).l.foldl (fun q e => if e.kd = 1 then (maskB e.data, e.ix) else q) ((p.ack1 m).lvt, (p.ack1 m).lix)).1 = _
              rw [b1, b2, b4]
              exact hl.vt
          -- feed looks at nothing that advance has changed but commit
          have h3 : Bd K (o + 1) ((p.ack1 m).feed m.fr) := by
            unfold PR.feed PR.feedM
            split
            · rename_i hok
              have hb := termAt_ok hok
              have hll : p.last = p.lix + p.l.length := rfl
              have hla := hl.last
              rw [b1, b2] at hb
              refine h2.send _ (by simp) ?_ ?_ (by simp)
              · show (p.ack1 m).nx.getD m.fr 0 - 1 + (fewP ((p.ack1 m).from_ ((p.ack1 m).nx.getD m.fr 0 - 1 + 1) 16)).length ≤ K + 1
                have h3 := few_len ((p.ack1 m).from_ ((p.ack1 m).nx.getD m.fr 0 - 1 + 1) 16)
                have h4 : ((p.ack1 m).from_ ((p.ack1 m).nx.getD m.fr 0 - 1 + 1) 16).length ≤ p.last - ((p.ack1 m).nx.getD m.fr 0 - 1) := by
                  unfold PR.from_
                  rw [b1, b2]
                  split
                  · simp
                  · rw [List.length_take, List.length_drop]
                    omega
                omega
              · intro e he
                exact ⟨Nat.le_succ_of_le (h2.es e (from_mem (few_mem he))).1, (h2.es e (from_mem (few_mem he))).2⟩
            · refine h2.send _ (by simp) (by simp) (by simp) ?_
              show (p.ack1 m).six ≤ K + 1
              rw [b3]
              exact Nat.le_succ_of_le hl.six
          exact h3
        · exact h2.mono (Nat.le_refl _) (by omega)
theorem Bd.asked (h : Bd K o p) (m : PM) : Bd K (o + 1) (p.asked m) := by
  unfold PR.asked
  refine Bd.send0 ?_ 4 m.fr (p.askOk m) 0 0 (by omega) (by omega)
  by_cases hok : p.askOk m = true
  · rw [if_pos hok]
    unfold PR.voted
    rw [if_pos hok]
    split
    · refine Bd.rest ⟨h.tick, h.term, ?_, h.ol, h.out, h.nx, h.nl, h.es⟩
      show (-1 : Int) ≤ (m.fr : Int)
      omega
    · exact h.rest
  · rw [if_neg hok]
    exact h
theorem Bd.pre (h : Bd K o p) {m : PM} (hm : m.tm ≤ K + 1) : Bd K (o + 1) (p.pre m) := by
  unfold PR.pre
  split
  · exact h.send0 2 m.fr true 0 m.tm (by omega) hm
  · exact h.send0 2 m.fr false 0 0 (by omega) (by omega)
theorem Bd.late (h : Bd K o p) (m : PM) : Bd K (o + 1) (p.late m) := by
  unfold PR.late
  split
  · exact h.send0 6 m.fr false 0 0 (by omega) (by omega)
  · split
    · exact h.send0 4 m.fr false 0 0 (by omega) (by omega)
    · exact h.mono (Nat.le_refl _) (by omega)
theorem Bd.yes (h : Bd K o p) (j : Nat) : Bd K o (p.addYes j) := ⟨h.tick, h.term, h.vote, h.ol, h.out, h.nx, h.nl, h.es⟩
theorem Bd.step2 (h : Bd K o p) (hl : Lm K n p) (hn : n ≤ 3) (h1 : p.last + 1 ≤ K) {m : PM} (hm : MB (K + 1) m) (htm : m.tm ≤ K) (hmk : ∀ e ∈ m.es, e.ix ≤ K ∧ e.data.length ≤ 1) : Bd K (o + 3) (p.step2 m) := by
  unfold PR.step2
  split
  · exact (h.asked m).mono (Nat.le_refl _) (by omega)
  · split
    · split
      · split
        · exact (h.yes m.fr).lead_ (n := n) ⟨hl.last, hl.cm, hl.six, hl.vt⟩ hn h1
        · exact (h.yes m.fr).mono (Nat.le_refl _) (by omega)
      · exact h.mono (Nat.le_refl _) (by omega)
    · split
      · exact ((h.follow htm m.fr).rest.take (hl.follow m.tm m.fr).rest hm hmk).mono (Nat.le_refl _) (by omega)
      · split
        · exact ((h.follow htm m.fr).rest.install (hl.follow m.tm m.fr).rest hm).mono (Nat.le_refl _) (by omega)
        · split
          · exact (h.acked hl m).mono (Nat.le_refl _) (by omega)
          · exact h.mono (Nat.le_refl _) (by omega)
theorem follow_last (p : PR) (t : Nat) (ld : Int) : (p.follow t ld).last = p.last := by
  unfold PR.follow
  split <;> rfl
theorem Bd.step (h : Bd K o p) (hl : Lm K n p) (hn : n = 2 ∨ n = 3) (hnm : ∀ Q, Q.testBit p.me = true → (∀ j, j ≠ p.me → Q.testBit j = false) → ¬ p.most Q = true) {m : PM} (hm : MB (K + 1) m) : Bd (K + 1) (o + 3) (p.step m) := by
  have hla := hl.last
  have h' := h.mono (Nat.le_succ K) (Nat.le_refl o)
  have hl' := hl.mono (Nat.le_succ K)
  have hm' := hm.mono (Nat.le_succ (K + 1))
  have hn3 : n ≤ 3 := by omega
  unfold PR.step
  split
  · exact h'.mono (Nat.le_refl _) (by omega)
  · unfold PR.step1
    split
    · exact (h'.pre (by have := hm.tm; omega)).mono (Nat.le_refl _) (by omega)
    · split
      · split
        · split
          · have hq : ((p.addYes m.fr).camp0.canv).yes = 2 ^ p.me ∧ ((p.addYes m.fr).camp0.canv).voters = p.voters := by
              obtain ⟨o', ho⟩ := sends_but PR.canM (p.addYes m.fr).camp0.others (p.addYes m.fr).camp0
              have ho : (p.addYes m.fr).camp0.canv = { (p.addYes m.fr).camp0 with out := o' } := ho
              rw [ho]
              exact ⟨rfl, rfl⟩
            unfold PR.campaign
            rw [if_neg]
            · exact (h'.yes m.fr).camp (n := n) ⟨hl'.last, hl'.cm, hl'.six, hl'.vt⟩ hn3 (by show p.term + 1 ≤ K + 1; have := h.term; omega)
            · have := hnm (2 ^ p.me) (by rw [Nat.testBit_two_pow]; simp) (fun j hj => by rw [Nat.testBit_two_pow]; simpa using fun e => hj e.symm)
              unfold PR.most at this ⊢
              rw [hq.1, hq.2]
              exact this
          · exact (h'.yes m.fr).mono (Nat.le_refl _) (by omega)
        · exact h'.mono (Nat.le_refl _) (by omega)
      · split
        · exact (h'.follow hm.tm (-1)).step2 (hl'.follow m.tm (-1)) hn3 (by rw [follow_last]; omega) hm' hm.tm (fun e he => hm.es e he)
        · split
          · exact (h'.late m).mono (Nat.le_refl _) (by omega)
          · exact h'.step2 hl' hn3 (by omega) hm' hm.tm (fun e he => hm.es e he)
end
end Go.SX
namespace Go.SX
open Go Go.Proofs
set_option maxRecDepth 4000
def PR.pot (p : PR) : Nat := if p.role = 1 ∨ p.role = 2 then 1 else 0
def PS.pots (s : PS) : Nat := (s.ms.map PR.pot).sum
theorem sum_set : ∀ (l : List PR) (i : Nat) (p q : PR), l[i]? = some p → ((l.set i q).map PR.pot).sum + p.pot = (l.map PR.pot).sum + q.pot
  | [], i, p, q, h => by simp at h
  | x :: r, 0, p, q, h => by
    have h : x = p := by simpa using h
    subst h
    simp only [List.set_cons_zero, List.map_cons, List.sum_cons]
    omega
  | x :: r, i + 1, p, q, h => by
    have := sum_set r i p q (by simpa using h)
    simp only [List.set_cons_succ, List.map_cons, List.sum_cons]
    omega
theorem setSame {α : Type} {l : List α} {i : Nat} {x : α} (h : l[i]? = some x) : l.set i x = l := by
  apply List.ext_getElem?
  intro j
  rw [List.getElem?_set]
  split
  · rename_i hij
    subst hij
    split
    · exact h.symm
    · rename_i hn
      rw [List.getElem?_eq_none (by omega)] at h
      cases h
  · rfl
theorem pot_le (p : PR) : p.pot ≤ 1 := by unfold PR.pot; split <;> omega
theorem pot_3 {p : PR} (h : p.role = 3) : p.pot = 0 := by unfold PR.pot; rw [if_neg (by omega)]
theorem pot_2 {p : PR} (h : p.role = 2) : p.pot = 1 := by unfold PR.pot; rw [if_pos (by omega)]
theorem adv_role (p : PR) : ∀ x, (p.adv x).role = p.role ∨ (p.adv x).role = 0
  | 0 => .inl rfl
  | x + 1 => by
    unfold PR.adv
    split
    · exact .inl rfl
    · split
      · exact .inl rfl
      · split
        · unfold PR.commitAt
          split
          · exact .inl rfl
          · split
            · exact .inr rfl
            · exact .inl rfl
        · exact adv_role p x
theorem tell_role (p : PR) : p.tell.role = p.role := by
  obtain ⟨o, h⟩ := tell_but p
  rw [h]
theorem lead_role (p : PR) : p.lead_.role = 3 := by
  unfold PR.lead_
  rw [tell_role]
  rfl
theorem asked_role (p : PR) (m : PM) : (p.asked m).role = p.role := by
  unfold PR.asked
  by_cases h : p.askOk m = true
  · rw [if_pos h]
    unfold PR.voted
    rw [if_pos h]
    split <;> rfl
  · rw [if_neg h]
    rfl
theorem acked_role (p : PR) (m : PM) : (p.acked m).role = p.role ∨ (p.acked m).role = 0 := by
  unfold PR.acked
  split
  · exact .inl rfl
  · split
    · split <;> exact .inl rfl
    · split
      · exact .inl rfl
      · have h1 : (p.ack1 m).role = p.role ∨ (p.ack1 m).role = 0 := adv_role _ _
        split
        · exact h1
        · exact h1
theorem take_role (p : PR) (m : PM) : (p.take m).role = p.role := by
  unfold PR.take
  split
  · rfl
  · split
    · rfl
    · show (p.take1 m).role = p.role
      unfold PR.take1
      dsimp only
      split <;> rfl
theorem install_role (p : PR) (m : PM) : (p.install m).role = p.role := by
  show (p.install1 m).role = p.role
  unfold PR.install1
  split
  · split <;> rfl
  · rfl
theorem step2_role (p : PR) (m : PM) : ((p.step2 m).role = 1 ∨ (p.step2 m).role = 2) → p.role = (p.step2 m).role := by
  unfold PR.step2
  split
  · rw [asked_role]; exact fun _ => rfl
  · split
    · split
      · split
        · rw [lead_role]; omega
        · exact fun _ => rfl
      · exact fun _ => rfl
    · split
      · rw [take_role]
        intro h
        have h : (p.follow m.tm m.fr).role = 1 ∨ (p.follow m.tm m.fr).role = 2 := h
        rw [(follow_keep p m.tm m.fr).2.2.2.2.1] at h
        omega
      · split
        · rw [install_role]
          intro h
          have h : (p.follow m.tm m.fr).role = 1 ∨ (p.follow m.tm m.fr).role = 2 := h
          rw [(follow_keep p m.tm m.fr).2.2.2.2.1] at h
          omega
        · split
          · rcases acked_role p m with h | h
            · rw [h]; exact fun _ => rfl
            · rw [h]; omega
          · exact fun _ => rfl
theorem step_pot (p : PR) (m : PM) : (p.step m).pot ≤ p.pot := by
  have key : ((p.step m).role = 1 ∨ (p.step m).role = 2) → (p.role = 1 ∨ p.role = 2) := by
    unfold PR.step
    split
    · exact id
    · unfold PR.step1
      split
      · unfold PR.pre
        split <;> exact id
      · split
        · split
          · rename_i h1
            intro _
            exact .inl h1.1
          · exact id
        · split
          · intro h
            have h2 := step2_role (p.follow m.tm (-1)) m h
            rw [(follow_keep p m.tm (-1)).2.2.2.2.1] at h2
            omega
          · split
            · unfold PR.late
              split
              · exact id
              · split <;> exact id
            · intro h
              have h2 := step2_role p m h
              omega
  by_cases h : (p.step m).role = 1 ∨ (p.step m).role = 2
  · unfold PR.pot
    rw [if_pos h, if_pos (key h)]
    exact Nat.le_refl _
  · have : (p.step m).pot = 0 := by unfold PR.pot; rw [if_neg h]
    omega
structure BI (s : PS) (G : Fa) (E : Nat) : Prop where
  bd : ∀ (i : Nat) (p : PR), s.ms[i]? = some p → Bd s.k (3 * s.k) p
  net : ∀ m ∈ s.net, MB (s.k + 1) m
  nl : s.net.length ≤ 300
  ll : ∀ T c L, G.LL T = some (c, L) → L.length + s.pots ≤ E ∧ ∀ e ∈ L, e.data.length ≤ 1
  pt : s.pots ≤ E
  Ek : E ≤ s.k
  ds : ∀ (i : Nat) (d : List UInt8 × Nat), s.ds[i]? = some d → d.1.length ≤ 40000 * (s.k + 1) + 2000000
section
variable {n i : Nat} {G G' : Fa} {p q : PR} {f f' : List PE} {s : PS} {fl : Nat → List PE} {E E' : Nat}
theorem Good.len {l : List PE} (h : Good G.LL l) {B : Nat} (hB : ∀ T c L, G.LL T = some (c, L) → L.length ≤ B) : l.length ≤ B := by
  rcases Nat.eq_zero_or_pos l.length with h0 | h0
  · omega
  · obtain ⟨c, L, h1, h2⟩ := h (l.length - 1) _ (List.getElem?_eq_getElem (by omega))
    have h3 := h2.length_le
    rw [show l.length - 1 + 1 = l.length by omega, List.take_length] at h3
    have := hB _ _ _ h1
    omega
theorem Good.mem {l : List PE} (h : Good G.LL l) {e : PE} (he : e ∈ l) : ∃ c L, G.LL e.tm = some (c, L) ∧ e ∈ L := by
  obtain ⟨k, hk⟩ := List.mem_iff_getElem?.1 he
  obtain ⟨c, L, h1, h2⟩ := h k e hk
  refine ⟨c, L, h1, List.mem_of_getElem? (pre_get h2 (k := k) ?_)⟩
  rw [List.getElem?_take, if_pos (by omega)]
  exact hk
theorem entsB_len1 : ∀ l : List PE, (∀ e ∈ l, e.data.length ≤ 1) → (entsB l).length ≤ 31 * l.length
  | [], _ => by simp [entsB]
  | e :: r, h => by
    have h1 := h e (List.mem_cons_self ..)
    have h2 := entsB_len1 r fun x hx => h x (List.mem_cons_of_mem _ hx)
    have h3 : (entsB (e :: r)).length = (recB 2 (entP e.ix e.tm e.kd e.data)).length + (entsB r).length := by simp [entsB, PE.bs]
    rw [h3, recB_length, entP_length, List.length_cons]
    omega
theorem disk_len (h : Shp n p f) (hE : f.length ≤ 1000) (hd : ∀ e ∈ f, e.data.length ≤ 1) (hs : p.sd.length ≤ 500000) (d : List UInt8 × Nat) (B : Nat) (hB1 : d.1.length + 40000 ≤ B) (hB2 : 2000000 ≤ B) : (p.disk d).1.length ≤ B := by
  have hl : ∀ e ∈ p.l, e.data.length ≤ 1 := fun e he => hd e (by rw [h.lf] at he; exact List.mem_of_mem_drop he)
  have hll : p.l.length ≤ 1000 := by rw [h.lf, List.length_drop]; omega
  unfold PR.disk
  split
  · rw [h.image, h.pi]
    unfold PI.whole snB saveB
    dsimp only
    have h1 := entsB_len1 p.l hl
    have h2 := hdrB_le true p.term p.vote
    simp only [List.length_append]
    split
    · rw [recB_length, snapP_length]
      omega
    · simp only [List.length_nil]
      omega
  · split
    · dsimp only
      unfold saveB
      have hse : p.saveE.length ≤ 1000 ∧ ∀ e ∈ p.saveE, e.data.length ≤ 1 := by
        unfold PR.saveE
        split
        · unfold PR.from_
          split
          · exact ⟨Nat.zero_le _, fun e he => (List.not_mem_nil he).elim⟩
          · exact ⟨by rw [List.length_take, List.length_drop]; omega, fun e he => hl e (List.mem_of_mem_drop (List.mem_of_mem_take he))⟩
        · exact ⟨Nat.zero_le _, fun e he => (List.not_mem_nil he).elim⟩
      have h1 := entsB_len1 _ hse.2
      have h2 := hdrB_le p.chg p.term p.vote
      simp only [List.length_append]
      omega
    · omega
theorem GI.op (hn : n = 2 ∨ n = 3) (hg : GI n s G fl) (hb : BI s G E) (hp : s.ms[i]? = some p) {r : Nat} (hup : Up n i r G p (fl i) q) (hq : Bd (s.k + 1) (3 * s.k + 3) q) (hE : E ≤ E') (hE' : E' ≤ s.k + 1) (hE2 : E' ≤ 1000) (hk : s.k ≤ 90000)
    (hpot : q.pot + E ≤ p.pot + E') (hgrow : p.role = r → q.role = 3 → 1 + E ≤ p.pot + E') :
    ∃ s1, ({ s with ms := s.ms.set i q } : PS).settle i = some s1 ∧ s1.k = s.k + 1 ∧ s1.net = s.net ∧ ∃ G' fl', GI n s1 G' fl' ∧ BI s1 G' E' := by
  have hi : i < n := by
    rw [← hg.len]
    rcases Nat.lt_or_ge i s.ms.length with h | h
    · exact h
    · rw [List.getElem?_eq_none h] at hp; cases hp
  obtain ⟨G', f', hc, hm, hle, hvw, hpt, hgr⟩ := hup
  have hmi := hg.mi i p hp
  obtain ⟨k1, k2, k3, k4⟩ := hg.cl i p hp
  obtain ⟨d, hd⟩ : ∃ d, s.ds[i]? = some d := ⟨s.ds[i]'(by rw [hg.dl]; exact hi), List.getElem?_eq_getElem _⟩
  have hsum := sum_set s.ms i p q hp
  have hpots : s.pots = (s.ms.map PR.pot).sum := rfl
  -- logs of leaders
  have hfl : (fl i).length + s.pots ≤ E := by
    have := (hmi.goodF hg.ci hi).1.len (B := E - s.pots) (fun T c L hL => by have := (hb.ll T c L hL).1; omega)
    have := hb.pt
    omega
  have hfd : ∀ e ∈ fl i, e.data.length ≤ 1 := fun e he => by
    obtain ⟨c, L, h1, h2⟩ := (hmi.goodF hg.ci hi).1.mem he
    exact (hb.ll _ _ _ h1).2 e h2
  have hLL : ∀ T c L, G'.LL T = some (c, L) → L.length + ((s.ms.set i q).map PR.pot).sum ≤ E' ∧ ∀ e ∈ L, e.data.length ≤ 1 := by
    intro T c L hL
    rcases hgr with e | ⟨g1, g2, g0, g3, g4⟩
    · rw [e] at hL
      have := hb.ll T c L hL
      exact ⟨by omega, this.2⟩
    · have h0 := hgrow g1 g2
      have h3 := pot_3 g2
      rcases g4 T c L hL with h1 | ⟨h1, h2⟩
      · have := hb.ll T c L h1
        exact ⟨by omega, this.2⟩
      · refine ⟨by omega, ?_⟩
        have h5 := (hm.lead g2).1
        rw [h1, h5] at hL
        cases hL
        intro e he
        -- what is new stands in the log itself
        rcases hpt with ⟨ha, _⟩ | hpt
        · rw [ha] at g0
          cases g0
        · rw [← List.take_append_drop q.lix f'] at he
          rcases List.mem_append.1 he with he | he
          · rcases hpt.log with ⟨_, e2⟩ | ⟨l1, l2, l3, l4, l5, _⟩
            · rw [e2] at he
              exact hfd e (List.mem_of_mem_take he)
            · have : f'.take q.lix = (fl i).take q.lix := by
                have := congrArg (List.take q.lix) l5
                rw [List.take_take, List.take_take, Nat.min_eq_left (by rw [hpt.lix]; omega)] at this
                exact this
              rw [this] at he
              exact hfd e (List.mem_of_mem_take he)
          · rw [← hm.lf] at he
            exact (hq.es e he).2
  have hpt' : ((s.ms.set i q).map PR.pot).sum ≤ E' := by have := hb.pt; omega
  have hf' : f'.length ≤ E' := by
    have := (hm.goodF hc hi).1.len (B := E') (fun T c L hL => by have := (hLL T c L hL).1; omega)
    exact this
  have hfd' : ∀ e ∈ f', e.data.length ≤ 1 := fun e he => by
    obtain ⟨c, L, h1, h2⟩ := (hm.goodF hc hi).1.mem he
    exact (hLL _ _ _ h1).2 e h2
  have hlast := hm.last
  have hqt := hq.term
  have hqv := hq.vote
  have hv2 : q.vote < 65535 := by
    rcases Int.lt_or_le q.vote 0 with h | h
    · omega
    · have := (hm.pvS _ _ (hm.pv2 h)).1
      omega
  have hqs : q.sd.length ≤ 500000 := (hm.vwC _ hm.vwm).2.2.2.1
  have hfits : Fits q f' := ⟨by omega, hqv, hv2, fun e he => by
    obtain ⟨k, hk⟩ := List.mem_iff_getElem?.1 he
    have h1 := hm.fix k e hk
    have h2 := (hm.goodF hc hi).2 e he
    have h3 : k < f'.length := by
      rcases Nat.lt_or_ge k f'.length with h | h
      · exact h
      · rw [List.getElem?_eq_none h] at hk; cases hk
    have h4 := hfd' e he
    exact ⟨by omega, by omega, by omega, by omega⟩, by omega, by omega⟩
  have hsv : q.saveOk = true := by
    have hse : q.saveE.length ≤ 1000 := by
      unfold PR.saveE
      split
      · unfold PR.from_
        split
        · exact Nat.zero_le _
        · rw [List.length_take, List.length_drop, hm.lf, List.length_drop]
          omega
      · exact Nat.zero_le _
    have hll : q.l.length ≤ 1000 := by rw [hm.lf, List.length_drop]; omega
    unfold PR.saveOk
    rw [decide_eq_true hse, decide_eq_true hll]
    rcases hpt with ⟨_, e⟩ | hpt
    · simp [e]
    · rcases hpt.log with ⟨e, _⟩ | ⟨_, l2, _⟩
      · simp [e]
      · have : q.fresh ≤ q.last := by omega
        simp [this]
  have hdr := DR.settle (.inr hn) (hg.dr i p d hp hd) (G' := G') (fun x hx => by
    obtain ⟨v, hv, hx⟩ := hx
    exact ⟨v, hvw v hv, hx⟩) ⟨_, hmi.vwm, rfl⟩ k1 hm.shp hm.vwm (hpt.imp And.left id) hfits
  have hside : ∀ T c L, G'.LL T = some (c, L) → (∃ L0, G.LL T = some (c, L0)) ∨ (q.role = 3 ∧ T = q.term ∧ c = i) := fun T c L hL => by
    rcases hgr with e | ⟨_, g2, _, _, g4⟩
    · rw [e] at hL
      exact .inl ⟨L, hL⟩
    · rcases g4 T c L hL with h1 | ⟨h1, _⟩
      · exact .inl ⟨L, h1⟩
      · refine .inr ⟨g2, h1, ?_⟩
        have := (hm.lead g2).1
        rw [h1, this] at hL
        cases hL
        rfl
  have hside2 : q.role = 3 → q.lead = (i : Int) := fun e => by
    have := (hq.nx e).2
    rw [hm.me] at this
    exact this
  obtain ⟨s1, g1, g2, g3, g4, g5, g6⟩ := hg.settle (q := q) (s := { s with ms := s.ms.set i q }) (d := d) hi rfl (setSame hd).symm rfl rfl rfl hk hsv hc hm hle (fun m hm' => hle.net (hg.net m hm')) hside hside2 hdr
  · refine ⟨s1, g1, g4, g3, G', _, g2, ?_⟩
    have hms : ∀ (j : Nat) (p' : PR), s1.ms[j]? = some p' → Bd (s.k + 1) (3 * s.k + 3) p' := by
      intro j p' h
      rw [g5] at h
      have h : ((s.ms.set i q).set i q.settled)[j]? = some p' := h
      rw [List.set_set, List.getElem?_set] at h
      split at h
      · split at h
        · rw [← Option.some.inj h]
          exact ⟨hq.tick, hq.term, hq.vote, hq.ol, hq.out, hq.nx, hq.nl, hq.es⟩
        · cases h
      · exact (hb.bd j p' h).mono (by omega) (by omega)
    have hps : s1.pots = ((s.ms.set i q).map PR.pot).sum := by
      unfold PS.pots
      rw [g5]
      show (((s.ms.set i q).set i q.settled).map PR.pot).sum = _
      have h1 := sum_set (s.ms.set i q) i q q.settled (by rw [List.getElem?_set, if_pos rfl, if_pos (by rw [hg.len]; exact hi)])
      have h2 : q.settled.pot = q.pot := rfl
      omega
    exact {
      bd := fun j p' h => by rw [g4]; exact (hms j p' h).mono (Nat.le_refl _) (by show 3 * s.k + 3 ≤ 3 * (s.k + 1); omega)
      net := fun m hm' => by rw [g4]; rw [g3] at hm'; exact (hb.net m hm').mono (by show s.k + 1 ≤ s.k + 1 + 1; omega)
      nl := by rw [g3]; exact hb.nl
      ll := fun T c L hL => by rw [hps]; exact hLL T c L hL
      pt := by rw [hps]; exact hpt'
      Ek := by rw [g4]; exact hE'
      ds := fun j d' h => by
        rw [g6] at h
        have h : (s.ds.set i (q.disk d))[j]? = some d' := h
        have g4' : s1.k = s.k + 1 := g4
        rw [g4']
        rw [List.getElem?_set] at h
        split at h
        · split at h
          · rw [← Option.some.inj h]
            have h2 := hb.ds i d hd
            exact disk_len hm.shp (by omega) hfd' hqs d _ (by omega) (by omega)
          · cases h
        · have := hb.ds j d' h
          omega }
end
end Go.SX
namespace Go.SX
open Go Go.Proofs
set_option maxRecDepth 4000
def Well (n : Nat) (s : PS) (E : Nat) : Prop := ∃ G fl, GI n s G fl ∧ BI s G E
section
variable {n i : Nat} {G G' : Fa} {p q : PR} {f f' : List PE} {s : PS} {fl : Nat → List PE} {E E' : Nat}
theorem GI.at (hg : GI n s G fl) (hi : i < n) : ∃ p d, s.ms[i]? = some p ∧ s.ds[i]? = some d := ⟨s.ms[i]'(by rw [hg.len]; exact hi), s.ds[i]'(by rw [hg.dl]; exact hi), List.getElem?_eq_getElem _, List.getElem?_eq_getElem _⟩
theorem GI.idx (hg : GI n s G fl) (hp : s.ms[i]? = some p) : i < n := by
  rw [← hg.len]
  rcases Nat.lt_or_ge i s.ms.length with h | h
  · exact h
  · rw [List.getElem?_eq_none h] at hp; cases hp
theorem GI.flen (hg : GI n s G fl) (hb : BI s G E) (hp : s.ms[i]? = some p) : (fl i).length + s.pots ≤ E ∧ ∀ e ∈ fl i, e.data.length ≤ 1 := by
  have hi := hg.idx hp
  have hmi := hg.mi i p hp
  refine ⟨?_, fun e he => ?_⟩
  · have := (hmi.goodF hg.ci hi).1.len (B := E - s.pots) (fun T c L hL => by have := (hb.ll T c L hL).1; omega)
    have := hb.pt
    omega
  · obtain ⟨c, L, h1, h2⟩ := (hmi.goodF hg.ci hi).1.mem he
    exact (hb.ll _ _ _ h1).2 e h2
theorem GI.lm (hg : GI n s G fl) (hb : BI s G E) (hp : s.ms[i]? = some p) : Lm s.k n p := by
  have hmi := hg.mi i p hp
  have h1 := (hg.flen hb hp).1
  have h2 := hb.Ek
  have h3 := hmi.last
  have h4 := hmi.cmle
  have h5 := hmi.lle
  have h6 := hmi.six
  exact ⟨by omega, by omega, by omega, by rw [hmi.voters]⟩
theorem MI.notMost' (hn : n = 2 ∨ n = 3) (hi : i < n) (h : MI n G i p f) : ∀ Q, Q.testBit p.me = true → (∀ j, j ≠ p.me → Q.testBit j = false) → ¬ p.most Q = true := by
  intro Q h1 h2 hm
  obtain ⟨j, hj, hji, hb⟩ := maj_other hn hi (h.most hm)
  rw [h2 j (by rw [h.me]; exact hji)] at hb
  cases hb
theorem leadOk_of {K o : Nat} (h : Bd K o p) : p.leadOk = true := by
  unfold PR.leadOk
  by_cases e : p.role = 3
  · have := (h.nx e).1
    rw [Bool.or_eq_true]
    right
    rw [List.all_eq_true]
    intro j hj
    exact decide_eq_true (this j (List.mem_range.1 hj))
  · rw [decide_eq_true e]
    rfl
theorem Bd.tickd {K o : Nat} (h : Bd K o p) (hl : Lm K n p) (hn : n = 2 ∨ n = 3) (hnm : ∀ Q, Q.testBit p.me = true → (∀ j, j ≠ p.me → Q.testBit j = false) → ¬ p.most Q = true) : Bd (K + 1) (o + 3) p.tick := by
  have h' := h.mono (Nat.le_succ K) (Nat.le_refl o)
  have hl' := hl.mono (Nat.le_succ K)
  have hn3 : n ≤ 3 := by omega
  have ht := h.tick
  have h1 : Bd (K + 1) o p.tick1 := ⟨by show p.ticks + 1 ≤ K + 1; omega, h'.term, h'.vote, h'.ol, h'.out, h'.nx, h'.nl, h'.es⟩
  unfold PR.tick
  split
  · split
    · refine Bd.tell (n := n) (p := { p with ticks := 0 }) ⟨Nat.zero_le _, h'.term, h'.vote, h'.ol, h'.out, h'.nx, h'.nl, h'.es⟩ ⟨hl'.last, hl'.cm, hl'.six, hl'.vt⟩ hn3
    · exact h1.mono (Nat.le_refl _) (by omega)
  · split
    · split
      · have hr := h1.rest
        have h2 : Bd (K + 1) o p.tick1.rest.ask0 := ⟨hr.tick, hr.term, hr.vote, hr.ol, hr.out, fun e => by have e : (1 : Nat) = 3 := e; omega, hr.nl, hr.es⟩
        have hl2 : Lm (K + 1) n p.tick1.rest.ask0 := ⟨hl'.last, hl'.cm, hl'.six, hl'.vt⟩
        unfold PR.ask
        rw [if_neg]
        · exact h2.asks hl2 hn3
        · obtain ⟨o', ho⟩ := sends_but PR.askM p.tick1.rest.ask0.others p.tick1.rest.ask0
          have ho : p.tick1.rest.ask0.asks = { p.tick1.rest.ask0 with out := o' } := ho
          have := hnm (2 ^ p.me) (by rw [Nat.testBit_two_pow]; simp) (fun j hj => by rw [Nat.testBit_two_pow]; simpa using fun e => hj e.symm)
          rw [ho]
          exact this
      · exact h1.rest.mono (Nat.le_refl _) (by omega)
    · exact h1.mono (Nat.le_refl _) (by omega)
theorem Well.tick (hn : n = 2 ∨ n = 3) (h : Well n s E) (hi : i < n) (hk : s.k ≤ 89000) (hE : E + 1 ≤ 1000) : ∃ s0 s1, s.tickAt i = some s0 ∧ s0.settle i = some s1 ∧ s1.k = s.k + 1 ∧ s1.net = s.net ∧ Well n s1 (E + 1) := by
  obtain ⟨G, fl, hg, hb⟩ := h
  obtain ⟨p, d, hp, hd⟩ := hg.at hi
  have hmi := hg.mi i p hp
  obtain ⟨k1, k2, k3, k4⟩ := hg.cl i p hp
  have hbd := hb.bd i p hp
  have hlm := hg.lm hb hp
  have hq := hbd.tickd hlm hn (hmi.notMost' hn hi)
  have hEk := hb.Ek
  obtain ⟨s1, g1, g2, g3, G', fl', g4, g5⟩ := hg.op hn hb hp (hmi.tick hn hg.ci hi k2 k3) (hq.mono (Nat.le_refl _) (Nat.le_refl _)) (Nat.le_succ E) (by omega) hE (by omega) (by have := pot_le p.tick; omega) (fun e _ => by rw [pot_2 e]; omega)
  refine ⟨_, s1, ?_, g1, g2, g3, G', fl', g4, g5⟩
  unfold PS.tickAt
  rw [hp]
  dsimp only
  rw [if_pos]
  unfold PR.tickOk
  have h1 := hbd.tick
  have h2 := hbd.term
  have h3 := hlm.last
  have h4 := hbd.ol
  have h5 : p.last = p.lix + p.l.length := rfl
  rw [leadOk_of hbd, decide_eq_true (by omega : p.ticks < 300000), decide_eq_true (by omega : p.term < 300000), decide_eq_true (by omega : p.lix + p.l.length < 300000), decide_eq_true (by omega : p.out.length + 21 ≤ 300000)]
  rfl
theorem GI.comeTo (hn : n = 2 ∨ n = 3) (hg : GI n s G fl) (hb : BI s G E) {m : PM} (hm1 : G.Net n m) (hm2 : MB (s.k + 1) m) (hk : s.k ≤ 89000) (hE : E ≤ 1000) : ∃ s1, s.comeTo m = some s1 ∧ s1.k ≤ s.k + 1 ∧ s1.net = s.net ∧ Well n s1 E := by
  unfold PS.comeTo
  cases hp : s.ms[m.to]? with
  | none => exact ⟨s, rfl, Nat.le_succ _, rfl, G, fl, hg, hb⟩
  | some p =>
    have hi := hg.idx hp
    have hmi := hg.mi m.to p hp
    obtain ⟨k1, k2, k3, k4⟩ := hg.cl m.to p hp
    have hbd := hb.bd m.to p hp
    have hlm := hg.lm hb hp
    have hq := hbd.step hlm hn (hmi.notMost' hn hi) hm2
    have hEk := hb.Ek
    obtain ⟨s1, g1, g2, g3, G', fl', g4, g5⟩ := hg.op hn hb hp (hmi.step hn hg.ci hi k2 k3 hm1) (hq.mono (Nat.le_refl _) (Nat.le_refl _)) (Nat.le_refl E) (by omega) hE (by omega) (by have := step_pot p m; omega) (fun e _ => by rw [pot_2 e]; omega)
    refine ⟨s1, ?_, by omega, g3, G', fl', g4, g5⟩
    dsimp only
    rw [if_pos]
    · exact g1
    · unfold PR.stepOk
      have h2 := hbd.term
      have h3 := hlm.last
      have h4 := hbd.ol
      have h5 : p.last = p.lix + p.l.length := rfl
      have h6 := hm2.ix
      have h7 : (m.es.all fun e => decide (e.ix + 16 ≤ 300000)) = true := by
        rw [List.all_eq_true]
        intro e he
        have := (hm2.es e he).1
        exact decide_eq_true (by omega)
      rw [leadOk_of hbd, h7, decide_eq_true (by omega : p.out.length + 14 ≤ 300000), decide_eq_true (by omega : p.term < 300000), decide_eq_true (by omega : p.lix + p.l.length < 300000), decide_eq_true (by omega : m.ix + 16 ≤ 300000)]
      rfl
theorem Well.settle (hn : n = 2 ∨ n = 3) (h : Well n s E) (hi : i < n) (hk : s.k ≤ 89000) (hE : E ≤ 1000) : ∃ s1, s.settle i = some s1 ∧ s1.k = s.k + 1 ∧ s1.net = s.net ∧ Well n s1 E := by
  obtain ⟨G, fl, hg, hb⟩ := h
  obtain ⟨p, d, hp, hd⟩ := hg.at hi
  have hmi := hg.mi i p hp
  obtain ⟨k1, k2, k3, k4⟩ := hg.cl i p hp
  have hEk := hb.Ek
  obtain ⟨s1, g1, g2, g3, G', fl', g4, g5⟩ := hg.op hn hb hp (Up.self (r := 4) hg.ci hmi k2 k3 rfl rfl) ((hb.bd i p hp).mono (Nat.le_succ _) (by omega)) (Nat.le_refl E) (by omega) hE (by omega) (Nat.le_refl _) (fun e e2 => by omega)
  refine ⟨s1, ?_, g2, g3, G', fl', g4, g5⟩
  rw [setSame hp] at g1
  exact g1
theorem Well.flush (hn : n = 2 ∨ n = 3) (h : Well n s E) (hi : i < n) (hk : s.k ≤ 89000) (hE : E ≤ 1000) : ∃ s0 s1, s.flush i = some s0 ∧ s0.settle i = some s1 ∧ s1.k = s.k + 2 ∧ Well n s1 E := by
  obtain ⟨G, fl, hg, hb⟩ := h
  obtain ⟨p, d, hp, hd⟩ := hg.at hi
  have hmi := hg.mi i p hp
  obtain ⟨k1, k2, k3, k4⟩ := hg.cl i p hp
  have hbd := hb.bd i p hp
  obtain ⟨G', hc, hm, hle, hnet, hvw, ⟨c, hst⟩, hout, hLL⟩ := hmi.sync hg.ci hi
  have hfl := hg.flen hb hp
  have e1 : p.stable.rs = false := by rw [hst]; exact k3
  have e2 : p.stable.chg = false := by rw [hst]; exact k1
  have e3 : p.stable.fresh = 0 := by rw [hst]; exact k2
  have hdk : p.stable.disk (d.1, d.1.length) = (d.1, d.1.length) := by
    unfold PR.disk PR.saves
    rw [e1, e2, e3]
    rfl
  have hview : (p.stable.view (fl i)).pi n = (p.view (fl i)).pi n := by rw [hst]; rfl
  have hdr : DR (G'.PV n i) (p.stable.disk (d.1, d.1.length)).1 (p.stable.disk (d.1, d.1.length)).2 ((p.stable.view (fl i)).pi n) := by
    rw [hdk, hview]
    exact (hg.dr i p d hp hd).sync ⟨_, (hvw _).2 rfl, rfl⟩
  have hsv : p.stable.saveOk = true := by
    have hse : p.stable.saveE = [] := by unfold PR.saveE; rw [e3]; rfl
    unfold PR.saveOk
    rw [e1, e3, hse]
    rfl
  have hbd' : Bd s.k (3 * s.k) p.stable := by
    rw [hst]
    exact ⟨hbd.tick, hbd.term, hbd.vote, Nat.zero_le _, fun m hm => (List.not_mem_nil hm).elim, hbd.nx, hbd.nl, hbd.es⟩
  have hfo : s.flush i = some (s.flushTo i p d) := by
    unfold PS.flush
    rw [hp, hd]
    dsimp only
    rw [if_pos (by omega)]
  have hmem : ∀ m ∈ (s.flushTo i p d).net, m ∈ s.net ∨ m ∈ p.out := by
    intro m hm'
    have hm' : m ∈ (s.net ++ p.stable1.out).drop ((s.net ++ p.stable1.out).length - 300) := hm'
    rw [hout] at hm'
    exact List.mem_append.1 (List.mem_of_mem_drop hm')
  obtain ⟨s1, g1, g2, g3, g4, g5, g6⟩ := hg.settle (q := p.stable) (s := s.flushTo i p d) (d := (d.1, d.1.length)) hi rfl rfl rfl rfl rfl (by show s.k + 1 ≤ 90000; omega) hsv hc hm hle (fun m hm' => by
    rcases hmem m hm' with h | h
    · exact hle.net (hg.net m h)
    · exact hnet m h) (fun T c L hL => .inl ⟨L, by rw [hLL] at hL; exact hL⟩) (fun e => by rw [hst] at e ⊢; exact k4 e) hdr
  have g4' : s1.k = s.k + 2 := g4
  refine ⟨_, s1, hfo, g1, g4', G', _, g2, ?_⟩
  have hps : s1.pots = s.pots := by
    unfold PS.pots
    rw [g5]
    show (((s.ms.set i p.stable).set i p.stable.settled).map PR.pot).sum = _
    rw [List.set_set]
    have h1 := sum_set s.ms i p p.stable.settled hp
    have h2 : p.stable.settled.pot = p.pot := by rw [hst]; rfl
    omega
  have hfd := hfl
  exact {
    bd := fun j p' h => by
      rw [g5] at h
      have h : ((s.ms.set i p.stable).set i p.stable.settled)[j]? = some p' := h
      rw [List.set_set, List.getElem?_set] at h
      rw [g4']
      split at h
      · split at h
        · rw [← Option.some.inj h]
          have hx := hbd'.mono (K' := s.k + 2) (o' := 3 * (s.k + 2)) (by omega) (by omega)
          exact ⟨hx.tick, hx.term, hx.vote, hx.ol, hx.out, hx.nx, hx.nl, hx.es⟩
        · cases h
      · exact (hb.bd j p' h).mono (by omega) (by omega)
    net := fun m hm' => by
      rw [g3] at hm'
      rw [g4']
      rcases hmem m hm' with h | h
      · exact (hb.net m h).mono (by omega)
      · exact (hbd.out m h).mono (by omega)
    nl := by
      rw [g3]
      show ((s.net ++ p.stable1.out).drop ((s.net ++ p.stable1.out).length - 300)).length ≤ 300
      rw [List.length_drop]
      omega
    ll := fun T c L hL => by rw [hps]; rw [hLL] at hL; exact hb.ll T c L hL
    pt := by rw [hps]; exact hb.pt
    Ek := by have := hb.Ek; omega
    ds := fun j d' h => by
      rw [g6, hdk] at h
      have h : ((s.ds.set i (d.1, d.1.length)).set i (d.1, d.1.length))[j]? = some d' := h
      rw [List.set_set, List.getElem?_set] at h
      rw [g4']
      split at h
      · split at h
        · rw [← Option.some.inj h]
          have := hb.ds i d hd
          dsimp only
          omega
        · cases h
      · have := hb.ds j d' h
        omega }
theorem Well.sync (hn : n = 2 ∨ n = 3) (h : Well n s E) (hi : i < n) (hk : s.k ≤ 88000) (hE : E ≤ 1000) : ∃ s1, s.sync i = some s1 ∧ s1.k = s.k + 3 ∧ Well n s1 E := by
  obtain ⟨s1, h1, h2, h3, h4⟩ := h.settle hn hi (by omega) hE
  obtain ⟨s2, s3, h5, h6, h7, h8⟩ := h4.flush hn hi (by omega) hE
  refine ⟨s3, ?_, by omega, h8⟩
  unfold PS.sync
  rw [h1]
  show (s1.flush i).bind _ = _
  rw [h5]
  exact h6
theorem GI.net' (hg : GI n s G fl) {net : List PM} (h : ∀ m ∈ net, m ∈ s.net) : GI n { s with net := net } G fl := { hg with net := fun m hm => hg.net m (h m hm) }
theorem BI.net' (hb : BI s G E) {net : List PM} (h : ∀ m ∈ net, m ∈ s.net) (hl : net.length ≤ 300) : BI { s with net := net } G E := ⟨hb.bd, fun m hm => hb.net m (h m hm), hl, hb.ll, hb.pt, hb.Ek, hb.ds⟩
theorem Well.net (h : Well n s E) {net : List PM} (hs : ∀ m ∈ net, m ∈ s.net) (hl : net.length ≤ 300) : Well n { s with net := net } E := by
  obtain ⟨G, fl, hg, hb⟩ := h
  exact ⟨G, fl, hg.net' hs, hb.net' hs hl⟩
theorem Well.nl (h : Well n s E) : s.net.length ≤ 300 := by
  obtain ⟨G, fl, hg, hb⟩ := h
  exact hb.nl
end
end Go.SX
namespace Go.SX
open Go Go.Proofs
set_option maxRecDepth 4000
def PS.proposeAt (s : PS) (i : Nat) (data : List UInt8) : Option PS := match s.ms[i]? with
  | some p => some { s with ms := s.ms.set i (p.propose data) }
  | none => none
def kept (d : List UInt8 × Nat) (k : Nat) : List UInt8 := d.1.take (d.2 + min k (d.1.length - d.2))
def PS.crashAt (s : PS) (i k : Nat) : Option PS := match s.ds[i]? with
  | some d => some { s with ms := s.ms.set i (PI.new i (scanP nilI (kept d k)).1).rest, ds := s.ds.set i ((kept d k).take (scanP nilI (kept d k)).2, (scanP nilI (kept d k)).2), k := s.k + 1 }
  | none => none
def PS.compactAt (s : PS) (i : Nat) (data : List UInt8) : Option PS := match s.ms[i]? with
  | some p => if p.lix < p.cm then some { s with ms := s.ms.set i (p.compact data), ds := s.ds.set i ((p.compact data).image.whole, (p.compact data).image.whole.length), k := s.k + 1 } else some s
  | none => none
def PS.drawAt (s : PS) (i D : Nat) : Option PS := match s.ms[i]? with
  | some p => some { s with ms := s.ms.set i { p with dr := D } }
  | none => none
section
variable {n i : Nat} {G G' : Fa} {p q : PR} {f f' : List PE} {s : PS} {fl : Nat → List PE} {E E' : Nat}
theorem Well.come (hn : n = 2 ∨ n = 3) (h : Well n s E) (k : Nat) (dbl : Bool) (hk : s.k ≤ 88000) (hE : E ≤ 1000) : ∃ s1, s.come k dbl = some s1 ∧ s1.k ≤ s.k + 1 ∧ Well n s1 E ∧ (dbl = false → s1.net.length = s.net.length - 1) := by
  unfold PS.come
  by_cases h0 : s.net.length = 0
  · rw [if_pos h0]
    exact ⟨s, rfl, Nat.le_succ _, h, fun _ => by omega⟩
  · rw [if_neg h0]
    have hlt : k % s.net.length < s.net.length := Nat.mod_lt _ (by omega)
    rw [List.getElem?_eq_getElem hlt]
    dsimp only
    have hmem : s.net[k % s.net.length] ∈ s.net := List.getElem_mem hlt
    cases dbl with
    | true =>
      rw [if_pos rfl]
      obtain ⟨G, fl, hg, hb⟩ := h
      obtain ⟨s1, h1, h2, h3, h4⟩ := hg.comeTo hn hb (hg.net _ hmem) (hb.net _ hmem) (by omega) hE
      exact ⟨s1, h1, h2, h4, fun e => by cases e⟩
    | false =>
      rw [if_neg (by simp)]
      have hsub : ∀ m ∈ s.net.take (k % s.net.length) ++ s.net.drop (k % s.net.length + 1), m ∈ s.net := fun m hm => by
        rcases List.mem_append.1 hm with hm | hm
        · exact List.mem_of_mem_take hm
        · exact List.mem_of_mem_drop hm
      have hl : (s.net.take (k % s.net.length) ++ s.net.drop (k % s.net.length + 1)).length = s.net.length - 1 := by
        rw [List.length_append, List.length_take, List.length_drop]
        omega
      have hnl := h.nl
      obtain ⟨G, fl, hg, hb⟩ := h
      obtain ⟨s1, h1, h2, h3, h4⟩ := (hg.net' hsub).comeTo hn (hb.net' hsub (by omega)) (hg.net _ hmem) (hb.net _ hmem) (by show s.k ≤ 89000; omega) hE
      exact ⟨s1, h1, h2, h4, fun _ => by rw [h3]; exact hl⟩
theorem Well.len (h : Well n s E) : s.ms.length = n := by
  obtain ⟨G, fl, hg, hb⟩ := h
  exact hg.len
theorem Well.ticks (hn : n = 2 ∨ n = 3) : ∀ (m j : Nat) {s : PS} {E : Nat}, Well n s E → j + m ≤ n → s.k + 3 * m ≤ 87000 → E + m ≤ 1000 → ∃ s1, PS.ticks m j s = some s1 ∧ s1.k ≤ s.k + 3 * m ∧ Well n s1 (E + m)
  | 0, j, s, E, h, _, _, _ => ⟨s, rfl, Nat.le_refl _, h⟩
  | m + 1, j, s, E, h, hj, hk, hE => by
    obtain ⟨s0, s1, h1, h2, h3, h4, h5⟩ := h.tick hn (i := j) (by omega) (by omega) (by omega)
    obtain ⟨s2, s3, h6, h7, h8, h9⟩ := h5.flush hn (i := j) (by omega) (by omega) (by omega)
    obtain ⟨s4, h10, h11, h12⟩ := Well.ticks hn m (j + 1) h9 (by omega) (by omega) (by omega)
    refine ⟨s4, ?_, by omega, by rw [show E + (m + 1) = E + 1 + m by omega]; exact h12⟩
    unfold PS.ticks PS.sync
    rw [h1]
    show ((s0.settle j).bind fun s1 => (s1.flush j).bind fun s2 => s2.settle j).bind _ = _
    rw [h2]
    show ((s1.flush j).bind fun s2 => s2.settle j).bind _ = _
    rw [h6]
    show (s2.settle j).bind _ = _
    rw [h7]
    exact h10
theorem Well.syncs (hn : n = 2 ∨ n = 3) : ∀ (m j : Nat) {s : PS} {E : Nat}, Well n s E → j + m ≤ n → s.k + 3 * m ≤ 88000 → E ≤ 1000 → ∃ s1, PS.syncs m j s = some s1 ∧ s1.k ≤ s.k + 3 * m ∧ Well n s1 E
  | 0, j, s, E, h, _, _, _ => ⟨s, rfl, Nat.le_refl _, h⟩
  | m + 1, j, s, E, h, hj, hk, hE => by
    obtain ⟨s1, h1, h2, h3⟩ := h.sync hn (i := j) (by omega) (by omega) (by omega)
    obtain ⟨s4, h10, h11, h12⟩ := Well.syncs hn m (j + 1) h3 (by omega) (by omega) (by omega)
    refine ⟨s4, ?_, by omega, h12⟩
    unfold PS.syncs
    rw [h1]
    exact h10
theorem Well.deliver (hn : n = 2 ∨ n = 3) (off : Int) : ∀ (m : Nat) {s : PS} {E : Nat}, Well n s E → m ≤ s.net.length → s.k + m ≤ 88000 → E ≤ 1000 → ∃ s1, PS.deliver off m s = some s1 ∧ s1.k ≤ s.k + m ∧ Well n s1 E
  | 0, s, E, h, _, _, _ => ⟨s, rfl, Nat.le_refl _, h⟩
  | m + 1, s, E, h, hm, hk, hE => by
    unfold PS.deliver
    cases hnet : s.net with
    | nil => rw [hnet] at hm; simp at hm
    | cons x r =>
      dsimp only
      have hnl := h.nl
      have hlen : s.net.length = r.length + 1 := by rw [hnet]; rfl
      by_cases hc : (x.fr : Int) = off ∨ (x.to : Int) = off
      · rw [if_pos hc]
        obtain ⟨s1, h1, h2, h3⟩ := Well.deliver hn off m (h.net (net := r) (fun y hy => by rw [hnet]; exact List.mem_cons_of_mem _ hy) (by omega)) (by show m ≤ r.length; omega) (by show s.k + m ≤ 88000; omega) hE
        have h2 : s1.k ≤ s.k + m := h2
        exact ⟨s1, h1, by omega, h3⟩
      · rw [if_neg hc]
        obtain ⟨s1, h1, h2, h3, h4⟩ := h.come hn 0 false (by omega) hE
        have h4 := h4 rfl
        obtain ⟨s2, h5, h6, h7⟩ := Well.deliver hn off m h3 (by omega) (by omega) hE
        rw [h1]
        exact ⟨s2, h5, by omega, h7⟩
theorem Well.round (hn : n = 2 ∨ n = 3) (h : Well n s E) (off : Int) (hk : s.k ≤ 86000) (hE : E + 3 ≤ 1000) : ∃ s1, s.round off = some s1 ∧ s1.k ≤ s.k + 318 ∧ Well n s1 (E + n) := by
  have hn3 : n ≤ 3 := by omega
  obtain ⟨s1, h1, h2, h3⟩ := Well.ticks hn n 0 h (by omega) (by omega) (by omega)
  have hnl := h3.nl
  obtain ⟨s2, h4, h5, h6⟩ := Well.deliver hn off s1.net.length h3 (Nat.le_refl _) (by omega) (by omega)
  obtain ⟨s3, h7, h8, h9⟩ := Well.syncs hn n 0 h6 (by omega) (by omega) (by omega)
  refine ⟨s3, ?_, by omega, h9⟩
  unfold PS.round
  rw [h.len, h1]
  show (PS.deliver off s1.net.length s1).bind _ = _
  rw [h4]
  show PS.syncs s2.ms.length 0 s2 = _
  rw [h6.len]
  exact h7
theorem Well.up (h : Well n s E) (hE : E ≤ E') (hk : E' ≤ s.k) : Well n s E' := by
  obtain ⟨G, fl, hg, hb⟩ := h
  exact ⟨G, fl, hg, hb.bd, hb.net, hb.nl, fun T c L hL => ⟨Nat.le_trans (hb.ll T c L hL).1 hE, (hb.ll T c L hL).2⟩, Nat.le_trans hb.pt hE, hk, hb.ds⟩
theorem Well.propose (hn : n = 2 ∨ n = 3) (h : Well n s E) (hi : i < n) (data : List UInt8) (hdl : data.length ≤ 1) (hk : s.k ≤ 88000) (hE : E + 1 ≤ 1000) : ∃ s0 s1, s.proposeAt i data = some s0 ∧ s0.settle i = some s1 ∧ s1.k = s.k + 1 ∧ Well n s1 (E + 1) := by
  obtain ⟨G, fl, hg, hb⟩ := h
  obtain ⟨p, d, hp, hd⟩ := hg.at hi
  have hmi := hg.mi i p hp
  obtain ⟨k1, k2, k3, k4⟩ := hg.cl i p hp
  have hbd := hb.bd i p hp
  have hlm := hg.lm hb hp
  have hEk := hb.Ek
  have hn3 : n ≤ 3 := by omega
  have hla := hlm.last
  have hq : Bd (s.k + 1) (3 * s.k + 3) (p.propose data) := by
    unfold PR.propose
    split
    · exact ((hbd.mono (Nat.le_succ _) (Nat.le_refl _)).put (by omega) 0 data hdl).tell (put_lm (hlm.mono (Nat.le_succ _)) (by omega) data) hn3
    · exact hbd.mono (Nat.le_succ _) (by omega)
  have hrole : (p.propose data).role = p.role := by
    unfold PR.propose
    split
    · rw [tell_role]; rfl
    · rfl
  have hpot : (p.propose data).pot = p.pot := by unfold PR.pot; rw [hrole]
  obtain ⟨s1, g1, g2, g3, G', fl', g4, g5⟩ := hg.op hn hb hp (hmi.propose hn hg.ci hi k2 k3 data) hq (Nat.le_succ E) (by omega) hE (by omega) (by omega) (fun e _ => by omega)
  refine ⟨_, s1, ?_, g1, g2, G', fl', g4, g5⟩
  unfold PS.proposeAt
  rw [hp]
theorem Well.draw (hn : n = 2 ∨ n = 3) (h : Well n s E) (hi : i < n) (D : Nat) (hk : s.k ≤ 88000) (hE : E ≤ 1000) : ∃ s0 s1, s.drawAt i D = some s0 ∧ s0.settle i = some s1 ∧ s1.k = s.k + 1 ∧ Well n s1 E := by
  obtain ⟨G, fl, hg, hb⟩ := h
  obtain ⟨p, d, hp, hd⟩ := hg.at hi
  have hmi := hg.mi i p hp
  obtain ⟨k1, k2, k3, k4⟩ := hg.cl i p hp
  have hbd := (hb.bd i p hp).mono (Nat.le_succ s.k) (show 3 * s.k ≤ 3 * s.k + 3 by omega)
  have hEk := hb.Ek
  have h1 : MI n G i { p with dr := D } (fl i) := hmi.vol { p with dr := D } rfl rfl rfl rfl rfl rfl rfl rfl rfl rfl rfl rfl rfl hmi.st hmi.cand hmi.lead
  obtain ⟨s1, g1, g2, g3, G', fl', g4, g5⟩ := hg.op hn hb hp (Up.self (r := 4) (q := { p with dr := D }) hg.ci h1 k2 k3 rfl rfl) ⟨hbd.tick, hbd.term, hbd.vote, hbd.ol, hbd.out, hbd.nx, hbd.nl, hbd.es⟩ (Nat.le_refl E) (by omega) hE (by omega) (Nat.le_refl _) (fun e e2 => by have e2 : p.role = 3 := e2; omega)
  refine ⟨_, s1, ?_, g1, g2, G', fl', g4, g5⟩
  unfold PS.drawAt
  rw [hp]
end
end Go.SX
namespace Go.SX
open Go Go.Proofs
set_option maxRecDepth 4000
section
variable {n i : Nat} {G G' : Fa} {p q : PR} {f f' : List PE} {s : PS} {fl : Nat → List PE} {E E' : Nat}
theorem GI.clean (hg : GI n s G fl) (hb : BI s G E) (hp : s.ms[i]? = some p) {d' : List UInt8 × Nat} (hc : CI n G') (hm : MI n G' i q f') (hle : Fa.le n i G G') (hLL : G'.LL = G.LL) (hq : Bd (s.k + 1) (3 * s.k + 3) q) (e1 : q.rs = false) (e2 : q.chg = false) (e3 : q.fresh = 0) (hpot : q.pot ≤ p.pot)
    (hdr : DR (G'.PV n i) d'.1 d'.2 ((q.view f').pi n)) (hdl : d'.1.length ≤ 40000 * (s.k + 1) + 2000000) (hk : s.k ≤ 89000) :
    ∃ s1, ({ s with ms := s.ms.set i q, ds := s.ds.set i d', k := s.k + 1 } : PS).settle i = some s1 ∧ s1.k = s.k + 2 ∧ s1.net = s.net ∧ Well n s1 E := by
  have hi := hg.idx hp
  have hdk : q.disk d' = d' := by
    unfold PR.disk PR.saves
    rw [e1, e2, e3]
    rfl
  have hsv : q.saveOk = true := by
    have hse : q.saveE = [] := by unfold PR.saveE; rw [e3]; rfl
    unfold PR.saveOk
    rw [e1, e3, hse]
    rfl
  have hlead : q.role = 3 → q.lead = (i : Int) := fun e => by
    have := (hq.nx e).2
    rw [hm.me] at this
    exact this
  obtain ⟨s1, g1, g2, g3, g4, g5, g6⟩ := hg.settle (q := q) (s := { s with ms := s.ms.set i q, ds := s.ds.set i d', k := s.k + 1 }) (d := d') hi rfl rfl rfl rfl rfl (by show s.k + 1 ≤ 90000; omega) hsv hc hm hle (fun m hm' => hle.net (hg.net m hm')) (fun T c L hL => .inl ⟨L, by rw [hLL] at hL; exact hL⟩) hlead (by rw [hdk]; exact hdr)
  have g4' : s1.k = s.k + 2 := g4
  refine ⟨s1, g1, g4', g3, G', _, g2, ?_⟩
  have hps : s1.pots ≤ s.pots := by
    unfold PS.pots
    rw [g5]
    show (((s.ms.set i q).set i q.settled).map PR.pot).sum ≤ _
    rw [List.set_set]
    have h1 := sum_set s.ms i p q.settled hp
    have h2 : q.settled.pot = q.pot := rfl
    omega
  exact {
    bd := fun j p' h => by
      rw [g5] at h
      have h : ((s.ms.set i q).set i q.settled)[j]? = some p' := h
      rw [List.set_set, List.getElem?_set] at h
      rw [g4']
      split at h
      · split at h
        · rw [← Option.some.inj h]
          have hq := hq.mono (K' := s.k + 2) (o' := 3 * (s.k + 2)) (by omega) (by omega)
          exact ⟨hq.tick, hq.term, hq.vote, hq.ol, hq.out, hq.nx, hq.nl, hq.es⟩
        · cases h
      · exact (hb.bd j p' h).mono (by omega) (by omega)
    net := fun m hm' => by
      rw [g3] at hm'
      rw [g4']
      exact (hb.net m hm').mono (by omega)
    nl := by rw [g3]; exact hb.nl
    ll := fun T c L hL => by
      rw [hLL] at hL
      have := hb.ll T c L hL
      exact ⟨by omega, this.2⟩
    pt := Nat.le_trans hps hb.pt
    Ek := by have := hb.Ek; omega
    ds := fun j d2 h => by
      rw [g6, hdk] at h
      have h : ((s.ds.set i d').set i d')[j]? = some d2 := h
      rw [List.set_set, List.getElem?_set] at h
      rw [g4']
      split at h
      · split at h
        · rw [← Option.some.inj h]
          omega
        · cases h
      · have := hb.ds j d2 h
        omega }
structure BootOk (i : Nat) (b : List UInt8) : Prop where
  len : b.length ≤ 10000000000
  new : lgNewP (scanP nilI b).1.ix (scanP nilI b).1.tm (scanP nilI b).1.l
  B : (PI.new i (scanP nilI b).1).B
  le : (scanP nilI b).2 ≤ b.length
theorem vt3 : ∀ n : Nat, n = 2 ∨ n = 3 → 2 ^ n - 1 < 128 := by rintro n (rfl | rfl) <;> decide
theorem Well.crash (hn : n = 2 ∨ n = 3) (h : Well n s E) (hi : i < n) (k : Nat) (hk : s.k ≤ 88000) (hE : E ≤ 1000) : ∃ d s0 s1, s.ds[i]? = some d ∧ BootOk i (kept d k) ∧ s.crashAt i k = some s0 ∧ s0.settle i = some s1 ∧ s1.k ≤ s.k + 2 ∧ Well n s1 E := by
  obtain ⟨G, fl, hg, hb⟩ := h
  obtain ⟨p, d, hp, hd⟩ := hg.at hi
  have hmi := hg.mi i p hp
  have hbd := hb.bd i p hp
  have hEk := hb.Ek
  have hDR := hg.dr i p d hp hd
  have hds := hb.ds i d hd
  have hle0 := hDR.le
  obtain ⟨x, m, ⟨v, hv, hxv⟩, hre, hsc, hmc⟩ := hDR.cut (d.2 + min k (d.1.length - d.2)) (by omega) (by omega)
  have hkept : kept d k = d.1.take (d.2 + min k (d.1.length - d.2)) := rfl
  have hsc' : scanP nilI (kept d k) = (x, m) := hsc
  have hklen : (kept d k).length = d.2 + min k (d.1.length - d.2) := by rw [hkept, List.length_take]; omega
  have htk : (kept d k).take m = d.1.take m := by rw [hkept, List.take_take, Nat.min_eq_left hmc]
  obtain ⟨w1, w2, w3, w4, w5⟩ := hmi.vwC v hv
  have wt := hmi.vwle v hv
  have hpt := hbd.term
  obtain ⟨wg, wtm⟩ := hg.ci.vwG i v hi hv
  have wlen : v.fl.length ≤ E := by
    have := wg.len (B := E) (fun T c L hL => by have := (hb.ll T c L hL).1; omega)
    exact this
  have wd : ∀ e ∈ v.fl, e.data.length ≤ 1 := fun e he => by
    obtain ⟨c, L, h1, h2⟩ := wg.mem he
    exact (hb.ll _ _ _ h1).2 e h2
  have wv2 : v.vote < (n : Int) := by
    rcases Int.lt_or_le v.vote 0 with h | h
    · omega
    · have := (hmi.vwV v hv h).1
      omega
  have hxe : x = ⟨v.term, v.vote, v.base, tmK v.fl v.base, 2 ^ n - 1, v.sd, v.fl.drop v.base⟩ := hxv
  have wix : ∀ e ∈ v.fl, e.ix ≤ E ∧ e.kd = 0 := fun e he => by
    obtain ⟨j, hj⟩ := List.mem_iff_getElem?.1 he
    have h1 := w3 j e hj
    have h2 : j < v.fl.length := by
      rcases Nat.lt_or_ge j v.fl.length with h | h
      · exact h
      · rw [List.getElem?_eq_none h] at hj; cases hj
    exact ⟨by omega, h1.2⟩
  have wtk : tmK v.fl v.base ≤ v.term := by
    cases hbz : v.base with
    | zero => exact Nat.zero_le _
    | succ b =>
      have hbl : b < v.fl.length := by omega
      show ((v.fl[b]?).map PE.tm).getD 0 ≤ _
      rw [List.getElem?_eq_getElem hbl]
      exact wtm _ (List.getElem_mem hbl)
  have hback : Back n i v (PI.new i x).rest := by
    rw [hxe]
    exact ⟨rfl, rfl, rfl, rfl, rfl, rfl, rfl, rfl, rfl, rfl, rfl, rfl, rfl, by show v.base + (v.fl.drop v.base).length ≤ _; rw [List.length_drop]; omega, rfl⟩
  obtain ⟨G', hc, hm, hle, hvw, hLL⟩ := hmi.crash hg.ci hi hv hback
  have hbd' : Bd (s.k + 1) (3 * s.k + 3) (PI.new i x).rest := by
    rw [hxe]
    exact ⟨Nat.zero_le _, by show v.term ≤ _; omega, w5, Nat.zero_le _, fun m hm => (List.not_mem_nil hm).elim, fun e => by have e : (0 : Nat) = 3 := e; omega, rfl, fun e he => by
      have he := List.mem_of_mem_drop he
      exact ⟨by have := (wix e he).1; omega, wd e he⟩⟩
  have hview : ((PI.new i x).rest.view v.fl).pi n = x := by rw [hxe]; rfl
  have hmlen : (d.1.take m).length = m := by rw [List.length_take]; omega
  obtain ⟨s1, g1, g2, g3, g4⟩ := hg.clean hb hp (d' := (d.1.take m, m)) hc hm hle hLL hbd' rfl rfl rfl (by show PR.pot _ ≤ _; have : (PI.new i x).rest.pot = 0 := rfl; omega)
    (by
      rw [hview]
      have := DR.whole (V := G'.PV n i) hre ⟨v, (hvw v).2 rfl, hxv⟩
      rw [hmlen] at this
      exact this) (by show (d.1.take m).length ≤ _; rw [hmlen]; omega) (by omega)
  have hfst : (scanP nilI (kept d k)).1 = x := by rw [hsc']
  have hsnd : (scanP nilI (kept d k)).2 = m := by rw [hsc']
  refine ⟨d, _, s1, hd, ⟨by omega, ?_, ?_, by rw [hsnd]; omega⟩, ?_, g1, by omega, g4⟩
  · rw [hfst, hxe]
    intro j hj
    have hj : j < (v.fl.drop v.base).length := hj
    have h1 : (v.fl.drop v.base)[j]? = some (v.fl.drop v.base)[j] := List.getElem?_eq_getElem hj
    rw [List.getElem?_drop] at h1
    refine ⟨?_, ?_⟩
    · have := (w3 _ _ h1).1
      show (v.fl.drop v.base)[j].ix = v.base + j + 1
      exact this
    · show (if j = 0 then tmK v.fl v.base else (((v.fl.drop v.base)[j - 1]?).map PE.tm).getD 0) ≤ (v.fl.drop v.base)[j].tm
      obtain ⟨ej, hej⟩ : ∃ e, e = (v.fl.drop v.base)[j] := ⟨_, rfl⟩
      rw [← hej] at h1 ⊢
      split
      · rename_i h0
        have hgo : ∀ b0, b0 = v.base → tmK v.fl b0 ≤ ej.tm := by
          intro b0 hb0
          cases b0 with
          | zero => exact Nat.zero_le _
          | succ b =>
            have hbl : b < v.fl.length := by omega
            show ((v.fl[b]?).map PE.tm).getD 0 ≤ _
            rw [List.getElem?_eq_getElem hbl]
            exact wg.mon hg.ci (List.getElem?_eq_getElem hbl) h1 (by omega)
        exact hgo _ rfl
      · rename_i h0
        rw [List.getElem?_drop]
        rw [List.length_drop] at hj
        have hbl : v.base + (j - 1) < v.fl.length := by omega
        rw [List.getElem?_eq_getElem hbl]
        exact wg.mon hg.ci (List.getElem?_eq_getElem hbl) h1 (by omega)
  · rw [hfst, hxe]
    have hvt := vt3 n hn
    exact ⟨by show i < 7; omega, (own_dr (by omega : i < 7)).1, by show v.term ≤ _; omega, w5, by show v.vote < 7; omega, by show (0 : Nat) ≤ 3; omega, by show (-1 : Int) ≤ -1; omega, by show (-1 : Int) < 7; omega, by show v.base + (v.fl.drop v.base).length ≤ _; rw [List.length_drop]; omega, by show tmK v.fl v.base ≤ _; omega, hvt, fun e he => by
      have he := List.mem_of_mem_drop he
      have h1 := wix e he
      have h2 := wtm e he
      have h3 := wd e he
      exact ⟨by omega, by omega, by omega, by omega, fun e => by omega⟩, by show v.base ≤ _; omega, by show v.base + (v.fl.drop v.base).length ≤ _; rw [List.length_drop]; omega, Nat.zero_le _, Nat.zero_le _, Nat.zero_lt_succ _, rfl, rfl,
      fun j => by simp only [PI.new, List.getD_eq_getElem?_getD, List.getElem?_replicate]; split <;> simp, fun j => by simp only [PI.new, List.getD_eq_getElem?_getD, List.getElem?_replicate]; split <;> simp, fun m hm => (List.not_mem_nil hm).elim, Nat.zero_le _, Nat.zero_le _, by show v.base ≤ _; omega, by show tmK v.fl v.base ≤ _; omega, hvt, by show v.sd.length ≤ _; omega⟩
  · unfold PS.crashAt
    rw [hd]
    dsimp only
    rw [hfst, hsnd, htk]
theorem Well.compact (hn : n = 2 ∨ n = 3) (h : Well n s E) (hi : i < n) (data : List UInt8) (hdl : data.length ≤ 1) (hk : s.k ≤ 88000) (hE : E ≤ 1000) : ∃ p s0 s1, s.ms[i]? = some p ∧ s.compactAt i data = some s0 ∧ s0.settle i = some s1 ∧ s1.k ≤ s.k + 2 ∧ Well n s1 E ∧ p.l.length ≤ 1000 ∧ (p.lix < p.cm → (p.compact data).l.length ≤ 1000) := by
  have hself := h.settle hn hi (by omega) hE
  obtain ⟨G, fl, hg, hb⟩ := h
  obtain ⟨p, d, hp, hd⟩ := hg.at hi
  have hmi := hg.mi i p hp
  obtain ⟨k1, k2, k3, k4⟩ := hg.cl i p hp
  have hbd := (hb.bd i p hp).mono (Nat.le_succ s.k) (show 3 * s.k ≤ 3 * s.k + 3 by omega)
  have hEk := hb.Ek
  have hfl := hg.flen hb hp
  have hpl : p.l.length ≤ 1000 := by rw [hmi.lf, List.length_drop]; omega
  have hcl : (p.compact data).l.length ≤ 1000 := by
    show (p.l.drop (p.cm - p.lix)).length ≤ 1000
    rw [List.length_drop]
    omega
  unfold PS.compactAt
  rw [hp]
  dsimp only
  split
  · rename_i hlt
    obtain ⟨G', hc, hm, hle, hvw, hLL⟩ := hmi.compact hg.ci hi data (by omega)
    have hq : Bd (s.k + 1) (3 * s.k + 3) (p.compact data) := ⟨hbd.tick, hbd.term, hbd.vote, hbd.ol, hbd.out, hbd.nx, hbd.nl, fun e he => hbd.es e (List.mem_of_mem_drop he)⟩
    have hv2 : p.vote < 65535 := by
      rcases Int.lt_or_le p.vote 0 with h | h
      · omega
      · have := (hmi.pvS _ _ (hmi.pv2 h)).1
        omega
    have ht := (hb.bd i p hp).term
    have hfits : Fits (p.compact data) (fl i) := ⟨by show p.term < _; omega, hbd.vote, hv2, fun e he => by
      obtain ⟨j, hj⟩ := List.mem_iff_getElem?.1 he
      have h1 := hmi.fix j e hj
      have h2 := (hmi.goodF hg.ci hi).2 e he
      have h3 : j < (fl i).length := by
        rcases Nat.lt_or_ge j (fl i).length with h | h
        · exact h
        · rw [List.getElem?_eq_none h] at hj; cases hj
      have h4 := hfl.2 e he
      exact ⟨by omega, by omega, by omega, by omega⟩, by show data.length ≤ _; omega, by omega⟩
    -- as if a snapshot had come
    have hmr : MI n G' i { p.compact data with rs := true } (fl i) := hm.vol { p.compact data with rs := true } rfl rfl rfl rfl rfl rfl rfl rfl rfl rfl rfl rfl rfl hm.st hm.cand hm.lead
    have hdr := DR.settle (.inr hn) (hg.dr i p d hp hd) (G' := G') (q := { p.compact data with rs := true }) (fun x hx => by
      obtain ⟨v, hv, hx⟩ := hx
      exact ⟨v, hvw v hv, hx⟩) ⟨_, hmi.vwm, rfl⟩ k1 hmr.shp hmr.vwm (.inl rfl) ⟨hfits.term, hfits.v1, hfits.v2, hfits.es, hfits.sd, hfits.len⟩
    have hdk : ({ p.compact data with rs := true } : PR).disk d = ((p.compact data).image.whole, (p.compact data).image.whole.length) := by
      unfold PR.disk
      rw [if_pos rfl]
      rfl
    rw [hdk] at hdr
    have hwl : (p.compact data).image.whole.length ≤ 2000000 := by
      have := disk_len hmr.shp (by omega) hfl.2 (by show data.length ≤ _; omega) ([], 0) 2000000 (by simp) (Nat.le_refl _)
      have e : ({ p.compact data with rs := true } : PR).disk ([], 0) = ((p.compact data).image.whole, (p.compact data).image.whole.length) := by
        unfold PR.disk
        rw [if_pos rfl]
        rfl
      rw [e] at this
      exact this
    obtain ⟨s1, g1, g2, g3, g4⟩ := hg.clean hb hp (d' := ((p.compact data).image.whole, (p.compact data).image.whole.length)) hc hm hle hLL hq k3 k1 k2 (Nat.le_refl _) hdr (by show (p.compact data).image.whole.length ≤ _; omega) (by omega)
    exact ⟨p, _, s1, rfl, rfl, g1, by omega, g4, hpl, fun _ => hcl⟩
  · obtain ⟨s1, g1, g2, g3, g4⟩ := hself
    exact ⟨p, s, s1, rfl, rfl, g1, by omega, g4, hpl, fun _ => hcl⟩
end
end Go.SX
namespace Go.SX
open Go Go.Proofs
set_option maxRecDepth 4000
def PS.actI (dr : Nat → Nat) (s : PS) (K i B : Nat) : Option PS :=
  if K < 2 then s.tickAt i
  else if K < 5 then s.sync i
  else if K < 8 then s.come B false
  else if K < 9 then s.come B true
  else if K < 10 then some { s with net := s.net.drop 1 }
  else if K < 12 then s.proposeAt i [UInt8.ofNat B]
  else if K < 13 then s.crashAt i B
  else if K < 14 then (if B % 4 = 0 then s.compactAt i [UInt8.ofNat B] else some s)
  else if K < 15 then s.drawAt i (dr B)
  else s.round (-1)
def PS.act (dr : Nat → Nat) (s : PS) (K A B : Nat) : Option PS := (s.actI dr (K % 16) (A % s.ms.length) B).bind fun s1 => s1.settle (A % s.ms.length)
structure Fine (s : PS) (i : Nat) : Prop where
  put : ∀ p, s.ms[i]? = some p → p.lix + p.l.length < 300000 ∧ (p.role = 3 → ∀ j < 7, 1 ≤ p.nx.getD j 0) ∧ p.out.length + 7 ≤ 300000
  snap : ∀ p, s.ms[i]? = some p → p.l.length ≤ 1000 ∧ p.lix ≤ p.cm ∧ p.cm ≤ p.last ∧ p.chg = false ∧ p.fresh = 0 ∧ ∀ e ∈ p.l, e.kd = 0
  boot : ∀ d, s.ds[i]? = some d → ∀ k, BootOk i (kept d k)
section
variable {n i : Nat} {G G' : Fa} {p q : PR} {s : PS} {fl : Nat → List PE} {E : Nat}
theorem Well.fine (hn : n = 2 ∨ n = 3) (h : Well n s E) (hi : i < n) (hk : s.k ≤ 88000) (hE : E ≤ 1000) : Fine s i := by
  have hcr := fun k => h.crash hn hi k hk hE
  obtain ⟨G, fl, hg, hb⟩ := h
  refine ⟨fun p hp => ?_, fun p hp => ?_, fun d hd k => ?_⟩
  · have hbd := hb.bd i p hp
    have hlm := (hg.lm hb hp).last
    have h1 : p.last = p.lix + p.l.length := rfl
    have h2 := hbd.ol
    exact ⟨by omega, fun e => (hbd.nx e).1, by omega⟩
  · have hmi := hg.mi i p hp
    have hfl := hg.flen hb hp
    obtain ⟨k1, k2, k3, k4⟩ := hg.cl i p hp
    exact ⟨by rw [hmi.lf, List.length_drop]; omega, hmi.lixcm, by rw [hmi.last]; exact hmi.cmle, k1, k2, fun e he => by
      rw [hmi.lf] at he
      obtain ⟨j, hj⟩ := List.mem_iff_getElem?.1 (List.mem_of_mem_drop he)
      exact (hmi.fix j e hj).2⟩
  · obtain ⟨d', s0, s1, h1, h2, _⟩ := hcr k
    rw [hd] at h1
    rw [Option.some.inj h1]
    exact h2
theorem Well.bad (h : Well n s E) : s.bad = false := by
  obtain ⟨G, fl, hg, hb⟩ := h
  exact hg.bad
theorem Well.act (hn : n = 2 ∨ n = 3) (dr : Nat → Nat) (h : Well n s E) (K A B : Nat) (hk : s.k ≤ 85000) (hE : E + 3 ≤ 1000) : ∃ s0 s1, s.actI dr (K % 16) (A % s.ms.length) B = some s0 ∧ s0.settle (A % s.ms.length) = some s1 ∧ s1.k ≤ s.k + 320 ∧ ∃ E', E' ≤ E + 3 ∧ Well n s1 E' := by
  have hi : A % s.ms.length < n := by
    rw [h.len]
    exact Nat.mod_lt _ (by omega)
  generalize A % s.ms.length = i at hi
  generalize K % 16 = K'
  -- what is well is settled
  have fin : ∀ {s0 : PS} {E0 : Nat}, Well n s0 E0 → s0.k ≤ s.k + 319 → E0 ≤ E + 3 → ∃ s1, s0.settle i = some s1 ∧ s1.k ≤ s.k + 320 ∧ ∃ E', E' ≤ E + 3 ∧ Well n s1 E' := fun {s0 E0} hw hk0 hE0 => by
    obtain ⟨s1, h1, h2, h3, h4⟩ := hw.settle hn hi (by omega) (by omega)
    exact ⟨s1, h1, by omega, E0, hE0, h4⟩
  unfold PS.actI
  split
  · obtain ⟨s0, s1, h1, h2, h3, h4, h5⟩ := h.tick hn hi (by omega) (by omega)
    exact ⟨s0, s1, h1, h2, by omega, E + 1, by omega, h5⟩
  · split
    · obtain ⟨s0, h1, h2, h3⟩ := h.sync hn hi (by omega) (by omega)
      obtain ⟨s1, h4⟩ := fin h3 (by omega) (by omega)
      exact ⟨s0, s1, h1, h4⟩
    · split
      · obtain ⟨s0, h1, h2, h3, _⟩ := h.come hn B false (by omega) (by omega)
        obtain ⟨s1, h4⟩ := fin h3 (by omega) (by omega)
        exact ⟨s0, s1, h1, h4⟩
      · split
        · obtain ⟨s0, h1, h2, h3, _⟩ := h.come hn B true (by omega) (by omega)
          obtain ⟨s1, h4⟩ := fin h3 (by omega) (by omega)
          exact ⟨s0, s1, h1, h4⟩
        · split
          · have hnl := h.nl
            have h3 := h.net (net := s.net.drop 1) (fun m hm => List.mem_of_mem_drop hm) (by rw [List.length_drop]; omega)
            obtain ⟨s1, h4⟩ := fin h3 (by show s.k ≤ _; omega) (by omega)
            exact ⟨_, s1, rfl, h4⟩
          · split
            · obtain ⟨s0, s1, h1, h2, h3, h5⟩ := h.propose hn hi [UInt8.ofNat B] (by simp) (by omega) (by omega)
              exact ⟨s0, s1, h1, h2, by omega, E + 1, by omega, h5⟩
            · split
              · obtain ⟨d, s0, s1, _, _, h1, h2, h3, h5⟩ := h.crash hn hi B (by omega) (by omega)
                exact ⟨s0, s1, h1, h2, by omega, E, by omega, h5⟩
              · split
                · split
                  · obtain ⟨p, s0, s1, _, h1, h2, h3, h5, _⟩ := h.compact hn hi [UInt8.ofNat B] (by simp) (by omega) (by omega)
                    exact ⟨s0, s1, h1, h2, by omega, E, by omega, h5⟩
                  · obtain ⟨s1, h4⟩ := fin h (by omega) (by omega)
                    exact ⟨_, s1, rfl, h4⟩
                · split
                  · obtain ⟨s0, s1, h1, h2, h3, h5⟩ := h.draw hn hi (dr B) (by omega) (by omega)
                    exact ⟨s0, s1, h1, h2, by omega, E, by omega, h5⟩
                  · obtain ⟨s0, h1, h2, h3⟩ := h.round hn (-1) (by omega) (by omega)
                    obtain ⟨s1, h4⟩ := fin h3 (by omega) (by omega)
                    exact ⟨s0, s1, h1, h4⟩
def Fa.zero : Fa := ⟨fun _ => none, fun _ _ => 0, fun _ _ _ => False, fun _ _ => none, fun _ _ => none, fun _ v => v = ⟨0, -1, [], 0, []⟩⟩
theorem CI.zero (n : Nat) : CI n Fa.zero where
  fixL _ _ _ h := by cases h
  askG _ _ _ h := by cases h
  ne j _ := ⟨_, rfl⟩
  vot0 _ _ _ _ h := h.elim
  vot1 _ _ _ _ _ h := h.elim
  acc1 _ _ _ _ h := absurd h (Nat.lt_irrefl 0)
  accB _ _ _ h := absurd h (Nat.lt_irrefl 0)
  vot2 _ _ _ _ h := h.elim
  votS _ _ _ _ _ _ _ _ _ h := h.elim
  led _ _ _ h := by cases h
  vwG j v _ h := by
    have h : v = ⟨0, -1, [], 0, []⟩ := h
    subst h
    exact ⟨Good.nil _, fun e he => (List.not_mem_nil he).elim⟩
  S _ _ _ _ _ _ _ _ h := by cases h
  P _ _ _ _ _ _ _ _ h := by cases h
theorem MI.zero (n i : Nat) : MI n Fa.zero i (PR.first n i) [] where
  me := rfl
  lf := rfl
  lle := Nat.le_refl _
  ltm := rfl
  six := rfl
  stm := rfl
  lvt := rfl
  svt := rfl
  fix k e h := by simp at h
  vwm := rfl
  vwle v h := by
    have h : v = ⟨0, -1, [], 0, []⟩ := h
    subst h
    exact Nat.le_refl _
  vwV v h h0 := by
    have h : v = ⟨0, -1, [], 0, []⟩ := h
    subst h
    simp at h0
  vwC v h := by
    have h : v = ⟨0, -1, [], 0, []⟩ := h
    subst h
    exact ⟨Nat.le_refl _, .inl rfl, fun k e h => by simp at h, Nat.zero_le _, Int.le_refl _⟩
  com := .inl rfl
  cmle := Nat.le_refl _
  lixcm := Nat.le_refl _
  st := Nat.le_refl _
  pv1 _ _ h := by cases h
  pv2 h := by
    have h : (0 : Int) ≤ -1 := h
    omega
  pvS _ _ h := by cases h
  askB _ _ h := by cases h
  cand h := by
    have h : (0 : Nat) = 2 := h
    omega
  lead h := by
    have h : (0 : Nat) = 3 := h
    omega
  out m hm := (List.not_mem_nil hm).elim
theorem img_reaches (n : Nat) (hn : n ≤ 5) (h1 : 1 ≤ n) : Reaches (img n).whole (img n) := by
  obtain ⟨hv, hv0⟩ := vt_lt n hn h1
  exact whole_reaches (img n) (.inr hv0) (by simp [img]) (by simp [img]) (by simp [img]) (by simp [img]) (by simp [img]) (by show 2 ^ n - 1 < _; omega) (by simp [img]) (by simp [img]) (by simp [img])
theorem new_at {n i : Nat} {p : PR} (h : (PS.new n).ms[i]? = some p) : p = PR.first n i := by
  have h : ((List.range n).map (PR.first n))[i]? = some p := h
  rw [List.getElem?_map] at h
  rcases Nat.lt_or_ge i n with h1 | h1
  · rw [List.getElem?_range h1] at h
    exact (Option.some.inj h).symm
  · rw [List.getElem?_eq_none (by simpa using h1)] at h
    cases h
theorem new_ds {n i : Nat} {d : List UInt8 × Nat} (h : (PS.new n).ds[i]? = some d) : d = ((img n).whole, (img n).whole.length) := by
  have h : (List.replicate n ((img n).whole, (img n).whole.length))[i]? = some d := h
  rw [List.getElem?_replicate] at h
  split at h
  · exact (Option.some.inj h).symm
  · cases h
theorem Well.new (hn : n = 2 ∨ n = 3) : Well n (PS.new n) 0 := by
  have hil := img_len n
  refine ⟨Fa.zero, fun _ => [], ?_, ?_⟩
  · exact {
      len := by simp [PS.new]
      dl := by simp [PS.new]
      ci := CI.zero n
      mi := fun i p h => by rw [new_at h]; exact MI.zero n i
      cl := fun i p h => by rw [new_at h]; exact ⟨rfl, rfl, rfl, fun e => by have e : (0 : Nat) = 3 := e; omega⟩
      net := fun m hm => (List.not_mem_nil hm).elim
      dr := fun i p d h h' => by
        rw [new_at h, new_ds h']
        have e : ((PR.first n i).view []).pi n = img n := rfl
        rw [e]
        exact DR.whole (img_reaches n (by omega) (by omega)) ⟨_, rfl, rfl⟩
      ld := fun T i => by
        constructor
        · intro h; cases h
        · rintro ⟨L, h⟩; cases h
      dn := fun k e h => by cases h
      bad := rfl }
  · have hp0 : (PS.new n).pots = 0 := by
      unfold PS.pots PS.new
      dsimp only
      rw [List.map_map]
      have : (PR.pot ∘ PR.first n) = fun _ => 0 := by funext j; rfl
      rw [this]
      clear this
      generalize List.range n = l
      induction l with
      | nil => rfl
      | cons x r ih => simpa using ih
    exact {
      bd := fun i p h => by
        rw [new_at h]
        exact ⟨Nat.le_refl _, Nat.le_refl _, Int.le_refl _, Nat.le_refl _, fun m hm => (List.not_mem_nil hm).elim, fun e => by have e : (0 : Nat) = 3 := e; omega, rfl, fun e he => (List.not_mem_nil he).elim⟩
      net := fun m hm => (List.not_mem_nil hm).elim
      nl := Nat.zero_le _
      ll := fun T c L h => by cases h
      pt := Nat.le_of_eq hp0
      Ek := Nat.le_refl _
      ds := fun i d h => by
        rw [new_ds h]
        dsimp only
        omega }
end
end Go.SX
namespace Go.SX
open Go Go.Proofs
set_option maxRecDepth 4000
structure VOk (k E : Nat) (D : List PE) (v : Vw) : Prop where
  pre : D <+: v.fl
  base : v.base ≤ D.length
  fix : Fixd v.fl
  mon : ∀ (a b : Nat) (e e' : PE), v.fl[a]? = some e → v.fl[b]? = some e' → a ≤ b → e.tm ≤ e'.tm
  tm : ∀ e ∈ v.fl, e.tm ≤ v.term ∧ e.data.length ≤ 1
  len : v.fl.length ≤ E
  term : v.term ≤ k
  v1 : -1 ≤ v.vote
  v2 : v.vote < 7
  sd : v.sd.length ≤ 500000
theorem VOk.up {k k' E E' : Nat} {D : List PE} {v : Vw} (h : VOk k E D v) (hk : k ≤ k') (hE : E ≤ E') : VOk k' E' D v := { h with len := Nat.le_trans h.len hE, term := Nat.le_trans h.term hk }
structure One (s : PS) (p : PR) (d : List UInt8 × Nat) (f D : List PE) (Vs : Vw → Prop) (E : Nat) : Prop where
  ms : s.ms = [p]
  ds : s.ds = [d]
  net : s.net = []
  sh : Shp 1 p f
  me : p.me = 0
  lvt : p.lvt = 1
  cl : p.chg = false ∧ p.fresh = 0 ∧ p.rs = false
  bd : Bd s.k 0 p
  vw : Vs (p.view f)
  ok : ∀ v, Vs v → VOk s.k E D v
  cm : p.cm ≤ D.length
  lc : p.lix ≤ p.cm
  dr : DR (fun x => ∃ v, Vs v ∧ x = v.pi 1) d.1 d.2 ((p.view f).pi 1)
  dl : d.1.length ≤ 40000 * (s.k + 1) + 2000000
  ld : ∀ T j, lookN s.ld T = some j → j = 0
  dn : ∀ k e, lookN s.dn k = some e → 1 ≤ k ∧ D[k - 1]? = some e
  bad : s.bad = false
  Ek : E ≤ s.k
def Well1 (s : PS) (E : Nat) : Prop := ∃ p d f D Vs, One s p d f D Vs E
section
variable {p q : PR} {s : PS} {f f' D D' : List PE} {Vs Vs' : Vw → Prop} {d d' : List UInt8 × Nat} {E E' : Nat}
theorem One.settle (h : One s p d f D Vs E) {s0 : PS} (hms : s0.ms = [q]) (hds : s0.ds = [d']) (hnet : s0.net = []) (hld : s0.ld = s.ld) (hdn : s0.dn = s.dn) (hbad : s0.bad = s.bad) (hk0 : s.k ≤ s0.k) (hk : s0.k ≤ 90000) (hsv : q.saveOk = true)
    (sh : Shp 1 q f') (me : q.me = 0) (lvt : q.lvt = 1) (bd : Bd (s0.k + 1) 0 q) (vw : Vs' (q.view f')) (ok : ∀ v, Vs' v → VOk (s0.k + 1) E' D' v) (hD : D <+: D') (cm : q.cm ≤ D'.length) (lc : q.lix ≤ q.cm)
    (dr : DR (fun x => ∃ v, Vs' v ∧ x = v.pi 1) (q.disk d').1 (q.disk d').2 ((q.view f').pi 1)) (dl : (q.disk d').1.length ≤ 40000 * (s0.k + 2) + 2000000) (Ek : E' ≤ s0.k + 1) :
    ∃ s1, s0.settle 0 = some s1 ∧ s1.k = s0.k + 1 ∧ One s1 q.settled (q.disk d') f' D' Vs' E' := by
  have hq : s0.ms[0]? = some q := by rw [hms]; rfl
  have hd : s0.ds[0]? = some d' := by rw [hds]; rfl
  have hDf : D' <+: f' := (ok _ vw).pre
  have hDl := hDf.length_le
  have hlast := sh.last
  have hdn' : ∀ k e, lookN s0.dn k = some e → 1 ≤ k ∧ D'[k - 1]? = some e := fun k e hl => by
    rw [hdn] at hl
    obtain ⟨h1, h2⟩ := h.dn k e hl
    exact ⟨h1, pre_get hD h2⟩
  have hl2 : (q.leads 0 s0.ld s0.dn s0.bad).2 = false := by
    rw [hbad, h.bad]
    unfold PR.leads
    split
    · rename_i hr
      have h1 : leadB 0 q s0.ld false = false := by
        unfold leadB
        rw [(bd.nx hr).2, me]
        cases hlo : lookN s0.ld q.term with
        | none => simp
        | some k =>
          rw [hld] at hlo
          simp [h.ld _ _ hlo]
      dsimp only
      rw [h1]
      unfold overB
      rw [Bool.false_or, Bool.and_eq_false_iff]
      right
      rw [List.any_eq_false]
      intro x hx
      obtain ⟨e, he⟩ := mem_lookN hx
      obtain ⟨h2, h3⟩ := hdn' _ _ he
      have h4 : x.1 - 1 < D'.length := by
        rcases Nat.lt_or_ge (x.1 - 1) D'.length with h | h
        · exact h
        · rw [List.getElem?_eq_none h] at h3; cases h3
      rw [hlast]
      simp only [decide_eq_true_eq]
      omega
    · rfl
  have hld2 : ∀ T j, lookN (q.leads 0 s0.ld s0.dn s0.bad).1 T = some j → j = 0 := by
    intro T j
    unfold PR.leads
    split
    · dsimp only
      rw [lookN_put]
      split
      · intro h; exact (Option.some.inj h).symm
      · rw [hld]; exact h.ld T j
    · dsimp only
      rw [hld]
      exact h.ld T j
  obtain ⟨c1, c2⟩ := cmtF_ok (P := fun k e => 1 ≤ k ∧ D'[k - 1]? = some e) (fun k e e' h h' => by
    have := h.2
    rw [h'.2] at this
    exact (Option.some.inj this).symm) q (q.cm - q.lix) (q.lix + 1) s0.dn (fun j h1 h2 => by
    have hj : j - 1 < D'.length := by omega
    have he : D'[j - 1]? = some D'[j - 1] := List.getElem?_eq_getElem hj
    have hf := pre_get hDf he
    refine ⟨D'[j - 1], ?_, ?_, by omega, he⟩
    · unfold PR.entry
      rw [if_neg (by omega), sh.lf, List.getElem?_drop, show q.lix + (j - q.lix - 1) = j - 1 by omega]
      exact hf
    · have := (sh.fix _ _ hf).1
      omega) hdn'
  refine ⟨s0.settleTo 0 q d' (q.leads 0 s0.ld s0.dn s0.bad).1 (cmtF q (q.cm - q.lix) (q.lix + 1) s0.dn false).1 false, ?_, rfl, ?_⟩
  · unfold PS.settle
    rw [hq, hd]
    dsimp only
    rw [hsv, if_pos (by simpa using hk), frc_eq, hl2, c1]
  · exact {
      ms := by show s0.ms.set 0 _ = _; rw [hms]; rfl
      ds := by show s0.ds.set 0 _ = _; rw [hds]; rfl
      net := hnet
      sh := ⟨sh.lf, sh.lle, sh.ltm, sh.six, sh.stm, sh.svt, sh.fix⟩
      me := me
      lvt := lvt
      cl := ⟨rfl, rfl, rfl⟩
      bd := ⟨bd.tick, bd.term, bd.vote, bd.ol, bd.out, bd.nx, bd.nl, bd.es⟩
      vw := vw
      ok := ok
      cm := cm
      lc := lc
      dr := dr
      dl := dl
      ld := hld2
      dn := c2
      bad := rfl
      Ek := Ek }
theorem One.op (h : One s p d f D Vs E) (hk : s.k ≤ 89000) (hE : E' ≤ 1000) (hE1 : E ≤ E') (hE2 : E' ≤ s.k + 1) (hf : f <+: f') (hfl : f'.length ≤ E')
    (sh : Shp 1 q f') (me : q.me = 0) (lvt : q.lvt = 1) (bd : Bd (s.k + 1) 0 q) (hcm : q.cm = p.cm) (hlix : q.lix = p.lix) (hsd : q.sd = p.sd) (hrs : q.rs = false) (hv2 : q.vote < 7) (hhd : Hd p q)
    (htm : ∀ e ∈ f', e.tm ≤ q.term ∧ e.data.length ≤ 1) (hmon : ∀ (a b : Nat) (e e' : PE), f'[a]? = some e → f'[b]? = some e' → a ≤ b → e.tm ≤ e'.tm)
    (hlog : (q.fresh = 0 ∧ f' = f) ∨ (q.fresh = f.length + 1 ∧ f'.length = f.length + 1)) :
    ∃ s1, ({ s with ms := s.ms.set 0 q } : PS).settle 0 = some s1 ∧ s1.k = s.k + 1 ∧ Well1 s1 E' := by
  obtain ⟨k1, k2, k3⟩ := h.cl
  have hpv := h.ok _ h.vw
  have hlc := h.lc
  have hcmD := h.cm
  have hlast := sh.last
  have hlle := h.sh.lle
  have hfle := hf.length_le
  have hDf : D <+: f := hpv.pre
  obtain ⟨N, hN⟩ : ∃ N : Vw → Prop, N = fun v => ∃ x, f.length ≤ x ∧ x ≤ f'.length ∧ v = ⟨q.term, q.vote, f'.take x, q.lix, q.sd⟩ := ⟨_, rfl⟩
  obtain ⟨G', hG'⟩ : ∃ G' : Fa, G' = { Fa.zero with vw := fun _ v => Vs v ∨ N v } := ⟨_, rfl⟩
  have hft : f'.take f.length = f := by
    have := pre_take hf (k := f.length) (Nat.le_refl _)
    rw [this, List.take_length]
  have hNf : N ⟨q.term, q.vote, f, q.lix, q.sd⟩ := by rw [hN]; exact ⟨f.length, Nat.le_refl _, hfle, by rw [hft]⟩
  have hNf' : N (q.view f') := by rw [hN]; exact ⟨f'.length, hfle, Nat.le_refl _, by rw [List.take_length]; rfl⟩
  have hok : ∀ v, (Vs v ∨ N v) → VOk (s.k + 1) E' D v := by
    rintro v (hv | hv)
    · exact (h.ok v hv).up (Nat.le_succ _) hE1
    · rw [hN] at hv
      obtain ⟨x, h1, h2, rfl⟩ := hv
      have hx : f <+: f'.take x := by
        rw [← hft]
        exact take_le_pre h1
      exact {
        pre := hDf.trans hx
        base := by show q.lix ≤ _; omega
        fix := fun k e he => sh.fix k e (pre_get (List.take_prefix _ _) he)
        mon := fun a b e e' ha hb => hmon a b e e' (pre_get (List.take_prefix _ _) ha) (pre_get (List.take_prefix _ _) hb)
        tm := fun e he => htm e (List.mem_of_mem_take he)
        len := by show (f'.take x).length ≤ _; rw [List.length_take]; omega
        term := bd.term
        v1 := bd.vote
        v2 := hv2
        sd := by show q.sd.length ≤ _; rw [hsd]; exact hpv.sd }
  have hpart : Part G' 0 p f q f' := by
    refine ⟨hlix, hsd, hrs, hhd, ?_⟩
    rcases hlog with ⟨e1, e2⟩ | ⟨e1, e2⟩
    · exact .inl ⟨e1, e2⟩
    · right
      rw [e1, hG']
      refine ⟨by omega, by omega, by omega, by omega, by rw [Nat.add_sub_cancel, hft, List.take_length], .inr (by rw [← hlix, ← hsd]; exact hNf), fun x h1 h2 => .inr ?_⟩
      rw [hN, ← hlix, ← hsd]
      exact ⟨x, by omega, h2, rfl⟩
  have hfits : Fits q f' := ⟨by have := bd.term; omega, bd.vote, by omega, fun e he => by
    obtain ⟨k, hk'⟩ := List.mem_iff_getElem?.1 he
    have h1 := sh.fix k e hk'
    have h2 := htm e he
    have h3 : k < f'.length := by
      rcases Nat.lt_or_ge k f'.length with h | h
      · exact h
      · rw [List.getElem?_eq_none h] at hk'; cases hk'
    have h4 := bd.term
    exact ⟨by omega, by omega, by omega, by omega⟩, by rw [hsd]; have := hpv.sd; show p.sd.length ≤ _; have h9 : p.sd.length ≤ 500000 := this; omega, by omega⟩
  have hdr := DR.settle (n := 1) (i := 0) (.inl rfl) h.dr (G' := G') (q := q) (f' := f') (fun x hx => by
    obtain ⟨v, hv, hx⟩ := hx
    exact ⟨v, by rw [hG']; exact .inl hv, hx⟩) ⟨_, h.vw, rfl⟩ k1 sh (by rw [hG']; exact .inr hNf') (.inr hpart) hfits
  have hsv : q.saveOk = true := by
    have hse : q.saveE.length ≤ 1000 := by
      unfold PR.saveE
      split
      · unfold PR.from_
        split
        · exact Nat.zero_le _
        · rw [List.length_take, List.length_drop, sh.lf, List.length_drop]
          omega
      · exact Nat.zero_le _
    unfold PR.saveOk
    rw [decide_eq_true hse, hrs]
    rcases hlog with ⟨e1, _⟩ | ⟨e1, e2⟩
    · simp [e1]
    · have : q.fresh ≤ q.last := by omega
      simp [this]
  obtain ⟨s1, g1, g2, g3⟩ := h.settle (s0 := { s with ms := s.ms.set 0 q }) (q := q) (d' := d) (Vs' := fun v => Vs v ∨ N v) (D' := D) (E' := E') (by show s.ms.set 0 q = _; rw [h.ms]; rfl) h.ds h.net rfl rfl rfl (Nat.le_refl _) (by show s.k ≤ _; omega) hsv sh me lvt bd (.inr hNf') hok (List.prefix_refl _) (by rw [hcm]; exact hcmD) (by rw [hcm, hlix]; exact hlc) (by
      refine hdr.mono fun x hx => ?_
      obtain ⟨v, hv, hx⟩ := hx
      rw [hG'] at hv
      exact ⟨v, hv, hx⟩) (disk_len sh (by omega) (fun e he => (htm e he).2) (by rw [hsd]; have h9 : p.sd.length ≤ 500000 := hpv.sd; omega) d _ (by have := h.dl; show _ ≤ 40000 * (s.k + 2) + 2000000; omega) (by show _ ≤ 40000 * (s.k + 2) + 2000000; omega)) hE2
  exact ⟨s1, g1, g2, _, _, _, _, _, g3⟩
def V1 (p : PR) : Prop := p.voters.1 = 1 ∧ p.me = 0
theorem V1.others (h : V1 p) : p.others = [] := by
  unfold PR.others PR.votes
  rw [h.1, h.2]
  decide
theorem V1.most (h : V1 p) : p.most (2 ^ p.me) = true := by
  unfold PR.most
  rw [h.1, h.2]
  decide
theorem One.v1 (h : One s p d f D Vs E) : V1 p := by
  refine ⟨?_, h.me⟩
  unfold PR.voters
  rw [foldl_keep]
  · exact h.lvt
  · intro e he
    rw [h.sh.lf] at he
    obtain ⟨k, hk⟩ := List.mem_iff_getElem?.1 (List.mem_of_mem_drop he)
    have := (h.sh.fix k e hk).2
    exact if_neg (by omega)
theorem V1.put (h : V1 p) (data : List UInt8) : V1 (p.put 0 data) := by
  refine ⟨?_, h.2⟩
  show ((p.l ++ [(⟨p.lix + p.l.length + 1, p.term, 0, data⟩ : PE)]).foldl (fun (q : Nat × Nat) (e : PE) => if e.kd = 1 then (maskB e.data, e.ix) else q) (p.lvt, p.lix)).1 = _
  rw [List.foldl_append]
  exact h.1
theorem V1.tell (h : V1 p) : p.tell = p := by
  unfold PR.tell
  rw [h.others]
  rfl
theorem V1.ask (h : V1 p) : p.ask = p.ask0.camp0.lead0.put 0 [] := by
  have h0 : V1 p.ask0 := h
  have h1 : V1 p.ask0.camp0 := h
  have h2 : V1 p.ask0.camp0.lead0 := h
  have e1 : p.ask0.asks = p.ask0 := by unfold PR.asks; rw [h0.others]; rfl
  have e2 : p.ask0.camp0.canv = p.ask0.camp0 := by unfold PR.canv; rw [h1.others]; rfl
  unfold PR.ask
  rw [e1, if_pos (show p.ask0.most p.ask0.yes = true from h0.most)]
  unfold PR.campaign
  rw [e2, if_pos (show p.ask0.camp0.most p.ask0.camp0.yes = true from h1.most)]
  unfold PR.lead_
  exact (h2.put []).tell
theorem One.vol (h : One s p d f D Vs E) (hk : s.k ≤ 89000) (hE : E ≤ 1000) (q : PR) (h0 : q.me = p.me) (h1 : q.lix = p.lix) (h2 : q.ltm = p.ltm) (h3 : q.lvt = p.lvt) (h4 : q.l = p.l) (h5 : q.cm = p.cm) (h6 : q.six = p.six) (h7 : q.stm = p.stm) (h8 : q.svt = p.svt) (h9 : q.sd = p.sd) (h10 : q.term = p.term) (h11 : q.vote = p.vote) (h12 : q.chg = p.chg) (h13 : q.fresh = p.fresh) (h14 : q.rs = p.rs) (bd : Bd (s.k + 1) 0 q) :
    ∃ s1, ({ s with ms := s.ms.set 0 q } : PS).settle 0 = some s1 ∧ s1.k = s.k + 1 ∧ Well1 s1 E := by
  have hpv := h.ok _ h.vw
  have sh := h.sh
  have hEk := h.Ek
  refine h.op hk hE (Nat.le_refl _) (by omega) (List.prefix_refl _) hpv.len ⟨by rw [h4, h1]; exact sh.lf, by rw [h1]; exact sh.lle, by rw [h1, h2]; exact sh.ltm, by rw [h1, h6]; exact sh.six, by rw [h2, h7]; exact sh.stm, by rw [h8]; exact sh.svt, sh.fix⟩ (by rw [h0]; exact h.me) (by rw [h3]; exact h.lvt) bd h5 h1 h9 (by rw [h14]; exact h.cl.2.2) (by rw [h11]; exact hpv.v2) (.inr ⟨h12, h10, h11⟩) (fun e he => by rw [h10]; exact hpv.tm e he) hpv.mon (.inl ⟨by rw [h13]; exact h.cl.2.1, rfl⟩)
theorem One.put (h : One s p d f D Vs E) (hk : s.k ≤ 89000) (hE : E + 1 ≤ 1000) (r : PR) (data : List UInt8) (hdl : data.length ≤ 1) (hr : r.role = 3) (h0 : r.me = p.me) (h1 : r.lix = p.lix) (h2 : r.ltm = p.ltm) (h3 : r.lvt = p.lvt) (h4 : r.l = p.l) (h5 : r.cm = p.cm) (h6 : r.six = p.six) (h7 : r.stm = p.stm) (h8 : r.svt = p.svt) (h9 : r.sd = p.sd) (h10 : p.term ≤ r.term) (h11 : r.vote < 7) (h12 : Hd p r) (h13 : r.fresh = p.fresh) (h14 : r.rs = p.rs) (bd : Bd (s.k + 1) 0 r) :
    ∃ s1, ({ s with ms := s.ms.set 0 (r.put 0 data) } : PS).settle 0 = some s1 ∧ s1.k = s.k + 1 ∧ Well1 s1 (E + 1) := by
  have hpv := h.ok _ h.vw
  have sh := h.sh
  have hEk := h.Ek
  have hlle := sh.lle
  have hlen : f.length ≤ E := hpv.len
  have hlast : r.lix + r.l.length = f.length := by rw [h1, h4]; exact sh.last
  have hput : (r.put 0 data).l = p.l ++ [r.newE data] := by show r.l ++ [r.newE data] = _; rw [h4]
  have hfr : (r.put 0 data).fresh = f.length + 1 := by
    show (if r.fresh = 0 ∨ _ then r.lix + r.l.length + 1 else r.fresh) = _
    rw [if_pos (.inl (by rw [h13]; exact h.cl.2.1)), hlast]
  have hEt : ∀ e ∈ f, e.tm ≤ r.term := fun e he => Nat.le_trans (hpv.tm e he).1 h10
  refine h.op (q := r.put 0 data) (f' := f ++ [r.newE data]) hk hE (Nat.le_succ _) (by omega) (List.prefix_append _ _) (by rw [List.length_append, List.length_singleton]; omega) ⟨?_, ?_, ?_, ?_, ?_, ?_, ?_⟩ (by show r.me = 0; rw [h0]; exact h.me) (by show r.lvt = 1; rw [h3]; exact h.lvt) (bd.put (by show r.lix + r.l.length + 1 ≤ _; omega) 0 data hdl) h5 h1 h9 (by show r.rs = false; rw [h14]; exact h.cl.2.2) h11 h12 ?_ ?_ (.inr ⟨hfr, by rw [List.length_append]; rfl⟩)
  · show (r.put 0 data).l = (f ++ [r.newE data]).drop r.lix
    rw [hput, h1, List.drop_append_of_le_length hlle, ← sh.lf]
  · show r.lix ≤ _
    rw [h1, List.length_append]
    omega
  · show r.ltm = tmK _ r.lix
    rw [h1, h2, tmK_pre (List.prefix_append _ _) hlle]
    exact sh.ltm
  · show r.six = r.lix
    rw [h1, h6]; exact sh.six
  · show r.stm = r.ltm
    rw [h2, h7]; exact sh.stm
  · show r.svt = _
    rw [h8]; exact sh.svt
  · intro k e hk'
    by_cases hkf : k < f.length
    · rw [List.getElem?_append_left hkf] at hk'
      exact sh.fix k e hk'
    · rw [List.getElem?_append_right (by omega)] at hk'
      have h0' : k - f.length = 0 := by
        rcases Nat.eq_zero_or_pos (k - f.length) with h | h
        · exact h
        · rw [List.getElem?_eq_none (by rw [List.length_singleton]; exact h)] at hk'; cases hk'
      rw [h0'] at hk'
      cases hk'
      exact ⟨by show r.lix + r.l.length + 1 = k + 1; omega, rfl⟩
  · intro e he
    rcases List.mem_append.1 he with he | he
    · exact ⟨hEt e he, (hpv.tm e he).2⟩
    · rw [List.mem_singleton.1 he]
      exact ⟨Nat.le_refl _, hdl⟩
  · intro a b e e' ha hb hab
    by_cases hbf : b < f.length
    · rw [List.getElem?_append_left hbf] at hb
      rw [List.getElem?_append_left (by omega)] at ha
      exact hpv.mon a b e e' ha hb hab
    · have he' : e' = r.newE data := by
        rw [List.getElem?_append_right (by omega)] at hb
        have := List.mem_of_getElem? hb
        exact List.mem_singleton.1 this
      have hem := List.mem_of_getElem? ha
      rw [he']
      show e.tm ≤ r.term
      rcases List.mem_append.1 hem with he | he
      · exact hEt e he
      · rw [List.mem_singleton.1 he]
        exact Nat.le_refl _
end
end Go.SX
