/-
  Plain laws: an image's records come to it.
-/
import Derived.Test.YtmpbgnffdpppbaaWal11
namespace Go.SX
open Go Go.Proofs
set_option maxRecDepth 4000
set_option linter.unusedSimpArgs false
set_option linter.unusedVariables false

structure PE.fit (e : PE) : Prop where
  ix : e.ix < 18446744073709551616
  tm : e.tm < 18446744073709551616
  kd : e.kd < 256
  data : e.data.length ≤ 1048000
theorem Reaches.ents {q : PI} : ∀ (r pre : List PE) {b : List UInt8}, Reaches b { q with l := pre } → (∀ e ∈ r, e.fit) → (∀ (i : Nat) (h : i < r.length), r[i].ix = q.ix + pre.length + i + 1) → Reaches (b ++ entsB r) { q with l := pre ++ r }
  | [], pre, b, h, _, _ => by simpa using h
  | e :: r, pre, b, h, hf, hc => by
    have he := hf e (List.mem_cons_self ..)
    have h0 := hc 0 (by simp)
    simp only [List.getElem_cons_zero, Nat.add_zero] at h0
    have had : addP { q with l := pre } 2 (entP e.ix e.tm e.kd e.data) = some { q with l := pre ++ [e] } := by
      rw [addP, if_neg (by decide), if_pos rfl, entR_entP he.ix he.tm he.kd (by have := he.data; omega)]
      show addE _ e = _
      unfold addE
      dsimp only
      rw [if_neg (by omega)]
      have : e.ix - q.ix - 1 = pre.length := by omega
      rw [this, List.take_length]
    have h1 := h.more (by simp; have := he.data; omega) (by decide) had
    have h2 := Reaches.ents r (pre ++ [e]) h1 (fun x hx => hf x (List.mem_cons_of_mem _ hx)) (fun i hi => by
      have := hc (i + 1) (by simpa using hi)
      simp only [List.getElem_cons_succ] at this
      rw [this]
      simp
      omega)
    have e1 : b ++ entsB (e :: r) = b ++ recB 2 (entP e.ix e.tm e.kd e.data) ++ entsB r := by simp [PE.bs, entsB]
    have e2 : pre ++ (e :: r) = pre ++ [e] ++ r := by simp
    rw [e1, e2]
    exact h2
theorem whole_reaches (p : PI) (h1 : 0 < p.ix ∨ p.vt ≠ 0) (t : p.term < 18446744073709551616) (v1 : -1 ≤ p.vote) (v2 : p.vote < 65535) (i1 : p.ix < 18446744073709551616) (i2 : p.tm < 18446744073709551616) (i3 : p.vt < 18446744073709551616) (d : p.data.length ≤ 1048000) (hf : ∀ e ∈ p.l, e.fit) (hc : ∀ (i : Nat) (h : i < p.l.length), p.l[i].ix = p.ix + i + 1) : Reaches p.whole p := by
  have a1 : addP nilI 3 (snapP p.ix p.tm p.vt p.data) = some ⟨0, -1, p.ix, p.tm, p.vt, p.data, []⟩ := by
    rw [addP, if_neg (by decide), if_neg (by decide), if_pos rfl, snapR_snapP i1 i2 i3 (by omega)]
    rfl
  have a2 : addP ⟨0, -1, p.ix, p.tm, p.vt, p.data, []⟩ 1 (hardP p.term (p.vote + 1).toNat) = some ⟨p.term, p.vote, p.ix, p.tm, p.vt, p.data, []⟩ := by
    have : (((p.vote + 1).toNat : Nat) : Int) - 1 = p.vote := by omega
    rw [addP, if_pos rfl, hardR_hardP t (by omega), this]
    rfl
  have r1 := (Reaches.nil.more (by simp; omega) (by decide) a1).more (by simp) (by decide) a2
  have r2 := Reaches.ents (q := p) p.l [] (b := [] ++ recB 3 (snapP p.ix p.tm p.vt p.data) ++ recB 1 (hardP p.term (p.vote + 1).toNat)) r1 hf (fun i hi => by rw [hc i hi]; simp)
  have e1 : p.whole = [] ++ recB 3 (snapP p.ix p.tm p.vt p.data) ++ recB 1 (hardP p.term (p.vote + 1).toNat) ++ entsB p.l := by
    unfold PI.whole snB saveB hdrB
    rw [if_pos h1, if_pos rfl]
    simp
  rw [e1]
  exact r2
end Go.SX
