/-
  Owned memory brought into another order, some of it let go.
-/
import Derived.Test.YtdmpnpcpnhcioaaSxMore
namespace Go.SX
open Go

def cat {α : Type} : List (List α) → List α
  | [] => []
  | [x] => x
  | x :: y :: r => x ++ cat (y :: r)
theorem cat_cons {α : Type} (x : List α) (r : List (List α)) : cat (x :: r) = x ++ cat r := by
  cases r with
  | nil => simp [cat]
  | cons y r => rfl
theorem cat_eq {α : Type} : ∀ Ls : List (List α), cat Ls = Ls.flatten
  | [] => rfl
  | x :: r => by rw [cat_cons, cat_eq r, List.flatten_cons]

/-- Places, each once at most. -/
def okSel (n : Nat) : List Nat → Bool
  | [] => true
  | i :: r => Nat.blt i n && !(r.any fun j => Nat.beq i j) && okSel n r
def pick1 {α : Type} (Ls : List (List α)) : List Nat → List (List α)
  | [] => []
  | i :: r => (match Ls[i]? with | some l => l | none => []) :: pick1 Ls r

theorem pick1_eq {α : Type} (Ls : List (List α)) : ∀ l : List Nat, pick1 Ls l = l.map fun i => (Ls[i]?).getD []
  | [] => rfl
  | i :: r => by
    simp only [pick1, List.map_cons, pick1_eq Ls r]
    cases Ls[i]? <;> rfl
theorem pick1_all {α : Type} (Ls : List (List α)) : pick1 Ls (List.range Ls.length) = Ls := by
  rw [pick1_eq]
  apply List.ext_getElem
  · simp
  · intro i h1 h2
    simp [List.getElem?_eq_getElem h2]
theorem okSel_spec {n : Nat} : ∀ {p : List Nat}, okSel n p = true → p.Nodup ∧ ∀ i ∈ p, i < n
  | [], _ => by simp
  | i :: r, h => by
    simp only [okSel, Bool.and_eq_true, Bool.not_eq_true'] at h
    obtain ⟨h1, h2⟩ := okSel_spec h.2
    refine ⟨List.nodup_cons.2 ⟨fun hm => ?_, h1⟩, fun j hj => ?_⟩
    · have := List.any_eq_false.1 h.1.2 i hm
      simp at this
    · rcases List.mem_cons.1 hj with rfl | hj
      · exact Nat.le_of_ble_eq_true h.1.1
      · exact h2 j hj
theorem perm_rest : ∀ (p L : List Nat), p.Nodup → (∀ i ∈ p, i ∈ L) → ∃ r, L.Perm (p ++ r)
  | [], L, _, _ => ⟨L, .refl _⟩
  | i :: p, L, hnd, hm => by
    obtain ⟨h1, h2⟩ := List.nodup_cons.1 hnd
    obtain ⟨r, hr⟩ := perm_rest p (L.erase i) h2 fun j hj => (List.mem_erase_of_ne (by rintro rfl; exact h1 hj)).2 (hm j (List.mem_cons_of_mem _ hj))
    exact ⟨r, (List.perm_cons_erase (hm i List.mem_cons_self)).trans (hr.cons i)⟩
theorem sel_range {n : Nat} {p : List Nat} (h : okSel n p = true) : ∃ r, (List.range n).Perm (p ++ r) := by
  obtain ⟨h1, h2⟩ := okSel_spec h
  exact perm_rest p _ h1 fun i hi => List.mem_range.2 (h2 i hi)
theorem sub_sel {α : Type} (p : List Nat) (Ls : List (List α)) (h : okSel Ls.length p = true) : ∃ rest, (Ls.flatten).Perm ((pick1 Ls p).flatten ++ rest) ∧ (Ls.length = p.length → rest = []) := by
  obtain ⟨r, hr⟩ := sel_range h
  refine ⟨(pick1 Ls r).flatten, ?_, fun hl => ?_⟩
  · have h3 : (pick1 Ls (List.range Ls.length)).Perm (pick1 Ls (p ++ r)) := by
      rw [pick1_eq, pick1_eq]
      exact hr.map _
    rw [pick1_all] at h3
    have h4 := h3.flatten
    rw [pick1_eq, List.map_append, List.flatten_append, ← pick1_eq, ← pick1_eq] at h4
    exact h4
  · have h5 := hr.length_eq
    rw [List.length_range, List.length_append] at h5
    have : r = [] := List.eq_nil_of_length_eq_zero (by omega)
    subst this
    rfl

section
variable {C : Cx} {τ : Env} {F : Fz} {H : List Ent}
/-- Another order, some of it let go. -/
theorem j_sel {X : Act → World → Prop} {H' : List Ent} (Ls : List (List Ent)) (p : List Nat) (hH : H = cat Ls) (hp : okSel Ls.length p = true) (hH' : H' = cat (pick1 Ls p)) (h : Jd C τ F H' X) : Jd C τ F H X := by
  intro a w ha hw
  obtain ⟨rest, hr, _⟩ := sub_sel p Ls hp
  subst hH hH'
  rw [cat_eq] at hw h
  exact h a w ha ((hw.perm hr).drop (List.sublist_append_left _ _))
theorem selPerm {H' : List Ent} (Ls : List (List Ent)) (p : List Nat) (hH : H = cat Ls) (hp : okSel Ls.length p = true) (hl : Ls.length = p.length) (hH' : H' = cat (pick1 Ls p)) : H.Perm H' := by
  subst hH hH'
  obtain ⟨rest, hr, hn⟩ := sub_sel p Ls hp
  rw [hn hl, List.append_nil] at hr
  rw [cat_eq, cat_eq]
  exact hr
end

/-- A call that keeps all owned memory, among other blocks. -/
theorem does_same {P : Program} {O : World} {f : FuncId} {args : Array Value} {F : Fz} {H H0 : List Ent} {v : Value} (hp : H.Perm H0) (h : Does P O f args F H0 (fun r F' H' => r = v ∧ F' = F ∧ H' = H0)) :
    Does P O f args F H (fun r F' H' => r = v ∧ F' = F ∧ H' = H) := by
  intro w hw
  refine (h w (hw.perm hp)).mono ?_
  rintro e w' ⟨r, F', H', he, ⟨hr, hF, hH⟩, hle, hst⟩
  subst hH
  exact ⟨r, F', H, he, ⟨hr, hF, rfl⟩, hle, hst.perm hp.symm⟩
/-- A call's memory in another order. -/
theorem does_perm {P : Program} {O : World} {f : FuncId} {args : Array Value} {F : Fz} {H H0 : List Ent} {R : Value → Fz → List Ent → Prop} (hp : H.Perm H0) (h : Does P O f args F H0 R) : Does P O f args F H R :=
  fun w hw => h w (hw.perm hp)
/-- A call with blocks that it neither reads nor writes. -/
theorem does_drop {P : Program} {O : World} {f : FuncId} {args : Array Value} {F : Fz} {H H0 : List Ent} {R : Value → Fz → List Ent → Prop} (hp : H0.Sublist H) (h : Does P O f args F H0 R) : Does P O f args F H R :=
  fun w hw => h w (hw.drop hp)
end Go.SX
