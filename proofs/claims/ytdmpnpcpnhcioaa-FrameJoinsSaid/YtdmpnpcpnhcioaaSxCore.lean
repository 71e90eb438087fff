/-
  A CALCULUS OF ONE'S OWN over the base's steps: memory as a list of blocks that the call owns, and frozen memory (a partial map of blocks that nobody writes any more); code is walked operation by operation. No program is named here.
-/
import Derived.Calls
import Derived.Orders
import Derived.OrdersHeld
import Derived.Tactics
import Derived.OwnWalk
namespace Go.SX
open Go

/-! ### Slots -/

abbrev Env := List (Nat × Value)

def Env.get? : Env → Nat → Option Value
  | [], _ => none
  | (t, v) :: r, k => cond (Nat.beq k t) (some v) (Env.get? r k)

def ev (τ : Env) : Operand → Option Value
  | .tmp t => τ.get? t
  | .const v => some v
  | .global g => some (.pointer (some ⟨g, 0, none⟩))
  | .func f => some (.func (.func f) #[] #[])

structure EnvOk (n : Nat) (τ : Env) (a : Act) : Prop where
  size : a.tmps.size = n
  defers : a.defers = []
  get : ∀ t v, τ.get? t = some v → t < n ∧ a.tmps.getD t undef = v

theorem EnvOk.eval {n : Nat} {τ : Env} {a : Act} (h : EnvOk n τ a) {x : Operand} {v : Value} (hv : ev τ x = some v) : a.eval x = v := by
  cases x with
  | tmp t => exact (h.get t v hv).2
  | const c => simpa [ev, Act.eval] using hv
  | global g => simpa [ev, Act.eval] using hv
  | func f => simpa [ev, Act.eval] using hv

theorem EnvOk.put {n : Nat} {τ : Env} {a : Act} (h : EnvOk n τ a) {d : Nat} (hd : d < n) (v : Value) : EnvOk n ((d, v) :: τ) (a.put (some d) v) := by
  refine ⟨by simp [Act.put, h.size], by simp [Act.put, h.defers], fun t u hu => ?_⟩
  simp only [Env.get?] at hu
  by_cases e : t = d
  · subst e
    have hb : Nat.beq t t = true := by simp
    rw [hb] at hu
    simp only [cond_true, Option.some.injEq] at hu
    subst hu
    refine ⟨hd, ?_⟩
    have : t < a.tmps.size := by rw [h.size]; exact hd
    simp [Act.put, this]
  · have hb : Nat.beq t d = false := by
      cases hx : Nat.beq t d with
      | false => rfl
      | true => exact absurd (Nat.eq_of_beq_eq_true hx) e
    rw [hb] at hu
    simp only [cond_false] at hu
    obtain ⟨h1, h2⟩ := h.get t u hu
    refine ⟨h1, ?_⟩
    have hne : d ≠ t := fun x => e x.symm
    simp only [Act.put]
    rw [Array.getD_eq_getD_getElem?, Array.getElem?_setIfInBounds_ne hne, ← Array.getD_eq_getD_getElem?]
    exact h2

/-- What is written nowhere. -/
theorem EnvOk.put_none {n : Nat} {τ : Env} {a : Act} (h : EnvOk n τ a) (v : Value) : EnvOk n τ (a.put none v) := h

/-- All that τ' says τ says. -/
def Env.sub (τ : Env) : Env → Prop
  | [] => True
  | (t, v) :: r => τ.get? t = some v ∧ Env.sub τ r

theorem Env.sub_get {τ : Env} : ∀ {τ' : Env}, Env.sub τ τ' → ∀ t v, τ'.get? t = some v → τ.get? t = some v
  | [], _, t, v, h => by simp [Env.get?] at h
  | (s, u) :: r, hs, t, v, h => by
    obtain ⟨h1, h2⟩ := hs
    simp only [Env.get?] at h
    by_cases e : t = s
    · subst e
      have hb : Nat.beq t t = true := by simp
      rw [hb] at h
      simp only [cond_true, Option.some.injEq] at h
      rw [h1, h]
    · have hb : Nat.beq t s = false := by
        cases hx : Nat.beq t s with
        | false => rfl
        | true => exact absurd (Nat.eq_of_beq_eq_true hx) e
      rw [hb] at h
      exact Env.sub_get h2 t v h

theorem EnvOk.sub {n : Nat} {τ τ' : Env} {a : Act} (h : EnvOk n τ a) (hs : τ.sub τ') : EnvOk n τ' a :=
  ⟨h.size, h.defers, fun t v hv => h.get t v (Env.sub_get hs t v hv)⟩

/-! ### Memory -/

/-- Frozen memory: nobody writes there any more. -/
abbrev Fz := Nat → Option Obj

def Fz.le (F F' : Fz) : Prop := ∀ b o, F b = some o → F' b = some o
theorem Fz.le_refl (F : Fz) : F.le F := fun _ _ h => h
theorem Fz.le_trans {F F' F'' : Fz} (h : F.le F') (h' : F'.le F'') : F.le F'' := fun b o hb => h' b o (h b o hb)

/-- Owned memory: a block of n cells, of which the first are known; or an object that is no row of cells. -/
inductive Ent where
  | mem (b : Nat) (cs : List Value) (n : Nat)
  | obj (b : Nat) (o : Obj)

def Ent.b : Ent → Nat
  | .mem b _ _ => b
  | .obj b _ => b

def isCells : Obj → Bool
  | .cells .. => true
  | _ => false

def Ent.holds (w : World) : Ent → Prop
  | .mem b cs n => ∃ rest e, w.heap[b]? = some (.cells (cs ++ rest).toArray e (0, 0)) ∧ (cs ++ rest).length = n
  | .obj b o => w.heap[b]? = some o ∧ isCells o = false

structure St (O : World) (F : Fz) (H : List Ent) (w : World) : Prop where
  os : w.os = O.os
  tape : w.tape = O.tape
  output : w.output = O.output
  frz : ∀ b o, F b = some o → w.heap[b]? = some o
  own : ∀ e ∈ H, e.holds w
  nd : (H.map Ent.b).Nodup
  ap : ∀ e ∈ H, F e.b = none

theorem St.drew {O : World} {F : Fz} {H : List Ent} {w : World} (h : St O F H w) (n : Nat) : St O F H { w with drawn := n } :=
  ⟨h.os, h.tape, h.output, h.frz, h.own, h.nd, h.ap⟩

/-- A call: what comes back, and what memory is then. -/
def Does (P : Program) (O : World) (f : FuncId) (args : Array Value) (F : Fz) (H : List Ent) (R : Value → Fz → List Ent → Prop) : Prop :=
  ∀ w, St O F H w → Calls P f args w fun e w' => ∃ v F' H', e = .returned v ∧ R v F' H' ∧ F.le F' ∧ St O F' H' w'

theorem Does.mono {P : Program} {O : World} {f : FuncId} {args : Array Value} {F : Fz} {H : List Ent} {R R' : Value → Fz → List Ent → Prop}
    (h : Does P O f args F H R) (hr : ∀ v F' H', F.le F' → R v F' H' → R' v F' H') : Does P O f args F H R' :=
  fun w hw => (h w hw).mono fun _ _ ⟨v, F', H', he, r, hle, hs⟩ => ⟨v, F', H', he, hr v F' H' hle r, hle, hs⟩

/-- What is constant while a body is walked. -/
structure Cx where
  P : Program
  O : World
  f : FuncId
  fn : Func
  R : Value → Fz → List Ent → Prop

/-- From here on the body comes back as C.R says. -/
def Fin (C : Cx) (k : List Item) (a : Act) (w : World) : Prop :=
  ∀ (b : Frame), b.fn = C.f → b.kind = .normal → ∀ cs, ∃ v F' H' w' fr, C.R v F' H' ∧ St C.O F' H' w' ∧
    Steps C.P (lone (b.at a k) cs w) (lone fr cs w') ∧ fr.fn = C.f ∧ fr.leaving C.P w' (.returned v)

/-- From all states that are so. -/
def Jd (C : Cx) (τ : Env) (F : Fz) (H : List Ent) (X : Act → World → Prop) : Prop :=
  ∀ a w, EnvOk C.fn.ntmps τ a → St C.O F H w → X a w

abbrev Run (C : Cx) (k : List Item) (τ : Env) (F : Fz) (H : List Ent) : Prop := Jd C τ F H (Fin C k)

theorem Fin.head {C : Cx} {k k' : List Item} {a a' : Act} {w w' : World}
    (hs : ∀ (b : Frame) (cs : List Frame), b.fn = C.f → b.kind = .normal → Steps C.P (lone (b.at a k) cs w) (lone (b.at a' k') cs w')) (h : Fin C k' a' w') : Fin C k a w := by
  intro b hb hk cs
  obtain ⟨v, F', H', w'', fr, hR, hst, hsteps, hfn, hl⟩ := h b hb hk cs
  exact ⟨v, F', H', w'', fr, hR, hst, Steps.trans (hs b cs hb hk) hsteps, hfn, hl⟩

section rules
variable {C : Cx} {k : List Item} {τ : Env} {F : Fz} {H : List Ent}

theorem Run.step {k' : List Item} (hs : ∀ (b : Frame) (a : Act) (w : World) (cs : List Frame), step C.P (lone (b.at a k) cs w) = .next (lone (b.at a k') cs w)) (h : Run C k' τ F H) : Run C k τ F H :=
  fun a w ha hw => Fin.head (fun b cs _ _ => .one (hs b a w cs)) (h a w ha hw)

theorem r_seq {x y : Code} (h : Run C (.code x :: .code y :: k) τ F H) : Run C (.code (.seq x y) :: k) τ F H := Run.step (fun _ _ _ _ => step_seq) h
theorem r_skip (h : Run C k τ F H) : Run C (.code .skip :: k) τ F H := Run.step (fun _ _ _ _ => step_skip) h
theorem r_label {l : Nat} (h : Run C k τ F H) : Run C (.code (.label l) :: k) τ F H := Run.step (fun _ _ _ _ => step_label) h
theorem r_block {id : Nat} {c : Code} (h : Run C (.code c :: .inBlock id :: k) τ F H) : Run C (.code (.block id c) :: k) τ F H := Run.step (fun _ _ _ _ => step_block) h
theorem r_inBlock {id : Nat} (h : Run C k τ F H) : Run C (.inBlock id :: k) τ F H := Run.step (fun _ _ _ _ => step_inBlock) h
theorem r_exit {id : Nat} {k' : List Item} (hk : exitTo id k = some k') (h : Run C k' τ F H) : Run C (.code (.exit id) :: k) τ F H := Run.step (fun _ _ _ _ => step_exit hk) h
theorem r_inLoop {c : Code} (h : Run C (.code c :: .inLoop c :: k) τ F H) : Run C (.inLoop c :: k) τ F H := Run.step (fun _ _ _ _ => step_inLoop) h

theorem r_cond {c : Operand} {x y : Code} {t : Bool} (hc : ev τ c = some (.bool t)) (h1 : t = true → Run C (.code x :: k) τ F H) (h0 : t = false → Run C (.code y :: k) τ F H) :
    Run C (.code (.cond c x y) :: k) τ F H := by
  intro a w ha hw
  have he : a.eval c = .bool t := ha.eval hc
  cases t with
  | true => exact Fin.head (fun b cs _ _ => .one (by simpa using step_cond (x := x) (y := y) he)) (h1 rfl a w ha hw)
  | false => exact Fin.head (fun b cs _ _ => .one (by simpa using step_cond (x := x) (y := y) he)) (h0 rfl a w ha hw)

theorem r_true {c : Operand} {x y : Code} (hc : ev τ c = some (.bool true)) (h1 : Run C (.code x :: k) τ F H) : Run C (.code (.cond c x y) :: k) τ F H :=
  r_cond hc (fun _ => h1) (fun h => by cases h)
theorem r_false {c : Operand} {x y : Code} (hc : ev τ c = some (.bool false)) (h1 : Run C (.code y :: k) τ F H) : Run C (.code (.cond c x y) :: k) τ F H :=
  r_cond hc (fun h => by cases h) (fun _ => h1)
/-- A test that is a proposition's. -/
theorem r_if {c : Operand} {x y : Code} {p : Prop} [Decidable p] (hc : ev τ c = some (.bool (decide p))) (h1 : p → Run C (.code x :: k) τ F H) (h0 : ¬ p → Run C (.code y :: k) τ F H) :
    Run C (.code (.cond c x y) :: k) τ F H :=
  r_cond hc (fun h => h1 (of_decide_eq_true h)) (fun h => h0 (of_decide_eq_false h))

theorem j_keep {X : Act → World → Prop} {τ' : Env} (hs : τ.sub τ') (h : Jd C τ' F H X) : Jd C τ F H X := fun a w ha hw => h a w (ha.sub hs) hw

theorem St.perm {O : World} {F : Fz} {H H' : List Ent} {w : World} (hp : H.Perm H') (h : St O F H w) : St O F H' w :=
  ⟨h.os, h.tape, h.output, h.frz, fun e he => h.own e (hp.mem_iff.2 he), (hp.map Ent.b).nodup_iff.1 h.nd, fun e he => h.ap e (hp.mem_iff.2 he)⟩
theorem St.drop {O : World} {F : Fz} {H H' : List Ent} {w : World} (hp : H'.Sublist H) (h : St O F H w) : St O F H' w :=
  ⟨h.os, h.tape, h.output, h.frz, fun e he => h.own e (hp.subset he), (hp.map Ent.b).nodup h.nd, fun e he => h.ap e (hp.subset he)⟩

theorem j_perm {X : Act → World → Prop} {H' : List Ent} (hp : H.Perm H') (h : Jd C τ F H' X) : Jd C τ F H X := fun a w ha hw => h a w ha (hw.perm hp)
theorem j_drop {X : Act → World → Prop} {H' : List Ent} (hp : H'.Sublist H) (h : Jd C τ F H' X) : Jd C τ F H X := fun a w ha hw => h a w ha (hw.drop hp)

/-- A truth in a slot is one or the other. -/
theorem EnvOk.same {n : Nat} {a : Act} {d : Nat} {v : Value} (h : EnvOk n τ a) (hv : τ.get? d = some v) : EnvOk n ((d, v) :: τ) a := by
  refine ⟨h.size, h.defers, fun t u hu => ?_⟩
  simp only [Env.get?] at hu
  by_cases e : t = d
  · subst e
    have hb : Nat.beq t t = true := by simp
    rw [hb] at hu
    simp only [cond_true, Option.some.injEq] at hu
    subst hu
    exact h.get t v hv
  · have hb : Nat.beq t d = false := by
      cases hx : Nat.beq t d with
      | false => rfl
      | true => exact absurd (Nat.eq_of_beq_eq_true hx) e
    rw [hb] at hu
    exact h.get t u hu
theorem j_bool {X : Act → World → Prop} (d : Nat) {b : Bool} (hv : τ.get? d = some (.bool b)) (h1 : b = true → Jd C ((d, .bool true) :: τ) F H X) (h0 : b = false → Jd C ((d, .bool false) :: τ) F H X) : Jd C τ F H X := by
  intro a w ha hw
  cases b with
  | true => exact h1 rfl a w (ha.same hv) hw
  | false => exact h0 rfl a w (ha.same hv) hw
theorem j_prop {X : Act → World → Prop} (d : Nat) {p : Prop} [Decidable p] (hv : τ.get? d = some (.bool (decide p))) (h1 : p → Jd C ((d, .bool true) :: τ) F H X) (h0 : ¬ p → Jd C ((d, .bool false) :: τ) F H X) : Jd C τ F H X :=
  j_bool d hv (fun h => h1 (of_decide_eq_true h)) (fun h => h0 (of_decide_eq_false h))
/-- A slot says the same in other words. -/
theorem j_slot {X : Act → World → Prop} (d : Nat) {v v' : Value} (hv : τ.get? d = some v) (he : v = v') (h : Jd C ((d, v') :: τ) F H X) : Jd C τ F H X := by
  subst he
  exact fun a w ha hw => h a w (ha.same hv) hw

theorem j_heap {X : Act → World → Prop} {H' : List Ent} (he : H = H') (h : Jd C τ F H' X) : Jd C τ F H X := he ▸ h

/-- What stands in the memory at hand. -/
theorem j_know {X : Act → World → Prop} {p : Prop} (hp : ∀ w, St C.O F H w → p) (h : p → Jd C τ F H X) : Jd C τ F H X := fun a w ha hw => h (hp w hw) a w ha hw

/-- The ways through a piece of code meet behind it. -/
theorem r_join {ι : Type} {x : Item} (ok : ι → Prop) (T : ι → Env) (G : ι → Fz) (M : ι → List Ent) (h1 : (∀ i, ok i → Run C k (T i) (G i) (M i)) → Run C (x :: k) τ F H) (h2 : ∀ i, ok i → Run C k (T i) (G i) (M i)) : Run C (x :: k) τ F H := h1 h2

/-- **A loop.** 'T', 'G', 'M': slots, frozen and owned memory at the round's head, of a ghost 'i'. -/
theorem r_loop {ι : Type} {body : Code} (ok : ι → Prop) (T : ι → Env) (G : ι → Fz) (M : ι → List Ent) (m : ι → Nat) (i0 : ι) (h0 : ok i0) (ht : τ.sub (T i0)) (hG : G i0 = F) (hM : M i0 = H)
    (round : ∀ i, ok i → (∀ j, ok j → m j < m i → Run C (.inLoop body :: k) (T j) (G j) (M j)) → Run C (.code body :: .inLoop body :: k) (T i) (G i) (M i)) :
    Run C (.code (.loop body) :: k) τ F H := by
  have key : ∀ n i, m i = n → ok i → Run C (.code body :: .inLoop body :: k) (T i) (G i) (M i) := by
    intro n
    induction n using Nat.strongRecOn with
    | _ n ih =>
      intro i hn hi
      exact round i hi fun j hj hlt => r_inLoop (ih (m j) (hn ▸ hlt) j rfl hj)
  have := key (m i0) i0 rfl h0
  rw [hG, hM] at this
  have h2 : Run C (.code body :: .inLoop body :: k) τ F H := j_keep ht this
  exact Run.step (fun _ _ _ _ => step_loop) h2


/-! ### The end: what comes back lies in slots -/

theorem Fin.ret {a : Act} {w : World} {v : Value} {F' : Fz} {H' : List Ent} (hf : C.P.funcs[C.f]? = some C.fn) (ha : a.defers = []) (hr : (results C.fn a.tmps).run C.P w = .ok v w)
    (hw : St C.O F' H' w) (hR : C.R v F' H') : Fin C (.code .ret :: k) a w ∧ Fin C [] a w := by
  refine ⟨fun b hb hk cs => ⟨v, F', H', w, _, hR, hw, .one step_ret, hb, rfl, ?_, ?_, C.fn, ?_, hr⟩, fun b hb hk cs => ⟨v, F', H', w, _, hR, hw, .one step_end, hb, rfl, ?_, ?_, C.fn, ?_, hr⟩⟩
  all_goals first
    | exact ha
    | exact hk
    | (show C.P.funcs[b.fn]? = some C.fn; rw [hb]; exact hf)

theorem r_ret {v : Value} (hf : C.P.funcs[C.f]? = some C.fn) (hr : ∀ a w, EnvOk C.fn.ntmps τ a → St C.O F H w → (results C.fn a.tmps).run C.P w = .ok v w) (hR : C.R v F H) : Run C (.code .ret :: k) τ F H :=
  fun a w ha hw => (Fin.ret (k := k) hf ha.defers (hr a w ha hw) hw hR).1
theorem r_fall {v : Value} (hf : C.P.funcs[C.f]? = some C.fn) (hr : ∀ a w, EnvOk C.fn.ntmps τ a → St C.O F H w → (results C.fn a.tmps).run C.P w = .ok v w) (hR : C.R v F H) : Run C [] τ F H :=
  fun a w ha hw => (Fin.ret (k := []) hf ha.defers (hr a w ha hw) hw hR).2
theorem r_fall0 (hf : C.P.funcs[C.f]? = some C.fn) (hr : C.fn.results = #[]) (hR : C.R (.tuple #[]) F H) : Run C [] τ F H :=
  r_fall hf (fun a w _ _ => by
    exact results_none hr _ _ _) hR
theorem r_ret0 (hf : C.P.funcs[C.f]? = some C.fn) (hr : C.fn.results = #[])  (hR : C.R (.tuple #[]) F H) : Run C (.code .ret :: k) τ F H :=
  r_ret hf (fun a w _ _ => by
    exact results_none hr _ _ _) hR
theorem r_ret1 {t0 : Nat} {v0 : Value} (hf : C.P.funcs[C.f]? = some C.fn) (hr : C.fn.results = #[.tmp t0]) (h0 : τ.get? t0 = some v0) (hR : C.R v0 F H) : Run C (.code .ret :: k) τ F H :=
  r_ret hf (fun a w ha _ => by
    have g0 := (ha.get t0 v0 h0).2
    rw [results_tmp hr, g0]) hR
theorem r_ret2 {t0 t1 : Nat} {v0 v1 : Value} (hf : C.P.funcs[C.f]? = some C.fn) (hr : C.fn.results = #[.tmp t0, .tmp t1]) (h0 : τ.get? t0 = some v0) (h1 : τ.get? t1 = some v1) (hR : C.R (.tuple #[v0, v1]) F H) : Run C (.code .ret :: k) τ F H :=
  r_ret hf (fun a w ha _ => by
    have g0 := (ha.get t0 v0 h0).2
    have g1 := (ha.get t1 v1 h1).2
    rw [results_tmp2 hr, g0, g1]) hR
theorem r_ret3 {t0 t1 t2 : Nat} {v0 v1 v2 : Value} (hf : C.P.funcs[C.f]? = some C.fn) (hr : C.fn.results = #[.tmp t0, .tmp t1, .tmp t2]) (h0 : τ.get? t0 = some v0) (h1 : τ.get? t1 = some v1) (h2 : τ.get? t2 = some v2) (hR : C.R (.tuple #[v0, v1, v2]) F H) : Run C (.code .ret :: k) τ F H :=
  r_ret hf (fun a w ha _ => by
    have g0 := (ha.get t0 v0 h0).2
    have g1 := (ha.get t1 v1 h1).2
    have g2 := (ha.get t2 v2 h2).2
    rw [results_tmp3 hr, g0, g1, g2]) hR
theorem r_ret4 {t0 t1 t2 t3 : Nat} {v0 v1 v2 v3 : Value} (hf : C.P.funcs[C.f]? = some C.fn) (hr : C.fn.results = #[.tmp t0, .tmp t1, .tmp t2, .tmp t3]) (h0 : τ.get? t0 = some v0) (h1 : τ.get? t1 = some v1) (h2 : τ.get? t2 = some v2) (h3 : τ.get? t3 = some v3) (hR : C.R (.tuple #[v0, v1, v2, v3]) F H) : Run C (.code .ret :: k) τ F H :=
  r_ret hf (fun a w ha _ => by
    have g0 := (ha.get t0 v0 h0).2
    have g1 := (ha.get t1 v1 h1).2
    have g2 := (ha.get t2 v2 h2).2
    have g3 := (ha.get t3 v3 h3).2
    simp [results, hr, go_sem] at g0 g1 g2 g3 ⊢
    exact ⟨g0, g1, g2, g3⟩) hR

/-! ### The beginning -/

def argEnv : Nat → List Value → Env
  | _, [] => []
  | i, v :: r => (i, v) :: argEnv (i + 1) r

theorem argEnv_get : ∀ (vs : List Value) (i t : Nat) (v : Value), (argEnv i vs).get? t = some v → i ≤ t ∧ vs[t - i]? = some v
  | [], i, t, v, h => by simp [argEnv, Env.get?] at h
  | u :: r, i, t, v, h => by
    simp only [argEnv, Env.get?] at h
    by_cases e : t = i
    · subst e
      have hb : Nat.beq t t = true := by simp
      rw [hb] at h
      simp only [cond_true, Option.some.injEq] at h
      subst h
      simp
    · have hb : Nat.beq t i = false := by
        cases hx : Nat.beq t i with
        | false => rfl
        | true => exact absurd (Nat.eq_of_beq_eq_true hx) e
      rw [hb] at h
      simp only [cond_false] at h
      obtain ⟨h1, h2⟩ := argEnv_get r (i + 1) t v h
      refine ⟨by omega, ?_⟩
      have : t - i = (t - (i + 1)) + 1 := by omega
      rw [this, List.getElem?_cons_succ]
      exact h2

/-- **A function's contract from its body.** -/
theorem does_of_run {P : Program} {O : World} {f : FuncId} {fn : Func} {c : Code} {args : List Value} {F : Fz} {H : List Ent} {R : Value → Fz → List Ent → Prop}
    (hf : P.funcs[f]? = some fn) (hb : fn.body = some c) (hn : Nat.ble args.length fn.ntmps = true)
    (h : Run ⟨P, O, f, fn, fun v F' H' => R v F' H' ∧ F.le F'⟩ [.code c] (argEnv 0 args) F H) : Does P O f args.toArray F H R := by
  intro w hw cs
  let b : Frame := { (default : Frame) with fn := f, kind := .normal }
  have henter : Frame.enter P f args.toArray .normal = b.at { tmps := args.toArray ++ Array.replicate (fn.ntmps - args.toArray.size) undef, defers := [] } [.code c] := by
    simp [Frame.enter, Frame.at, hf, hb, b]
  obtain ⟨v, F', H', w', fr, ⟨hR, hle⟩, hst, hsteps, hfn, hl⟩ := h { tmps := args.toArray ++ Array.replicate (fn.ntmps - args.toArray.size) undef, defers := [] } w
    ⟨by have := Nat.le_of_ble_eq_true hn; simp; omega, rfl, fun t v ht => by
      obtain ⟨_, h2⟩ := argEnv_get args 0 t v ht
      simp only [Nat.sub_zero] at h2
      have hlt : t < args.length := by
        rcases Nat.lt_or_ge t args.length with h | h
        · exact h
        · simp [List.getElem?_eq_none h] at h2
      refine ⟨Nat.lt_of_lt_of_le hlt (Nat.le_of_ble_eq_true hn), ?_⟩
      rw [Array.getD_eq_getD_getElem?, Array.getElem?_append_left (by simpa using hlt)]
      simp [h2]⟩ hw b rfl rfl cs
  rw [← henter] at hsteps
  exact ⟨.returned v, w', fr, ⟨v, F', H', rfl, hR, hle, hst⟩, hsteps, hfn, hl⟩

/-! ### Regions in the text's order -/

def QK (C : Cx) (k : List Item) : Exit → Act → World → Prop := fun e a w => e = .normal ∧ Fin C k a w

abbrev Ops (C : Cx) (ops : Array Oper) (l : List Nat) (k : List Item) (τ : Env) (F : Fz) (H : List Ent) : Prop := Jd C τ F H (wpOps C.P ops (QK C k) l)

theorem fin_of_ops {ops : Array Oper} {l : List Nat} {a : Act} {w : World} (h : wpOps C.P ops (QK C k) l a w) : Fin C (.inRegion ops l :: k) a w := by
  intro b hb hk cs
  obtain ⟨e, a', w', ⟨rfl, hfin⟩, harr⟩ := wp_ops l a w h b k cs
  obtain ⟨v, F', H', w'', fr, hR, hst, hsteps, hfn, hl⟩ := hfin b hb hk cs
  exact ⟨v, F', H', w'', fr, hR, hst, Steps.trans harr hsteps, hfn, hl⟩

theorem r_region {id : Nat} {ops : Array Oper} {l : List Nat} (hl : List.range ops.size = l) (h : Ops C ops l k τ F H) : Run C (.code (.region id ops false) :: k) τ F H := by
  intro a w ha hw
  subst hl
  exact Fin.head (fun b cs _ _ => .one step_region) (fin_of_ops (h a w ha hw))

theorem o_end {ops : Array Oper} (h : Run C k τ F H) : Ops C ops [] k τ F H := fun a w ha hw => ⟨rfl, h a w ha hw⟩

/-- Whether an operation is carried out. -/
def wantedB (τ : Env) (ops : Array Oper) (o : Oper) : Option Bool :=
  match o.guard with
  | none => some true
  | some (j, want) => match (ops[j]?).bind (·.dst) with
    | some d => match τ.get? d with
      | some (.bool b) => some (b == want)
      | some (.tuple _) => some false
      | _ => none
    | none => none

theorem wanted_ok {n : Nat} {a : Act} {ops : Array Oper} {o : Oper} {b : Bool} (ha : EnvOk n τ a) (h : wantedB τ ops o = some b) : Region.wanted o (yielded ops a.tmps) = b := by
  unfold wantedB at h
  unfold Region.wanted
  split at h
  · rename_i hg; rw [hg]; simpa using h
  · rename_i j want hg
    rw [hg]
    simp only
    split at h
    · rename_i d hd
      split at h
      · rename_i c hc
        obtain ⟨h1, h2⟩ := ha.get d _ hc
        have hlt : d < a.tmps.size := by rw [ha.size]; exact h1
        have h3 : a.tmps[d]? = some (.bool c) := by
          rw [Array.getD_eq_getD_getElem?, Array.getElem?_eq_getElem hlt] at h2
          rw [Array.getElem?_eq_getElem hlt]
          simpa using h2
        simp only [yielded, hd, Option.bind_some, h3]
        simpa using h
      · rename_i c hc
        obtain ⟨h1, h2⟩ := ha.get d _ hc
        have hlt : d < a.tmps.size := by rw [ha.size]; exact h1
        have h3 : a.tmps[d]? = some (.tuple c) := by
          rw [Array.getD_eq_getD_getElem?, Array.getElem?_eq_getElem hlt] at h2
          rw [Array.getElem?_eq_getElem hlt]
          simpa using h2
        simp only [yielded, hd, Option.bind_some, h3]
        simpa using h
      · cases h
    · cases h

theorem o_skip {ops : Array Oper} {i d : Nat} {l : List Nat} {o : Oper} (ho : ops[i]? = some o) (hd : o.dst = some d) (hlt : Nat.blt d C.fn.ntmps = true) (hg : wantedB τ ops o = some false)
    (h : Ops C ops l k ((d, undef) :: τ) F H) : Ops C ops (i :: l) k τ F H := by
  intro a w ha hw
  rw [wpOps_cons]
  unfold wpOp
  rw [ho]
  simp only [wanted_ok ha hg, hd]
  exact h _ w (ha.put (Nat.le_of_ble_eq_true hlt) undef) hw

/-- What a world meets: some blocks are as they are said to be. -/
def Held (F : Fz) (Hs : List Ent) (w : World) : Prop := (∀ b o, F b = some o → w.heap[b]? = some o) ∧ ∀ e ∈ Hs, e.holds w
theorem St.held {O : World} {w : World} (h : St O F H w) : Held F H w := ⟨h.frz, h.own⟩

/-- An operation that comes to a value and leaves the memory. -/
def Val (C : Cx) (o : Oper) (τ : Env) (F : Fz) (H : List Ent) (v : Value) : Prop :=
  ∀ a w, EnvOk C.fn.ntmps τ a → Held F H w → (execOp a.eval o).run C.P w = .ok (.value v) w

theorem o_val {ops : Array Oper} {i d : Nat} {l : List Nat} {o : Oper} {v : Value} (ho : ops[i]? = some o) (hd : o.dst = some d) (hlt : Nat.blt d C.fn.ntmps = true) (hg : wantedB τ ops o = some true)
    (hx : Val C o τ F H v) (h : Ops C ops l k ((d, v) :: τ) F H) : Ops C ops (i :: l) k τ F H := by
  intro a w ha hw
  rw [wpOps_cons]
  unfold wpOp
  rw [ho]
  simp only [wanted_ok ha hg, if_true]
  refine .inl ?_
  unfold Oper.wp
  rw [hx a w ha hw.held, Oper.upon_value, hd]
  exact h _ w (ha.put (Nat.le_of_ble_eq_true hlt) v) hw

/-- An operation that comes to a value and turns the memory. -/
def Act1 (C : Cx) (o : Oper) (τ : Env) (F : Fz) (H : List Ent) (R : Value → List Ent → Prop) : Prop :=
  ∀ a w, EnvOk C.fn.ntmps τ a → St C.O F H w → ∃ v H' w', (execOp a.eval o).run C.P w = .ok (.value v) w' ∧ R v H' ∧ St C.O F H' w'

/-- A value that is read only here. -/
theorem a_val {o : Oper} {v : Value} (h : Val C o τ F H v) : Act1 C o τ F H (fun r H' => r = v ∧ H' = H) :=
  fun a w ha hw => ⟨v, H, w, h a w ha hw.held, ⟨rfl, rfl⟩, hw⟩
theorem o_act {ops : Array Oper} {i d : Nat} {l : List Nat} {o : Oper} {R : Value → List Ent → Prop} (ho : ops[i]? = some o) (hd : o.dst = some d) (hlt : Nat.blt d C.fn.ntmps = true) (hg : wantedB τ ops o = some true)
    (hx : Act1 C o τ F H R) (h : ∀ v H', R v H' → Ops C ops l k ((d, v) :: τ) F H') : Ops C ops (i :: l) k τ F H := by
  intro a w ha hw
  rw [wpOps_cons]
  unfold wpOp
  rw [ho]
  simp only [wanted_ok ha hg, if_true]
  refine .inl ?_
  unfold Oper.wp
  obtain ⟨v, H', w', hr, hR, hst⟩ := hx a w ha hw
  rw [hr, Oper.upon_value, hd]
  exact h v H' hR _ w' (ha.put (Nat.le_of_ble_eq_true hlt) v) hst

/-- The same, and more is frozen. -/
def ActF (C : Cx) (o : Oper) (τ : Env) (F : Fz) (H : List Ent) (R : Value → Fz → List Ent → Prop) : Prop :=
  ∀ a w, EnvOk C.fn.ntmps τ a → St C.O F H w → ∃ v F' H' w', (execOp a.eval o).run C.P w = .ok (.value v) w' ∧ R v F' H' ∧ F.le F' ∧ St C.O F' H' w'

theorem o_actF {ops : Array Oper} {i d : Nat} {l : List Nat} {o : Oper} {R : Value → Fz → List Ent → Prop} (ho : ops[i]? = some o) (hd : o.dst = some d) (hlt : Nat.blt d C.fn.ntmps = true) (hg : wantedB τ ops o = some true)
    (hx : ActF C o τ F H R) (h : ∀ v F' H', R v F' H' → F.le F' → Ops C ops l k ((d, v) :: τ) F' H') : Ops C ops (i :: l) k τ F H := by
  intro a w ha hw
  rw [wpOps_cons]
  unfold wpOp
  rw [ho]
  simp only [wanted_ok ha hg, if_true]
  refine .inl ?_
  unfold Oper.wp
  obtain ⟨v, F', H', w', hr, hR, hle, hst⟩ := hx a w ha hw
  rw [hr, Oper.upon_value, hd]
  exact h v F' H' hR hle _ w' (ha.put (Nat.le_of_ble_eq_true hlt) v) hst

/-- An operation that comes to nothing (a store). -/
def Act0 (C : Cx) (o : Oper) (τ : Env) (F : Fz) (H H' : List Ent) : Prop :=
  ∀ a w, EnvOk C.fn.ntmps τ a → St C.O F H w → ∃ w', (execOp a.eval o).run C.P w = .ok .skip w' ∧ St C.O F H' w'

theorem o_act0 {ops : Array Oper} {i : Nat} {l : List Nat} {o : Oper} {H' : List Ent} (ho : ops[i]? = some o) (hd : o.dst = none) (hg : wantedB τ ops o = some true)
    (hx : Act0 C o τ F H H') (h : Ops C ops l k τ F H') : Ops C ops (i :: l) k τ F H := by
  intro a w ha hw
  rw [wpOps_cons]
  unfold wpOp
  rw [ho]
  simp only [wanted_ok ha hg, if_true]
  refine .inl ?_
  unfold Oper.wp
  obtain ⟨w', hr, hst⟩ := hx a w ha hw
  rw [hr, Oper.upon_skip, hd]
  exact h _ w' ha hst

/-- A call of a function. -/
def Calling (C : Cx) (o : Oper) (τ : Env) (g : FuncId) (vs : Array Value) : Prop :=
  ∀ a w, EnvOk C.fn.ntmps τ a → (execOp a.eval o).run C.P w = .ok (.enter g vs) w

theorem o_call {ops : Array Oper} {i d : Nat} {l : List Nat} {o : Oper} {g : FuncId} {vs : Array Value} {R : Value → Fz → List Ent → Prop} (ho : ops[i]? = some o) (hd : o.dst = some d) (hlt : Nat.blt d C.fn.ntmps = true)
    (hg : wantedB τ ops o = some true) (hx : Calling C o τ g vs) (hc : Does C.P C.O g vs F H R) (h : ∀ v F' H', R v F' H' → F.le F' → Ops C ops l k ((d, v) :: τ) F' H') : Ops C ops (i :: l) k τ F H := by
  intro a w ha hw
  rw [wpOps_cons]
  unfold wpOp
  rw [ho]
  simp only [wanted_ok ha hg, if_true]
  refine .inl ?_
  unfold Oper.wp
  rw [hx a w ha, Oper.upon_enter, hd]
  refine (hc w hw).mono ?_
  rintro e w' ⟨v, F', H', rfl, hR, hle, hst⟩
  exact h v F' H' hR hle _ w' (ha.put (Nat.le_of_ble_eq_true hlt) v) hst

/-! ### Regions whose order is open

  Till number z has come up, S holds behind every operation; behind z nothing is asked. So cells that z writes may be read ahead of it.
-/

/-- x waits for i, by a chain of operations that have not come up. -/
inductive Waits (ops : Array Oper) (i : Nat) (listed : Array Bool) : Nat → Prop where
  | one {x : Nat} {o : Oper} {e : Edge} (ho : ops[x]? = some o) (he : e ∈ o.after) (hb : Region.binds .any e = true) (hi : e.on = i) : Waits ops i listed x
  | more {x : Nat} {o : Oper} {e : Edge} (ho : ops[x]? = some o) (he : e ∈ o.after) (hb : Region.binds .any e = true) (hl : listed.getD e.on true = false) (h : Waits ops i listed e.on) : Waits ops i listed x
def waitsB (ops : Array Oper) (i : Nat) (listed : Array Bool) : Nat → Nat → Bool
  | 0, _ => false
  | n + 1, x => match ops[x]? with
    | none => false
    | some o => o.after.any fun e => Region.binds .any e && (e.on == i || (!(listed.getD e.on true) && waitsB ops i listed n e.on))
theorem waits_of {ops : Array Oper} {i : Nat} {listed : Array Bool} : ∀ (n x : Nat), waitsB ops i listed n x = true → Waits ops i listed x
  | 0, _, h => by cases h
  | n + 1, x, h => by
    unfold waitsB at h
    split at h
    · cases h
    · rename_i o ho
      obtain ⟨e, he, h2⟩ := Array.any_eq_true'.1 h
      simp only [Bool.and_eq_true, Bool.or_eq_true, beq_iff_eq, Bool.not_eq_true'] at h2
      rcases h2.2 with h3 | ⟨h3, h4⟩
      · exact .one ho he h2.1 h3
      · exact .more ho he h2.1 h3 (waits_of n _ h4)
theorem Waits.not_ready {ops : Array Oper} {i x : Nat} {listed : Array Bool} (h : Waits ops i listed x) (hi : i ∈ Region.ready .any ops listed) : x ∉ Region.ready .any ops listed := by
  intro hx
  obtain ⟨_, o', ho', hall⟩ := mem_ready.1 hx
  have key : ∀ (o : Oper) (e : Edge) (k : Nat), ops[x]? = some o → e ∈ o.after → Region.binds .any e = true → e.on = k → listed.getD k true = false → False := by
    intro o e k ho he hb hk hl
    rw [ho'] at ho
    cases ho
    have h1 := hall e he hb
    rw [hk] at h1
    rcases Nat.lt_or_ge k listed.size with h' | h'
    · simp [h'] at hl h1; rw [hl] at h1; cases h1
    · simp [Array.getElem?_eq_none h'] at h1
  cases h with
  | one ho he hb hk => exact key _ _ i ho he hb hk (mem_ready.1 hi).1
  | more ho he hb hl _ => exact key _ _ _ ho he hb rfl hl
theorem Waits.step {ops : Array Oper} {i j x : Nat} {listed : Array Bool} (h : Waits ops i listed x) (hi : i ∈ Region.ready .any ops listed) (hj : j ∈ Region.ready .any ops listed) : Waits ops i (listed.setIfInBounds j true) x := by
  induction h with
  | one ho he hb hk => exact .one ho he hb hk
  | more ho he hb hl hw ih =>
    refine .more ho he hb ?_ ih
    rw [getD_set_ne]
    · exact hl
    · rintro rfl
      exact hw.not_ready hi hj
def zWaits (z : Nat) (ops : Array Oper) (listed : Array Bool) (i : Nat) : Bool :=
  match ops[z]? with
  | none => true
  | some _ => waitsB ops i listed 6 z

def wpAnyS (P : Program) (ops : Array Oper) (Q : Exit → Act → World → Prop) (z : Nat) (S : World → Prop) : Nat → Array Bool → Act → World → Prop
  | 0, listed, a, w => Region.ready .any ops listed = [] ∧ Q .normal a w
  | fuel + 1, listed, a, w => (Region.ready .any ops listed = [] → Q .normal a w) ∧
    ∀ i ∈ Region.ready .any ops listed, wpOp P ops Q i (fun a' w' => (i ≠ z → S w' ∧ wpAnyS P ops Q z S fuel (listed.setIfInBounds i true) a' w') ∧ (i = z → wpAny P .any ops Q fuel (listed.setIfInBounds i true) a' w')) a w

theorem wpAny_of_staged {P : Program} {ops : Array Oper} {Q : Exit → Act → World → Prop} {z : Nat} {S : World → Prop} : ∀ (fuel : Nat) (listed : Array Bool) (a : Act) (w : World), wpAnyS P ops Q z S fuel listed a w → wpAny P .any ops Q fuel listed a w
  | 0, _, _, _, h => h
  | fuel + 1, listed, _, _, h => ⟨h.1, fun i hi => wpOp_mono (fun a' w' h' => by
    by_cases hz : i = z
    · exact h'.2 hz
    · exact wpAny_of_staged fuel _ a' w' (h'.1 hz).2) (h.2 i hi)⟩

theorem wpAnyS_take {P : Program} {ops : Array Oper} {Q : Exit → Act → World → Prop} {z : Nat} {S : World → Prop} {i : Nat} {oi : Oper} {v : Value} (hi : ops[i]? = some oi) (hs : Region.noSelect ops = true)
    (hQ : ∀ c a w, Q (.panic c) (a.put oi.dst v) w → Q (.panic c) a w) (hiz : i ≠ z) :
    ∀ (fuel : Nat) (listed : Array Bool) (a : Act) (w : World), (ops[z]? = none ∨ Waits ops i listed z) →
      (∀ j oj, ops[j]? = some oj → j ≠ i → listed.getD j true = false → (∀ e ∈ oj.after, Region.binds .any e = true → e.on ≠ i) → oi.apart ops oj = true) →
      i ∈ Region.ready .any ops listed → YieldsIf P ops S oi v a → S w →
      wpAnyS P ops Q z S fuel (listed.setIfInBounds i true) (a.put oi.dst v) w → wpAnyS P ops Q z S (fuel + 1) listed a w := by
  intro fuel
  have self : ∀ (n : Nat) (listed : Array Bool) (a : Act) (w : World), YieldsIf P ops S oi v a → S w → wpAnyS P ops Q z S n (listed.setIfInBounds i true) (a.put oi.dst v) w →
      wpOp P ops Q i (fun a' w' => (i ≠ z → S w' ∧ wpAnyS P ops Q z S n (listed.setIfInBounds i true) a' w') ∧ (i = z → wpAny P .any ops Q n (listed.setIfInBounds i true) a' w')) a w :=
    fun n listed a w hy hS H => hy.wpOp hi hS ⟨fun _ => ⟨hS, H⟩, fun h => absurd h hiz⟩
  induction fuel with
  | zero =>
    intro listed a w _ _ hr hy hS H
    refine ⟨fun h => (by rw [h] at hr; cases hr), fun j hj => ?_⟩
    by_cases hji : j = i
    · subst hji; exact self 0 listed a w hy hS H
    · have := ready_mono hj hji
      rw [H.1] at this
      cases this
  | succ fuel ih =>
    intro listed a w hz hfree hr hy hS H
    refine ⟨fun h => (by rw [h] at hr; cases hr), fun j hj => ?_⟩
    by_cases hji : j = i
    · subst hji; exact self _ listed a w hy hS H
    · obtain ⟨hjun, oj, hoj, hall⟩ := mem_ready.1 hj
      have hnot : ∀ e ∈ oj.after, Region.binds .any e = true → e.on ≠ i := fun e he hb heq => by
        have h1 := hall e he hb
        have h0 := (mem_ready.1 hr).1
        rw [heq] at h1
        rcases Nat.lt_or_ge i listed.size with h' | h'
        · simp [h'] at h0 h1; rw [h0] at h1; cases h1
        · simp [Array.getElem?_eq_none h'] at h1
      have hjz : j ≠ z := by
        rintro rfl
        rcases hz with hz | hz
        · rw [hoj] at hz; cases hz
        · exact hz.not_ready hr hj
      refine wpOp_mono (fun a' w' h3 => ?_) (wpOp_putIf hoj (hfree j oj hoj hji hjun hnot) (fun cs b => Region.noSelect_spec hs i oi cs b hi) (fun cs b => Region.noSelect_spec hs j oj cs b hoj) hQ hy (H.2 j (ready_mono hj hji)))
      have h4 := h3.2.1 hjz
      refine ⟨fun _ => ⟨h4.1, ih (listed.setIfInBounds j true) a' w' (hz.imp id fun h => h.step hr hj) (fun k ok hk hki hun hno => hfree k ok hk hki ?_ hno) (ready_mono hr (Ne.symm hji)) h3.1 h4.1 ?_⟩, fun h => absurd h hjz⟩
      · by_cases hjk : j = k
        · subst hjk; exact hjun
        · rw [getD_set_ne true hjk] at hun; exact hun
      · rw [Array.setIfInBounds_comm _ _ hji]
        exact h4.2

abbrev Dr (C : Cx) (ops : Array Oper) (z : Nat) (S : World → Prop) (fuel : Nat) (listed : Array Bool) (k : List Item) (τ : Env) (F : Fz) (H : List Ent) : Prop :=
  Jd C τ F H (wpAnyS C.P ops (QK C k) z S fuel listed)

theorem d_region {id : Nat} {ops : Array Oper} (z : Nat) (hm : C.P.follows .mixedOrders = true) (Hs : List Ent) (h : Dr C ops z (Held F Hs) ops.size (Array.replicate ops.size false) k τ F H) :
    Run C (.code (.region id ops true) :: k) τ F H := by
  intro a w ha hw
  have h1 := wpAny_of_staged _ _ _ _ (h a { w with drawn := w.drawn + 1 } ha (hw.drew _))
  have h2 : ∀ t, wpOps C.P ops (QK C k) (Region.schedule (C.P.follows .mixedOrders) ops t) a { w with drawn := w.drawn + 1 } := fun t => by
    simp only [Region.schedule, hm, Bool.true_or, if_true]
    exact wpAny_sound ops.size t _ a _ h1
  exact Fin.head (k' := .inRegion ops (Region.schedule (C.P.follows .mixedOrders) ops (w.tape w.drawn (.order C.f id))) :: k) (fun b cs hb _ => .one (by rw [← hb]; exact step_region_draw)) (fin_of_ops (h2 _))

theorem zWaits_spec {ops : Array Oper} {z i : Nat} {listed : Array Bool} (h : zWaits z ops listed i = true) : ops[z]? = none ∨ Waits ops i listed z := by
  unfold zWaits at h
  split at h
  · exact .inl (by assumption)
  · exact .inr (waits_of _ _ h)
/-- Take number i first: it comes to 'v' in every world of the region. -/
theorem d_take {ops : Array Oper} {z : Nat} {Hs : List Ent} {F0 : Fz} {fuel i d : Nat} {listed : Array Bool} {o : Oper} {v : Value} (ho : ops[i]? = some o) (hd : o.dst = some d) (hlt : Nat.blt d C.fn.ntmps = true)
    (hs : Region.noSelect ops = true) (hf : Region.free .any ops listed i = true) (hr : (Region.ready .any ops listed).contains i = true)
    (hF : F0.le F) (hH : Hs ⊆ H) (hg : wantedB τ ops o = some true) (hy : Val C o τ F0 Hs v)
    (h : Dr C ops z (Held F0 Hs) fuel (listed.setIfInBounds i true) k ((d, v) :: τ) F H) (hz : (zWaits z ops listed i && !(i == z)) = true := by decide +kernel) : Dr C ops z (Held F0 Hs) (fuel + 1) listed k τ F H := by
  intro a w ha hw
  simp only [Bool.and_eq_true, Bool.not_eq_true', beq_eq_false_iff_ne] at hz
  refine wpAnyS_take (v := v) ho hs (fun c a w hq => by cases hq.1) hz.2 fuel listed a w (zWaits_spec hz.1) (Region.free_spec ho hf) (by simpa using hr) ?_ ⟨fun b o h => hw.frz b o (hF b o h), fun e he => hw.own e (hH he)⟩ ?_
  · exact .inl ⟨wanted_ok ha hg, fun w hw => hy a w ha hw⟩
  · rw [hd]; exact h _ w (ha.put (Nat.le_of_ble_eq_true hlt) v) hw
theorem d_skip {ops : Array Oper} {z : Nat} {Hs : List Ent} {F0 : Fz} {fuel i d : Nat} {listed : Array Bool} {o : Oper} (ho : ops[i]? = some o) (hd : o.dst = some d) (hlt : Nat.blt d C.fn.ntmps = true)
    (hs : Region.noSelect ops = true) (hf : Region.free .any ops listed i = true) (hr : (Region.ready .any ops listed).contains i = true)
    (hF : F0.le F) (hH : Hs ⊆ H) (hg : wantedB τ ops o = some false)
    (h : Dr C ops z (Held F0 Hs) fuel (listed.setIfInBounds i true) k ((d, undef) :: τ) F H) (hz : (zWaits z ops listed i && !(i == z)) = true := by decide +kernel) : Dr C ops z (Held F0 Hs) (fuel + 1) listed k τ F H := by
  intro a w ha hw
  simp only [Bool.and_eq_true, Bool.not_eq_true', beq_eq_false_iff_ne] at hz
  refine wpAnyS_take (v := undef) ho hs (fun c a w hq => by cases hq.1) hz.2 fuel listed a w (zWaits_spec hz.1) (Region.free_spec ho hf) (by simpa using hr) ?_ ⟨fun b o h => hw.frz b o (hF b o h), fun e he => hw.own e (hH he)⟩ ?_
  · exact .inr ⟨wanted_ok ha hg, rfl⟩
  · rw [hd]; exact h _ w (ha.put (Nat.le_of_ble_eq_true hlt) undef) hw

theorem d_end {ops : Array Oper} {z : Nat} {S : World → Prop} {fuel : Nat} {listed : Array Bool} (hr : Region.ready .any ops listed = []) (h : Run C k τ F H) : Dr C ops z S fuel listed k τ F H := fun a w ha hw => by
  have hq : QK C k .normal a w := ⟨rfl, h a w ha hw⟩
  cases fuel with
  | zero => exact ⟨hr, hq⟩
  | succ n => exact ⟨fun _ => hq, fun i hi => by rw [hr] at hi; cases hi⟩

/-- One of those that may come up: what is left behind it. -/
abbrev D1 (C : Cx) (ops : Array Oper) (z : Nat) (S : World → Prop) (fuel : Nat) (listed : Array Bool) (i : Nat) (k : List Item) (τ : Env) (F : Fz) (H : List Ent) : Prop :=
  Jd C τ F H (wpOp C.P ops (QK C k) i (fun a' w' => (i ≠ z → S w' ∧ wpAnyS C.P ops (QK C k) z S fuel (listed.setIfInBounds i true) a' w') ∧ (i = z → wpAny C.P .any ops (QK C k) fuel (listed.setIfInBounds i true) a' w')))

theorem d_all {ops : Array Oper} {z : Nat} {S : World → Prop} {fuel : Nat} {listed : Array Bool} (rs : List Nat) (hr : Region.ready .any ops listed = rs) (hne : rs ≠ [])
    (h : ∀ i ∈ rs, D1 C ops z S fuel listed i k τ F H) : Dr C ops z S (fuel + 1) listed k τ F H :=
  fun a w ha hw => ⟨fun h0 => absurd (hr ▸ h0) hne, fun i hi => h i (hr ▸ hi) a w ha hw⟩
theorem d_one {ops : Array Oper} {z : Nat} {S : World → Prop} {fuel i : Nat} {listed : Array Bool} (hr : Region.ready .any ops listed = [i])
    (h : D1 C ops z S fuel listed i k τ F H) : Dr C ops z S (fuel + 1) listed k τ F H :=
  d_all [i] hr (by simp) fun j hj => by simp at hj; subst hj; exact h
theorem d_two {ops : Array Oper} {z : Nat} {S : World → Prop} {fuel i j : Nat} {listed : Array Bool} (hr : Region.ready .any ops listed = [i, j])
    (h : D1 C ops z S fuel listed i k τ F H) (h' : D1 C ops z S fuel listed j k τ F H) : Dr C ops z S (fuel + 1) listed k τ F H :=
  d_all [i, j] hr (by simp) fun x hx => by
    simp at hx
    rcases hx with rfl | rfl
    · exact h
    · exact h'

theorem d1_act {ops : Array Oper} {z : Nat} {S : World → Prop} {fuel i d : Nat} {listed : Array Bool} {o : Oper} {R : Value → List Ent → Prop} (ho : ops[i]? = some o) (hd : o.dst = some d) (hlt : Nat.blt d C.fn.ntmps = true)
    (hg : wantedB τ ops o = some true) (hx : Act1 C o τ F H R)
    (h : ∀ v H', R v H' → (∀ w, St C.O F H' w → S w) ∧ Dr C ops z S fuel (listed.setIfInBounds i true) k ((d, v) :: τ) F H')  (hz : (i == z) = false := by decide +kernel) : D1 C ops z S fuel listed i k τ F H := by
  have hz' : i ≠ z := by simpa using hz
  intro a w ha hw
  unfold wpOp
  rw [ho]
  simp only [wanted_ok ha hg, if_true]
  refine .inl ?_
  unfold Oper.wp
  obtain ⟨v, H', w', hr, hR, hst⟩ := hx a w ha hw
  rw [hr, Oper.upon_value, hd]
  exact ⟨fun _ => ⟨(h v H' hR).1 w' hst, (h v H' hR).2 _ w' (ha.put (Nat.le_of_ble_eq_true hlt) v) hst⟩, fun h => absurd h hz'⟩

theorem d1_actF {ops : Array Oper} {z : Nat} {S : World → Prop} {fuel i d : Nat} {listed : Array Bool} {o : Oper} {R : Value → Fz → List Ent → Prop} (ho : ops[i]? = some o) (hd : o.dst = some d) (hlt : Nat.blt d C.fn.ntmps = true)
    (hg : wantedB τ ops o = some true) (hx : ActF C o τ F H R)
    (h : ∀ v F' H', R v F' H' → F.le F' → (∀ w, St C.O F' H' w → S w) ∧ Dr C ops z S fuel (listed.setIfInBounds i true) k ((d, v) :: τ) F' H')  (hz : (i == z) = false := by decide +kernel) : D1 C ops z S fuel listed i k τ F H := by
  have hz' : i ≠ z := by simpa using hz
  intro a w ha hw
  unfold wpOp
  rw [ho]
  simp only [wanted_ok ha hg, if_true]
  refine .inl ?_
  unfold Oper.wp
  obtain ⟨v, F', H', w', hr, hR, hle, hst⟩ := hx a w ha hw
  rw [hr, Oper.upon_value, hd]
  exact ⟨fun _ => ⟨(h v F' H' hR hle).1 w' hst, (h v F' H' hR hle).2 _ w' (ha.put (Nat.le_of_ble_eq_true hlt) v) hst⟩, fun h => absurd h hz'⟩

theorem d1_act0 {ops : Array Oper} {z : Nat} {S : World → Prop} {fuel i : Nat} {listed : Array Bool} {o : Oper} {H' : List Ent} (ho : ops[i]? = some o) (hd : o.dst = none)
    (hg : wantedB τ ops o = some true) (hx : Act0 C o τ F H H') (hS : ∀ w, St C.O F H' w → S w)
    (h : Dr C ops z S fuel (listed.setIfInBounds i true) k τ F H')  (hz : (i == z) = false := by decide +kernel) : D1 C ops z S fuel listed i k τ F H := by
  have hz' : i ≠ z := by simpa using hz
  intro a w ha hw
  unfold wpOp
  rw [ho]
  simp only [wanted_ok ha hg, if_true]
  refine .inl ?_
  unfold Oper.wp
  obtain ⟨w', hr, hst⟩ := hx a w ha hw
  rw [hr, Oper.upon_skip, hd]
  exact ⟨fun _ => ⟨hS w' hst, h _ w' ha hst⟩, fun h => absurd h hz'⟩

theorem d1_call {ops : Array Oper} {z : Nat} {S : World → Prop} {fuel i d : Nat} {listed : Array Bool} {o : Oper} {g : FuncId} {vs : Array Value} {R : Value → Fz → List Ent → Prop} (ho : ops[i]? = some o) (hd : o.dst = some d)
    (hlt : Nat.blt d C.fn.ntmps = true) (hg : wantedB τ ops o = some true) (hx : Calling C o τ g vs) (hc : Does C.P C.O g vs F H R)
    (h : ∀ v F' H', R v F' H' → F.le F' → (∀ w, St C.O F' H' w → S w) ∧ Dr C ops z S fuel (listed.setIfInBounds i true) k ((d, v) :: τ) F' H')  (hz : (i == z) = false := by decide +kernel) : D1 C ops z S fuel listed i k τ F H := by
  have hz' : i ≠ z := by simpa using hz
  intro a w ha hw
  unfold wpOp
  rw [ho]
  simp only [wanted_ok ha hg, if_true]
  refine .inl ?_
  unfold Oper.wp
  rw [hx a w ha, Oper.upon_enter, hd]
  refine (hc w hw).mono ?_
  rintro e w' ⟨v, F', H', rfl, hR, hle, hst⟩
  exact ⟨fun _ => ⟨(h v F' H' hR hle).1 w' hst, (h v F' H' hR hle).2 _ w' (ha.put (Nat.le_of_ble_eq_true hlt) v) hst⟩, fun h => absurd h hz'⟩

/-- A call that is skipped. -/
theorem d1_skip {ops : Array Oper} {z : Nat} {S : World → Prop} {fuel i d : Nat} {listed : Array Bool} {o : Oper} (ho : ops[i]? = some o) (hd : o.dst = some d) (hlt : Nat.blt d C.fn.ntmps = true)
    (hg : wantedB τ ops o = some false) (hS : ∀ w, St C.O F H w → S w) (h : Dr C ops z S fuel (listed.setIfInBounds i true) k ((d, undef) :: τ) F H)  (hz : (i == z) = false := by decide +kernel) : D1 C ops z S fuel listed i k τ F H := by
  have hz' : i ≠ z := by simpa using hz
  intro a w ha hw
  unfold wpOp
  rw [ho]
  simp only [wanted_ok ha hg, hd]
  exact ⟨fun _ => ⟨hS w hw, h _ w (ha.put (Nat.le_of_ble_eq_true hlt) undef) hw⟩, fun h => absurd h hz'⟩

/-- Number z has come up: a new stage begins. -/
theorem d1_last {ops : Array Oper} {z : Nat} {S : World → Prop} {fuel : Nat} {listed : Array Bool} {o : Oper} {H' : List Ent} (z' : Nat) (Hs' : List Ent) (ho : ops[z]? = some o) (hd : o.dst = none)
    (hg : wantedB τ ops o = some true) (hx : Act0 C o τ F H H')
    (h : Dr C ops z' (Held F Hs') fuel (listed.setIfInBounds z true) k τ F H') : D1 C ops z S fuel listed z k τ F H := by
  intro a w ha hw
  unfold wpOp
  rw [ho]
  simp only [wanted_ok ha hg, if_true]
  refine .inl ?_
  unfold Oper.wp
  obtain ⟨w', hr, hst⟩ := hx a w ha hw
  rw [hr, Oper.upon_skip, hd]
  exact ⟨fun h => absurd rfl h, fun _ => wpAny_of_staged _ _ _ _ (h _ w' ha hst)⟩
theorem d1_lastCall {ops : Array Oper} {z : Nat} {S : World → Prop} {fuel d : Nat} {listed : Array Bool} {o : Oper} {g : FuncId} {vs : Array Value} {R : Value → Fz → List Ent → Prop} (z' : Nat) (ho : ops[z]? = some o) (hd : o.dst = some d)
    (hlt : Nat.blt d C.fn.ntmps = true) (hg : wantedB τ ops o = some true) (hx : Calling C o τ g vs) (hc : Does C.P C.O g vs F H R)
    (h : ∀ v F' H', R v F' H' → F.le F' → ∃ Hs', Dr C ops z' (Held F' Hs') fuel (listed.setIfInBounds z true) k ((d, v) :: τ) F' H') : D1 C ops z S fuel listed z k τ F H := by
  intro a w ha hw
  unfold wpOp
  rw [ho]
  simp only [wanted_ok ha hg, if_true]
  refine .inl ?_
  unfold Oper.wp
  rw [hx a w ha, Oper.upon_enter, hd]
  refine (hc w hw).mono ?_
  rintro e w' ⟨v, F', H', rfl, hR, hle, hst⟩
  obtain ⟨Hs', h⟩ := h v F' H' hR hle
  exact ⟨fun h => absurd rfl h, fun _ => wpAny_of_staged _ _ _ _ (h _ w' (ha.put (Nat.le_of_ble_eq_true hlt) v) hst)⟩

theorem wpAnyS_mono {P : Program} {ops : Array Oper} {Q : Exit → Act → World → Prop} {z : Nat} {S S' : World → Prop} (hS : ∀ w, S' w → S w) : ∀ (fuel : Nat) (listed : Array Bool) (a : Act) (w : World),
    wpAnyS P ops Q z S' fuel listed a w → wpAnyS P ops Q z S fuel listed a w
  | 0, _, _, _, h => h
  | fuel + 1, _, _, _, h => ⟨h.1, fun i hi => wpOp_mono (fun a' w' h' => ⟨fun hz => ⟨hS w' (h'.1 hz).1, wpAnyS_mono hS fuel _ a' w' (h'.1 hz).2⟩, h'.2⟩) (h.2 i hi)⟩

/-- From here on more is held. -/
theorem d_more {ops : Array Oper} {z : Nat} {fuel : Nat} {listed : Array Bool} {F0 F1 : Fz} {Hs : List Ent} (Hs' : List Ent) (hF : F0.le F1) (hH : Hs ⊆ Hs') (h : Dr C ops z (Held F1 Hs') fuel listed k τ F H) : Dr C ops z (Held F0 Hs) fuel listed k τ F H :=
  fun a w ha hw => wpAnyS_mono (fun _ h => ⟨fun b o hb => h.1 b o (hF b o hb), fun e he => h.2 e (hH he)⟩) fuel listed a w (h a w ha hw)

theorem held_of {O : World} {F F' : Fz} {Hs H : List Ent} {w : World} (hw : St O F' H w) (hF : F.le F') (hH : Hs ⊆ H) : Held F Hs w :=
  ⟨fun b o h => hw.frz b o (hF b o h), fun e he => hw.own e (hH he)⟩
end rules
end Go.SX
