/- Contracts and plain laws, laid together. -/
import Derived.Calls
import Derived.Orders
import Derived.OrdersHeld
import Derived.Tactics
import Derived.OwnWalk
import Derived.Laws.Small
import Derived.Laws.Strings
import Derived.Laws.Pointers
import Derived.Laws.CopyRow
import Derived.Laws.Append
import Derived.Laws.AppendOwn
import Derived.Laws.BytesArg
import Derived.Laws.Slices
import Derived.Laws.MakeOwn
import Derived.Laws.Tables
import Derived.Great.BuildSlice
import Derived.Laws.Cover3
import Derived.Laws.Concat
import Derived.Test.YtbciniijhlaomaaGreatProg
import Derived.Below
import Derived.SizedLaws
import Derived.ChangeSlices
import Derived.ChangeOld
import Derived.Laws.StructEq
import Derived.Deep.Matrix
import Derived.Deep.SlicePairs
import Derived.Deep.Grids
import Derived.MapKept
import Derived.Carry
import Derived.WideLaws
import Derived.Laws.Externs
import Derived.Laws.FloatArith
namespace Go.SX
open Go
abbrev Env := List (Nat × Value)
def Env.get? : Env → Nat → Option Value
  | [], _ => none
  | (t, v) :: r, k => cond (Nat.beq k t) (some v) (Env.get? r k)
def ev (τ : Env) : Operand → Option Value
  | .tmp t => τ.get? t
  | .const v => some v
  | .global g => some (.pointer (some ⟨g, 0, none⟩))
  | .func f => some (.func (.func f) #[] #[])
structure EnvOk (n : Nat) (τ : Env) (a : Act) : Prop where
  size : a.tmps.size = n
  defers : a.defers = []
  get : ∀ t v, τ.get? t = some v → t < n ∧ a.tmps.getD t undef = v
theorem EnvOk.eval {n : Nat} {τ : Env} {a : Act} (h : EnvOk n τ a) {x : Operand} {v : Value} (hv : ev τ x = some v) : a.eval x = v := by
  cases x with
  | tmp t => exact (h.get t v hv).2
  | const c => simpa [ev, Act.eval] using hv
  | global g => simpa [ev, Act.eval] using hv
  | func f => simpa [ev, Act.eval] using hv
theorem EnvOk.put {n : Nat} {τ : Env} {a : Act} (h : EnvOk n τ a) {d : Nat} (hd : d < n) (v : Value) : EnvOk n ((d, v) :: τ) (a.put (some d) v) := by
  refine ⟨by simp [Act.put, h.size], by simp [Act.put, h.defers], fun t u hu => ?_⟩
  simp only [Env.get?] at hu
  by_cases e : t = d
  · subst e
    have hb : Nat.beq t t = true := by simp
    rw [hb] at hu
    simp only [cond_true, Option.some.injEq] at hu
    subst hu
    refine ⟨hd, ?_⟩
    have : t < a.tmps.size := by rw [h.size]; exact hd
    simp [Act.put, this]
  · have hb : Nat.beq t d = false := by
      cases hx : Nat.beq t d with
      | false => rfl
      | true => exact absurd (Nat.eq_of_beq_eq_true hx) e
    rw [hb] at hu
    simp only [cond_false] at hu
    obtain ⟨h1, h2⟩ := h.get t u hu
    refine ⟨h1, ?_⟩
    have hne : d ≠ t := fun x => e x.symm
    simp only [Act.put]
    rw [Array.getD_eq_getD_getElem?, Array.getElem?_setIfInBounds_ne hne, ← Array.getD_eq_getD_getElem?]
    exact h2
def Env.sub (τ : Env) : Env → Prop
  | [] => True
  | (t, v) :: r => τ.get? t = some v ∧ Env.sub τ r
theorem Env.sub_get {τ : Env} : ∀ {τ' : Env}, Env.sub τ τ' → ∀ t v, τ'.get? t = some v → τ.get? t = some v
  | [], _, t, v, h => by simp [Env.get?] at h
  | (s, u) :: r, hs, t, v, h => by
    obtain ⟨h1, h2⟩ := hs
    simp only [Env.get?] at h
    by_cases e : t = s
    · subst e
      have hb : Nat.beq t t = true := by simp
      rw [hb] at h
      simp only [cond_true, Option.some.injEq] at h
      rw [h1, h]
    · have hb : Nat.beq t s = false := by
        cases hx : Nat.beq t s with
        | false => rfl
        | true => exact absurd (Nat.eq_of_beq_eq_true hx) e
      rw [hb] at h
      exact Env.sub_get h2 t v h
theorem EnvOk.sub {n : Nat} {τ τ' : Env} {a : Act} (h : EnvOk n τ a) (hs : τ.sub τ') : EnvOk n τ' a :=
  ⟨h.size, h.defers, fun t v hv => h.get t v (Env.sub_get hs t v hv)⟩
abbrev Fz := Nat → Option Obj
def Fz.le (F F' : Fz) : Prop := ∀ b o, F b = some o → F' b = some o
theorem Fz.le_refl (F : Fz) : F.le F := fun _ _ h => h
theorem Fz.le_trans {F F' F'' : Fz} (h : F.le F') (h' : F'.le F'') : F.le F'' := fun b o hb => h' b o (h b o hb)
inductive Ent where
  | mem (b : Nat) (cs : List Value) (n : Nat)
  | obj (b : Nat) (o : Obj)
def Ent.b : Ent → Nat
  | .mem b _ _ => b
  | .obj b _ => b
def isCells : Obj → Bool
  | .cells .. => true
  | _ => false
def Ent.holds (w : World) : Ent → Prop
  | .mem b cs n => ∃ rest e, w.heap[b]? = some (.cells (cs ++ rest).toArray e (0, 0)) ∧ (cs ++ rest).length = n
  | .obj b o => w.heap[b]? = some o ∧ isCells o = false
structure St (O : World) (F : Fz) (H : List Ent) (w : World) : Prop where
  os : w.os = O.os
  tape : w.tape = O.tape
  output : w.output = O.output
  frz : ∀ b o, F b = some o → w.heap[b]? = some o
  own : ∀ e ∈ H, e.holds w
  nd : (H.map Ent.b).Nodup
  ap : ∀ e ∈ H, F e.b = none
theorem St.drew {O : World} {F : Fz} {H : List Ent} {w : World} (h : St O F H w) (n : Nat) : St O F H { w with drawn := n } :=
  ⟨h.os, h.tape, h.output, h.frz, h.own, h.nd, h.ap⟩
def Does (P : Program) (O : World) (f : FuncId) (args : Array Value) (F : Fz) (H : List Ent) (R : Value → Fz → List Ent → Prop) : Prop :=
  ∀ w, St O F H w → Calls P f args w fun e w' => ∃ v F' H', e = .returned v ∧ R v F' H' ∧ F.le F' ∧ St O F' H' w'
theorem Does.mono {P : Program} {O : World} {f : FuncId} {args : Array Value} {F : Fz} {H : List Ent} {R R' : Value → Fz → List Ent → Prop}
    (h : Does P O f args F H R) (hr : ∀ v F' H', F.le F' → R v F' H' → R' v F' H') : Does P O f args F H R' :=
  fun w hw => (h w hw).mono fun _ _ ⟨v, F', H', he, r, hle, hs⟩ => ⟨v, F', H', he, hr v F' H' hle r, hle, hs⟩
structure Cx where
  P : Program
  O : World
  f : FuncId
  fn : Func
  R : Value → Fz → List Ent → Prop
def Fin (C : Cx) (k : List Item) (a : Act) (w : World) : Prop :=
  ∀ (b : Frame), b.fn = C.f → b.kind = .normal → ∀ cs, ∃ v F' H' w' fr, C.R v F' H' ∧ St C.O F' H' w' ∧
    Steps C.P (lone (b.at a k) cs w) (lone fr cs w') ∧ fr.fn = C.f ∧ fr.leaving C.P w' (.returned v)
def Jd (C : Cx) (τ : Env) (F : Fz) (H : List Ent) (X : Act → World → Prop) : Prop :=
  ∀ a w, EnvOk C.fn.ntmps τ a → St C.O F H w → X a w
abbrev Run (C : Cx) (k : List Item) (τ : Env) (F : Fz) (H : List Ent) : Prop := Jd C τ F H (Fin C k)
theorem Fin.head {C : Cx} {k k' : List Item} {a a' : Act} {w w' : World}
    (hs : ∀ (b : Frame) (cs : List Frame), b.fn = C.f → b.kind = .normal → Steps C.P (lone (b.at a k) cs w) (lone (b.at a' k') cs w')) (h : Fin C k' a' w') : Fin C k a w := by
  intro b hb hk cs
  obtain ⟨v, F', H', w'', fr, hR, hst, hsteps, hfn, hl⟩ := h b hb hk cs
  exact ⟨v, F', H', w'', fr, hR, hst, Steps.trans (hs b cs hb hk) hsteps, hfn, hl⟩
section rules
variable {C : Cx} {k : List Item} {τ : Env} {F : Fz} {H : List Ent}
theorem Run.step {k' : List Item} (hs : ∀ (b : Frame) (a : Act) (w : World) (cs : List Frame), step C.P (lone (b.at a k) cs w) = .next (lone (b.at a k') cs w)) (h : Run C k' τ F H) : Run C k τ F H :=
  fun a w ha hw => Fin.head (fun b cs _ _ => .one (hs b a w cs)) (h a w ha hw)
theorem r_seq {x y : Code} (h : Run C (.code x :: .code y :: k) τ F H) : Run C (.code (.seq x y) :: k) τ F H := Run.step (fun _ _ _ _ => step_seq) h
theorem r_skip (h : Run C k τ F H) : Run C (.code .skip :: k) τ F H := Run.step (fun _ _ _ _ => step_skip) h
theorem r_block {id : Nat} {c : Code} (h : Run C (.code c :: .inBlock id :: k) τ F H) : Run C (.code (.block id c) :: k) τ F H := Run.step (fun _ _ _ _ => step_block) h
theorem r_inBlock {id : Nat} (h : Run C k τ F H) : Run C (.inBlock id :: k) τ F H := Run.step (fun _ _ _ _ => step_inBlock) h
theorem r_exit {id : Nat} {k' : List Item} (hk : exitTo id k = some k') (h : Run C k' τ F H) : Run C (.code (.exit id) :: k) τ F H := Run.step (fun _ _ _ _ => step_exit hk) h
theorem r_inLoop {c : Code} (h : Run C (.code c :: .inLoop c :: k) τ F H) : Run C (.inLoop c :: k) τ F H := Run.step (fun _ _ _ _ => step_inLoop) h
theorem r_cond {c : Operand} {x y : Code} {t : Bool} (hc : ev τ c = some (.bool t)) (h1 : t = true → Run C (.code x :: k) τ F H) (h0 : t = false → Run C (.code y :: k) τ F H) :
    Run C (.code (.cond c x y) :: k) τ F H := by
  intro a w ha hw
  have he : a.eval c = .bool t := ha.eval hc
  cases t with
  | true => exact Fin.head (fun b cs _ _ => .one (by simpa using step_cond (x := x) (y := y) he)) (h1 rfl a w ha hw)
  | false => exact Fin.head (fun b cs _ _ => .one (by simpa using step_cond (x := x) (y := y) he)) (h0 rfl a w ha hw)
theorem r_true {c : Operand} {x y : Code} (hc : ev τ c = some (.bool true)) (h1 : Run C (.code x :: k) τ F H) : Run C (.code (.cond c x y) :: k) τ F H :=
  r_cond hc (fun _ => h1) (fun h => by cases h)
theorem r_false {c : Operand} {x y : Code} (hc : ev τ c = some (.bool false)) (h1 : Run C (.code y :: k) τ F H) : Run C (.code (.cond c x y) :: k) τ F H :=
  r_cond hc (fun h => by cases h) (fun _ => h1)
theorem r_if {c : Operand} {x y : Code} {p : Prop} [Decidable p] (hc : ev τ c = some (.bool (decide p))) (h1 : p → Run C (.code x :: k) τ F H) (h0 : ¬ p → Run C (.code y :: k) τ F H) :
    Run C (.code (.cond c x y) :: k) τ F H :=
  r_cond hc (fun h => h1 (of_decide_eq_true h)) (fun h => h0 (of_decide_eq_false h))
theorem j_keep {X : Act → World → Prop} {τ' : Env} (hs : τ.sub τ') (h : Jd C τ' F H X) : Jd C τ F H X := fun a w ha hw => h a w (ha.sub hs) hw
theorem St.perm {O : World} {F : Fz} {H H' : List Ent} {w : World} (hp : H.Perm H') (h : St O F H w) : St O F H' w :=
  ⟨h.os, h.tape, h.output, h.frz, fun e he => h.own e (hp.mem_iff.2 he), (hp.map Ent.b).nodup_iff.1 h.nd, fun e he => h.ap e (hp.mem_iff.2 he)⟩
theorem St.drop {O : World} {F : Fz} {H H' : List Ent} {w : World} (hp : H'.Sublist H) (h : St O F H w) : St O F H' w :=
  ⟨h.os, h.tape, h.output, h.frz, fun e he => h.own e (hp.subset he), (hp.map Ent.b).nodup h.nd, fun e he => h.ap e (hp.subset he)⟩
theorem j_perm {X : Act → World → Prop} {H' : List Ent} (hp : H.Perm H') (h : Jd C τ F H' X) : Jd C τ F H X := fun a w ha hw => h a w ha (hw.perm hp)
theorem j_drop {X : Act → World → Prop} {H' : List Ent} (hp : H'.Sublist H) (h : Jd C τ F H' X) : Jd C τ F H X := fun a w ha hw => h a w ha (hw.drop hp)
theorem EnvOk.same {n : Nat} {a : Act} {d : Nat} {v : Value} (h : EnvOk n τ a) (hv : τ.get? d = some v) : EnvOk n ((d, v) :: τ) a := by
  refine ⟨h.size, h.defers, fun t u hu => ?_⟩
  simp only [Env.get?] at hu
  by_cases e : t = d
  · subst e
    have hb : Nat.beq t t = true := by simp
    rw [hb] at hu
    simp only [cond_true, Option.some.injEq] at hu
    subst hu
    exact h.get t v hv
  · have hb : Nat.beq t d = false := by
      cases hx : Nat.beq t d with
      | false => rfl
      | true => exact absurd (Nat.eq_of_beq_eq_true hx) e
    rw [hb] at hu
    exact h.get t u hu
theorem j_bool {X : Act → World → Prop} (d : Nat) {b : Bool} (hv : τ.get? d = some (.bool b)) (h1 : b = true → Jd C ((d, .bool true) :: τ) F H X) (h0 : b = false → Jd C ((d, .bool false) :: τ) F H X) : Jd C τ F H X := by
  intro a w ha hw
  cases b with
  | true => exact h1 rfl a w (ha.same hv) hw
  | false => exact h0 rfl a w (ha.same hv) hw
theorem j_prop {X : Act → World → Prop} (d : Nat) {p : Prop} [Decidable p] (hv : τ.get? d = some (.bool (decide p))) (h1 : p → Jd C ((d, .bool true) :: τ) F H X) (h0 : ¬ p → Jd C ((d, .bool false) :: τ) F H X) : Jd C τ F H X :=
  j_bool d hv (fun h => h1 (of_decide_eq_true h)) (fun h => h0 (of_decide_eq_false h))
theorem j_slot {X : Act → World → Prop} (d : Nat) {v v' : Value} (hv : τ.get? d = some v) (he : v = v') (h : Jd C ((d, v') :: τ) F H X) : Jd C τ F H X := by
  subst he
  exact fun a w ha hw => h a w (ha.same hv) hw
theorem j_heap {X : Act → World → Prop} {H' : List Ent} (he : H = H') (h : Jd C τ F H' X) : Jd C τ F H X := he ▸ h
theorem r_join {ι : Type} {x : Item} (ok : ι → Prop) (T : ι → Env) (G : ι → Fz) (M : ι → List Ent) (h1 : (∀ i, ok i → Run C k (T i) (G i) (M i)) → Run C (x :: k) τ F H) (h2 : ∀ i, ok i → Run C k (T i) (G i) (M i)) : Run C (x :: k) τ F H := h1 h2
theorem r_loop {ι : Type} {body : Code} (ok : ι → Prop) (T : ι → Env) (G : ι → Fz) (M : ι → List Ent) (m : ι → Nat) (i0 : ι) (h0 : ok i0) (ht : τ.sub (T i0)) (hG : G i0 = F) (hM : M i0 = H)
    (round : ∀ i, ok i → (∀ j, ok j → m j < m i → Run C (.inLoop body :: k) (T j) (G j) (M j)) → Run C (.code body :: .inLoop body :: k) (T i) (G i) (M i)) :
    Run C (.code (.loop body) :: k) τ F H := by
  have key : ∀ n i, m i = n → ok i → Run C (.code body :: .inLoop body :: k) (T i) (G i) (M i) := by
    intro n
    induction n using Nat.strongRecOn with
    | _ n ih =>
      intro i hn hi
      exact round i hi fun j hj hlt => r_inLoop (ih (m j) (hn ▸ hlt) j rfl hj)
  have := key (m i0) i0 rfl h0
  rw [hG, hM] at this
  have h2 : Run C (.code body :: .inLoop body :: k) τ F H := j_keep ht this
  exact Run.step (fun _ _ _ _ => step_loop) h2
theorem Fin.ret {a : Act} {w : World} {v : Value} {F' : Fz} {H' : List Ent} (hf : C.P.funcs[C.f]? = some C.fn) (ha : a.defers = []) (hr : (results C.fn a.tmps).run C.P w = .ok v w)
    (hw : St C.O F' H' w) (hR : C.R v F' H') : Fin C (.code .ret :: k) a w ∧ Fin C [] a w := by
  refine ⟨fun b hb hk cs => ⟨v, F', H', w, _, hR, hw, .one step_ret, hb, rfl, ?_, ?_, C.fn, ?_, hr⟩, fun b hb hk cs => ⟨v, F', H', w, _, hR, hw, .one step_end, hb, rfl, ?_, ?_, C.fn, ?_, hr⟩⟩
  all_goals first
    | exact ha
    | exact hk
    | (show C.P.funcs[b.fn]? = some C.fn; rw [hb]; exact hf)
theorem r_ret {v : Value} (hf : C.P.funcs[C.f]? = some C.fn) (hr : ∀ a w, EnvOk C.fn.ntmps τ a → St C.O F H w → (results C.fn a.tmps).run C.P w = .ok v w) (hR : C.R v F H) : Run C (.code .ret :: k) τ F H :=
  fun a w ha hw => (Fin.ret (k := k) hf ha.defers (hr a w ha hw) hw hR).1
theorem r_fall {v : Value} (hf : C.P.funcs[C.f]? = some C.fn) (hr : ∀ a w, EnvOk C.fn.ntmps τ a → St C.O F H w → (results C.fn a.tmps).run C.P w = .ok v w) (hR : C.R v F H) : Run C [] τ F H :=
  fun a w ha hw => (Fin.ret (k := []) hf ha.defers (hr a w ha hw) hw hR).2
theorem r_fall0 (hf : C.P.funcs[C.f]? = some C.fn) (hr : C.fn.results = #[]) (hR : C.R (.tuple #[]) F H) : Run C [] τ F H :=
  r_fall hf (fun a w _ _ => by
    exact results_none hr _ _ _) hR
theorem r_ret0 (hf : C.P.funcs[C.f]? = some C.fn) (hr : C.fn.results = #[])  (hR : C.R (.tuple #[]) F H) : Run C (.code .ret :: k) τ F H :=
  r_ret hf (fun a w _ _ => by
    exact results_none hr _ _ _) hR
theorem r_ret1 {t0 : Nat} {v0 : Value} (hf : C.P.funcs[C.f]? = some C.fn) (hr : C.fn.results = #[.tmp t0]) (h0 : τ.get? t0 = some v0) (hR : C.R v0 F H) : Run C (.code .ret :: k) τ F H :=
  r_ret hf (fun a w ha _ => by
    have g0 := (ha.get t0 v0 h0).2
    rw [results_tmp hr, g0]) hR
theorem r_ret2 {t0 t1 : Nat} {v0 v1 : Value} (hf : C.P.funcs[C.f]? = some C.fn) (hr : C.fn.results = #[.tmp t0, .tmp t1]) (h0 : τ.get? t0 = some v0) (h1 : τ.get? t1 = some v1) (hR : C.R (.tuple #[v0, v1]) F H) : Run C (.code .ret :: k) τ F H :=
  r_ret hf (fun a w ha _ => by
    have g0 := (ha.get t0 v0 h0).2
    have g1 := (ha.get t1 v1 h1).2
    rw [results_tmp2 hr, g0, g1]) hR
theorem r_ret4 {t0 t1 t2 t3 : Nat} {v0 v1 v2 v3 : Value} (hf : C.P.funcs[C.f]? = some C.fn) (hr : C.fn.results = #[.tmp t0, .tmp t1, .tmp t2, .tmp t3]) (h0 : τ.get? t0 = some v0) (h1 : τ.get? t1 = some v1) (h2 : τ.get? t2 = some v2) (h3 : τ.get? t3 = some v3) (hR : C.R (.tuple #[v0, v1, v2, v3]) F H) : Run C (.code .ret :: k) τ F H :=
  r_ret hf (fun a w ha _ => by
    have g0 := (ha.get t0 v0 h0).2
    have g1 := (ha.get t1 v1 h1).2
    have g2 := (ha.get t2 v2 h2).2
    have g3 := (ha.get t3 v3 h3).2
    simp [results, hr, go_sem] at g0 g1 g2 g3 ⊢
    exact ⟨g0, g1, g2, g3⟩) hR
def argEnv : Nat → List Value → Env
  | _, [] => []
  | i, v :: r => (i, v) :: argEnv (i + 1) r
theorem argEnv_get : ∀ (vs : List Value) (i t : Nat) (v : Value), (argEnv i vs).get? t = some v → i ≤ t ∧ vs[t - i]? = some v
  | [], i, t, v, h => by simp [argEnv, Env.get?] at h
  | u :: r, i, t, v, h => by
    simp only [argEnv, Env.get?] at h
    by_cases e : t = i
    · subst e
      have hb : Nat.beq t t = true := by simp
      rw [hb] at h
      simp only [cond_true, Option.some.injEq] at h
      subst h
      simp
    · have hb : Nat.beq t i = false := by
        cases hx : Nat.beq t i with
        | false => rfl
        | true => exact absurd (Nat.eq_of_beq_eq_true hx) e
      rw [hb] at h
      simp only [cond_false] at h
      obtain ⟨h1, h2⟩ := argEnv_get r (i + 1) t v h
      refine ⟨by omega, ?_⟩
      have : t - i = (t - (i + 1)) + 1 := by omega
      rw [this, List.getElem?_cons_succ]
      exact h2
theorem does_of_run {P : Program} {O : World} {f : FuncId} {fn : Func} {c : Code} {args : List Value} {F : Fz} {H : List Ent} {R : Value → Fz → List Ent → Prop}
    (hf : P.funcs[f]? = some fn) (hb : fn.body = some c) (hn : Nat.ble args.length fn.ntmps = true)
    (h : Run ⟨P, O, f, fn, fun v F' H' => R v F' H' ∧ F.le F'⟩ [.code c] (argEnv 0 args) F H) : Does P O f args.toArray F H R := by
  intro w hw cs
  let b : Frame := { (default : Frame) with fn := f, kind := .normal }
  have henter : Frame.enter P f args.toArray .normal = b.at { tmps := args.toArray ++ Array.replicate (fn.ntmps - args.toArray.size) undef, defers := [] } [.code c] := by
    simp [Frame.enter, Frame.at, hf, hb, b]
  obtain ⟨v, F', H', w', fr, ⟨hR, hle⟩, hst, hsteps, hfn, hl⟩ := h { tmps := args.toArray ++ Array.replicate (fn.ntmps - args.toArray.size) undef, defers := [] } w
    ⟨by have := Nat.le_of_ble_eq_true hn; simp; omega, rfl, fun t v ht => by
      obtain ⟨_, h2⟩ := argEnv_get args 0 t v ht
      simp only [Nat.sub_zero] at h2
      have hlt : t < args.length := by
        rcases Nat.lt_or_ge t args.length with h | h
        · exact h
        · simp [List.getElem?_eq_none h] at h2
      refine ⟨Nat.lt_of_lt_of_le hlt (Nat.le_of_ble_eq_true hn), ?_⟩
      rw [Array.getD_eq_getD_getElem?, Array.getElem?_append_left (by simpa using hlt)]
      simp [h2]⟩ hw b rfl rfl cs
  rw [← henter] at hsteps
  exact ⟨.returned v, w', fr, ⟨v, F', H', rfl, hR, hle, hst⟩, hsteps, hfn, hl⟩
def QK (C : Cx) (k : List Item) : Exit → Act → World → Prop := fun e a w => e = .normal ∧ Fin C k a w
abbrev Ops (C : Cx) (ops : Array Oper) (l : List Nat) (k : List Item) (τ : Env) (F : Fz) (H : List Ent) : Prop := Jd C τ F H (wpOps C.P ops (QK C k) l)
theorem fin_of_ops {ops : Array Oper} {l : List Nat} {a : Act} {w : World} (h : wpOps C.P ops (QK C k) l a w) : Fin C (.inRegion ops l :: k) a w := by
  intro b hb hk cs
  obtain ⟨e, a', w', ⟨rfl, hfin⟩, harr⟩ := wp_ops l a w h b k cs
  obtain ⟨v, F', H', w'', fr, hR, hst, hsteps, hfn, hl⟩ := hfin b hb hk cs
  exact ⟨v, F', H', w'', fr, hR, hst, Steps.trans harr hsteps, hfn, hl⟩
theorem r_region {id : Nat} {ops : Array Oper} {l : List Nat} (hl : List.range ops.size = l) (h : Ops C ops l k τ F H) : Run C (.code (.region id ops false) :: k) τ F H := by
  intro a w ha hw
  subst hl
  exact Fin.head (fun b cs _ _ => .one step_region) (fin_of_ops (h a w ha hw))
theorem o_end {ops : Array Oper} (h : Run C k τ F H) : Ops C ops [] k τ F H := fun a w ha hw => ⟨rfl, h a w ha hw⟩
def wantedB (τ : Env) (ops : Array Oper) (o : Oper) : Option Bool :=
  match o.guard with
  | none => some true
  | some (j, want) => match (ops[j]?).bind (·.dst) with
    | some d => match τ.get? d with
      | some (.bool b) => some (b == want)
      | some (.tuple _) => some false
      | _ => none
    | none => none
theorem wanted_ok {n : Nat} {a : Act} {ops : Array Oper} {o : Oper} {b : Bool} (ha : EnvOk n τ a) (h : wantedB τ ops o = some b) : Region.wanted o (yielded ops a.tmps) = b := by
  unfold wantedB at h
  unfold Region.wanted
  split at h
  · rename_i hg; rw [hg]; simpa using h
  · rename_i j want hg
    rw [hg]
    simp only
    split at h
    · rename_i d hd
      split at h
      · rename_i c hc
        obtain ⟨h1, h2⟩ := ha.get d _ hc
        have hlt : d < a.tmps.size := by rw [ha.size]; exact h1
        have h3 : a.tmps[d]? = some (.bool c) := by
          rw [Array.getD_eq_getD_getElem?, Array.getElem?_eq_getElem hlt] at h2
          rw [Array.getElem?_eq_getElem hlt]
          simpa using h2
        simp only [yielded, hd, Option.bind_some, h3]
        simpa using h
      · rename_i c hc
        obtain ⟨h1, h2⟩ := ha.get d _ hc
        have hlt : d < a.tmps.size := by rw [ha.size]; exact h1
        have h3 : a.tmps[d]? = some (.tuple c) := by
          rw [Array.getD_eq_getD_getElem?, Array.getElem?_eq_getElem hlt] at h2
          rw [Array.getElem?_eq_getElem hlt]
          simpa using h2
        simp only [yielded, hd, Option.bind_some, h3]
        simpa using h
      · cases h
    · cases h
theorem o_skip {ops : Array Oper} {i d : Nat} {l : List Nat} {o : Oper} (ho : ops[i]? = some o) (hd : o.dst = some d) (hlt : Nat.blt d C.fn.ntmps = true) (hg : wantedB τ ops o = some false)
    (h : Ops C ops l k ((d, undef) :: τ) F H) : Ops C ops (i :: l) k τ F H := by
  intro a w ha hw
  rw [wpOps_cons]
  unfold wpOp
  rw [ho]
  simp only [wanted_ok ha hg, hd]
  exact h _ w (ha.put (Nat.le_of_ble_eq_true hlt) undef) hw
theorem o_sk {C : Cx} {k : List Item} {τ : Env} {F : Fz} {H : List Ent} {ops : Array Oper} {i d : Nat} {l : List Nat} {o : Oper} (ho : ops[i]? = some o) (hd : o.dst = some d) (h : Ops C ops l k ((d, undef) :: τ) F H) (hlt : Nat.blt d C.fn.ntmps = true := by exact rfl) (hg : wantedB τ ops o = some false := by exact rfl) : Ops C ops (i :: l) k τ F H := o_skip ho hd hlt hg h
def Held (F : Fz) (Hs : List Ent) (w : World) : Prop := (∀ b o, F b = some o → w.heap[b]? = some o) ∧ ∀ e ∈ Hs, e.holds w
theorem St.held {O : World} {w : World} (h : St O F H w) : Held F H w := ⟨h.frz, h.own⟩
def Val (C : Cx) (o : Oper) (τ : Env) (F : Fz) (H : List Ent) (v : Value) : Prop :=
  ∀ a w, EnvOk C.fn.ntmps τ a → Held F H w → (execOp a.eval o).run C.P w = .ok (.value v) w
theorem o_val {ops : Array Oper} {i d : Nat} {l : List Nat} {o : Oper} {v : Value} (ho : ops[i]? = some o) (hd : o.dst = some d) (hlt : Nat.blt d C.fn.ntmps = true) (hg : wantedB τ ops o = some true)
    (hx : Val C o τ F H v) (h : Ops C ops l k ((d, v) :: τ) F H) : Ops C ops (i :: l) k τ F H := by
  intro a w ha hw
  rw [wpOps_cons]
  unfold wpOp
  rw [ho]
  simp only [wanted_ok ha hg, if_true]
  refine .inl ?_
  unfold Oper.wp
  rw [hx a w ha hw.held, Oper.upon_value, hd]
  exact h _ w (ha.put (Nat.le_of_ble_eq_true hlt) v) hw
theorem o_vl {C : Cx} {k : List Item} {τ : Env} {F : Fz} {H : List Ent} {ops : Array Oper} {i d : Nat} {l : List Nat} {o : Oper} {v : Value} (ho : ops[i]? = some o) (hd : o.dst = some d) (hx : Val C o τ F H v) (h : Ops C ops l k ((d, v) :: τ) F H) (hlt : Nat.blt d C.fn.ntmps = true := by exact rfl) (hg : wantedB τ ops o = some true := by exact rfl) : Ops C ops (i :: l) k τ F H := o_val ho hd hlt hg hx h
def Act1 (C : Cx) (o : Oper) (τ : Env) (F : Fz) (H : List Ent) (R : Value → List Ent → Prop) : Prop :=
  ∀ a w, EnvOk C.fn.ntmps τ a → St C.O F H w → ∃ v H' w', (execOp a.eval o).run C.P w = .ok (.value v) w' ∧ R v H' ∧ St C.O F H' w'
theorem o_act {ops : Array Oper} {i d : Nat} {l : List Nat} {o : Oper} {R : Value → List Ent → Prop} (ho : ops[i]? = some o) (hd : o.dst = some d) (hlt : Nat.blt d C.fn.ntmps = true) (hg : wantedB τ ops o = some true)
    (hx : Act1 C o τ F H R) (h : ∀ v H', R v H' → Ops C ops l k ((d, v) :: τ) F H') : Ops C ops (i :: l) k τ F H := by
  intro a w ha hw
  rw [wpOps_cons]
  unfold wpOp
  rw [ho]
  simp only [wanted_ok ha hg, if_true]
  refine .inl ?_
  unfold Oper.wp
  obtain ⟨v, H', w', hr, hR, hst⟩ := hx a w ha hw
  rw [hr, Oper.upon_value, hd]
  exact h v H' hR _ w' (ha.put (Nat.le_of_ble_eq_true hlt) v) hst
def Act0 (C : Cx) (o : Oper) (τ : Env) (F : Fz) (H H' : List Ent) : Prop :=
  ∀ a w, EnvOk C.fn.ntmps τ a → St C.O F H w → ∃ w', (execOp a.eval o).run C.P w = .ok .skip w' ∧ St C.O F H' w'
theorem o_act0 {ops : Array Oper} {i : Nat} {l : List Nat} {o : Oper} {H' : List Ent} (ho : ops[i]? = some o) (hd : o.dst = none) (hg : wantedB τ ops o = some true)
    (hx : Act0 C o τ F H H') (h : Ops C ops l k τ F H') : Ops C ops (i :: l) k τ F H := by
  intro a w ha hw
  rw [wpOps_cons]
  unfold wpOp
  rw [ho]
  simp only [wanted_ok ha hg, if_true]
  refine .inl ?_
  unfold Oper.wp
  obtain ⟨w', hr, hst⟩ := hx a w ha hw
  rw [hr, Oper.upon_skip, hd]
  exact h _ w' ha hst
def Calling (C : Cx) (o : Oper) (τ : Env) (g : FuncId) (vs : Array Value) : Prop :=
  ∀ a w, EnvOk C.fn.ntmps τ a → (execOp a.eval o).run C.P w = .ok (.enter g vs) w
theorem o_call {ops : Array Oper} {i d : Nat} {l : List Nat} {o : Oper} {g : FuncId} {vs : Array Value} {R : Value → Fz → List Ent → Prop} (ho : ops[i]? = some o) (hd : o.dst = some d) (hlt : Nat.blt d C.fn.ntmps = true)
    (hg : wantedB τ ops o = some true) (hx : Calling C o τ g vs) (hc : Does C.P C.O g vs F H R) (h : ∀ v F' H', R v F' H' → F.le F' → Ops C ops l k ((d, v) :: τ) F' H') : Ops C ops (i :: l) k τ F H := by
  intro a w ha hw
  rw [wpOps_cons]
  unfold wpOp
  rw [ho]
  simp only [wanted_ok ha hg, if_true]
  refine .inl ?_
  unfold Oper.wp
  rw [hx a w ha, Oper.upon_enter, hd]
  refine (hc w hw).mono ?_
  rintro e w' ⟨v, F', H', rfl, hR, hle, hst⟩
  exact h v F' H' hR hle _ w' (ha.put (Nat.le_of_ble_eq_true hlt) v) hst
/-! ### Regions whose order is open
  Till number z has come up, S holds behind every operation; behind z nothing is asked. So cells that z writes may be read ahead of it.
-/
inductive Waits (ops : Array Oper) (i : Nat) (listed : Array Bool) : Nat → Prop where
  | one {x : Nat} {o : Oper} {e : Edge} (ho : ops[x]? = some o) (he : e ∈ o.after) (hb : Region.binds .any e = true) (hi : e.on = i) : Waits ops i listed x
  | more {x : Nat} {o : Oper} {e : Edge} (ho : ops[x]? = some o) (he : e ∈ o.after) (hb : Region.binds .any e = true) (hl : listed.getD e.on true = false) (h : Waits ops i listed e.on) : Waits ops i listed x
def waitsB (ops : Array Oper) (i : Nat) (listed : Array Bool) : Nat → Nat → Bool
  | 0, _ => false
  | n + 1, x => match ops[x]? with
    | none => false
    | some o => o.after.any fun e => Region.binds .any e && (e.on == i || (!(listed.getD e.on true) && waitsB ops i listed n e.on))
theorem waits_of {ops : Array Oper} {i : Nat} {listed : Array Bool} : ∀ (n x : Nat), waitsB ops i listed n x = true → Waits ops i listed x
  | 0, _, h => by cases h
  | n + 1, x, h => by
    unfold waitsB at h
    split at h
    · cases h
    · rename_i o ho
      obtain ⟨e, he, h2⟩ := Array.any_eq_true'.1 h
      simp only [Bool.and_eq_true, Bool.or_eq_true, beq_iff_eq, Bool.not_eq_true'] at h2
      rcases h2.2 with h3 | ⟨h3, h4⟩
      · exact .one ho he h2.1 h3
      · exact .more ho he h2.1 h3 (waits_of n _ h4)
theorem Waits.not_ready {ops : Array Oper} {i x : Nat} {listed : Array Bool} (h : Waits ops i listed x) (hi : i ∈ Region.ready .any ops listed) : x ∉ Region.ready .any ops listed := by
  intro hx
  obtain ⟨_, o', ho', hall⟩ := mem_ready.1 hx
  have key : ∀ (o : Oper) (e : Edge) (k : Nat), ops[x]? = some o → e ∈ o.after → Region.binds .any e = true → e.on = k → listed.getD k true = false → False := by
    intro o e k ho he hb hk hl
    rw [ho'] at ho
    cases ho
    have h1 := hall e he hb
    rw [hk] at h1
    rcases Nat.lt_or_ge k listed.size with h' | h'
    · simp [h'] at hl h1; rw [hl] at h1; cases h1
    · simp [Array.getElem?_eq_none h'] at h1
  cases h with
  | one ho he hb hk => exact key _ _ i ho he hb hk (mem_ready.1 hi).1
  | more ho he hb hl _ => exact key _ _ _ ho he hb rfl hl
theorem Waits.step {ops : Array Oper} {i j x : Nat} {listed : Array Bool} (h : Waits ops i listed x) (hi : i ∈ Region.ready .any ops listed) (hj : j ∈ Region.ready .any ops listed) : Waits ops i (listed.setIfInBounds j true) x := by
  induction h with
  | one ho he hb hk => exact .one ho he hb hk
  | more ho he hb hl hw ih =>
    refine .more ho he hb ?_ ih
    rw [getD_set_ne]
    · exact hl
    · rintro rfl
      exact hw.not_ready hi hj
def zWaits (z : Nat) (ops : Array Oper) (listed : Array Bool) (i : Nat) : Bool :=
  match ops[z]? with
  | none => true
  | some _ => waitsB ops i listed 6 z
def wpAnyS (P : Program) (ops : Array Oper) (Q : Exit → Act → World → Prop) (z : Nat) (S : World → Prop) : Nat → Array Bool → Act → World → Prop
  | 0, listed, a, w => Region.ready .any ops listed = [] ∧ Q .normal a w
  | fuel + 1, listed, a, w => (Region.ready .any ops listed = [] → Q .normal a w) ∧
    ∀ i ∈ Region.ready .any ops listed, wpOp P ops Q i (fun a' w' => (i ≠ z → S w' ∧ wpAnyS P ops Q z S fuel (listed.setIfInBounds i true) a' w') ∧ (i = z → wpAny P .any ops Q fuel (listed.setIfInBounds i true) a' w')) a w
theorem wpAny_of_staged {P : Program} {ops : Array Oper} {Q : Exit → Act → World → Prop} {z : Nat} {S : World → Prop} : ∀ (fuel : Nat) (listed : Array Bool) (a : Act) (w : World), wpAnyS P ops Q z S fuel listed a w → wpAny P .any ops Q fuel listed a w
  | 0, _, _, _, h => h
  | fuel + 1, listed, _, _, h => ⟨h.1, fun i hi => wpOp_mono (fun a' w' h' => by
    by_cases hz : i = z
    · exact h'.2 hz
    · exact wpAny_of_staged fuel _ a' w' (h'.1 hz).2) (h.2 i hi)⟩
theorem wpAnyS_take {P : Program} {ops : Array Oper} {Q : Exit → Act → World → Prop} {z : Nat} {S : World → Prop} {i : Nat} {oi : Oper} {v : Value} (hi : ops[i]? = some oi) (hs : Region.noSelect ops = true)
    (hQ : ∀ c a w, Q (.panic c) (a.put oi.dst v) w → Q (.panic c) a w) (hiz : i ≠ z) :
    ∀ (fuel : Nat) (listed : Array Bool) (a : Act) (w : World), (ops[z]? = none ∨ Waits ops i listed z) →
      (∀ j oj, ops[j]? = some oj → j ≠ i → listed.getD j true = false → (∀ e ∈ oj.after, Region.binds .any e = true → e.on ≠ i) → oi.apart ops oj = true) →
      i ∈ Region.ready .any ops listed → YieldsIf P ops S oi v a → S w →
      wpAnyS P ops Q z S fuel (listed.setIfInBounds i true) (a.put oi.dst v) w → wpAnyS P ops Q z S (fuel + 1) listed a w := by
  intro fuel
  have self : ∀ (n : Nat) (listed : Array Bool) (a : Act) (w : World), YieldsIf P ops S oi v a → S w → wpAnyS P ops Q z S n (listed.setIfInBounds i true) (a.put oi.dst v) w →
      wpOp P ops Q i (fun a' w' => (i ≠ z → S w' ∧ wpAnyS P ops Q z S n (listed.setIfInBounds i true) a' w') ∧ (i = z → wpAny P .any ops Q n (listed.setIfInBounds i true) a' w')) a w :=
    fun n listed a w hy hS H => hy.wpOp hi hS ⟨fun _ => ⟨hS, H⟩, fun h => absurd h hiz⟩
  induction fuel with
  | zero =>
    intro listed a w _ _ hr hy hS H
    refine ⟨fun h => (by rw [h] at hr; cases hr), fun j hj => ?_⟩
    by_cases hji : j = i
    · subst hji; exact self 0 listed a w hy hS H
    · have := ready_mono hj hji
      rw [H.1] at this
      cases this
  | succ fuel ih =>
    intro listed a w hz hfree hr hy hS H
    refine ⟨fun h => (by rw [h] at hr; cases hr), fun j hj => ?_⟩
    by_cases hji : j = i
    · subst hji; exact self _ listed a w hy hS H
    · obtain ⟨hjun, oj, hoj, hall⟩ := mem_ready.1 hj
      have hnot : ∀ e ∈ oj.after, Region.binds .any e = true → e.on ≠ i := fun e he hb heq => by
        have h1 := hall e he hb
        have h0 := (mem_ready.1 hr).1
        rw [heq] at h1
        rcases Nat.lt_or_ge i listed.size with h' | h'
        · simp [h'] at h0 h1; rw [h0] at h1; cases h1
        · simp [Array.getElem?_eq_none h'] at h1
      have hjz : j ≠ z := by
        rintro rfl
        rcases hz with hz | hz
        · rw [hoj] at hz; cases hz
        · exact hz.not_ready hr hj
      refine wpOp_mono (fun a' w' h3 => ?_) (wpOp_putIf hoj (hfree j oj hoj hji hjun hnot) (fun cs b => Region.noSelect_spec hs i oi cs b hi) (fun cs b => Region.noSelect_spec hs j oj cs b hoj) hQ hy (H.2 j (ready_mono hj hji)))
      have h4 := h3.2.1 hjz
      refine ⟨fun _ => ⟨h4.1, ih (listed.setIfInBounds j true) a' w' (hz.imp id fun h => h.step hr hj) (fun k ok hk hki hun hno => hfree k ok hk hki ?_ hno) (ready_mono hr (Ne.symm hji)) h3.1 h4.1 ?_⟩, fun h => absurd h hjz⟩
      · by_cases hjk : j = k
        · subst hjk; exact hjun
        · rw [getD_set_ne true hjk] at hun; exact hun
      · rw [Array.setIfInBounds_comm _ _ hji]
        exact h4.2
abbrev Dr (C : Cx) (ops : Array Oper) (z : Nat) (S : World → Prop) (fuel : Nat) (listed : Array Bool) (k : List Item) (τ : Env) (F : Fz) (H : List Ent) : Prop :=
  Jd C τ F H (wpAnyS C.P ops (QK C k) z S fuel listed)
theorem d_region {id : Nat} {ops : Array Oper} (z : Nat) (hm : C.P.follows .mixedOrders = true) (Hs : List Ent) (h : Dr C ops z (Held F Hs) ops.size (Array.replicate ops.size false) k τ F H) :
    Run C (.code (.region id ops true) :: k) τ F H := by
  intro a w ha hw
  have h1 := wpAny_of_staged _ _ _ _ (h a { w with drawn := w.drawn + 1 } ha (hw.drew _))
  have h2 : ∀ t, wpOps C.P ops (QK C k) (Region.schedule (C.P.follows .mixedOrders) ops t) a { w with drawn := w.drawn + 1 } := fun t => by
    simp only [Region.schedule, hm, Bool.true_or, if_true]
    exact wpAny_sound ops.size t _ a _ h1
  exact Fin.head (k' := .inRegion ops (Region.schedule (C.P.follows .mixedOrders) ops (w.tape w.drawn (.order C.f id))) :: k) (fun b cs hb _ => .one (by rw [← hb]; exact step_region_draw)) (fin_of_ops (h2 _))
theorem zWaits_spec {ops : Array Oper} {z i : Nat} {listed : Array Bool} (h : zWaits z ops listed i = true) : ops[z]? = none ∨ Waits ops i listed z := by
  unfold zWaits at h
  split at h
  · exact .inl (by assumption)
  · exact .inr (waits_of _ _ h)
theorem d_take {ops : Array Oper} {z : Nat} {Hs : List Ent} {F0 : Fz} {fuel i d : Nat} {listed : Array Bool} {o : Oper} {v : Value} (ho : ops[i]? = some o) (hd : o.dst = some d) (hlt : Nat.blt d C.fn.ntmps = true)
    (hs : Region.noSelect ops = true) (hf : Region.free .any ops listed i = true) (hr : (Region.ready .any ops listed).contains i = true)
    (hF : F0.le F) (hH : Hs ⊆ H) (hg : wantedB τ ops o = some true) (hy : Val C o τ F0 Hs v)
    (h : Dr C ops z (Held F0 Hs) fuel (listed.setIfInBounds i true) k ((d, v) :: τ) F H) (hz : (zWaits z ops listed i && !(i == z)) = true := by decide +kernel) : Dr C ops z (Held F0 Hs) (fuel + 1) listed k τ F H := by
  intro a w ha hw
  simp only [Bool.and_eq_true, Bool.not_eq_true', beq_eq_false_iff_ne] at hz
  refine wpAnyS_take (v := v) ho hs (fun c a w hq => by cases hq.1) hz.2 fuel listed a w (zWaits_spec hz.1) (Region.free_spec ho hf) (by simpa using hr) ?_ ⟨fun b o h => hw.frz b o (hF b o h), fun e he => hw.own e (hH he)⟩ ?_
  · exact .inl ⟨wanted_ok ha hg, fun w hw => hy a w ha hw⟩
  · rw [hd]; exact h _ w (ha.put (Nat.le_of_ble_eq_true hlt) v) hw
theorem d_tk {C : Cx} {k : List Item} {τ : Env} {F : Fz} {H : List Ent} {ops : Array Oper} {z : Nat} {Hs : List Ent} {F0 : Fz} {fuel i d : Nat} {listed : Array Bool} {o : Oper} {v : Value} (ho : ops[i]? = some o) (hd : o.dst = some d) (hH : Hs ⊆ H) (hy : Val C o τ F0 Hs v)
    (h : Dr C ops z (Held F0 Hs) fuel (listed.setIfInBounds i true) k ((d, v) :: τ) F H) (hF : F0.le F := by exact Fz.le_refl _) (hlt : Nat.blt d C.fn.ntmps = true := by exact rfl) (hs : Region.noSelect ops = true := by decide +kernel) (hf : Region.free .any ops listed i = true := by decide +kernel) (hr : (Region.ready .any ops listed).contains i = true := by decide +kernel) (hg : wantedB τ ops o = some true := by exact rfl) (hz : (zWaits z ops listed i && !(i == z)) = true := by decide +kernel) : Dr C ops z (Held F0 Hs) (fuel + 1) listed k τ F H := d_take ho hd hlt hs hf hr hF hH hg hy h hz
theorem d_skip {ops : Array Oper} {z : Nat} {Hs : List Ent} {F0 : Fz} {fuel i d : Nat} {listed : Array Bool} {o : Oper} (ho : ops[i]? = some o) (hd : o.dst = some d) (hlt : Nat.blt d C.fn.ntmps = true)
    (hs : Region.noSelect ops = true) (hf : Region.free .any ops listed i = true) (hr : (Region.ready .any ops listed).contains i = true)
    (hF : F0.le F) (hH : Hs ⊆ H) (hg : wantedB τ ops o = some false)
    (h : Dr C ops z (Held F0 Hs) fuel (listed.setIfInBounds i true) k ((d, undef) :: τ) F H) (hz : (zWaits z ops listed i && !(i == z)) = true := by decide +kernel) : Dr C ops z (Held F0 Hs) (fuel + 1) listed k τ F H := by
  intro a w ha hw
  simp only [Bool.and_eq_true, Bool.not_eq_true', beq_eq_false_iff_ne] at hz
  refine wpAnyS_take (v := undef) ho hs (fun c a w hq => by cases hq.1) hz.2 fuel listed a w (zWaits_spec hz.1) (Region.free_spec ho hf) (by simpa using hr) ?_ ⟨fun b o h => hw.frz b o (hF b o h), fun e he => hw.own e (hH he)⟩ ?_
  · exact .inr ⟨wanted_ok ha hg, rfl⟩
  · rw [hd]; exact h _ w (ha.put (Nat.le_of_ble_eq_true hlt) undef) hw
theorem d_sk {C : Cx} {k : List Item} {τ : Env} {F : Fz} {H : List Ent} {ops : Array Oper} {z : Nat} {Hs : List Ent} {F0 : Fz} {fuel i d : Nat} {listed : Array Bool} {o : Oper} (ho : ops[i]? = some o) (hd : o.dst = some d) (hH : Hs ⊆ H)
    (h : Dr C ops z (Held F0 Hs) fuel (listed.setIfInBounds i true) k ((d, undef) :: τ) F H) (hF : F0.le F := by exact Fz.le_refl _) (hlt : Nat.blt d C.fn.ntmps = true := by exact rfl) (hs : Region.noSelect ops = true := by decide +kernel) (hf : Region.free .any ops listed i = true := by decide +kernel) (hr : (Region.ready .any ops listed).contains i = true := by decide +kernel) (hg : wantedB τ ops o = some false := by exact rfl) (hz : (zWaits z ops listed i && !(i == z)) = true := by decide +kernel) : Dr C ops z (Held F0 Hs) (fuel + 1) listed k τ F H := d_skip ho hd hlt hs hf hr hF hH hg h hz
theorem d_end {ops : Array Oper} {z : Nat} {S : World → Prop} {fuel : Nat} {listed : Array Bool} (hr : Region.ready .any ops listed = []) (h : Run C k τ F H) : Dr C ops z S fuel listed k τ F H := fun a w ha hw => by
  have hq : QK C k .normal a w := ⟨rfl, h a w ha hw⟩
  cases fuel with
  | zero => exact ⟨hr, hq⟩
  | succ n => exact ⟨fun _ => hq, fun i hi => by rw [hr] at hi; cases hi⟩
abbrev D1 (C : Cx) (ops : Array Oper) (z : Nat) (S : World → Prop) (fuel : Nat) (listed : Array Bool) (i : Nat) (k : List Item) (τ : Env) (F : Fz) (H : List Ent) : Prop :=
  Jd C τ F H (wpOp C.P ops (QK C k) i (fun a' w' => (i ≠ z → S w' ∧ wpAnyS C.P ops (QK C k) z S fuel (listed.setIfInBounds i true) a' w') ∧ (i = z → wpAny C.P .any ops (QK C k) fuel (listed.setIfInBounds i true) a' w')))
theorem d_all {ops : Array Oper} {z : Nat} {S : World → Prop} {fuel : Nat} {listed : Array Bool} (rs : List Nat) (hr : Region.ready .any ops listed = rs) (hne : rs ≠ [])
    (h : ∀ i ∈ rs, D1 C ops z S fuel listed i k τ F H) : Dr C ops z S (fuel + 1) listed k τ F H :=
  fun a w ha hw => ⟨fun h0 => absurd (hr ▸ h0) hne, fun i hi => h i (hr ▸ hi) a w ha hw⟩
theorem d_one {ops : Array Oper} {z : Nat} {S : World → Prop} {fuel i : Nat} {listed : Array Bool} (hr : Region.ready .any ops listed = [i])
    (h : D1 C ops z S fuel listed i k τ F H) : Dr C ops z S (fuel + 1) listed k τ F H :=
  d_all [i] hr (by simp) fun j hj => by simp at hj; subst hj; exact h
theorem d1_act {ops : Array Oper} {z : Nat} {S : World → Prop} {fuel i d : Nat} {listed : Array Bool} {o : Oper} {R : Value → List Ent → Prop} (ho : ops[i]? = some o) (hd : o.dst = some d) (hlt : Nat.blt d C.fn.ntmps = true)
    (hg : wantedB τ ops o = some true) (hx : Act1 C o τ F H R)
    (h : ∀ v H', R v H' → (∀ w, St C.O F H' w → S w) ∧ Dr C ops z S fuel (listed.setIfInBounds i true) k ((d, v) :: τ) F H')  (hz : (i == z) = false := by decide +kernel) : D1 C ops z S fuel listed i k τ F H := by
  have hz' : i ≠ z := by simpa using hz
  intro a w ha hw
  unfold wpOp
  rw [ho]
  simp only [wanted_ok ha hg, if_true]
  refine .inl ?_
  unfold Oper.wp
  obtain ⟨v, H', w', hr, hR, hst⟩ := hx a w ha hw
  rw [hr, Oper.upon_value, hd]
  exact ⟨fun _ => ⟨(h v H' hR).1 w' hst, (h v H' hR).2 _ w' (ha.put (Nat.le_of_ble_eq_true hlt) v) hst⟩, fun h => absurd h hz'⟩
theorem d1_act0 {ops : Array Oper} {z : Nat} {S : World → Prop} {fuel i : Nat} {listed : Array Bool} {o : Oper} {H' : List Ent} (ho : ops[i]? = some o) (hd : o.dst = none)
    (hg : wantedB τ ops o = some true) (hx : Act0 C o τ F H H') (hS : ∀ w, St C.O F H' w → S w)
    (h : Dr C ops z S fuel (listed.setIfInBounds i true) k τ F H')  (hz : (i == z) = false := by decide +kernel) : D1 C ops z S fuel listed i k τ F H := by
  have hz' : i ≠ z := by simpa using hz
  intro a w ha hw
  unfold wpOp
  rw [ho]
  simp only [wanted_ok ha hg, if_true]
  refine .inl ?_
  unfold Oper.wp
  obtain ⟨w', hr, hst⟩ := hx a w ha hw
  rw [hr, Oper.upon_skip, hd]
  exact ⟨fun _ => ⟨hS w' hst, h _ w' ha hst⟩, fun h => absurd h hz'⟩
theorem d1_call {ops : Array Oper} {z : Nat} {S : World → Prop} {fuel i d : Nat} {listed : Array Bool} {o : Oper} {g : FuncId} {vs : Array Value} {R : Value → Fz → List Ent → Prop} (ho : ops[i]? = some o) (hd : o.dst = some d)
    (hlt : Nat.blt d C.fn.ntmps = true) (hg : wantedB τ ops o = some true) (hx : Calling C o τ g vs) (hc : Does C.P C.O g vs F H R)
    (h : ∀ v F' H', R v F' H' → F.le F' → (∀ w, St C.O F' H' w → S w) ∧ Dr C ops z S fuel (listed.setIfInBounds i true) k ((d, v) :: τ) F' H')  (hz : (i == z) = false := by decide +kernel) : D1 C ops z S fuel listed i k τ F H := by
  have hz' : i ≠ z := by simpa using hz
  intro a w ha hw
  unfold wpOp
  rw [ho]
  simp only [wanted_ok ha hg, if_true]
  refine .inl ?_
  unfold Oper.wp
  rw [hx a w ha, Oper.upon_enter, hd]
  refine (hc w hw).mono ?_
  rintro e w' ⟨v, F', H', rfl, hR, hle, hst⟩
  exact ⟨fun _ => ⟨(h v F' H' hR hle).1 w' hst, (h v F' H' hR hle).2 _ w' (ha.put (Nat.le_of_ble_eq_true hlt) v) hst⟩, fun h => absurd h hz'⟩
theorem d1_last {ops : Array Oper} {z : Nat} {S : World → Prop} {fuel : Nat} {listed : Array Bool} {o : Oper} {H' : List Ent} (z' : Nat) (Hs' : List Ent) (ho : ops[z]? = some o) (hd : o.dst = none)
    (hg : wantedB τ ops o = some true) (hx : Act0 C o τ F H H')
    (h : Dr C ops z' (Held F Hs') fuel (listed.setIfInBounds z true) k τ F H') : D1 C ops z S fuel listed z k τ F H := by
  intro a w ha hw
  unfold wpOp
  rw [ho]
  simp only [wanted_ok ha hg, if_true]
  refine .inl ?_
  unfold Oper.wp
  obtain ⟨w', hr, hst⟩ := hx a w ha hw
  rw [hr, Oper.upon_skip, hd]
  exact ⟨fun h => absurd rfl h, fun _ => wpAny_of_staged _ _ _ _ (h _ w' ha hst)⟩
theorem d1_lastCall {ops : Array Oper} {z : Nat} {S : World → Prop} {fuel d : Nat} {listed : Array Bool} {o : Oper} {g : FuncId} {vs : Array Value} {R : Value → Fz → List Ent → Prop} (z' : Nat) (ho : ops[z]? = some o) (hd : o.dst = some d)
    (hlt : Nat.blt d C.fn.ntmps = true) (hg : wantedB τ ops o = some true) (hx : Calling C o τ g vs) (hc : Does C.P C.O g vs F H R)
    (h : ∀ v F' H', R v F' H' → F.le F' → ∃ Hs', Dr C ops z' (Held F' Hs') fuel (listed.setIfInBounds z true) k ((d, v) :: τ) F' H') : D1 C ops z S fuel listed z k τ F H := by
  intro a w ha hw
  unfold wpOp
  rw [ho]
  simp only [wanted_ok ha hg, if_true]
  refine .inl ?_
  unfold Oper.wp
  rw [hx a w ha, Oper.upon_enter, hd]
  refine (hc w hw).mono ?_
  rintro e w' ⟨v, F', H', rfl, hR, hle, hst⟩
  obtain ⟨Hs', h⟩ := h v F' H' hR hle
  exact ⟨fun h => absurd rfl h, fun _ => wpAny_of_staged _ _ _ _ (h _ w' (ha.put (Nat.le_of_ble_eq_true hlt) v) hst)⟩
theorem held_of {O : World} {F F' : Fz} {Hs H : List Ent} {w : World} (hw : St O F' H w) (hF : F.le F') (hH : Hs ⊆ H) : Held F Hs w :=
  ⟨fun b o h => hw.frz b o (hF b o h), fun e he => hw.own e (hH he)⟩
end rules
end Go.SX
namespace Go.SX
open Go
variable {C : Cx} {k : List Item} {τ : Env} {F : Fz} {H : List Ent}
theorem staged_of_wpAny {P : Program} {ops : Array Oper} {Q : Exit → Act → World → Prop} {z : Nat} : ∀ (fuel : Nat) (listed : Array Bool) (a : Act) (w : World), wpAny P .any ops Q fuel listed a w → wpAnyS P ops Q z (fun _ => True) fuel listed a w
  | 0, _, _, _, h => h
  | fuel + 1, listed, _, _, h => ⟨h.1, fun i hi => wpOp_mono (fun a' w' h' => ⟨fun _ => ⟨trivial, staged_of_wpAny fuel _ a' w' h'⟩, fun _ => h'⟩) (h.2 i hi)⟩
theorem wpAny_take0 {P : Program} {ops : Array Oper} {Q : Exit → Act → World → Prop} {i : Nat} {oi : Oper} {v : Value} (hi : ops[i]? = some oi) (hs : Region.noSelect ops = true)
    (hQ : ∀ c a w, Q (.panic c) (a.put oi.dst v) w → Q (.panic c) a w) (fuel : Nat) (listed : Array Bool) (a : Act) (w : World)
    (hf : ∀ j oj, ops[j]? = some oj → j ≠ i → listed.getD j true = false → (∀ e ∈ oj.after, Region.binds .any e = true → e.on ≠ i) → oi.apart ops oj = true)
    (hr : i ∈ Region.ready .any ops listed) (hy : YieldsIf P ops (fun _ => True) oi v a)
    (h : wpAny P .any ops Q fuel (listed.setIfInBounds i true) (a.put oi.dst v) w) : wpAny P .any ops Q (fuel + 1) listed a w := by
  have hil : i < ops.size := by
    rcases Nat.lt_or_ge i ops.size with h | h
    · exact h
    · rw [Array.getElem?_eq_none h] at hi; cases hi
  have hz : ops[ops.size]? = none := Array.getElem?_eq_none (Nat.le_refl _)
  exact wpAny_of_staged _ _ _ _ (wpAnyS_take (z := ops.size) hi hs hQ (by omega) fuel listed a w (.inl hz) hf hr hy trivial (staged_of_wpAny _ _ _ _ h))
theorem wpAnyS_take0 {P : Program} {ops : Array Oper} {Q : Exit → Act → World → Prop} {z : Nat} {S : World → Prop} {i : Nat} {oi : Oper} {v : Value} (hi : ops[i]? = some oi) (hs : Region.noSelect ops = true)
    (hQ : ∀ c a w, Q (.panic c) (a.put oi.dst v) w → Q (.panic c) a w) (hiz : i ≠ z) :
    ∀ (fuel : Nat) (listed : Array Bool) (a : Act) (w : World),
      (∀ j oj, ops[j]? = some oj → j ≠ i → listed.getD j true = false → (∀ e ∈ oj.after, Region.binds .any e = true → e.on ≠ i) → oi.apart ops oj = true) →
      i ∈ Region.ready .any ops listed → YieldsIf P ops (fun _ => True) oi v a → S w →
      wpAnyS P ops Q z S fuel (listed.setIfInBounds i true) (a.put oi.dst v) w → wpAnyS P ops Q z S (fuel + 1) listed a w := by
  intro fuel
  have self : ∀ (n : Nat) (listed : Array Bool) (a : Act) (w : World), YieldsIf P ops (fun _ => True) oi v a → S w → wpAnyS P ops Q z S n (listed.setIfInBounds i true) (a.put oi.dst v) w →
      wpOp P ops Q i (fun a' w' => (i ≠ z → S w' ∧ wpAnyS P ops Q z S n (listed.setIfInBounds i true) a' w') ∧ (i = z → wpAny P .any ops Q n (listed.setIfInBounds i true) a' w')) a w :=
    fun n listed a w hy hS H => hy.wpOp hi trivial ⟨fun _ => ⟨hS, H⟩, fun h => absurd h hiz⟩
  induction fuel with
  | zero =>
    intro listed a w _ hr hy hS H
    refine ⟨fun h => (by rw [h] at hr; cases hr), fun j hj => ?_⟩
    by_cases hji : j = i
    · subst hji; exact self 0 listed a w hy hS H
    · have := ready_mono hj hji
      rw [H.1] at this
      cases this
  | succ fuel ih =>
    intro listed a w hfree hr hy hS H
    refine ⟨fun h => (by rw [h] at hr; cases hr), fun j hj => ?_⟩
    by_cases hji : j = i
    · subst hji; exact self _ listed a w hy hS H
    · obtain ⟨hjun, oj, hoj, hall⟩ := mem_ready.1 hj
      have hnot : ∀ e ∈ oj.after, Region.binds .any e = true → e.on ≠ i := fun e he hb heq => by
        have h1 := hall e he hb
        have h0 := (mem_ready.1 hr).1
        rw [heq] at h1
        rcases Nat.lt_or_ge i listed.size with h' | h'
        · simp [h'] at h0 h1; rw [h0] at h1; cases h1
        · simp [Array.getElem?_eq_none h'] at h1
      have hun : ∀ k, (listed.setIfInBounds j true).getD k true = false → listed.getD k true = false := fun k hk => by
        by_cases hjk : j = k
        · subst hjk; exact hjun
        · rw [getD_set_ne true hjk] at hk; exact hk
      refine wpOp_mono (fun a' w' h3 => ?_) (wpOp_putIf hoj (hfree j oj hoj hji hjun hnot) (fun cs b => Region.noSelect_spec hs i oi cs b hi) (fun cs b => Region.noSelect_spec hs j oj cs b hoj) hQ hy (H.2 j (ready_mono hj hji)))
      refine ⟨fun hjz => ?_, fun hjz => ?_⟩
      · have h4 := h3.2.1 hjz
        refine ⟨h4.1, ih (listed.setIfInBounds j true) a' w' (fun k ok hk hki hu hno => hfree k ok hk hki (hun k hu) hno) (ready_mono hr (Ne.symm hji)) h3.1 h4.1 ?_⟩
        rw [Array.setIfInBounds_comm _ _ hji]
        exact h4.2
      · have h4 := h3.2.2 hjz
        refine wpAny_take0 hi hs hQ fuel _ a' w' (fun k ok hk hki hu hno => hfree k ok hk hki (hun k hu) hno) (ready_mono hr (Ne.symm hji)) h3.1 ?_
        rw [Array.setIfInBounds_comm _ _ hji]
        exact h4
theorem d_take0 {ops : Array Oper} {z : Nat} {Hs : List Ent} {F0 : Fz} {fuel i d : Nat} {listed : Array Bool} {o : Oper} {v : Value} (ho : ops[i]? = some o) (hd : o.dst = some d) (hlt : Nat.blt d C.fn.ntmps = true)
    (hs : Region.noSelect ops = true) (hf : Region.free .any ops listed i = true) (hr : (Region.ready .any ops listed).contains i = true)
    (hF : F0.le F) (hH : Hs ⊆ H) (hg : wantedB τ ops o = some true) (hy : Val C o τ (fun _ => none) [] v)
    (h : Dr C ops z (Held F0 Hs) fuel (listed.setIfInBounds i true) k ((d, v) :: τ) F H) (hz : (!(i == z)) = true := by decide +kernel) : Dr C ops z (Held F0 Hs) (fuel + 1) listed k τ F H := by
  intro a w ha hw
  simp only [Bool.not_eq_true', beq_eq_false_iff_ne] at hz
  refine wpAnyS_take0 (v := v) ho hs (fun c a w hq => by cases hq.1) hz fuel listed a w (Region.free_spec ho hf) (by simpa using hr) ?_ ⟨fun b o h => hw.frz b o (hF b o h), fun e he => hw.own e (hH he)⟩ ?_
  · exact .inl ⟨wanted_ok ha hg, fun w _ => hy a w ha ⟨fun b o h => (by cases h), fun e he => (by cases he)⟩⟩
  · rw [hd]; exact h _ w (ha.put (Nat.le_of_ble_eq_true hlt) v) hw
theorem d_tk0 {C : Cx} {k : List Item} {τ : Env} {F : Fz} {H : List Ent} {ops : Array Oper} {z : Nat} {Hs : List Ent} {F0 : Fz} {fuel i d : Nat} {listed : Array Bool} {o : Oper} {v : Value} (ho : ops[i]? = some o) (hd : o.dst = some d) (hH : Hs ⊆ H) (hy : Val C o τ (fun _ => none) [] v)
    (h : Dr C ops z (Held F0 Hs) fuel (listed.setIfInBounds i true) k ((d, v) :: τ) F H) (hF : F0.le F := by exact Fz.le_refl _) (hlt : Nat.blt d C.fn.ntmps = true := by exact rfl) (hs : Region.noSelect ops = true := by decide +kernel) (hf : Region.free .any ops listed i = true := by decide +kernel) (hr : (Region.ready .any ops listed).contains i = true := by decide +kernel) (hg : wantedB τ ops o = some true := by exact rfl) (hz : (!(i == z)) = true := by decide +kernel) : Dr C ops z (Held F0 Hs) (fuel + 1) listed k τ F H := d_take0 ho hd hlt hs hf hr hF hH hg hy h hz
end Go.SX
namespace Go.SX
open Go
theorem wrap_i64' (n : Int) : IntKind.i64.wrap n = if n % 18446744073709551616 ≥ 9223372036854775808 then n % 18446744073709551616 - 18446744073709551616 else n % 18446744073709551616 := by
  simp [IntKind.wrap, IntKind.bits, IntKind.signed]
theorem wrap_i64 {n : Int} (h0 : -9223372036854775808 ≤ n) (h1 : n ≤ 9223372036854775807) : IntKind.i64.wrap n = n := by
  rw [wrap_i64']
  split <;> omega
theorem wrap_u64 {n : Int} (h0 : 0 ≤ n) (h1 : n < 18446744073709551616) : IntKind.u64.wrap n = n := by
  simp only [IntKind.wrap, IntKind.bits, IntKind.signed, Bool.false_and]; simp; omega
theorem wrap_u32 {n : Int} (h0 : 0 ≤ n) (h1 : n < 4294967296) : IntKind.u32.wrap n = n := by
  simp only [IntKind.wrap, IntKind.bits, IntKind.signed, Bool.false_and]; simp; omega
theorem wrap_u8 {n : Int} (h0 : 0 ≤ n) (h1 : n < 256) : IntKind.u8.wrap n = n := by
  simp only [IntKind.wrap, IntKind.bits, IntKind.signed, Bool.false_and]; simp; omega
theorem wrap_u8' (n : Int) : IntKind.u8.wrap n = n % 256 := by
  simp only [IntKind.wrap, IntKind.bits, IntKind.signed, Bool.false_and]; simp
section
variable {C : Cx} {τ : Env} {F : Fz} {H : List Ent} {dst : Option Nat} {ty t u : TypeId} {pos : String} {aft : Array Edge} {g : Option (Nat × Bool)} {x y z : Operand}
def evD (τ : Env) (x : Operand) : Value := (ev τ x).getD undef
def allEv (τ : Env) (xs : List Operand) : Bool := xs.all fun x => (ev τ x).isSome
theorem evD_eq {n : Nat} {a : Act} (ha : EnvOk n τ a) {x : Operand} (h : (ev τ x).isSome = true) : a.eval x = evD τ x := by
  obtain ⟨v, hv⟩ := Option.isSome_iff_exists.1 h
  rw [ha.eval hv, evD, hv]; rfl
theorem v_move {v : Value} (hx : ev τ x = some v) : Val C ⟨dst, .move x, ty, pos, aft, g⟩ τ F H v := fun a w ha _ => by
  simp only [execOp, ha.eval hx]; rfl
theorem v_assign {v : Value} (hx : ev τ x = some v) : Val C ⟨dst, .assign x, ty, pos, aft, g⟩ τ F H v := fun a w ha _ => by
  simp only [execOp, ha.eval hx]; rfl
theorem v_pick1 {v : Value} (hx : ev τ x = some (.bool true)) (hy : ev τ y = some v) : Val C ⟨dst, .pick x y z, ty, pos, aft, g⟩ τ F H v := fun a w ha _ => by
  simp only [execOp, ha.eval hx, ha.eval hy]; rfl
theorem v_pick0 {v : Value} (hx : ev τ x = some (.bool false)) (hz : ev τ z = some v) : Val C ⟨dst, .pick x y z, ty, pos, aft, g⟩ τ F H v := fun a w ha _ => by
  simp only [execOp, ha.eval hx, ha.eval hz]; rfl
theorem v_not {b : Bool} (hx : ev τ x = some (.bool b)) : Val C ⟨dst, .unOp .not t x, ty, pos, aft, g⟩ τ F H (.bool (!b)) := fun a w ha _ => by
  simp only [execOp, ha.eval hx]; rfl
theorem v_add {k : IntKind} {m n r : Int} (hx : ev τ x = some (.int k m)) (hy : ev τ y = some (.int k n)) (hr : k.wrap (m + n) = r) : Val C ⟨dst, .binOp .add t x y u, ty, pos, aft, g⟩ τ F H (.int k r) := fun a w ha _ => by
  subst hr; simp only [execOp, ha.eval hx, ha.eval hy]; cases k <;> rfl
theorem v_sub {k : IntKind} {m n r : Int} (hx : ev τ x = some (.int k m)) (hy : ev τ y = some (.int k n)) (hr : k.wrap (m - n) = r) : Val C ⟨dst, .binOp .sub t x y u, ty, pos, aft, g⟩ τ F H (.int k r) := fun a w ha _ => by
  subst hr; simp only [execOp, ha.eval hx, ha.eval hy]; cases k <;> rfl
theorem v_mul {k : IntKind} {m n r : Int} (hx : ev τ x = some (.int k m)) (hy : ev τ y = some (.int k n)) (hr : k.wrap (m * n) = r) : Val C ⟨dst, .binOp .mul t x y u, ty, pos, aft, g⟩ τ F H (.int k r) := fun a w ha _ => by
  subst hr; simp only [execOp, ha.eval hx, ha.eval hy]; cases k <;> rfl
theorem v_rem {k : IntKind} {m n r : Int} (hx : ev τ x = some (.int k m)) (hy : ev τ y = some (.int k n)) (hn : n ≠ 0) (hr : m.tmod n = r) : Val C ⟨dst, .binOp .rem t x y u, ty, pos, aft, g⟩ τ F H (.int k r) := fun a w ha _ => by
  subst hr; simp only [execOp, ha.eval hx, ha.eval hy]
  have : binOp .rem t (.int k m) (.int k n) = Op.intDiv .rem k m n := by cases k <;> rfl
  simp only [this, Op.intDiv, if_neg hn]; rfl
def bitOp (op : BinOp) (k : IntKind) (m n : Int) : Int :=
  let a := BitVec.ofInt k.bits m
  let b := BitVec.ofInt k.bits n
  match op with
  | .and => k.wrap (a &&& b).toNat
  | .or => k.wrap (a ||| b).toNat
  | .xor => k.wrap (a ^^^ b).toNat
  | .andNot => k.wrap (a &&& ~~~b).toNat
  | _ => 0
theorem v_and {k : IntKind} {m n r : Int} (hx : ev τ x = some (.int k m)) (hy : ev τ y = some (.int k n)) (hr : bitOp .and k m n = r) : Val C ⟨dst, .binOp .and t x y u, ty, pos, aft, g⟩ τ F H (.int k r) := fun a w ha _ => by
  subst hr; simp only [execOp, ha.eval hx, ha.eval hy]; cases k <;> rfl
theorem v_or {k : IntKind} {m n r : Int} (hx : ev τ x = some (.int k m)) (hy : ev τ y = some (.int k n)) (hr : bitOp .or k m n = r) : Val C ⟨dst, .binOp .or t x y u, ty, pos, aft, g⟩ τ F H (.int k r) := fun a w ha _ => by
  subst hr; simp only [execOp, ha.eval hx, ha.eval hy]; cases k <;> rfl
theorem v_xor {k : IntKind} {m n r : Int} (hx : ev τ x = some (.int k m)) (hy : ev τ y = some (.int k n)) (hr : bitOp .xor k m n = r) : Val C ⟨dst, .binOp .xor t x y u, ty, pos, aft, g⟩ τ F H (.int k r) := fun a w ha _ => by
  subst hr; simp only [execOp, ha.eval hx, ha.eval hy]; cases k <;> rfl
theorem v_compl {k : IntKind} {m r : Int} (hx : ev τ x = some (.int k m)) (hr : bitOp .xor k (if k.signed then -1 else k.max) m = r) : Val C ⟨dst, .unOp .xor t x, ty, pos, aft, g⟩ τ F H (.int k r) := fun a w ha _ => by
  subst hr; simp only [execOp, ha.eval hx]; cases k <;> rfl
theorem v_shl {k k' : IntKind} {m n r : Int} (hx : ev τ x = some (.int k m)) (hy : ev τ y = some (.int k' n)) (hn : 0 ≤ n) (hr : k.wrap (m * 2 ^ (min n.toNat k.bits)) = r) : Val C ⟨dst, .binOp .shl t x y u, ty, pos, aft, g⟩ τ F H (.int k r) := fun a w ha _ => by
  subst hr; simp only [execOp, ha.eval hx, ha.eval hy]
  have : binOp .shl t (.int k m) (.int k' n) = Op.shift .shl k m k' n := by cases k <;> cases k' <;> rfl
  simp only [this, Op.shift, if_neg (Int.not_lt.2 hn)]; rfl
theorem v_shr {k k' : IntKind} {m n r : Int} (hx : ev τ x = some (.int k m)) (hy : ev τ y = some (.int k' n)) (hn : 0 ≤ n) (hr : m.fdiv (2 ^ (min n.toNat k.bits)) = r) : Val C ⟨dst, .binOp .shr t x y u, ty, pos, aft, g⟩ τ F H (.int k r) := fun a w ha _ => by
  subst hr; simp only [execOp, ha.eval hx, ha.eval hy]
  have : binOp .shr t (.int k m) (.int k' n) = Op.shift .shr k m k' n := by cases k <;> cases k' <;> rfl
  simp only [this, Op.shift, if_neg (Int.not_lt.2 hn)]; rfl
theorem v_eql {k : IntKind} {m n : Int} (hx : ev τ x = some (.int k m)) (hy : ev τ y = some (.int k n)) : Val C ⟨dst, .binOp .eql t x y u, ty, pos, aft, g⟩ τ F H (.bool (decide (m = n))) := fun a w ha _ => by
  simp only [execOp, ha.eval hx, ha.eval hy]; cases k <;> rfl
theorem v_neq {k : IntKind} {m n : Int} (hx : ev τ x = some (.int k m)) (hy : ev τ y = some (.int k n)) : Val C ⟨dst, .binOp .neq t x y u, ty, pos, aft, g⟩ τ F H (.bool (decide (m ≠ n))) := fun a w ha _ => by
  simp only [execOp, ha.eval hx, ha.eval hy]
  have : decide (m ≠ n) = (m != n) := by rw [decide_not]; rfl
  rw [this]; cases k <;> rfl
theorem v_lss {k : IntKind} {m n : Int} (hx : ev τ x = some (.int k m)) (hy : ev τ y = some (.int k n)) : Val C ⟨dst, .binOp .lss t x y u, ty, pos, aft, g⟩ τ F H (.bool (decide (m < n))) := fun a w ha _ => by
  simp only [execOp, ha.eval hx, ha.eval hy]; cases k <;> rfl
theorem v_leq {k : IntKind} {m n : Int} (hx : ev τ x = some (.int k m)) (hy : ev τ y = some (.int k n)) : Val C ⟨dst, .binOp .leq t x y u, ty, pos, aft, g⟩ τ F H (.bool (decide (m ≤ n))) := fun a w ha _ => by
  simp only [execOp, ha.eval hx, ha.eval hy]; cases k <;> rfl
theorem v_gtr {k : IntKind} {m n : Int} (hx : ev τ x = some (.int k m)) (hy : ev τ y = some (.int k n)) : Val C ⟨dst, .binOp .gtr t x y u, ty, pos, aft, g⟩ τ F H (.bool (decide (n < m))) := fun a w ha _ => by
  simp only [execOp, ha.eval hx, ha.eval hy]; cases k <;> rfl
theorem v_geq {k : IntKind} {m n : Int} (hx : ev τ x = some (.int k m)) (hy : ev τ y = some (.int k n)) : Val C ⟨dst, .binOp .geq t x y u, ty, pos, aft, g⟩ τ F H (.bool (decide (n ≤ m))) := fun a w ha _ => by
  simp only [execOp, ha.eval hx, ha.eval hy]; cases k <;> rfl
theorem v_conv {src d : TypeId} {k k' : IntKind} {m r : Int} (hs : (C.P.underlying src).isSome = true) (hd : C.P.underlying d = some (.int k')) (hx : ev τ x = some (.int k m)) (hr : k'.wrap m = r) : Val C ⟨dst, .convert src d x, ty, pos, aft, g⟩ τ F H (.int k' r) := fun a w ha _ => by
  subst hr
  obtain ⟨ds, hds⟩ := Option.isSome_iff_exists.1 hs
  simp only [execOp, ha.eval hx, convert, underlying, program]
  simp only [bind, pure, Sem.bind, Sem.run, hds, hd]
  cases ds <;> rfl
theorem v_bin {op : BinOp} {vx vy v : Value} (hx : ev τ x = some vx) (hy : ev τ y = some vy) (hg : eqGuard op t x y vx vy = pure ()) (hr : ∀ w, Held F H w → (binOp op t vx vy).run C.P w = .ok v w) :
    Val C ⟨dst, .binOp op t x y u, ty, pos, aft, g⟩ τ F H v := fun a w ha hw => by
  simp only [execOp, ha.eval hx, ha.eval hy, hg]
  have := hr w hw
  simp [go_sem, this]
theorem v_beql {b c : Bool} (ht : C.P.underlying t = some .bool) (hx : ev τ x = some (.bool b)) (hy : ev τ y = some (.bool c)) : Val C ⟨dst, .binOp .eql t x y u, ty, pos, aft, g⟩ τ F H (.bool (decide (b = c))) :=
  v_bin hx hy rfl fun w _ => by rw [run_eql_bool w t b c ht]; cases b <;> cases c <;> rfl
def strV (l : List UInt8) : Value := .string ⟨l.toArray⟩
theorem bytes_beq (l m : List UInt8) : ((ByteArray.mk l.toArray).toList == (ByteArray.mk m.toArray).toList) = decide (l = m) := by
  rw [ByteArray.toList_mk, ByteArray.toList_mk]
  by_cases e : l = m <;> simp [e]
theorem v_seql {l m : List UInt8} (hx : ev τ x = some (strV l)) (hy : ev τ y = some (strV m)) : Val C ⟨dst, .binOp .eql t x y u, ty, pos, aft, g⟩ τ F H (.bool (decide (l = m))) :=
  v_bin hx hy rfl fun w _ => by simp only [strV, binOp_string_eql, bytes_beq]; rfl
theorem v_sneq {l m : List UInt8} (hx : ev τ x = some (strV l)) (hy : ev τ y = some (strV m)) : Val C ⟨dst, .binOp .neq t x y u, ty, pos, aft, g⟩ τ F H (.bool (decide (l ≠ m))) :=
  v_bin hx hy rfl fun w _ => by simp only [strV, binOp_string_neq, bytes_beq, decide_not]; rfl
theorem v_peqnil {p : Option Addr} (ht : C.P.underlying t = some (.pointer (C.P.pointee t))) (hx : ev τ x = some (.pointer p)) (hy : ev τ y = some (.pointer none)) : Val C ⟨dst, .binOp .eql t x y u, ty, pos, aft, g⟩ τ F H (.bool p.isNone) :=
  v_bin hx hy rfl fun w _ => run_eql_pointer_nil w t p ht
theorem v_pneqnil {p : Option Addr} (ht : C.P.underlying t = some (.pointer (C.P.pointee t))) (hx : ev τ x = some (.pointer p)) (hy : ev τ y = some (.pointer none)) : Val C ⟨dst, .binOp .neq t x y u, ty, pos, aft, g⟩ τ F H (.bool (!p.isNone)) :=
  v_bin hx hy rfl fun w _ => run_neq_pointer_nil w t p ht
theorem v_nilCheck {a0 : Addr} (hx : ev τ x = some (.pointer (some a0))) : Val C ⟨dst, .nilCheck x, ty, pos, aft, g⟩ τ F H (.pointer (some a0)) := fun a w ha _ => by
  simp only [execOp, ha.eval hx]; rfl
theorem v_extract {vs : Array Value} {i : Nat} {v : Value} (hx : ev τ x = some (.tuple vs)) (hv : vs[i]? = some v) : Val C ⟨dst, .extract x i, ty, pos, aft, g⟩ τ F H v := fun a w ha _ => by
  simp only [execOp, ha.eval hx, Instr.extract, hv]; rfl
end
end Go.SX
namespace Go.SX
open Go
def Cell (F : Fz) (H : List Ent) (b off : Nat) (v : Value) : Prop := ∀ w, Held F H w → w.cell? ⟨b, off, none⟩ = some v
theorem cell_own {F : Fz} {H : List Ent} {b off n : Nat} {cs : List Value} {v : Value} (hm : Ent.mem b cs n ∈ H) (hv : cs[off]? = some v) : Cell F H b off v := by
  intro w hw
  obtain ⟨rest, e, hb, _⟩ := hw.2 _ hm
  have hlt : off < cs.length := by
    rcases Nat.lt_or_ge off cs.length with h | h
    · exact h
    · simp [List.getElem?_eq_none h] at hv
  simp only [World.cell?, hb]
  simp [List.getElem?_append_left hlt, hv]
theorem cell_at {F : Fz} {H : List Ent} {j b off n : Nat} {cs : List Value} {v : Value} (hm : H[j]? = some (.mem b cs n)) (hv : cs[off]? = some v) : Cell F H b off v :=
  cell_own (List.mem_of_getElem? hm) hv
theorem cell_frz {F : Fz} {H : List Ent} {b off : Nat} {all : Array Value} {e : TypeId} {fz : Nat × Nat} {v : Value} (hb : F b = some (.cells all e fz)) (hv : all[off]? = some v) : Cell F H b off v := by
  intro w hw
  have := hw.1 _ _ hb
  simp only [World.cell?, this]
  simpa using hv
theorem Cell.mono {F F' : Fz} {H H' : List Ent} {b off : Nat} {v : Value} (h : Cell F H b off v) (hF : F.le F') (hH : H ⊆ H') : Cell F' H' b off v :=
  fun w hw => h w ⟨fun b o hb => hw.1 b o (hF b o hb), fun e he => hw.2 e (hH he)⟩
def Sl (F : Fz) (H : List Ent) (sz : Nat) (v : Value) (n : Nat) (cs : List Value) : Prop :=
  ∃ a cap, v = .slice a n cap ∧ cs.length = n * sz ∧ n ≤ cap ∧ (a = none → cap = 0) ∧
    ∀ i c, cs[i]? = some c → ∃ b off, a = some ⟨b, off, none⟩ ∧ Cell F H b (off + i) c
theorem Sl.mono {F F' : Fz} {H H' : List Ent} {sz n : Nat} {v : Value} {cs : List Value} (h : Sl F H sz v n cs) (hF : F.le F') (hH : H ⊆ H') : Sl F' H' sz v n cs := by
  obtain ⟨a, cap, h1, h2, h3, h4, h6⟩ := h
  exact ⟨a, cap, h1, h2, h3, h4, fun i c hc => by
    obtain ⟨b, off, g1, g2⟩ := h6 i c hc
    exact ⟨b, off, g1, g2.mono hF hH⟩⟩
theorem Sl.frz {F F' : Fz} {H : List Ent} {sz n : Nat} {v : Value} {cs : List Value} (h : Sl F [] sz v n cs) (hF : F.le F') : Sl F' H sz v n cs := h.mono hF (by simp)
theorem Sl.nil (F : Fz) (H : List Ent) (sz : Nat) : Sl F H sz (.slice none 0 0) 0 [] := ⟨none, 0, rfl, by simp, Nat.le_refl _, fun _ => rfl, by simp⟩
theorem Sl.view {F : Fz} {H : List Ent} {sz n : Nat} {v : Value} {cs : List Value} (h : Sl F H sz v n cs) (hp : 0 < n * sz) :
    ∃ b off cap, v = .slice (some ⟨b, off, none⟩) n cap ∧ n ≤ cap ∧ ∀ i c, cs[i]? = some c → Cell F H b (off + i) c := by
  obtain ⟨a, cap, h1, h2, h3, h4, h6⟩ := h
  have h0 : cs[0]? = some (cs[0]'(by omega)) := List.getElem?_eq_getElem (by omega)
  obtain ⟨b, off, ha, _⟩ := h6 0 _ h0
  refine ⟨b, off, cap, by rw [h1, ha], h3, fun i c hc => ?_⟩
  obtain ⟨b', off', ha', hc'⟩ := h6 i c hc
  rw [ha] at ha'
  simp only [Option.some.injEq, Addr.mk.injEq, and_true] at ha'
  obtain ⟨rfl, rfl⟩ := ha'
  exact hc'
theorem Sl.shape {F : Fz} {H : List Ent} {sz n : Nat} {v : Value} {cs : List Value} (h : Sl F H sz v n cs) : ∃ a cap, v = .slice a n cap ∧ n ≤ cap := by
  obtain ⟨a, cap, h1, h2, h3, h4, h6⟩ := h
  exact ⟨a, cap, h1, h3⟩
theorem Sl.len {F : Fz} {H : List Ent} {sz n : Nat} {v : Value} {cs : List Value} (h : Sl F H sz v n cs) : cs.length = n * sz := by
  obtain ⟨a, cap, h1, h2, h3, h4, h6⟩ := h
  exact h2
theorem Sl.cells {F : Fz} {H : List Ent} {sz n m : Nat} {a : Option Addr} {cap : Nat} {cs : List Value} (h : Sl F H sz (.slice a n cap) m cs) {w : World} (hw : Held F H w) :
    n = m ∧ (∀ i c, cs[i]? = some c → ∃ b, a = some b ∧ w.cell? (b.add i) = some c) := by
  obtain ⟨a', cap', h1, h2, h3, h4, h6⟩ := h
  simp only [Value.slice.injEq] at h1
  obtain ⟨rfl, rfl, rfl⟩ := h1
  refine ⟨rfl, fun i c hc => ?_⟩
  obtain ⟨b, off, rfl, hcell⟩ := h6 i c hc
  refine ⟨_, rfl, ?_⟩
  have := hcell w hw
  by_cases hi : i = 0
  · subst hi; simpa [Addr.add] using this
  · simp only [Addr.add, if_neg hi]; exact this
theorem Sl.firstCells {P : Program} {F : Fz} {H : List Ent} {sz n : Nat} {v : Value} {cs : List Value} (h : Sl F H sz v n cs) {w : World} (hw : Held F H w) :
    (Builtin.firstCells sz n v).run P w = .ok cs.toArray w := by
  obtain ⟨a, cap, rfl, _⟩ := h.shape
  have hl := h.len
  obtain ⟨_, hc⟩ := h.cells hw
  cases a with
  | none =>
    have : cs = [] := by
      cases cs with
      | nil => rfl
      | cons c r => obtain ⟨b, hb, _⟩ := hc 0 c rfl; cases hb
    subst this
    exact run_firstCells_none w _ _ _ _
  | some b =>
    exact run_firstCells_some w sz n b n cap cs hl fun j u hj => by
      obtain ⟨b', hb, hcell⟩ := hc j u hj
      simp only [Option.some.injEq] at hb
      subst hb
      exact hcell
def byteV (b : UInt8) : Value := .int .u8 b.toNat
def bytesV (l : List UInt8) : List Value := l.map byteV
def SlB (F : Fz) (H : List Ent) (v : Value) (l : List UInt8) : Prop := Sl F H 1 v l.length (bytesV l)
@[simp] theorem bytesV_length (l : List UInt8) : (bytesV l).length = l.length := by simp [bytesV]
@[simp] theorem bytesV_append (l m : List UInt8) : bytesV (l ++ m) = bytesV l ++ bytesV m := by simp [bytesV]
@[simp] theorem bytesV_nil : bytesV [] = [] := rfl
theorem bytesV_get (l : List UInt8) (i : Nat) : (bytesV l)[i]? = (l[i]?).map byteV := by simp [bytesV]
theorem SlB.mono {F F' : Fz} {H H' : List Ent} {v : Value} {l : List UInt8} (h : SlB F H v l) (hF : F.le F') (hH : H ⊆ H') : SlB F' H' v l := Sl.mono h hF hH
theorem SlB.frz {F F' : Fz} {H : List Ent} {v : Value} {l : List UInt8} (h : SlB F [] v l) (hF : F.le F') : SlB F' H v l := Sl.frz h hF
section
variable {C : Cx} {τ : Env} {F : Fz} {H : List Ent} {dst : Option Nat} {ty t u : TypeId} {pos : String} {aft : Array Edge} {g : Option (Nat × Bool)} {x y z : Operand}
def isAggB (P : Program) (t : TypeId) : Option Bool :=
  match P.underlying t with
  | some (.struct _) => some true
  | some (.array _ _) => some true
  | some _ => some false
  | none => none
theorem isAgg_run {P : Program} {t : TypeId} {b : Bool} (h : isAggB P t = some b) (w : World) : (isAgg t).run P w = .ok b w := by
  unfold isAggB at h
  cases hu : P.underlying t with
  | none => simp [hu] at h
  | some d =>
    simp only [isAgg, Sem.run_bind, run_underlying hu, Result.andThen_ok]
    cases d <;> simp_all
theorem v_load {b off : Nat} {v : Value} (ht : isAggB C.P t = some false) (hx : ev τ x = some (.pointer (some ⟨b, off, none⟩))) (hc : Cell F H b off v) : Val C ⟨dst, .load t x, ty, pos, aft, g⟩ τ F H v := fun a w ha hw => by
  have h1 := hc w hw
  simp [execOp, ha.eval hx, Instr.loadAt, Instr.sureAddr, loadVar, isAgg_run ht, h1]
theorem v_loadAgg {b off sz : Nat} {cs : List Value} (ht : isAggB C.P t = some true) (hs : (C.P.info? t).map (·.size) = some sz) (hx : ev τ x = some (.pointer (some ⟨b, off, none⟩))) (hl : cs.length = sz) (hc : ∀ i c, cs[i]? = some c → Cell F H b (off + i) c) :
    Val C ⟨dst, .load t x, ty, pos, aft, g⟩ τ F H (.agg cs.toArray) := fun a w ha hw => by
  obtain ⟨i0, hi0, hsz⟩ := Option.map_eq_some_iff.1 hs
  have hcells := run_loadCells_list (P := C.P) w ⟨b, off, none⟩ cs (fun j v hj => by
    have := hc j v hj w hw
    by_cases hi : j = 0
    · subst hi; simpa [Addr.add] using this
    · simp only [Addr.add, if_neg hi]; exact this)
  rw [hl] at hcells
  simp [execOp, ha.eval hx, Instr.loadAt, Instr.sureAddr, loadVar, isAgg_run ht, sizeOf, typeInfo, hi0, hsz, hcells]
def fieldOff (P : Program) (s : TypeId) (f : Nat) : Option Nat :=
  match P.underlying s with
  | some (.struct fields) => match fields[f]? with
    | some fd => match P.info? fd.type with
      | some i => if i.size = 0 then none else some fd.offset
      | none => none
    | none => none
  | _ => none
theorem v_field {b off k r : Nat} {f : Nat} (hf : fieldOff C.P t f = some k) (hx : ev τ x = some (.pointer (some ⟨b, off, none⟩))) (hr : off + k = r) : Val C ⟨dst, .fieldAddr t x f, ty, pos, aft, g⟩ τ F H (.pointer (some ⟨b, r, none⟩)) := fun a w ha hw => by
  subst hr
  unfold fieldOff at hf
  cases hu : C.P.underlying t with
  | none => simp [hu] at hf
  | some d =>
    cases d <;> try (simp [hu] at hf; done)
    rename_i fields
    simp only [hu] at hf
    cases hfd : fields[f]? with
    | none => simp [hfd] at hf
    | some fd =>
      simp only [hfd] at hf
      cases hi : C.P.info? fd.type with
      | none => simp [hi] at hf
      | some i =>
        simp only [hi] at hf
        split at hf
        · cases hf
        · rename_i hne
          simp only [Option.some.injEq] at hf
          subst hf
          have hadd : (⟨b, off, none⟩ : Addr).add fd.offset = ⟨b, off + fd.offset, none⟩ := by unfold Addr.add; split <;> simp_all
          simp [execOp, ha.eval hx, Instr.fieldAt, run_underlying hu, hfd, Instr.sureAddr, fieldPlace, sizeOf, typeInfo, hi, hne, hadd]
def elemSize (P : Program) (t : TypeId) : Option Nat :=
  match P.underlying t with
  | some (.slice e) => (P.info? e).map (·.size)
  | some (.array _ e) => (P.info? e).map (·.size)
  | _ => none
def isSliceB (P : Program) (t : TypeId) : Bool := match P.underlying t with | some (.slice _) => true | _ => false
def arrLen (P : Program) (t : TypeId) : Option Nat := match P.underlying t with | some (.array n _) => some n | _ => none
theorem v_index {b off len cap sz r : Nat} {k : IntKind} {i : Int} (ht : isSliceB C.P t = true) (hs : elemSize C.P t = some sz) (hx : ev τ x = some (.slice (some ⟨b, off, none⟩) len cap)) (hy : ev τ y = some (.int k i))
    (h0 : 0 ≤ i) (h1 : i < len) (hr : off + i.toNat * sz = r) : Val C ⟨dst, .indexAddr t x y, ty, pos, aft, g⟩ τ F H (.pointer (some ⟨b, r, none⟩)) := fun a w ha hw => by
  subst hr
  unfold isSliceB at ht
  unfold elemSize at hs
  cases hu : C.P.underlying t with
  | none => simp [hu] at ht
  | some d =>
    cases d <;> simp [hu] at ht
    rename_i e
    simp only [hu] at hs
    obtain ⟨i0, hi0, hsz⟩ := Option.map_eq_some_iff.1 hs
    have hadd : (⟨b, off, none⟩ : Addr).add (i.toNat * sz) = ⟨b, off + i.toNat * sz, none⟩ := by unfold Addr.add; split <;> simp_all
    simp [execOp, ha.eval hx, ha.eval hy, Instr.indexAt, run_underlying hu, asIntOf, h0, h1, sizeOf, typeInfo, hi0, hsz, hadd]
theorem v_indexArr {b off n sz r : Nat} {k : IntKind} {i : Int} (ht : arrLen C.P t = some n) (hs : elemSize C.P t = some sz) (hx : ev τ x = some (.pointer (some ⟨b, off, none⟩))) (hy : ev τ y = some (.int k i))
    (h0 : 0 ≤ i) (h1 : i < n) (hr : off + i.toNat * sz = r) : Val C ⟨dst, .indexAddr t x y, ty, pos, aft, g⟩ τ F H (.pointer (some ⟨b, r, none⟩)) := fun a w ha hw => by
  subst hr
  unfold arrLen at ht
  unfold elemSize at hs
  cases hu : C.P.underlying t with
  | none => simp [hu] at ht
  | some d =>
    cases d <;> simp [hu] at ht
    rename_i m e
    subst ht
    simp only [hu] at hs
    obtain ⟨i0, hi0, hsz⟩ := Option.map_eq_some_iff.1 hs
    have hadd : (⟨b, off, none⟩ : Addr).add (i.toNat * sz) = ⟨b, off + i.toNat * sz, none⟩ := by unfold Addr.add; split <;> simp_all
    simp [execOp, ha.eval hx, ha.eval hy, Instr.indexAt, run_underlying hu, asIntOf, h0, h1, sizeOf, typeInfo, hi0, hsz, hadd, Instr.sureAddr]
theorem v_indexN {b off len cap sz i : Nat} {k : IntKind} (ht : isSliceB C.P t = true) (hs : elemSize C.P t = some sz) (hx : ev τ x = some (.slice (some ⟨b, off, none⟩) len cap)) (hy : ev τ y = some (.int k (i : Int)))
    (h1 : i < len) : Val C ⟨dst, .indexAddr t x y, ty, pos, aft, g⟩ τ F H (.pointer (some ⟨b, off + i * sz, none⟩)) :=
  v_index ht hs hx hy (by omega) (by omega) (by simp)
theorem v_index1 {b off len cap i : Nat} {k : IntKind} (ht : isSliceB C.P t = true) (hs : elemSize C.P t = some 1) (hx : ev τ x = some (.slice (some ⟨b, off, none⟩) len cap)) (hy : ev τ y = some (.int k (i : Int)))
    (h1 : i < len) : Val C ⟨dst, .indexAddr t x y, ty, pos, aft, g⟩ τ F H (.pointer (some ⟨b, off + i, none⟩)) :=
  v_index ht hs hx hy (by omega) (by omega) (by simp)
theorem execOp_builtin_run {P : Program} {a : Act} {w : World} {bi : Builtin} {args : Array Operand} {ats : Array TypeId} {s : Sem Value} {r : Result Value}
    (hs : ∀ cs, builtin bi ats ty cs (args.map a.eval) = (do pure (.value (← s)))) (hr : s.run P w = r) :
    (execOp a.eval ⟨dst, .call { callee := .builtin bi, args := args, argTypes := ats }, ty, pos, aft, g⟩).run P w = r.andThen fun v w' => .ok (.value v) w' := by
  simp only [execOp, resolve, invoke, Sem.run_bind, Sem.run_pure, Result.andThen_ok, hs, hr]
theorem v_len {a0 : Option Addr} {n c : Nat} (ht : isSliceB C.P t = true) (hx : ev τ x = some (.slice a0 n c)) : Val C ⟨dst, .call { callee := .builtin .len, args := #[x], argTypes := #[t] }, ty, pos, aft, g⟩ τ F H (.int .i64 n) := fun a w ha hw => by
  unfold isSliceB at ht
  cases hu : C.P.underlying t with
  | none => simp [hu] at ht
  | some d =>
    cases d <;> simp [hu] at ht
    rw [execOp_builtin_run (s := Builtin.len_ #[t] ty #[a.eval x]) (r := .ok (.int .i64 n) w) (fun _ => by simp [builtin]) (by simp [Builtin.len_, ha.eval hx, run_underlying hu, goInt])]
    rfl
theorem v_cap {a0 : Option Addr} {n c : Nat} (ht : isSliceB C.P t = true) (hx : ev τ x = some (.slice a0 n c)) : Val C ⟨dst, .call { callee := .builtin .cap, args := #[x], argTypes := #[t] }, ty, pos, aft, g⟩ τ F H (.int .i64 c) := fun a w ha hw => by
  unfold isSliceB at ht
  cases hu : C.P.underlying t with
  | none => simp [hu] at ht
  | some d =>
    cases d <;> simp [hu] at ht
    rw [execOp_builtin_run (s := Builtin.cap_ #[t] ty #[a.eval x]) (r := .ok (.int .i64 c) w) (fun _ => by simp [builtin]) (by simp [Builtin.cap_, ha.eval hx, run_underlying hu, goInt])]
    rfl
theorem v_min {k k' : IntKind} {m n : Int} {ats : Array TypeId} (hx : ev τ x = some (.int k m)) (hy : ev τ y = some (.int k' n)) : Val C ⟨dst, .call { callee := .builtin .min, args := #[x, y], argTypes := ats }, ty, pos, aft, g⟩ τ F H (.int k (if n < m then n else m)) := fun a w ha hw => by
  rw [execOp_builtin_run (s := Builtin.min_ ats ty #[a.eval x, a.eval y]) (r := .ok (.int k (if n < m then n else m)) w) (fun _ => by simp [builtin]) (by simp [Builtin.min_, ha.eval hx, ha.eval hy, Builtin.min2])]
  rfl
theorem v_max {k k' : IntKind} {m n : Int} {ats : Array TypeId} (hx : ev τ x = some (.int k m)) (hy : ev τ y = some (.int k' n)) : Val C ⟨dst, .call { callee := .builtin .max, args := #[x, y], argTypes := ats }, ty, pos, aft, g⟩ τ F H (.int k (if n > m then n else m)) := fun a w ha hw => by
  rw [execOp_builtin_run (s := Builtin.max_ ats ty #[a.eval x, a.eval y]) (r := .ok (.int k (if n > m then n else m)) w) (fun _ => by simp [builtin]) (by simp [Builtin.max_, ha.eval hx, ha.eval hy, Builtin.max2])]
  rfl
theorem v_bytesString {src d e : TypeId} {v : Value} {l : List UInt8} (hs : C.P.underlying src = some (.slice e)) (he : C.P.underlying e = some (.int .u8)) (hd : C.P.underlying d = some .string) (hx : ev τ x = some v) (hv : SlB F H v l) :
    Val C ⟨dst, .convert src d x, ty, pos, aft, g⟩ τ F H (strV l) := fun a w ha hw => by
  obtain ⟨a0, cap, rfl, hlen⟩ := Sl.shape hv
  obtain ⟨_, hc⟩ := Sl.cells hv hw
  have hrun : (convert src d (.slice a0 l.length cap)).run C.P w = .ok (strV l) w := by
    cases a0 with
    | none =>
      have : l = [] := by
        cases l with
        | nil => rfl
        | cons c r => obtain ⟨b, hb, _⟩ := hc 0 (byteV c) rfl; cases hb
      subst this
      rw [run_convert_bytes_nil w src e hs he _ _ d hd]
      rfl
    | some b =>
      by_cases hl : l = []
      · subst hl
        rw [run_convert_bytes_string w src d e _ _ _ hs he hd]
        simp only [List.length_nil]
        rw [run_bytesToString w _ 0 cap [] (by simp [loadCells, loadCellsFrom])]
        rfl
      · have hpos : 0 < l.length * 1 := by
          have := List.length_pos_iff.2 hl
          omega
        obtain ⟨b', off, cap', heq, _, _⟩ := Sl.view hv hpos
        simp only [Value.slice.injEq, Option.some.injEq] at heq
        obtain ⟨rfl, _, rfl⟩ := heq
        rw [run_convert_bytes_arg w src e hs he b' off l.length cap (l.map fun c => (c.toNat : Int)) (by simp) (fun i hi => by
          obtain ⟨b2, hb2, hcell⟩ := hc i (byteV l[i]) (by rw [bytesV_get, List.getElem?_eq_getElem hi]; rfl)
          simp only [Option.some.injEq] at hb2
          subst hb2
          have hadd : (⟨b', off, none⟩ : Addr).add i = ⟨b', off + i, none⟩ := by unfold Addr.add; split <;> simp_all
          rw [hadd] at hcell
          rw [hcell]
          simp [byteV, List.getD, hi]) d hd]
        congr 2
        simp only [strOfNums, List.map_map]
        congr 2
        have : ∀ m : List UInt8, List.map ((fun n => UInt8.ofNat n.toNat) ∘ fun c => ((c.toNat : Nat) : Int)) m = m := fun m => by
          induction m with
          | nil => rfl
          | cons c r ih => simp [ih]
        exact this l
  simp only [execOp, ha.eval hx, Sem.run_bind, hrun]
  rfl
end
end Go.SX
namespace Go.SX
open Go
theorem nodup_inj {α : Type} : ∀ {l : List α} {i j : Nat} {a : α}, l.Nodup → l[i]? = some a → l[j]? = some a → i = j
  | [], i, j, a, _, h, _ => by simp at h
  | x :: l, 0, 0, a, _, _, _ => rfl
  | x :: l, 0, j + 1, a, hn, h, h' => by
    simp at h h'
    subst h
    exact absurd (List.mem_of_getElem? h') (List.nodup_cons.1 hn).1
  | x :: l, i + 1, 0, a, hn, h, h' => by
    simp at h h'
    subst h'
    exact absurd (List.mem_of_getElem? h) (List.nodup_cons.1 hn).1
  | x :: l, i + 1, j + 1, a, hn, h, h' => by
    simp at h h'
    rw [nodup_inj (List.nodup_cons.1 hn).2 h h']
theorem St.block_lt {O : World} {F : Fz} {H : List Ent} {w : World} (h : St O F H w) {e : Ent} (he : e ∈ H) : e.b < w.heap.size := by
  have := h.own e he
  cases e with
  | mem b cs n =>
    obtain ⟨rest, el, hb, _⟩ := this
    exact (Array.getElem?_eq_some_iff.1 hb).1
  | obj b o => exact (Array.getElem?_eq_some_iff.1 this.1).1
theorem Ent.holds_of {w w' : World} {e : Ent} (h : e.holds w) (hb : w'.heap[e.b]? = w.heap[e.b]?) : e.holds w' := by
  cases e with
  | mem b cs n =>
    obtain ⟨rest, el, h1, h2⟩ := h
    exact ⟨rest, el, by rw [← h1]; exact hb, h2⟩
  | obj b o => exact ⟨by rw [← h.1]; exact hb, h.2⟩
theorem St.set {O : World} {F : Fz} {H : List Ent} {w : World} (h : St O F H w) {j b n : Nat} {cs cs' : List Value} (hj : H[j]? = some (.mem b cs n)) {w' : World}
    (hos : w'.os = w.os) (htape : w'.tape = w.tape) (hout : w'.output = w.output) (hot : ∀ k, k ≠ b → w'.heap[k]? = w.heap[k]?) (hh : (Ent.mem b cs' n).holds w') : St O F (H.set j (.mem b cs' n)) w' := by
  have hm : Ent.mem b cs n ∈ H := List.mem_of_getElem? hj
  have hjl : j < H.length := by
    rcases Nat.lt_or_ge j H.length with h | h
    · exact h
    · simp [List.getElem?_eq_none h] at hj
  have hmap : (H.set j (.mem b cs' n)).map Ent.b = H.map Ent.b := by
    apply List.ext_getElem?
    intro i
    simp only [List.getElem?_map, List.getElem?_set]
    by_cases hi : j = i
    · subst hi; rw [hj]; simp [hjl, Ent.b]
    · simp [hi]
  have hmem : ∀ e ∈ H.set j (.mem b cs' n), e = .mem b cs' n ∨ (e ∈ H ∧ e.b ≠ b) := by
    intro e he
    obtain ⟨i, hi⟩ := List.mem_iff_getElem?.1 he
    rw [List.getElem?_set] at hi
    by_cases hij : j = i
    · subst hij; simp [hjl] at hi; exact .inl hi.symm
    · simp only [hij, if_false] at hi
      refine .inr ⟨List.mem_of_getElem? hi, fun hb => ?_⟩
      have h1 : (H.map Ent.b)[i]? = some b := by simp [hi, hb]
      have h2 : (H.map Ent.b)[j]? = some b := by simp [hj, Ent.b]
      exact hij (nodup_inj h.nd h2 h1)
  refine ⟨hos.trans h.os, htape.trans h.tape, hout.trans h.output, fun k o hk => ?_, fun e he => ?_, by rw [hmap]; exact h.nd, fun e he => ?_⟩
  · have hne : k ≠ b := by
      rintro rfl
      have := h.ap _ hm
      simp only [Ent.b] at this
      rw [this] at hk; cases hk
    rw [hot k hne]; exact h.frz k o hk
  · rcases hmem e he with rfl | ⟨h1, h2⟩
    · exact hh
    · exact Ent.holds_of (h.own e h1) (hot _ h2)
  · rcases hmem e he with rfl | ⟨h1, _⟩
    · have := h.ap _ hm
      exact this
    · exact h.ap e h1
theorem St.new {O : World} {F : Fz} {H : List Ent} {w : World} (h : St O F H w) {e : Ent} {o : Obj} {w' : World} (hw : w'.heap = w.heap.push o) (hos : w'.os = w.os) (htape : w'.tape = w.tape) (hout : w'.output = w.output)
    (hb : e.b = w.heap.size) (hh : e.holds w') : St O F (e :: H) w' := by
  have hot : ∀ k, k < w.heap.size → w'.heap[k]? = w.heap[k]? := fun k hk => by rw [hw, Array.getElem?_push]; simp [Nat.ne_of_lt hk]
  refine ⟨hos.trans h.os, htape.trans h.tape, hout.trans h.output, fun k o' hk => ?_, fun x hx => ?_, ?_, fun x hx => ?_⟩
  · have := h.frz k o' hk
    rw [hot k (Array.getElem?_eq_some_iff.1 this).1]; exact this
  · rcases List.mem_cons.1 hx with rfl | hx
    · exact hh
    · exact Ent.holds_of (h.own x hx) (hot _ (h.block_lt hx))
  · simp only [List.map_cons, List.nodup_cons]
    refine ⟨fun hm => ?_, h.nd⟩
    obtain ⟨x, hx, hxb⟩ := List.mem_map.1 hm
    have := h.block_lt hx
    omega
  · rcases List.mem_cons.1 hx with rfl | hx
    · cases hF : F x.b with
      | none => rfl
      | some o' =>
        have := (Array.getElem?_eq_some_iff.1 (h.frz _ _ hF)).1
        omega
    · exact h.ap x hx
theorem St.freeze {O : World} {F : Fz} {H : List Ent} {w : World} {j b n : Nat} {cs : List Value} (hj : H[j]? = some (.mem b cs n)) (h : St O F H w) :
    ∃ F' rest e, F.le F' ∧ F' b = some (.cells (cs ++ rest).toArray e (0, 0)) ∧ (cs ++ rest).length = n ∧ (∀ k, k ≠ b → F' k = F k) ∧ St O F' (H.eraseIdx j) w := by
  have hm : Ent.mem b cs n ∈ H := List.mem_of_getElem? hj
  obtain ⟨rest, e, hb, hlen⟩ := h.own _ hm
  have hap := h.ap _ hm
  simp only [Ent.b] at hap
  have hsub : (H.eraseIdx j).Sublist H := List.eraseIdx_sublist H j
  refine ⟨fun k => if k = b then some (.cells (cs ++ rest).toArray e (0, 0)) else F k, rest, e, fun k o hk => ?_, by simp, hlen, fun k hk => by simp [hk], h.os, h.tape, h.output, fun k o hk => ?_, fun x hx => h.own x (hsub.subset hx), (hsub.map Ent.b).nodup h.nd, fun x hx => ?_⟩
  · by_cases hkb : k = b
    · subst hkb; rw [hap] at hk; cases hk
    · simp [hkb, hk]
  · by_cases hkb : k = b
    · subst hkb; simp at hk; rw [← hk]; exact hb
    · simp [hkb] at hk; exact h.frz k o hk
  · have hne : x.b ≠ b := by
      intro hxb
      obtain ⟨i, hi⟩ := List.mem_iff_getElem?.1 hx
      rw [List.getElem?_eraseIdx] at hi
      have hjl : j < H.length := by
        rcases Nat.lt_or_ge j H.length with h | h
        · exact h
        · simp [List.getElem?_eq_none h] at hj
      split at hi
      · rename_i hlt
        have h1 : (H.map Ent.b)[i]? = some b := by simp [hi, hxb]
        have h2 : (H.map Ent.b)[j]? = some b := by simp [hj, Ent.b]
        have := nodup_inj h.nd h2 h1
        omega
      · rename_i hge
        have h1 : (H.map Ent.b)[i + 1]? = some b := by simp [hi, hxb]
        have h2 : (H.map Ent.b)[j]? = some b := by simp [hj, Ent.b]
        have := nodup_inj h.nd h2 h1
        omega
    simp [hne]
    exact h.ap x (hsub.subset hx)
section
variable {C : Cx} {τ : Env} {F : Fz} {H : List Ent} {dst : Option Nat} {ty t u : TypeId} {pos : String} {aft : Array Edge} {g : Option (Nat × Bool)} {x y z : Operand}
theorem j_freeze {X : Act → World → Prop} (j : Nat) {b n : Nat} {cs : List Value} (hj : H[j]? = some (.mem b cs n))
    (h : ∀ F' rest e, F.le F' → F' b = some (.cells (cs ++ rest).toArray e (0, 0)) → (cs ++ rest).length = n → (∀ k, k ≠ b → F' k = F k) → Jd C τ F' (H.eraseIdx j) X) : Jd C τ F H X := by
  intro a w ha hw
  obtain ⟨F', rest, e, h1, h2, h3, h4, h5⟩ := hw.freeze hj
  exact h F' rest e h1 h2 h3 h4 a w ha h5
def oneCellB : Value → Bool
  | .agg _ => false
  | .tuple _ => false
  | _ => true
theorem oneCell_eq (v : Value) : v.oneCell' = oneCellB v := by cases v <;> rfl
def putAt (cs : List Value) (off : Nat) (vs : List Value) : List Value := cs.take off ++ vs ++ cs.drop (off + vs.length)
theorem a_store (j : Nat) {b off n : Nat} {cs : List Value} {v : Value} {sz : Nat} (hj : H[j]? = some (.mem b cs n)) (hs : (C.P.info? t).map (·.size) = some sz) (hsz : v.cells.size = sz) (h1 : v.cells.toList.all oneCellB = true)
    (hx : ev τ x = some (.pointer (some ⟨b, off, none⟩))) (hy : ev τ y = some v) (hfit : off + v.cells.size ≤ cs.length) :
    Act0 C ⟨none, .store t x y, ty, pos, aft, g⟩ τ F H (H.set j (.mem b (putAt cs off v.cells.toList) n)) := by
  intro a w ha hw
  have hm : Ent.mem b cs n ∈ H := List.mem_of_getElem? hj
  obtain ⟨rest, e, hb, hlen⟩ := hw.own _ hm
  obtain ⟨i0, hi0, hsz0⟩ := Option.map_eq_some_iff.1 hs
  have hst := run_storeCells_at C.P b off e v.cells.toList 0 (cs ++ rest).toArray w hb (by simp; omega) (fun u hu => by rw [oneCell_eq]; exact List.all_eq_true.1 h1 u hu)
  simp only [Nat.add_zero] at hst
  refine ⟨w.setRow b (putAt cs off v.cells.toList ++ rest).toArray, ?_, hw.set hj rfl rfl rfl (fun k hk => setRow_other w b k _ hk) ?_⟩
  · have e1 : (cs ++ rest).toArray.toList.take off ++ v.cells.toList ++ (cs ++ rest).toArray.toList.drop (off + v.cells.toList.length) = putAt cs off v.cells.toList ++ rest := by
      simp only [putAt, List.append_assoc]
      rw [List.take_append_of_le_length (by omega), List.drop_append_of_le_length (by simp; omega)]
    rw [e1] at hst
    simp [execOp, ha.eval hx, ha.eval hy, Instr.storeAt, Instr.sureAddr, storeVar, sizeOf, typeInfo, hi0, hsz0, hsz, hst]
  · refine ⟨rest, e, setRow_heap w b _ _ e _ hb, ?_⟩
    have h2 : (putAt cs off v.cells.toList).length = cs.length := by
      simp [putAt]; omega
    simp only [List.length_append] at hlen ⊢
    rw [h2]; exact hlen
theorem cells_one {v : Value} (h : oneCellB v = true) : v.cells = #[v] := by cases v <;> first | rfl | cases h
theorem a_store1 (j : Nat) {b off n : Nat} {cs : List Value} {v : Value} (hj : H[j]? = some (.mem b cs n)) (hs : (C.P.info? t).map (·.size) = some 1) (h1 : oneCellB v = true)
    (hx : ev τ x = some (.pointer (some ⟨b, off, none⟩))) (hy : ev τ y = some v) (hfit : off < cs.length) :
    Act0 C ⟨none, .store t x y, ty, pos, aft, g⟩ τ F H (H.set j (.mem b (cs.set off v) n)) := by
  have hc := cells_one h1
  have := a_store (C := C) (F := F) (ty := ty) (pos := pos) (aft := aft) (g := g) j hj hs (by rw [hc]; rfl) (by rw [hc]; simp [h1]) hx hy (by rw [hc]; simp; omega)
  have he : putAt cs off v.cells.toList = cs.set off v := by
    rw [hc, List.set_eq_take_append_cons_drop]
    simp [putAt, hfit]
  rw [he] at this
  exact this
def zeroCells? (P : Program) (t : TypeId) : Option (List Value) := ((P.info? t).bind (·.zero)).map fun z => z.cells.toList
theorem a_alloc {cs : List Value} (hz : zeroCells? C.P t = some cs) : Act1 C ⟨dst, .alloc t, ty, pos, aft, g⟩ τ F H (fun v H' => ∃ b, v = .pointer (some ⟨b, 0, none⟩) ∧ H' = .mem b cs cs.length :: H) := by
  intro a w ha hw
  unfold zeroCells? at hz
  obtain ⟨z, hz1, hz2⟩ := Option.map_eq_some_iff.1 hz
  obtain ⟨i, hi, hiz⟩ := Option.bind_eq_some_iff.1 hz1
  refine ⟨.pointer (some ⟨w.heap.size, 0, none⟩), .mem w.heap.size cs cs.length :: H, w.alloc (.cells z.cells t), ?_, ⟨_, rfl, rfl⟩, hw.new (o := .cells z.cells t) rfl rfl rfl rfl rfl ?_⟩
  · simp [execOp, Instr.alloc, zeroValue, typeInfo, hi, hiz, newVar, newRow]
  · refine ⟨[], t, ?_, by simp⟩
    rw [heap_alloc_new]
    simp [← hz2]
theorem a_box {v : Value} (hx : ev τ x = some v) : Act1 C ⟨dst, .box t x, ty, pos, aft, g⟩ τ F H (fun r H' => ∃ b, r = .pointer (some ⟨b, 0, none⟩) ∧ H' = .mem b v.cells.toList v.cells.toList.length :: H) := by
  intro a w ha hw
  refine ⟨.pointer (some ⟨w.heap.size, 0, none⟩), .mem w.heap.size v.cells.toList v.cells.toList.length :: H, w.alloc (.cells v.cells t), ?_, ⟨_, rfl, rfl⟩, hw.new (o := .cells v.cells t) rfl rfl rfl rfl rfl ?_⟩
  · simp [execOp, ha.eval hx, Instr.box, newVar, newRow]
  · refine ⟨[], t, ?_, by simp⟩
    rw [heap_alloc_new]
    simp
inductive Bf where
  | nil
  | at (b cap : Nat)
def Bf.addr : Bf → Option Addr
  | .nil => none
  | .at b _ => some ⟨b, 0, none⟩
def Bf.cp : Bf → Nat
  | .nil => 0
  | .at _ cap => cap
abbrev Bf.val (bf : Bf) (n : Nat) : Value := .slice bf.addr n bf.cp
def Bf.ents (sz : Nat) : Bf → List Value → List Ent
  | .nil, _ => []
  | .at b cap, cs => [.mem b cs (cap * sz)]
def Bf.ok : Bf → Nat → Prop
  | .nil, n => n = 0
  | .at _ cap, n => n ≤ cap
structure AppT (P : Program) (t : TypeId) (sz bytes : Nat) : Prop where
  ex : ∃ e i z, P.underlying t = some (.slice e) ∧ P.info? e = some i ∧ i.zero = some z ∧ i.size = sz ∧ i.bytes = bytes ∧ z.cells.size = sz
  pos : 0 < sz
theorem a_append {bf : Bf} {n m sz bytes : Nat} {xs ys : List Value} {v : Value} {H1 : List Ent} (hT : AppT C.P t sz bytes) (hx : ev τ x = some (bf.val n)) (hok : bf.ok n) (hl : xs.length = n * sz)
    (hH : H = bf.ents sz xs ++ H1) (hy : ev τ y = some v) (hv : Sl F H sz v m ys) (h1 : ys.all oneCellB = true) (h63 : n + m ≤ maxLen) (hby : (n + m) * bytes ≤ 140737488355328) :
    Act1 C ⟨dst, .call { callee := .builtin .append, args := #[x, y], argTypes := #[t, t] }, ty, pos, aft, g⟩ τ F H
      (fun r H' => ∃ bf' : Bf, r = bf'.val (n + m) ∧ bf'.ok (n + m) ∧ H' = bf'.ents sz (xs ++ ys) ++ H1) := by
  intro a w ha hw
  obtain ⟨⟨e, i, z, ht, hi, hz, hsz, hbytes, hzs⟩, hpos⟩ := hT
  subst hsz hbytes
  obtain ⟨a0, cap0, rfl, _⟩ := hv.shape
  have hyl := hv.len
  obtain ⟨_, hcells⟩ := hv.cells hw.held
  have hops : ∀ (s : Value) (r : Value) (w' : World), (Builtin.append_ #[t, t] ty #[s, .slice a0 m cap0]).run C.P w = .ok r w' → a.eval x = s →
      (execOp a.eval ⟨dst, .call { callee := .builtin .append, args := #[x, y], argTypes := #[t, t] }, ty, pos, aft, g⟩).run C.P w = .ok (.value r) w' := fun s r w' hr hs => by
    rw [execOp_builtin_run (s := Builtin.append_ #[t, t] ty #[a.eval x, a.eval y]) (r := .ok r w') (fun _ => by simp [builtin]) (by rw [hs, ha.eval hy]; exact hr)]
    rfl
  have hsmall : n + m ≤ 9223372036854775807 := by simp only [maxLen] at h63; omega
  -- the new block
  have grown : ∀ (W : World), St C.O F H W → ∀ newcap, n + m ≤ newcap → W.heap.size = w.heap.size → St C.O F (Bf.ents i.size (.at w.heap.size newcap) (xs ++ ys) ++ H1)
      (W.alloc (.cells (xs.toArray ++ ys.toArray ++ Builtin.zeroCells z.cells (newcap - (n + m))) e)) := fun W hW newcap hle hs => by
    have hW1 : St C.O F H1 W := hW.drop (by rw [hH]; exact List.sublist_append_right _ _)
    refine hW1.new (o := .cells (xs.toArray ++ ys.toArray ++ Builtin.zeroCells z.cells (newcap - (n + m))) e) rfl rfl rfl rfl hs.symm ?_
    refine ⟨(Builtin.zeroCells z.cells (newcap - (n + m))).toList, e, ?_, ?_⟩
    · rw [← hs, heap_alloc_new]
      congr 2
      apply Array.ext'
      simp
    · simp only [List.length_append, Array.length_toList, size_zeroCells, hzs, hl, hyl, ← Nat.add_mul]
      congr 1
      omega
  have hev := ha.eval hx
  cases bf with
  | nil =>
    have hn : n = 0 := hok
    subst hn
    have hxs : xs = [] := List.eq_nil_of_length_eq_zero (by simpa using hl)
    subst hxs
    by_cases hm : m = 0
    · subst hm
      have hys : ys = [] := List.eq_nil_of_length_eq_zero (by simpa using hyl)
      subst hys
      refine ⟨.slice none 0 0, H, w, hops _ _ _ ?_ hev, ⟨.nil, rfl, rfl, by simpa [Bf.ents] using hH⟩, hw⟩
      have hf := hv.firstCells (P := C.P) hw.held
      simp [Bf.addr, Bf.cp, Builtin.append_, run_underlying ht, sizeOf, typeInfo, hi, Builtin.lenOf, hf]
    · obtain ⟨b, off, cap, heq, _, hc⟩ := hv.view (Nat.mul_pos (by omega) hpos)
      simp only [Value.slice.injEq] at heq
      obtain ⟨rfl, _, rfl⟩ := heq
      have hr := run_append_nil (P := C.P) w t ty e i z ht hi hz ⟨b, off, none⟩ m cap0 ys hyl (fun j u hj => by
        obtain ⟨b', hb', h'⟩ := hcells j u hj
        simp only [Option.some.injEq] at hb'
        subst hb'
        exact h') (by omega) (by omega) (by simp only [Nat.zero_add] at hby; omega)
      have hge := grownCap_ge w m 0 e
      have hgr := grown w.drew (hw.drew _) (grownCap w m 0 e) (by omega) rfl
      simp only [List.nil_append, Nat.zero_add] at hgr ⊢
      refine ⟨_, _, _, hops _ _ _ hr hev, ⟨.at w.heap.size (grownCap w m 0 e), rfl, hge, rfl⟩, ?_⟩
      simpa using hgr
  | «at» b cap =>
    have hle : n ≤ cap := hok
    have hj : H[0]? = some (.mem b xs (cap * i.size)) := by rw [hH]; rfl
    obtain ⟨rest, e', hb, hlen⟩ := hw.own _ (List.mem_of_getElem? hj)
    by_cases hroom : n + m ≤ cap
    · have hf := hv.firstCells (P := C.P) hw.held
      have hfit : n * i.size + ys.length ≤ cap * i.size := by rw [hyl, ← Nat.add_mul]; exact Nat.mul_le_mul_right _ hroom
      have hst := run_storeCells_at C.P b (n * i.size) e' ys 0 (xs ++ rest).toArray w hb (by simp only [Nat.add_zero, List.size_toArray, hlen]; exact hfit) (fun u hu => by rw [oneCell_eq]; exact List.all_eq_true.1 h1 u hu)
      simp only [Nat.add_zero] at hst
      have e1 : (xs ++ rest).toArray.toList.take (n * i.size) ++ ys ++ (xs ++ rest).toArray.toList.drop (n * i.size + ys.length) = (xs ++ ys) ++ rest.drop ys.length := by
        have hrl : ys.length ≤ rest.length := by
          have := hlen
          simp only [List.length_append, hl] at this
          omega
        show (xs ++ rest).take (n * i.size) ++ ys ++ (xs ++ rest).drop (n * i.size + ys.length) = _
        rw [← hl, List.take_left, List.drop_append]
        have : xs.drop (xs.length + ys.length) = [] := List.drop_eq_nil_of_le (by omega)
        rw [this]
        simp
      rw [e1] at hst
      refine ⟨.slice (some ⟨b, 0, none⟩) (n + m) cap, H.set 0 (.mem b (xs ++ ys) (cap * i.size)), w.setRow b ((xs ++ ys) ++ rest.drop ys.length).toArray, hops _ _ _ ?_ hev, ⟨.at b cap, rfl, hroom, by rw [hH]; rfl⟩,
        hw.set hj rfl rfl rfl (fun k hk => setRow_other w b k _ hk) ⟨rest.drop ys.length, e', setRow_heap w b _ _ e' _ hb, ?_⟩⟩
      · have hadd : (⟨b, 0, none⟩ : Addr).add (n * i.size) = ⟨b, n * i.size, none⟩ := by
          unfold Addr.add
          split
          · rename_i h0; rw [h0]
          · simp
        simp [Bf.addr, Bf.cp, Builtin.append_, run_underlying ht, sizeOf, typeInfo, hi, Builtin.lenOf, hroom, hf, hadd, hst]
      · have := hlen
        simp only [List.length_append, List.length_drop] at this ⊢
        omega
    · have hm : 0 < m := by omega
      obtain ⟨b2, off, cap2, heq, _, hc⟩ := hv.view (Nat.mul_pos hm hpos)
      simp only [Value.slice.injEq] at heq
      obtain ⟨rfl, _, rfl⟩ := heq
      have hr := run_append_grow (P := C.P) w t ty e i z ht hi hz ⟨b, 0, none⟩ n cap xs hl (fun j u hj => by
        have hadd : (⟨b, 0, none⟩ : Addr).add j = ⟨b, j, none⟩ := by
          unfold Addr.add
          split
          · rename_i h0; rw [h0]
          · simp
        have hjl : j < xs.length := by
          rcases Nat.lt_or_ge j xs.length with h | h
          · exact h
          · simp [List.getElem?_eq_none h] at hj
        rw [hadd]
        simp only [World.cell?, hb]
        simp [List.getElem?_append_left hjl, hj]) ⟨b2, off, none⟩ m cap0 ys hyl (fun j u hj => by
        obtain ⟨b', hb', h'⟩ := hcells j u hj
        simp only [Option.some.injEq] at hb'
        subst hb'
        exact h') (by omega) (by omega) (growslice_fits (by omega) hby)
      have hge := grownCap_ge w (n + m) cap e
      exact ⟨_, _, _, hops _ _ _ hr hev, ⟨.at w.heap.size (grownCap w (n + m) cap e), rfl, hge, rfl⟩, grown w.drew (hw.drew _) _ hge rfl⟩
theorem a_appendP (Pre : List Ent) {bf : Bf} {n m sz bytes : Nat} {xs ys : List Value} {v : Value} {H1 : List Ent} (hT : AppT C.P t sz bytes) (hx : ev τ x = some (bf.val n)) (hok : bf.ok n) (hl : xs.length = n * sz)
    (hH : H = Pre ++ (bf.ents sz xs ++ H1)) (hy : ev τ y = some v) (hv : Sl F H sz v m ys) (h1 : ys.all oneCellB = true) (h63 : n + m ≤ maxLen) (hby : (n + m) * bytes ≤ 140737488355328) :
    Act1 C ⟨dst, .call { callee := .builtin .append, args := #[x, y], argTypes := #[t, t] }, ty, pos, aft, g⟩ τ F H
      (fun r H' => ∃ bf' : Bf, r = bf'.val (n + m) ∧ bf'.ok (n + m) ∧ H' = Pre ++ (bf'.ents sz (xs ++ ys) ++ H1)) := by
  intro a w ha hw
  have sw : ∀ E : List Ent, (Pre ++ (E ++ H1)).Perm (E ++ (Pre ++ H1)) := fun E => by
    rw [← List.append_assoc, ← List.append_assoc]
    exact List.Perm.append_right H1 List.perm_append_comm
  have hp : H.Perm (bf.ents sz xs ++ (Pre ++ H1)) := by rw [hH]; exact sw _
  obtain ⟨r, H', w', hr, ⟨bf', h2, h3, h4⟩, hst⟩ := a_append (C := C) (F := F) (H := bf.ents sz xs ++ (Pre ++ H1)) (ty := ty) (pos := pos) (aft := aft) (g := g) (dst := dst) hT hx hok hl rfl hy (hv.mono (Fz.le_refl F) hp.subset) h1 h63 hby a w ha (hw.perm hp)
  subst h4
  exact ⟨r, _, w', hr, ⟨bf', h2, h3, rfl⟩, hst.perm (sw _).symm⟩
theorem Bf.oneCell (bf : Bf) (n : Nat) : oneCellB (bf.val n) = true := rfl
theorem j_freezeBf {X : Act → World → Prop} {bf : Bf} {sz n : Nat} {cs : List Value} {Fr : List Ent} (hok : bf.ok n) (hl : cs.length = n * sz) (h : ∀ F', F.le F' → Sl F' [] sz (bf.val n) n cs → Jd C τ F' Fr X) : Jd C τ F (bf.ents sz cs ++ Fr) X := by
  cases bf with
  | nil =>
    have hn : n = 0 := hok
    subst hn
    have hcs : cs = [] := List.eq_nil_of_length_eq_zero (by simpa using hl)
    subst hcs
    exact h F (Fz.le_refl _) (Sl.nil _ _ _)
  | «at» b cap =>
    refine j_freeze 0 rfl fun F' rest e hle hF' _ _ => ?_
    refine h F' hle ⟨_, cap, rfl, hl, hok, by simp [Bf.addr], fun i c hc => ⟨b, 0, rfl, ?_⟩⟩
    refine cell_frz hF' ?_
    have hlt : i < cs.length := by
      rcases Nat.lt_or_ge i cs.length with h | h
      · exact h
      · simp [List.getElem?_eq_none h] at hc
    simp only [Nat.zero_add, List.getElem?_toArray]
    rw [List.getElem?_append_left hlt]
    exact hc
theorem Bf.reads {bf : Bf} {sz n : Nat} {cs : List Value} {F : Fz} {H : List Ent} (hok : bf.ok n) (hl : cs.length = n * sz) (hH : bf.ents sz cs ⊆ H) : Sl F H sz (bf.val n) n cs := by
  cases bf with
  | nil =>
    have hn : n = 0 := hok
    subst hn
    have hcs : cs = [] := List.eq_nil_of_length_eq_zero (by simpa using hl)
    subst hcs
    exact Sl.nil _ _ _
  | «at» b cap => exact ⟨_, cap, rfl, hl, hok, by simp [Bf.addr], fun i c hc => ⟨b, 0, rfl, cell_own (hH (List.mem_cons_self ..)) (by simpa using hc)⟩⟩
def buildL (places : List (Nat × Nat)) : List Value → List (Nat × Value) → Option (List Value)
  | cs, [] => some cs
  | cs, (i, v) :: r => match places[i]? with
    | some (off, size) => if v.cells.size ≠ size ∨ off + v.cells.size > cs.length then none else buildL places (putAt cs off v.cells.toList) r
    | none => none
def buildV (P : Program) (t : TypeId) (ps : List (Nat × Value)) : Option (List Value) :=
  match P.underlying t with
  | some (.struct fields) => match zeroCells? P t, fields.toList.mapM (fun f => (P.info? f.type).map fun i => (f.offset, i.size)) with
    | some z, some places => buildL places z ps
    | _, _ => none
  | _ => none
theorem fold_put (cells : Array Value) (off : Nat) (vs : Array Value) (h : off + vs.size ≤ cells.size) : (vs.zipIdx.foldl (fun cs (c, j) => cs.setIfInBounds (off + j) c) cells) = (putAt cells.toList off vs.toList).toArray := by
  have h2 := Great.foldl_set off vs.toList 0 cells
  have h1 : vs.zipIdx.foldl (fun cs (c, j) => cs.setIfInBounds (off + j) c) cells = (vs.toList.zipIdx 0).foldl (fun cs (x : Value × Nat) => cs.setIfInBounds (off + x.2) x.1) cells := by
    rw [← Array.foldl_toList, Array.toList_zipIdx]
  rw [h1]
  apply Array.ext_getElem?
  intro k
  rw [h2.2 k]
  simp only [putAt, List.getElem?_toArray, Nat.add_zero, Array.length_toList]
  by_cases hk : off ≤ k ∧ k < off + vs.size ∧ k < cells.size
  · rw [if_pos hk, List.append_assoc, List.getElem?_append_right (by simp; omega), List.getElem?_append_left (by simp; omega)]
    simp
    congr 1
    omega
  · rw [if_neg hk]
    by_cases hk1 : k < off
    · rw [List.append_assoc, List.getElem?_append_left (by simp; omega)]
      simp [hk1]
    · by_cases hk2 : k < off + vs.size
      · omega
      · rw [List.getElem?_append_right (by simp; omega)]
        simp only [List.length_append, List.length_take, Array.length_toList, List.getElem?_drop, Array.getElem?_toList]
        congr 1
        omega
theorem fill_buildL (places : List (Nat × Nat)) : ∀ (ps : List (Nat × Value)) (cells : Array Value) (cs : List Value), buildL places cells.toList ps = some cs → Instr.fill (places.toArray[·]?) cells ps = some cs.toArray
  | [], cells, cs, h => by simp [buildL] at h; subst h; simp [Instr.fill]
  | (i, v) :: r, cells, cs, h => by
    simp only [buildL] at h
    cases hp : places[i]? with
    | none => simp [hp] at h
    | some p =>
      obtain ⟨off, size⟩ := p
      simp only [hp] at h
      split at h
      · cases h
      · rename_i hne
        have h1 : v.cells.size = size := by
          rcases Nat.decEq v.cells.size size with h0 | h0
          · exact absurd (.inl h0) hne
          · exact h0
        have h2 : ¬ off + v.cells.size > cells.size := fun h0 => hne (.inr (by simpa using h0))
        have hb : (decide (v.cells.size ≠ size) || decide (off + v.cells.size > cells.size)) = false := by simp [h1]; omega
        simp only [Instr.fill, List.getElem?_toArray, hp]
        rw [if_neg (by simp [h1]; omega)]
        rw [fold_put cells off v.cells (by omega)]
        have := fill_buildL places r (putAt cells.toList off v.cells.toList).toArray cs h
        simpa using this
theorem built_of {P : Program} {t : TypeId} {ps : List (Nat × Value)} {cs : List Value} (h : buildV P t ps = some cs) : P.built t ps = some cs.toArray := by
  unfold buildV at h
  cases hu : P.underlying t with
  | none => simp [hu] at h
  | some d =>
    cases d <;> try (simp [hu] at h; done)
    rename_i fields
    simp only [hu] at h
    cases hz : zeroCells? P t with
    | none => simp [hz] at h
    | some z =>
      cases hm : fields.toList.mapM (fun f => (P.info? f.type).map fun i => (f.offset, i.size)) with
      | none => simp [hz, hm] at h
      | some places =>
        simp only [hz, hm] at h
        unfold zeroCells? at hz
        obtain ⟨zv, hz1, hz2⟩ := Option.map_eq_some_iff.1 hz
        obtain ⟨it, hit, hzv⟩ := Option.bind_eq_some_iff.1 hz1
        unfold Program.built
        simp only [hit, hu, hzv, hm]
        exact fill_buildL places ps zv.cells cs (by rw [hz2]; exact h)
theorem v_build {parts : Array (Nat × Operand)} {cs : List Value} (hp : allEv τ (parts.toList.map (·.2)) = true) (hb : buildV C.P t (parts.toList.map fun p => (p.1, evD τ p.2)) = some cs) :
    Val C ⟨dst, .build t parts, ty, pos, aft, g⟩ τ F H (.agg cs.toArray) := fun a w ha _ => by
  have hparts : (parts.map fun (j, x) => (j, a.eval x)).toList = parts.toList.map fun p => (p.1, evD τ p.2) := by
    rw [Array.toList_map]
    apply List.map_congr_left
    intro p hm
    obtain ⟨j, y⟩ := p
    have := List.all_eq_true.1 hp y (List.mem_map.2 ⟨(j, y), hm, rfl⟩)
    simp only [evD_eq ha this]
  have hrun := run_build (P := C.P) w t (parts.map fun (j, x) => (j, a.eval x)) cs.toArray (by rw [hparts]; exact built_of hb)
  simp only [execOp, Sem.run_bind, hrun]
  rfl
end
end Go.SX
namespace Go.SX
open Go
theorem sliced_add (b off k : Nat) : (⟨b, off, none⟩ : Addr).add k = ⟨b, off + k, none⟩ := by unfold Addr.add; split <;> simp_all
theorem Sl.sliced {F : Fz} {H : List Ent} {sz n l h cap : Nat} {a : Option Addr} {cs : List Value} (hs : Sl F H sz (.slice a n cap) n cs) (h1 : l ≤ h) (h2 : h ≤ n) :
    Sl F H sz (Go.sliced a l h cap sz) (h - l) ((cs.drop (l * sz)).take ((h - l) * sz)) := by
  obtain ⟨a', cap', he, hl, hc, hn, hcell⟩ := hs
  simp only [Value.slice.injEq, true_and] at he
  obtain ⟨rfl, rfl⟩ := he
  have hlen : ((cs.drop (l * sz)).take ((h - l) * sz)).length = (h - l) * sz := by
    simp only [List.length_take, List.length_drop, hl, ← Nat.sub_mul]
    exact Nat.min_eq_left (Nat.mul_le_mul_right _ (by omega))
  refine ⟨_, cap - l, rfl, hlen, by omega, fun hnone => ?_, fun i c hi => ?_⟩
  · split at hnone
    · omega
    · have := hn (by simpa using hnone); omega
  · have hil : i < (h - l) * sz := by
      rw [← hlen]
      rcases Nat.lt_or_ge i ((cs.drop (l * sz)).take ((h - l) * sz)).length with h | h
      · exact h
      · simp [List.getElem?_eq_none h] at hi
    have hic : cs[l * sz + i]? = some c := by
      rw [List.getElem?_take] at hi
      simpa [hil] using hi
    obtain ⟨b, off, rfl, hcc⟩ := hcell _ c hic
    have hne : ¬ cap = l := by
      intro hcl
      have : h - l = 0 := by omega
      rw [this] at hil
      simp at hil
    rw [if_neg hne]
    exact ⟨b, off + l * sz, by rw [Option.map_some, sliced_add], by rw [Nat.add_assoc]; exact hcc⟩
section
variable {C : Cx} {τ : Env} {F : Fz} {H : List Ent} {dst : Option Nat} {ty t u : TypeId} {pos : String} {aft : Array Edge} {g : Option (Nat × Bool)} {x y z : Operand}
theorem isSlice_elem {P : Program} {t : TypeId} {sz : Nat} (ht : isSliceB P t = true) (hs : elemSize P t = some sz) : P.underlying t = some (.slice (P.elem t)) ∧ ∀ w, (sizeOf (P.elem t)).run P w = .ok sz w := by
  unfold isSliceB at ht
  unfold elemSize at hs
  cases hu : P.underlying t with
  | none => simp [hu] at ht
  | some d =>
    cases d <;> simp [hu] at ht
    rename_i e
    simp only [hu] at hs
    have he : P.elem t = e := by simp [Program.elem, hu]
    obtain ⟨i0, hi0, hsz⟩ := Option.map_eq_some_iff.1 hs
    rw [he]
    exact ⟨rfl, fun w => by simp [sizeOf, typeInfo, hi0, hsz]⟩
theorem v_sliceL {a0 : Option Addr} {n cap sz l : Nat} {kl : IntKind} {li : Int} (ht : isSliceB C.P t = true) (hs : elemSize C.P t = some sz) (hx : ev τ x = some (.slice a0 n cap)) (hy : ev τ y = some (.int kl li))
    (hli : li = l) (h1 : l ≤ n) : Val C ⟨dst, .slice t x (some y) none none, ty, pos, aft, g⟩ τ F H (Go.sliced a0 l n cap sz) := fun a w ha hw => by
  subst hli
  obtain ⟨h3, h4⟩ := isSlice_elem ht hs
  simp [execOp, ha.eval hx, ha.eval hy, run_sliceAt_slice w t _ _ _ _ h3, run_slice_l w t a0 n cap h3 kl l (by omega) (by omega), h4]
theorem v_sliceH {a0 : Option Addr} {n cap sz h : Nat} {kh : IntKind} {hi : Int} (ht : isSliceB C.P t = true) (hs : elemSize C.P t = some sz) (hx : ev τ x = some (.slice a0 n cap)) (hz : ev τ z = some (.int kh hi))
    (hhi : hi = h) (h2 : h ≤ cap) : Val C ⟨dst, .slice t x none (some z) none, ty, pos, aft, g⟩ τ F H (Go.sliced a0 0 h cap sz) := fun a w ha hw => by
  subst hhi
  obtain ⟨h3, h4⟩ := isSlice_elem ht hs
  simp [execOp, ha.eval hx, ha.eval hz, run_sliceAt_slice w t _ _ _ _ h3, run_slice_h w t a0 n cap h3 kh h (by omega) (by omega), h4]
theorem v_sliceHM {a0 : Option Addr} {n cap sz h m : Nat} {kh km : IntKind} {hi mi : Int} {q : Operand} (ht : isSliceB C.P t = true) (hs : elemSize C.P t = some sz) (hx : ev τ x = some (.slice a0 n cap)) (hz : ev τ z = some (.int kh hi)) (hq : ev τ q = some (.int km mi))
    (hhi : hi = h) (hmi : mi = m) (h1 : h ≤ m) (h2 : m ≤ cap) : Val C ⟨dst, .slice t x none (some z) (some q), ty, pos, aft, g⟩ τ F H (Go.sliced a0 0 h m sz) := fun a w ha hw => by
  subst hhi hmi
  obtain ⟨h3, h4⟩ := isSlice_elem ht hs
  simp [execOp, ha.eval hx, ha.eval hz, ha.eval hq, run_sliceAt_slice w t _ _ _ _ h3, run_slice_hm w t a0 n cap h3 kh km h m (by omega) (by omega) (by omega), h4]
def evs (τ : Env) : List Operand → Option (List Value)
  | [] => some []
  | x :: r => match ev τ x, evs τ r with
    | some v, some vs => some (v :: vs)
    | _, _ => none
theorem evs_eval {n : Nat} {a : Act} (ha : EnvOk n τ a) : ∀ {xs : List Operand} {vs : List Value}, evs τ xs = some vs → xs.map a.eval = vs
  | [], vs, h => by simp [evs] at h; subst h; rfl
  | x :: r, vs, h => by
    simp only [evs] at h
    split at h
    · rename_i v vs' hv hvs
      simp only [Option.some.injEq] at h
      subst h
      simp [ha.eval hv, evs_eval ha hvs]
    · cases h
theorem evs_length : ∀ {xs : List Operand} {vs : List Value}, evs τ xs = some vs → vs.length = xs.length
  | [], vs, h => by simp [evs] at h; subst h; rfl
  | x :: r, vs, h => by
    simp only [evs] at h
    split at h
    · rename_i v vs' hv hvs
      simp only [Option.some.injEq] at h
      subst h
      simp [evs_length hvs]
    · cases h
theorem a_buildS {len sz : Nat} {parts : Array (Nat × Operand)} (xs : List Operand) {vs cs : List Value} (hp : parts.toList = (xs.zipIdx 0).map fun x => (x.2, x.1)) (hlen : xs.length = len) (hv : evs τ xs = some vs)
    (hsl : isSliceB C.P t = true) (hsz : elemSize C.P t = some sz) (hzs : ((C.P.info? (C.P.elem t)).bind (·.zero)).isSome = true) (hpos : Nat.blt 0 (len * sz) = true) (hsmall : Nat.ble (len * sz) 16777216 = true)
    (hc : vs.all (fun v => v.cells.size == sz) = true) (hcs : (vs.flatMap fun v => v.cells.toList) = cs) :
    Act1 C ⟨dst, .buildSlice t len parts, ty, pos, aft, g⟩ τ F H (fun r H' => ∃ b, r = .slice (some ⟨b, 0, none⟩) len len ∧ H' = .mem b cs (len * sz) :: H) := by
  intro a w ha hw
  obtain ⟨hu, _⟩ := isSlice_elem hsl hsz
  have hie : ∃ i, C.P.info? (C.P.elem t) = some i ∧ i.size = sz := by
    unfold elemSize at hsz
    rw [hu] at hsz
    exact Option.map_eq_some_iff.1 hsz
  obtain ⟨i, hi, hisz⟩ := hie
  rw [hi] at hzs
  obtain ⟨z, hz⟩ := Option.isSome_iff_exists.1 hzs
  simp only [Option.bind_some] at hz
  have hpos' := Nat.le_of_ble_eq_true hpos
  have hsmall' := Nat.le_of_ble_eq_true hsmall
  have hvl := evs_length hv
  have hparts : (parts.map fun (j, x) => (j, a.eval x)).toList = (vs.zipIdx 0).map fun x => (x.2, x.1) := by
    rw [← evs_eval ha hv, Array.toList_map, hp, List.map_map, List.zipIdx_map, List.map_map]
    rfl
  have hcv : ∀ v ∈ vs, v.cells.size = sz := fun v hm => by simpa using List.all_eq_true.1 hc v hm
  have hfill := Great.fill_whole (s := sz) (Nat.pos_of_ne_zero (by rintro rfl; simp at hpos')) vs ((Array.range (len * sz)).map (z.cells[· % z.cells.size]!)) hcv (by simp; rw [hvl, hlen])
  have hrun := run_buildSlice (P := C.P) w t (C.P.elem t) len (parts.map fun (j, x) => (j, a.eval x)) _ i z hu hi hz (by rw [hisz]; omega) (by rw [hisz]; omega) (by rw [hparts, hisz]; exact hfill)
  refine ⟨.slice (some ⟨w.heap.size, 0, none⟩) len len, .mem w.heap.size cs (len * sz) :: H, w.alloc (.cells cs.toArray (C.P.elem t)), ?_, ⟨_, rfl, rfl⟩, hw.new (o := .cells cs.toArray (C.P.elem t)) rfl rfl rfl rfl rfl ?_⟩
  · rw [hcs] at hrun
    simp only [execOp, Sem.run_bind, hrun]; rfl
  · refine ⟨[], C.P.elem t, by rw [heap_alloc_new]; simp, ?_⟩
    have : ∀ l : List Value, (∀ v ∈ l, v.cells.size = sz) → (l.flatMap fun v => v.cells.toList).length = l.length * sz := fun l => by
      induction l with
      | nil => intro _; simp
      | cons v r ih =>
        intro hl
        simp only [List.flatMap_cons, List.length_append, Array.length_toList, List.length_cons]
        rw [ih (fun u hu => hl u (List.mem_cons_of_mem _ hu)), hl v List.mem_cons_self, Nat.add_mul, Nat.one_mul, Nat.add_comm]
    rw [List.append_nil, ← hcs, this vs hcv, hvl, hlen]
def callableB (P : Program) (g : FuncId) : Bool :=
  match P.funcs[g]? with
  | some fn => !(fn.name == "runtime.NumGoroutine") && fn.body.isSome
  | none => false
theorem callFunc_run {P : Program} {g : FuncId} (h : callableB P g = true) (args : Array Value) (w : World) : (callFunc g args).run P w = .ok (.enter g args) w := by
  unfold callableB at h
  cases hf : P.funcs[g]? with
  | none => simp [hf] at h
  | some fn =>
    simp only [hf, Bool.and_eq_true, Bool.not_eq_true'] at h
    have hn : ¬ fn.name = "runtime.NumGoroutine" := by
      have := h.1
      simpa using this
    have hb : ¬ fn.body = none := by
      intro hb; simp [hb] at h
    simp [callFunc, program, Sem.run, hf, hn, hb]
theorem c_call {f : FuncId} {args : List Operand} {ats : Array TypeId} {vs : List Value} (hf : callableB C.P f = true) (ha : evs τ args = some vs) :
    Calling C ⟨dst, .call { callee := .value (.func f), args := args.toArray, argTypes := ats }, ty, pos, aft, g⟩ τ f vs.toArray := fun a w henv => by
  have hargs := evs_eval henv ha
  have : (args.toArray.map a.eval) = vs.toArray := by rw [← hargs]; simp
  simp only [execOp, resolve, Sem.run_bind, this, Act.eval, Deferred.ofValue]
  simp [invoke, callFunc_run hf]
theorem c_callv {f : FuncId} {args : List Operand} {ats : Array TypeId} {vs : List Value} {first cap : Array Value} (hx : ev τ x = some (.func (.func f) first cap)) (hf : callableB C.P f = true) (ha : evs τ args = some vs) :
    Calling C ⟨dst, .call { callee := .value x, args := args.toArray, argTypes := ats }, ty, pos, aft, g⟩ τ f (first ++ vs.toArray ++ cap) := fun a w henv => by
  have hargs := evs_eval henv ha
  have : (args.toArray.map a.eval) = vs.toArray := by rw [← hargs]; simp
  simp only [execOp, resolve, Sem.run_bind, this, henv.eval hx, Deferred.ofValue]
  simp [invoke, callFunc_run hf]
end
end Go.SX
namespace Go.SX
open Go
def ptrV (a : Nat) : Value := .pointer (some ⟨a, 0, none⟩)
def nilP : Value := .pointer none
def noneV : Value := .tuple #[]
theorem bytes_one (l : List UInt8) : (bytesV l).all oneCellB = true := by simp [bytesV, byteV, oneCellB]
theorem perm_pre {α : Type} (x : α) (l m : List α) : ([x] ++ (l ++ m)).Perm (l ++ x :: m) := by
  rw [List.singleton_append]
  exact List.perm_middle.symm
section
variable {C : Cx} {τ : Env} {F : Fz} {H : List Ent} {dst : Option Nat} {ty t u : TypeId} {pos : String} {aft : Array Edge} {g : Option (Nat × Bool)} {x y z : Operand}
theorem v_slnil {e : TypeId} {a : Option Addr} {l c : Nat} (ht : C.P.underlying t = some (.slice e)) (hx : ev τ x = some (.slice a l c)) (hy : ev τ y = some (.slice none 0 0)) : Val C ⟨dst, .binOp .eql t x y u, ty, pos, aft, g⟩ τ F H (.bool a.isNone) :=
  v_bin hx hy rfl fun w _ => by
    have := run_equal_slice_nil (P := C.P) w t e a l c ht
    simp [binOp, this]
theorem a_buildS0 {sz : Nat} (hsl : isSliceB C.P t = true) (hsz : elemSize C.P t = some sz) :
    Act1 C ⟨dst, .buildSlice t 0 #[], ty, pos, aft, g⟩ τ F H (fun r H' => ∃ b, r = .slice (some ⟨b, 0, none⟩) 0 0 ∧ H' = .mem b [] 0 :: H) := by
  intro a w ha hw
  obtain ⟨hu, hs⟩ := isSlice_elem hsl hsz
  refine ⟨.slice (some ⟨w.heap.size, 0, none⟩) 0 0, .mem w.heap.size [] 0 :: H, w.alloc (.cells #[] (C.P.elem t)), ?_, ⟨_, rfl, rfl⟩, hw.new (o := .cells #[] (C.P.elem t)) rfl rfl rfl rfl rfl ?_⟩
  · have hrun : (Instr.buildSlice t 0 #[]).run C.P w = .ok (.slice (some ⟨w.heap.size, 0, none⟩) 0 0) (w.alloc (.cells #[] (C.P.elem t))) := by
      have h0 : Array.range 0 = #[] := by decide
      simp [Instr.buildSlice, run_underlying hu, hs w, Instr.fill, newRow, h0]
    simp only [execOp, Array.map_empty, Sem.run_bind, hrun]; rfl
  · exact ⟨[], C.P.elem t, by rw [heap_alloc_new]; simp, by simp⟩
theorem j_cut {X : Act → World → Prop} (j k : Nat) {b n : Nat} {cs : List Value} (hj : H[j]? = some (.mem b cs n)) (h : Jd C τ F (H.set j (.mem b (cs.take k) n)) X) : Jd C τ F H X := by
  intro a w ha hw
  refine h a w ha (hw.set hj rfl rfl rfl (fun _ _ => rfl) ?_)
  obtain ⟨rest, e, hb, hlen⟩ := hw.own _ (List.mem_of_getElem? hj)
  exact ⟨cs.drop k ++ rest, e, by rw [← List.append_assoc, List.take_append_drop]; exact hb, by rw [← List.append_assoc, List.take_append_drop]; exact hlen⟩
theorem Bf.cut (bf : Bf) (h sz : Nat) : Go.sliced bf.addr 0 h bf.cp sz = bf.val h := by
  cases bf with
  | nil => simp [Go.sliced, Bf.addr, Bf.cp]
  | «at» b cap =>
    simp only [Go.sliced, Bf.addr, Bf.cp, Nat.zero_mul, Nat.sub_zero]
    congr 1
    split
    · rfl
    · simp [Addr.add, Bf.addr]
theorem loadVar_agg {P : Program} {F : Fz} {H : List Ent} {w : World} {b off sz : Nat} {cs : List Value} (hw : Held F H w) (ht : isAggB P t = some true) (hs : (P.info? t).map (·.size) = some sz) (hl : cs.length = sz) (hc : ∀ i c, cs[i]? = some c → Cell F H b (off + i) c) :
    (loadVar t ⟨b, off, none⟩).run P w = .ok (.agg cs.toArray) w := by
  obtain ⟨i0, hi0, hsz⟩ := Option.map_eq_some_iff.1 hs
  have hcells := run_loadCells_list (P := P) w ⟨b, off, none⟩ cs (fun j v hj => by
    have := hc j v hj w hw
    by_cases hi : j = 0
    · subst hi; simpa [Addr.add] using this
    · simp only [Addr.add, if_neg hi]; exact this)
  rw [hl] at hcells
  simp [loadVar, isAgg_run ht, sizeOf, typeInfo, hi0, hsz, hcells]
theorem r_retC {k : List Item} {t0 b off sz : Nat} {cs : List Value} (hf : C.P.funcs[C.f]? = some C.fn) (hr : C.fn.results = #[.cell t0 t]) (h0 : τ.get? t0 = some (.pointer (some ⟨b, off, none⟩)))
    (ht : isAggB C.P t = some true) (hs : (C.P.info? t).map (·.size) = some sz) (hl : cs.length = sz) (hc : ∀ i c, cs[i]? = some c → Cell F H b (off + i) c) {H' : List Ent} (hd : H'.Sublist H) (hR : C.R (.agg cs.toArray) F H') : Run C (.code .ret :: k) τ F H := fun a w ha hw =>
  (Fin.ret (k := k) hf ha.defers (by
    have g0 : a.tmps[t0]?.getD undef = .pointer (some ⟨b, off, none⟩) := by simpa using (ha.get t0 _ h0).2
    have h1 := loadVar_agg hw.held ht hs hl hc
    simp [results, hr, g0, asAddr, h1]) (hw.drop hd) hR).1
theorem r_retC1 {k : List Item} {t0 t1 b off sz : Nat} {cs : List Value} {v1 : Value} (hf : C.P.funcs[C.f]? = some C.fn) (hr : C.fn.results = #[.cell t0 t, .tmp t1]) (h0 : τ.get? t0 = some (.pointer (some ⟨b, off, none⟩))) (h1 : τ.get? t1 = some v1)
    (ht : isAggB C.P t = some true) (hs : (C.P.info? t).map (·.size) = some sz) (hl : cs.length = sz) (hc : ∀ i c, cs[i]? = some c → Cell F H b (off + i) c) {H' : List Ent} (hd : H'.Sublist H) (hR : C.R (.tuple #[.agg cs.toArray, v1]) F H') : Run C (.code .ret :: k) τ F H := fun a w ha hw =>
  (Fin.ret (k := k) hf ha.defers (by
    have g0 : a.tmps[t0]?.getD undef = .pointer (some ⟨b, off, none⟩) := by simpa using (ha.get t0 _ h0).2
    have g1 : a.tmps[t1]?.getD undef = v1 := by simpa using (ha.get t1 _ h1).2
    have h1 := loadVar_agg hw.held ht hs hl hc
    simp [results, hr, g0, g1, asAddr, h1]) (hw.drop hd) hR).1
theorem Bf.ok_cp {bf : Bf} {n : Nat} (h : bf.ok n) : n ≤ bf.cp := by
  cases bf with
  | nil => exact Nat.le_of_eq h
  | «at» b cap => exact h
theorem Bf.ok_le {bf : Bf} {n m : Nat} (h : bf.ok n) (hm : m ≤ n) : bf.ok m := by
  cases bf with
  | nil =>
    have : n = 0 := h
    show m = 0
    omega
  | «at» b cap => exact Nat.le_trans hm h
theorem j_cutBf {X : Act → World → Prop} (Pre : List Ent) (k : Nat) {bf : Bf} {sz : Nat} {cs : List Value} {Fr : List Ent} (h : Jd C τ F (Pre ++ (bf.ents sz (cs.take k) ++ Fr)) X) : Jd C τ F (Pre ++ (bf.ents sz cs ++ Fr)) X := by
  cases bf with
  | nil => exact h
  | «at» b cap =>
    refine j_cut (b := b) (n := cap * sz) (cs := cs) Pre.length k ?_ ?_
    · rw [List.getElem?_append_right (Nat.le_refl _), Nat.sub_self]
      rfl
    · rw [List.set_append_right _ _ (Nat.le_refl _), Nat.sub_self]
      exact h
end
end Go.SX
namespace Go.SX
open Go Go.Proofs
theorem callable8 : callableB Tryz.prog 8 = true := by decide +kernel
theorem callable9 : callableB Tryz.prog 9 = true := by decide +kernel
theorem callable10 : callableB Tryz.prog 10 = true := by decide +kernel
theorem callable12 : callableB Tryz.prog 12 = true := by decide +kernel
theorem callable13 : callableB Tryz.prog 13 = true := by decide +kernel
theorem callable14 : callableB Tryz.prog 14 = true := by decide +kernel
theorem callable15 : callableB Tryz.prog 15 = true := by decide +kernel
theorem callable17 : callableB Tryz.prog 17 = true := by decide +kernel
theorem callable18 : callableB Tryz.prog 18 = true := by decide +kernel
theorem callable19 : callableB Tryz.prog 19 = true := by decide +kernel
theorem callable20 : callableB Tryz.prog 20 = true := by decide +kernel
theorem callable21 : callableB Tryz.prog 21 = true := by decide +kernel
theorem callable22 : callableB Tryz.prog 22 = true := by decide +kernel
theorem callable23 : callableB Tryz.prog 23 = true := by decide +kernel
theorem callable24 : callableB Tryz.prog 24 = true := by decide +kernel
theorem callable25 : callableB Tryz.prog 25 = true := by decide +kernel
theorem callable26 : callableB Tryz.prog 26 = true := by decide +kernel
theorem callable27 : callableB Tryz.prog 27 = true := by decide +kernel
theorem callable28 : callableB Tryz.prog 28 = true := by decide +kernel
theorem callable29 : callableB Tryz.prog 29 = true := by decide +kernel
theorem callable30 : callableB Tryz.prog 30 = true := by decide +kernel
theorem callable31 : callableB Tryz.prog 31 = true := by decide +kernel
theorem callable32 : callableB Tryz.prog 32 = true := by decide +kernel
theorem callable33 : callableB Tryz.prog 33 = true := by decide +kernel
theorem callable34 : callableB Tryz.prog 34 = true := by decide +kernel
theorem callable36 : callableB Tryz.prog 36 = true := by decide +kernel
theorem callable37 : callableB Tryz.prog 37 = true := by decide +kernel
theorem callable38 : callableB Tryz.prog 38 = true := by decide +kernel
theorem callable39 : callableB Tryz.prog 39 = true := by decide +kernel
theorem callable40 : callableB Tryz.prog 40 = true := by decide +kernel
theorem callable41 : callableB Tryz.prog 41 = true := by decide +kernel
theorem callable42 : callableB Tryz.prog 42 = true := by decide +kernel
theorem callable43 : callableB Tryz.prog 43 = true := by decide +kernel
theorem callable44 : callableB Tryz.prog 44 = true := by decide +kernel
theorem callable45 : callableB Tryz.prog 45 = true := by decide +kernel
theorem callable46 : callableB Tryz.prog 46 = true := by decide +kernel
theorem callable47 : callableB Tryz.prog 47 = true := by decide +kernel
theorem callable48 : callableB Tryz.prog 48 = true := by decide +kernel
theorem callable49 : callableB Tryz.prog 49 = true := by decide +kernel
theorem callable50 : callableB Tryz.prog 50 = true := by decide +kernel
theorem callable51 : callableB Tryz.prog 51 = true := by decide +kernel
theorem callable52 : callableB Tryz.prog 52 = true := by decide +kernel
theorem callable53 : callableB Tryz.prog 53 = true := by decide +kernel
theorem callable54 : callableB Tryz.prog 54 = true := by decide +kernel
theorem callable55 : callableB Tryz.prog 55 = true := by decide +kernel
theorem callable56 : callableB Tryz.prog 56 = true := by decide +kernel
theorem callable57 : callableB Tryz.prog 57 = true := by decide +kernel
theorem callable58 : callableB Tryz.prog 58 = true := by decide +kernel
theorem callable59 : callableB Tryz.prog 59 = true := by decide +kernel
theorem callable60 : callableB Tryz.prog 60 = true := by decide +kernel
theorem callable61 : callableB Tryz.prog 61 = true := by decide +kernel
theorem callable62 : callableB Tryz.prog 62 = true := by decide +kernel
theorem callable63 : callableB Tryz.prog 63 = true := by decide +kernel
theorem callable64 : callableB Tryz.prog 64 = true := by decide +kernel
theorem callable65 : callableB Tryz.prog 65 = true := by decide +kernel
theorem callable66 : callableB Tryz.prog 66 = true := by decide +kernel
theorem callable67 : callableB Tryz.prog 67 = true := by decide +kernel
theorem callable68 : callableB Tryz.prog 68 = true := by decide +kernel
theorem callable69 : callableB Tryz.prog 69 = true := by decide +kernel
theorem callable70 : callableB Tryz.prog 70 = true := by decide +kernel
theorem callable71 : callableB Tryz.prog 71 = true := by decide +kernel
theorem callable72 : callableB Tryz.prog 72 = true := by decide +kernel
theorem callable73 : callableB Tryz.prog 73 = true := by decide +kernel
theorem callable74 : callableB Tryz.prog 74 = true := by decide +kernel
theorem callable75 : callableB Tryz.prog 75 = true := by decide +kernel
theorem callable76 : callableB Tryz.prog 76 = true := by decide +kernel
theorem callable77 : callableB Tryz.prog 77 = true := by decide +kernel
theorem callable78 : callableB Tryz.prog 78 = true := by decide +kernel
theorem callable79 : callableB Tryz.prog 79 = true := by decide +kernel
theorem callable80 : callableB Tryz.prog 80 = true := by decide +kernel
theorem callable81 : callableB Tryz.prog 81 = true := by decide +kernel
theorem callable82 : callableB Tryz.prog 82 = true := by decide +kernel
theorem callable83 : callableB Tryz.prog 83 = true := by decide +kernel
theorem callable84 : callableB Tryz.prog 84 = true := by decide +kernel
theorem callable85 : callableB Tryz.prog 85 = true := by decide +kernel
theorem callable86 : callableB Tryz.prog 86 = true := by decide +kernel
theorem callable87 : callableB Tryz.prog 87 = true := by decide +kernel
theorem callable88 : callableB Tryz.prog 88 = true := by decide +kernel
theorem callable89 : callableB Tryz.prog 89 = true := by decide +kernel
theorem callable90 : callableB Tryz.prog 90 = true := by decide +kernel
theorem callable91 : callableB Tryz.prog 91 = true := by decide +kernel
theorem callable92 : callableB Tryz.prog 92 = true := by decide +kernel
theorem callable93 : callableB Tryz.prog 93 = true := by decide +kernel
theorem callable94 : callableB Tryz.prog 94 = true := by decide +kernel
theorem callable95 : callableB Tryz.prog 95 = true := by decide +kernel
theorem callable96 : callableB Tryz.prog 96 = true := by decide +kernel
theorem callable97 : callableB Tryz.prog 97 = true := by decide +kernel
theorem callable98 : callableB Tryz.prog 98 = true := by decide +kernel
theorem callable99 : callableB Tryz.prog 99 = true := by decide +kernel
theorem callable100 : callableB Tryz.prog 100 = true := by decide +kernel
theorem callable101 : callableB Tryz.prog 101 = true := by decide +kernel
theorem callable102 : callableB Tryz.prog 102 = true := by decide +kernel
theorem callable103 : callableB Tryz.prog 103 = true := by decide +kernel
theorem callable104 : callableB Tryz.prog 104 = true := by decide +kernel
theorem callable105 : callableB Tryz.prog 105 = true := by decide +kernel
theorem callable106 : callableB Tryz.prog 106 = true := by decide +kernel
theorem callable107 : callableB Tryz.prog 107 = true := by decide +kernel
theorem callable108 : callableB Tryz.prog 108 = true := by decide +kernel
theorem callable109 : callableB Tryz.prog 109 = true := by decide +kernel
theorem callable110 : callableB Tryz.prog 110 = true := by decide +kernel
theorem callable111 : callableB Tryz.prog 111 = true := by decide +kernel
theorem callable112 : callableB Tryz.prog 112 = true := by decide +kernel
theorem callable113 : callableB Tryz.prog 113 = true := by decide +kernel
theorem callable114 : callableB Tryz.prog 114 = true := by decide +kernel
theorem callable115 : callableB Tryz.prog 115 = true := by decide +kernel
theorem callable116 : callableB Tryz.prog 116 = true := by decide +kernel
theorem callable117 : callableB Tryz.prog 117 = true := by decide +kernel
theorem callable118 : callableB Tryz.prog 118 = true := by decide +kernel
theorem callable119 : callableB Tryz.prog 119 = true := by decide +kernel
theorem callable120 : callableB Tryz.prog 120 = true := by decide +kernel
theorem callable121 : callableB Tryz.prog 121 = true := by decide +kernel
theorem callable122 : callableB Tryz.prog 122 = true := by decide +kernel
theorem callable123 : callableB Tryz.prog 123 = true := by decide +kernel
theorem callable128 : callableB Tryz.prog 128 = true := by decide +kernel
end Go.SX
namespace Go.SX
open Go Go.ChangeShapes Go.WideShapes Go.RowKit
def allOf (W : World) : Fz := fun b => W.heap[b]?
theorem below_of_does {P : Program} {f : FuncId} {args : Array Value} {W : World} {v : Value} (h : Does P W f args (allOf W) [] (fun r _ _ => r = v)) :
    Calls P f args W fun e w' => e = .returned v ∧ Below W.heap.size W w' := by
  refine (h W ⟨rfl, rfl, rfl, fun b o hb => hb, by simp, by simp, by simp⟩).mono ?_
  rintro e w' ⟨r, F', H', rfl, rfl, hle, hst⟩
  refine ⟨rfl, hst.os, hst.tape, hst.output, ?_, fun k hk => ?_⟩
  · rcases Nat.eq_zero_or_pos W.heap.size with h0 | h0
    · omega
    · have h1 : allOf W (W.heap.size - 1) = some W.heap[W.heap.size - 1] := Array.getElem?_eq_getElem (by omega)
      have h2 := hst.frz _ _ (hle _ _ h1)
      have := (Array.getElem?_eq_some_iff.1 h2).1
      omega
  · have h1 : allOf W k = some W.heap[k] := Array.getElem?_eq_getElem hk
    rw [hst.frz _ _ (hle _ _ h1)]
    exact h1.symm
theorem cell_world {W : World} {H : List Ent} {b off : Nat} {v : Value} (h : W.cell? ⟨b, off, none⟩ = some v) : Cell (allOf W) H b off v := by
  intro w hw
  unfold World.cell? at h ⊢
  cases hb : W.heap[b]? with
  | none => simp [hb] at h
  | some o =>
    have := hw.1 b o hb
    simp only [hb] at h
    simp only [this]
    exact h
theorem spot_none {W : World} {x : Addr} {v : Value} (h : W.cell? x = some v) : x = ⟨x.block, x.off, none⟩ := by
  unfold World.cell? at h
  split at h
  · split at h
    · cases h
    · rename_i hs
      cases x with
      | mk b o s => cases s with
        | none => rfl
        | some _ => simp at hs
  · cases h
def InInts (k : IntKind) (W : World) (v : Value) (zs : List Int) : Prop :=
  Sl (allOf W) [] 1 v zs.length (zs.map (.int k)) ∧ ∀ n ∈ zs, (Lit.int k n).wf = true
theorem inInts_of {H : Type} {enc : TypeId × Value → H} {P : Program} {W : World} {base : Nat} {spare : Nat → Bool} {held : Bool} {t e : TypeId} {k : IntKind} {a : Option Addr} {len cap : Nat} {d : DataW H} {ps : List MemPlace} {ts : List TypeId} {ds : List (DataW H)} {j B : Nat}
    (hsz : (DataW.weightsEach P ts ds).all (· ≤ reachBytes) = true) (ht : ts[j]? = some t) (hd : ds[j]? = some d) (hu : P.underlying t = some (.slice e)) (he : P.underlying e = some (.int k)) (hc : P.cellsOf e = 1) (hB : P.bytesOf e = B)
    (h : DataW.Trod enc P W base spare held t (.slice a len cap) d ps) : ∃ zs, InInts k W (.slice a len cap) zs ∧ zs.length * B ≤ 140737488351232 := by
  obtain ⟨fuel, hf⟩ := h
  rcases open_ints hu he hc hf with ⟨hcs, _⟩ | ⟨x, l, c, zs, hcs, _, hl, _, hz, hx, hcell, hw⟩
  · simp [Value.cells] at hcs
    obtain ⟨rfl, rfl, rfl⟩ := hcs
    exact ⟨[], ⟨Sl.nil _ _ _, by simp⟩, by simp⟩
  · simp [Value.cells] at hcs
    obtain ⟨rfl, rfl, rfl⟩ := hcs
    obtain ⟨hx, _⟩ := Prod.mk.inj hx
    subst hx
    have z := sized_slice hsz ht hd hu
    rw [hB] at z
    have hl2 : len ≤ zs.length := by
      rw [hz]
      split
      · exact hl
      · exact Nat.le_refl _
    have h1 : (lits (H := H) k (zs.take len)).length + (lits (H := H) k (zs.drop len)).length = zs.length := by
      simp [lits]
      omega
    rw [h1] at z
    have hlen : (zs.take len).length = len := by simp; omega
    refine ⟨zs.take len, ⟨⟨some x, cap, by rw [hlen], by simp, by rw [hlen]; exact hl, by simp, fun i c hi => ?_⟩, fun n hn => hw n (List.mem_of_mem_take hn)⟩, ?_⟩
    · rw [List.getElem?_map] at hi
      obtain ⟨n, hn, rfl⟩ := Option.map_eq_some_iff.1 hi
      have hil : i < len := by
        have hlt : i < (zs.take len).length := by
          rcases Nat.lt_or_ge i (zs.take len).length with h | h
          · exact h
          · simp [List.getElem?_eq_none h] at hn
        omega
      have hz0 : 0 < zs.length := by omega
      have hsp := spot_none (hcell 0 hz0)
      have hx0 : x.add 0 = x := by simp [Addr.add]
      rw [hx0] at hsp
      refine ⟨x.block, x.off, by rw [← hsp], cell_world ?_⟩
      have := hcell i (by omega)
      rw [hsp, sliced_add] at this
      rw [this]
      rw [List.getElem?_take] at hn
      simp only [hil, if_true] at hn
      simp [List.getD, hn]
    · rw [hlen]
      exact Nat.le_trans (Nat.mul_le_mul_right _ hl2) z
end Go.SX
namespace Go.SX
open Go Go.Proofs
set_option maxRecDepth 4000
theorem oct_lay (O : World) (F : Fz) (a : Nat) (bf : Bf) (l m : List UInt8) (v : Value) (H1 : List Ent) (hok : bf.ok l.length) (hv : SlB F (.mem a [bf.val l.length] 1 :: (bf.ents 1 (bytesV l) ++ H1)) v m) (hn : l.length + m.length ≤ 140737488355328) :
    Does Tryz.prog O 117 #[ptrV a, v] F (.mem a [bf.val l.length] 1 :: (bf.ents 1 (bytesV l) ++ H1))
      (fun r F' H' => r = ptrV a ∧ F' = F ∧ ∃ bf' : Bf, bf'.ok (l ++ m).length ∧ H' = .mem a [bf'.val (l ++ m).length] 1 :: (bf'.ents 1 (bytesV (l ++ m)) ++ H1)) := by
  refine does_of_run (args := [_, _]) Tryz.func117 rfl rfl ?_
  refine r_seq (r_region rfl (o_vl rfl rfl (v_assign rfl) (o_end (r_seq (r_region rfl (o_vl rfl rfl (v_move rfl) (o_vl rfl rfl (v_move rfl) (o_vl rfl rfl (v_nilCheck rfl) (o_vl rfl rfl (v_field (k := 0) rfl rfl rfl) (o_vl rfl rfl (v_load rfl rfl (cell_at (j := 0) rfl rfl)) (o_vl rfl rfl (v_move rfl) (o_act rfl rfl rfl rfl (a_appendP (sz := 1) (bytes := 1) [.mem a [bf.val l.length] 1] ⟨⟨_, _, _, rfl, rfl, rfl, rfl, rfl, rfl⟩, by decide⟩ rfl hok (by simp) rfl rfl hv (bytes_one m) (by unfold maxLen; omega) (by omega)) ?_))))))))))))
  rintro v' H' ⟨bf', rfl, hok', rfl⟩
  refine o_vl rfl rfl (v_nilCheck rfl) (o_vl rfl rfl (v_field (k := 0) rfl rfl rfl) (o_act0 rfl rfl rfl (a_store1 0 rfl rfl (Bf.oneCell _ _) rfl rfl (by simp)) ?_))
  refine o_end (r_seq (r_region rfl (o_vl rfl rfl (v_move rfl) (o_vl rfl rfl (v_assign rfl) (o_end ?_)))))
  refine r_ret1 Tryz.func117 rfl rfl ⟨⟨rfl, rfl, bf', by simpa using hok', ?_⟩, Fz.le_refl _⟩
  simp
def leB : Nat → Nat → List UInt8
  | 0, _ => []
  | k + 1, n => UInt8.ofNat n :: leB k (n / 256)
@[simp] theorem leB_length : ∀ k n, (leB k n).length = k
  | 0, _ => rfl
  | k + 1, n => by simp [leB, leB_length k]
theorem leB_snoc : ∀ k n, leB (k + 1) n = leB k n ++ [UInt8.ofNat (n / 256 ^ k)]
  | 0, n => by simp [leB]
  | k + 1, n => by
    rw [leB, leB_snoc k (n / 256)]
    simp only [leB, List.cons_append]
    rw [Nat.div_div_eq_div_mul, Nat.pow_succ, Nat.mul_comm 256]
theorem u8_of (m : Nat) : IntKind.u8.wrap (m : Int) = ((UInt8.ofNat m).toNat : Int) := by
  rw [wrap_u8']
  simp
theorem u64_shr (n i : Nat) (hi : i ≤ 8) : Int.fdiv (n : Int) (2 ^ (min (8 * (i : Int)).toNat IntKind.u64.bits)) = ((n / 256 ^ i : Nat) : Int) := by
  have h1 : (8 * (i : Int)).toNat = 8 * i := by omega
  have h2 : min (8 * i) IntKind.u64.bits = 8 * i := by show min (8 * i) 64 = 8 * i; omega
  rw [h1, h2, Int.fdiv_eq_ediv_of_nonneg _ (by exact_mod_cast Nat.zero_le _)]
  have h3 : (2 : Int) ^ (8 * i) = ((256 ^ i : Nat) : Int) := by
    rw [Int.pow_mul]
    simp
  rw [h3]
  exact (Int.natCast_ediv n (256 ^ i)).symm
theorem perm_in {α : Type} (x y : α) (l m : List α) : (x :: y :: (l ++ m)).Perm (y :: (l ++ x :: m)) := (List.Perm.swap _ _ _).trans (List.perm_middle.symm.cons _)
theorem drop_in {α : Type} (x y : α) (l m : List α) : (y :: (l ++ m)).Sublist (y :: (l ++ x :: m)) := ((List.Sublist.refl l).append (List.sublist_cons_self x m)).cons_cons y
theorem oct_Num (O : World) (F : Fz) (a : Nat) (bf : Bf) (l : List UInt8) (n k : Nat) (Fr : List Ent) (hok : bf.ok l.length) (hk : k ≤ 8) (hl : l.length ≤ 140737488355000) :
    Does Tryz.prog O 96 #[ptrV a, .int .u64 n, .int .i64 k] F (.mem a [bf.val l.length] 1 :: (bf.ents 1 (bytesV l) ++ Fr))
      (fun r F' H' => r = ptrV a ∧ F' = F ∧ ∃ bf' : Bf, bf'.ok (l ++ leB k n).length ∧ H' = .mem a [bf'.val (l ++ leB k n).length] 1 :: (bf'.ents 1 (bytesV (l ++ leB k n)) ++ Fr)) := by
  refine does_of_run (args := [_, _, _]) Tryz.func96 rfl rfl ?_
  refine r_seq (r_region rfl (o_vl rfl rfl (v_assign rfl) (o_end (r_seq (r_seq (r_region rfl (o_vl rfl rfl (v_move rfl) (o_vl rfl rfl (v_move rfl) (o_end (r_block ?_))))))))))
  refine r_loop (fun i : Nat × Bf => i.1 ≤ k ∧ i.2.ok (l ++ leB i.1 n).length) (fun i => [(9, .int .i64 i.1), (8, .int .i64 k), (0, ptrV a), (1, .int .u64 n)]) (fun _ => F)
    (fun i => .mem a [i.2.val (l ++ leB i.1 n).length] 1 :: (i.2.ents 1 (bytesV (l ++ leB i.1 n)) ++ Fr)) (fun i => k - i.1) (0, bf) ⟨Nat.zero_le _, by simpa [leB] using hok⟩ ⟨rfl, rfl, rfl, rfl, trivial⟩ rfl (by simp [leB]) ?_
  rintro ⟨i, bf1⟩ ⟨hi, hok1⟩ IH
  dsimp only at hi hok1
  refine r_seq (r_region rfl (o_vl rfl rfl (v_lss rfl rfl) (o_end (r_seq (r_if rfl (fun h => ?_) (fun h => ?_))))))
  · refine r_skip (r_seq (r_block (r_seq (r_region rfl (o_vl rfl rfl (v_move rfl) (o_vl rfl rfl (v_assign rfl) (o_end (r_region rfl (o_vl rfl rfl (v_move rfl) (o_vl rfl rfl (v_move rfl) (o_vl rfl rfl (v_move rfl) (o_vl rfl rfl (v_mul rfl rfl (wrap_i64 (by omega) (by omega))) (o_vl rfl rfl (v_shr rfl rfl (by omega) (u64_shr n i (by omega))) ?_)))))))))))))
    refine o_vl rfl rfl (v_conv rfl rfl rfl (u8_of _)) (o_act rfl rfl rfl rfl (a_buildS (sz := 1) (cs := [byteV (UInt8.ofNat (n / 256 ^ i))]) [.tmp 17] rfl rfl rfl rfl rfl rfl rfl rfl rfl rfl) ?_)
    rintro v H' ⟨bb, rfl, rfl⟩
    refine j_perm (perm_in _ _ _ _) ?_
    refine o_call rfl rfl rfl rfl (c_call callable117 rfl) (oct_lay _ _ _ _ _ [UInt8.ofNat (n / 256 ^ i)] _ _ hok1 ⟨_, 1, rfl, rfl, by simp, by simp, fun j c hj => ⟨bb, 0, rfl, cell_own (cs := [byteV (UInt8.ofNat (n / 256 ^ i))]) (n := 1) (by simp) (by simpa [bytesV] using hj)⟩⟩ (by simp; omega)) ?_
    rintro v' F' H' ⟨rfl, rfl, bf2, hok2, rfl⟩ _
    refine j_drop (drop_in _ _ _ _) ?_
    refine o_end (r_inBlock (r_region rfl (o_vl rfl rfl (v_add rfl rfl (wrap_i64 (by omega) (by omega))) (o_vl rfl rfl (v_move rfl) (o_end ?_)))))
    have e : l ++ leB i n ++ [UInt8.ofNat (n / 256 ^ i)] = l ++ leB (i + 1) n := by simp [leB_snoc]
    dsimp only at hok2 ⊢
    rw [e] at hok2 ⊢
    refine j_keep ?_ (IH (i + 1, bf2) ⟨by dsimp only; omega, hok2⟩ (by dsimp only; omega))
    exact ⟨rfl, rfl, rfl, rfl, trivial⟩
  · obtain rfl : i = k := by omega
    refine r_exit rfl (r_seq (r_region rfl (o_vl rfl rfl (v_move rfl) (o_vl rfl rfl (v_assign rfl) (o_end ?_)))))
    exact r_ret1 Tryz.func96 rfl rfl ⟨⟨rfl, rfl, bf1, hok1, rfl⟩, Fz.le_refl _⟩
theorem oct_Done (O : World) (F : Fz) (a : Nat) (v : Value) (Fr : List Ent) :
    Does Tryz.prog O 98 #[ptrV a] F (.mem a [v] 1 :: Fr) (fun r F' H' => r = v ∧ F' = F ∧ H' = .mem a [v] 1 :: Fr) := by
  refine does_of_run (args := [_]) Tryz.func98 rfl rfl ?_
  refine r_seq (r_region rfl (o_vl rfl rfl (v_assign rfl) (o_end (r_seq (r_region rfl (o_vl rfl rfl (v_move rfl) (o_vl rfl rfl (v_nilCheck rfl) (o_vl rfl rfl (v_field (k := 0) rfl rfl rfl) (o_vl rfl rfl (v_load rfl rfl (cell_at (j := 0) rfl rfl)) (o_vl rfl rfl (v_assign rfl) (o_end ?_)))))))))))
  exact r_ret1 Tryz.func98 rfl rfl ⟨⟨rfl, rfl, rfl⟩, Fz.le_refl _⟩
def u32V (x : BitVec 32) : Value := .int .u32 (x.toNat : Int)
def bit (c : BitVec 32) : BitVec 32 := if c &&& 1 = 1 then (c >>> 1) ^^^ 0xedb88320 else c >>> 1
def bits8 : Nat → BitVec 32 → BitVec 32
  | 0, c => c
  | n + 1, c => bit (bits8 n c)
def crcB (c : BitVec 32) (b : UInt8) : BitVec 32 := bits8 8 (c ^^^ b.toBitVec.setWidth 32)
def crcL (c : BitVec 32) (l : List UInt8) : BitVec 32 := l.foldl crcB c
def crc (l : List UInt8) : BitVec 32 := ~~~ (crcL (~~~ 0) l)
theorem u32_ofInt (a : BitVec 32) : BitVec.ofInt 32 (a.toNat : Int) = a := by
  apply BitVec.eq_of_toNat_eq
  simp
theorem u32_xor (a b : BitVec 32) : bitOp .xor .u32 (a.toNat : Int) (b.toNat : Int) = ((a ^^^ b).toNat : Int) := by
  show IntKind.u32.wrap ((BitVec.ofInt 32 (a.toNat : Int) ^^^ BitVec.ofInt 32 (b.toNat : Int)).toNat : Int) = _
  rw [u32_ofInt, u32_ofInt]
  exact wrap_u32 (by omega) (by have := (a ^^^ b).isLt; omega)
theorem u32_and (a b : BitVec 32) : bitOp .and .u32 (a.toNat : Int) (b.toNat : Int) = ((a &&& b).toNat : Int) := by
  show IntKind.u32.wrap ((BitVec.ofInt 32 (a.toNat : Int) &&& BitVec.ofInt 32 (b.toNat : Int)).toNat : Int) = _
  rw [u32_ofInt, u32_ofInt]
  exact wrap_u32 (by omega) (by have := (a &&& b).isLt; omega)
theorem u32_compl (a : BitVec 32) : bitOp .xor .u32 (if IntKind.u32.signed then -1 else IntKind.u32.max) (a.toNat : Int) = ((~~~ a).toNat : Int) := by
  show IntKind.u32.wrap ((BitVec.ofInt 32 4294967295 ^^^ BitVec.ofInt 32 (a.toNat : Int)).toNat : Int) = _
  rw [u32_ofInt]
  have : BitVec.ofInt 32 4294967295 = BitVec.allOnes 32 := by decide
  rw [this, BitVec.allOnes_xor]
  exact wrap_u32 (by omega) (by have := (~~~ a).isLt; omega)
theorem u32_shr1 (a : BitVec 32) : Int.fdiv (a.toNat : Int) (2 ^ (min (1 : Int).toNat IntKind.u32.bits)) = ((a >>> 1).toNat : Int) := by
  show Int.fdiv (a.toNat : Int) 2 = _
  rw [BitVec.toNat_ushiftRight, Nat.shiftRight_eq_div_pow]
  simp [Int.fdiv_eq_ediv]
theorem u32_bit (a : BitVec 32) : ((a &&& 1).toNat : Int) = 1 ↔ a &&& 1 = 1 := by
  constructor
  · intro h; apply BitVec.eq_of_toNat_eq; simp at h ⊢; omega
  · intro h; rw [h]; rfl
theorem crcL_take (l : List UInt8) (i : Nat) (hil : i < l.length) : crcL (~~~ 0) (l.take (i + 1)) = bits8 8 (crcL (~~~ 0) (l.take i) ^^^ l[i].toBitVec.setWidth 32) := by
  rw [List.take_succ_eq_append_getElem hil]; unfold crcL; rw [List.foldl_append]; rfl
theorem oct_Sum (O : World) (F : Fz) (H : List Ent) (v : Value) (l : List UInt8) (hv : SlB F H v l) (hn : l.length < 9223372036854775807) :
    Does Tryz.prog O 118 #[v] F H (fun r F' H' => r = u32V (crc l) ∧ F' = F ∧ H' = H) := by
  obtain ⟨a0, cap, rfl, hcap⟩ := Sl.shape hv
  refine does_of_run (args := [_]) Tryz.func118 rfl rfl ?_
  refine r_seq (r_region rfl (o_vl rfl rfl (v_assign rfl) (o_end (r_seq (r_region rfl (o_vl rfl rfl (v_assign rfl) (o_end (r_seq (r_seq (r_region rfl (o_vl rfl rfl (v_move rfl) (o_vl rfl rfl (v_len rfl rfl) (o_vl rfl rfl (v_move rfl) ?_)))))))))))))
  refine o_end (r_block ?_)
  refine r_loop (fun i : Nat => i ≤ l.length) (fun i => [(8, .int .i64 i), (7, .int .i64 l.length), (6, .slice a0 l.length cap), (3, u32V (crcL (~~~ 0) (l.take i)))]) (fun _ => F) (fun _ => H) (fun i => l.length - i) 0 (Nat.zero_le _) ⟨rfl, rfl, rfl, rfl, trivial⟩ rfl rfl ?_
  intro i hi IH
  refine r_seq (r_region rfl (o_vl rfl rfl (v_lss rfl rfl) (o_end (r_seq (r_if rfl (fun h => ?_) (fun h => ?_))))))
  · have hil : i < l.length := by omega
    obtain ⟨b, off, cap', hab, _, hcell⟩ := Sl.view hv (by omega)
    simp only [Value.slice.injEq] at hab
    obtain ⟨rfl, _, rfl⟩ := hab
    refine r_skip (r_seq (r_block (r_seq (r_region rfl (o_vl rfl rfl (v_index1 rfl rfl rfl rfl hil) ?_)))))
    refine o_vl rfl rfl (v_load rfl rfl (hcell i (byteV l[i]) (by rw [bytesV_get, List.getElem?_eq_getElem hil]; rfl))) ?_
    refine o_vl rfl rfl (v_assign rfl) (o_end (r_seq (r_region rfl (o_vl rfl rfl (v_move rfl) (o_vl rfl rfl (v_move rfl) (o_vl rfl rfl (v_conv rfl rfl rfl (wrap_u32 (by omega) (by have := l[i].toNat_lt; omega))) (o_vl rfl rfl (v_xor rfl rfl (u32_xor _ (l[i].toBitVec.setWidth 32))) (o_vl rfl rfl (v_assign rfl) (o_end (r_seq (r_region rfl (o_vl rfl rfl (v_move rfl) (o_end ?_)))))))))))))
    refine r_block ?_
    have hc8 := crcL_take l i hil
    generalize crcL (~~~ 0) (l.take i) ^^^ l[i].toBitVec.setWidth 32 = c0 at *
    refine r_loop (fun k : Nat => k ≤ 8) (fun k => [(16, .int .i64 k), (3, u32V (bits8 k c0)), (8, .int .i64 i), (7, .int .i64 l.length), (6, .slice (some ⟨b, off, none⟩) l.length cap)]) (fun _ => F) (fun _ => H) (fun k => 8 - k) 0 (Nat.zero_le _) ⟨rfl, rfl, rfl, rfl, rfl, trivial⟩ rfl rfl ?_
    intro k hk IH2
    refine r_seq (r_region rfl (o_vl rfl rfl (v_lss rfl rfl) (o_end (r_seq (r_if rfl (fun hk8 => ?_) (fun hk8 => ?_))))))
    · refine r_skip (r_seq (r_block (r_seq (r_region rfl (o_vl rfl rfl (v_move rfl) (o_vl rfl rfl (v_and rfl rfl (u32_and _ 1)) (o_vl rfl rfl (v_eql rfl rfl) (o_end (r_if rfl (fun hbit => ?_) (fun hbit => ?_))))))))))
      · refine r_region rfl (o_vl rfl rfl (v_move rfl) (o_vl rfl rfl (v_shr rfl rfl (by decide) (u32_shr1 _)) (o_vl rfl rfl (v_xor rfl rfl (u32_xor _ 0xedb88320)) (o_vl rfl rfl (v_assign rfl) (o_end (r_inBlock (r_region rfl (o_vl rfl rfl (v_add rfl rfl (wrap_i64 (by omega) (by omega))) (o_vl rfl rfl (v_move rfl) (o_end ?_))))))))))
        refine j_keep ?_ (IH2 (k + 1) (by omega) (by omega))
        refine ⟨rfl, ?_, rfl, rfl, rfl, trivial⟩
        simp only [bits8, bit, if_pos ((u32_bit _).1 hbit)]
        rfl
      · refine r_region rfl (o_vl rfl rfl (v_move rfl) (o_vl rfl rfl (v_shr rfl rfl (by decide) (u32_shr1 _)) (o_vl rfl rfl (v_assign rfl) (o_end (r_inBlock (r_region rfl (o_vl rfl rfl (v_add rfl rfl (wrap_i64 (by omega) (by omega))) (o_vl rfl rfl (v_move rfl) (o_end ?_)))))))))
        refine j_keep ?_ (IH2 (k + 1) (by omega) (by omega))
        refine ⟨rfl, ?_, rfl, rfl, rfl, trivial⟩
        simp only [bits8, bit, if_neg (fun h => hbit ((u32_bit _).2 h))]
        rfl
    · obtain rfl : k = 8 := by omega
      refine r_exit rfl (r_inBlock (r_region rfl (o_vl rfl rfl (v_add rfl rfl (wrap_i64 (by omega) (by omega))) (o_vl rfl rfl (v_move rfl) (o_end ?_)))))
      refine j_keep ?_ (IH (i + 1) (by omega) (by omega))
      refine ⟨rfl, rfl, rfl, ?_, trivial⟩
      rw [hc8]; rfl
  · obtain rfl : i = l.length := by omega
    refine r_exit rfl (r_seq (r_region rfl (o_vl rfl rfl (v_move rfl) (o_vl rfl rfl (v_compl rfl (u32_compl _)) (o_vl rfl rfl (v_assign rfl) (o_end ?_))))))
    refine r_ret1 Tryz.func118 rfl rfl ⟨⟨?_, rfl, rfl⟩, Fz.le_refl _⟩
    simp [u32V, crc]
def sealB (l : List UInt8) : List UInt8 := l ++ leB 4 (crc l).toNat
@[simp] theorem sealB_length (l : List UInt8) : (sealB l).length = l.length + 4 := by simp [sealB]
theorem oct_Seal (O : World) (F : Fz) (v : Value) (l : List UInt8) (Fr : List Ent) (hv : SlB F Fr v l) (hn : l.length ≤ 140737488354000) :
    Does Tryz.prog O 97 #[v] F Fr (fun r F' H' => F' = F ∧ ∃ bf : Bf, bf.ok (sealB l).length ∧ r = bf.val (sealB l).length ∧ H' = bf.ents 1 (bytesV (sealB l)) ++ Fr) := by
  refine does_of_run (args := [_]) Tryz.func97 rfl rfl ?_
  refine r_seq (r_region rfl (o_vl rfl rfl (v_assign rfl) (o_end (r_seq (r_region rfl (o_vl rfl rfl (v_move rfl) (o_act rfl rfl rfl rfl (a_append (bf := .nil) (n := 0) (sz := 1) (bytes := 1) (xs := []) ⟨⟨_, _, _, rfl, rfl, rfl, rfl, rfl, rfl⟩, by decide⟩ rfl rfl rfl rfl rfl hv (bytes_one l) (by unfold maxLen; omega) (by omega)) ?_)))))))
  rintro v' H' ⟨bf, rfl, hok, rfl⟩
  simp only [Nat.zero_add, List.nil_append] at hok ⊢
  refine o_vl rfl rfl (v_build rfl rfl) (o_act rfl rfl rfl rfl (a_box rfl) ?_)
  rintro v' H' ⟨a, rfl, rfl⟩
  refine o_vl rfl rfl (v_assign rfl) (o_end (r_seq (r_region rfl (o_vl rfl rfl (v_move rfl) (o_vl rfl rfl (v_move rfl) (o_call rfl rfl rfl rfl (c_call callable118 rfl) (oct_Sum _ _ _ _ l (hv.mono (Fz.le_refl _) (by simp)) (by omega)) ?_))))))
  rintro v' F' H' ⟨rfl, rfl, rfl⟩ _
  refine o_vl rfl rfl (v_conv rfl rfl rfl (wrap_u64 (by omega) (by have := (crc l).isLt; omega))) (o_call rfl rfl rfl rfl (c_call callable96 rfl) (oct_Num _ _ _ bf l _ 4 _ hok (by omega) (by omega)) ?_)
  rintro v' F' H' ⟨rfl, rfl, bf', hok', rfl⟩ _
  refine o_call rfl rfl rfl rfl (c_call callable98 rfl) (oct_Done _ _ _ _ _) ?_
  rintro v' F' H' ⟨rfl, rfl, rfl⟩ _
  refine o_vl rfl rfl (v_assign rfl) (o_end ?_)
  refine j_drop (List.sublist_cons_self _ _) ?_
  exact r_ret1 Tryz.func97 rfl rfl ⟨⟨rfl, bf', hok', rfl, rfl⟩, Fz.le_refl _⟩
end Go.SX
namespace Go.SX
open Go Go.Proofs
set_option maxRecDepth 4000
theorem oct_Read (O : World) (F : Fz) (v : Value) (l : List UInt8) (Fr : List Ent) (hv : SlB F [] v l) :
    Does Tryz.prog O 109 #[v] F Fr (fun r F' H' => F' = F ∧ ∃ a, r = ptrV a ∧ H' = .mem a [v, .bool false] 2 :: Fr) := by
  obtain ⟨a0, cap, rfl, hcap⟩ := Sl.shape hv
  refine does_of_run (args := [_]) Tryz.func109 rfl rfl ?_
  refine r_seq (r_region rfl (o_vl rfl rfl (v_assign rfl) (o_end (r_seq (r_region rfl (o_vl rfl rfl (v_move rfl) (o_vl rfl rfl (v_build rfl rfl) (o_act rfl rfl rfl rfl (a_box rfl) ?_))))))))
  rintro v' H' ⟨a, rfl, rfl⟩
  refine o_vl rfl rfl (v_assign rfl) (o_end ?_)
  exact r_ret1 Tryz.func109 rfl rfl ⟨⟨rfl, a, rfl, rfl⟩, Fz.le_refl _⟩
theorem oct_spoil (O : World) (F : Fz) (a : Nat) (v u : Value) (Fr : List Ent) :
    Does Tryz.prog O 123 #[ptrV a] F (.mem a [v, u] 2 :: Fr) (fun r F' H' => r = noneV ∧ F' = F ∧ H' = .mem a [v, .bool true] 2 :: Fr) := by
  refine does_of_run (args := [_]) Tryz.func123 rfl rfl ?_
  refine r_seq (r_region rfl (o_vl rfl rfl (v_move rfl) (o_vl rfl rfl (v_pneqnil rfl rfl rfl) (o_end (r_true rfl (r_region rfl (o_vl rfl rfl (v_move rfl) (o_vl rfl rfl (v_nilCheck rfl) (o_vl rfl rfl (v_field (k := 1) rfl rfl rfl) (o_act0 rfl rfl rfl (a_store1 0 rfl rfl rfl rfl rfl (Nat.le_of_ble_eq_true rfl)) ?_))))))))))
  refine o_end ?_
  exact r_fall0 Tryz.func123 rfl ⟨⟨rfl, rfl, rfl⟩, Fz.le_refl _⟩
def leN : List UInt8 → Nat
  | [] => 0
  | b :: r => b.toNat + 256 * leN r
theorem leN_lt : ∀ l : List UInt8, leN l < 256 ^ l.length
  | [] => by simp [leN]
  | b :: r => by
    have h1 := leN_lt r
    have h2 := b.toNat_lt
    simp only [leN, List.length_cons, Nat.pow_succ]
    omega
theorem leN_snoc : ∀ (l : List UInt8) (b : UInt8), leN (l ++ [b]) = leN l + b.toNat * 256 ^ l.length
  | [], b => by simp [leN]
  | x :: r, b => by
    simp only [List.cons_append, leN, leN_snoc r b, List.length_cons, Nat.pow_succ, Nat.mul_add]
    rw [Nat.mul_comm (256 ^ r.length) 256, Nat.mul_left_comm]
    omega
def rdNum (l : List UInt8) (bad : Bool) (n : Int) : Nat × List UInt8 × Bool :=
  if bad = true ∨ n < 0 ∨ (l.length : Int) < n then (0, l, true) else (leN (l.take (min n.toNat 8)), l.drop n.toNat, false)
theorem u64_shl (b : UInt8) (i : Nat) (hi : i < 8) : IntKind.u64.wrap ((b.toNat : Int) * 2 ^ (min (8 * (i : Int)).toNat IntKind.u64.bits)) = ((b.toNat * 256 ^ i : Nat) : Int) := by
  have h1 : (8 * (i : Int)).toNat = 8 * i := by omega
  have h2 : min (8 * i) IntKind.u64.bits = 8 * i := by show min (8 * i) 64 = 8 * i; omega
  rw [h1, h2]
  have h3 : (2 : Int) ^ (8 * i) = ((256 ^ i : Nat) : Int) := by
    rw [Int.pow_mul]
    simp
  rw [h3, ← Int.natCast_mul]
  have hb := b.toNat_lt
  have h4 : (256 : Nat) ^ i ≤ 256 ^ 7 := Nat.pow_le_pow_right (by decide) (by omega)
  have h5 : b.toNat * 256 ^ i ≤ 255 * 256 ^ 7 := Nat.mul_le_mul (by omega) h4
  exact wrap_u64 (by omega) (by have : (255 * 256 ^ 7 : Nat) < 18446744073709551616 := by decide
                                omega)
theorem u64_or (x y i : Nat) (hx : x < 256 ^ i) (hy : y < 256) (hi : i < 8) : bitOp .or .u64 (x : Int) ((y * 256 ^ i : Nat) : Int) = ((x + y * 256 ^ i : Nat) : Int) := by
  have h4 : (256 : Nat) ^ i ≤ 256 ^ 7 := Nat.pow_le_pow_right (by decide) (by omega)
  have h5 : y * 256 ^ i ≤ 255 * 256 ^ 7 := Nat.mul_le_mul (by omega) h4
  have h6 : (255 * 256 ^ 7 + 256 ^ 7 : Nat) ≤ 18446744073709551616 := by decide
  show IntKind.u64.wrap ((BitVec.ofInt 64 (x : Int) ||| BitVec.ofInt 64 ((y * 256 ^ i : Nat) : Int)).toNat : Int) = _
  rw [BitVec.toNat_or, BitVec.ofInt_natCast, BitVec.ofInt_natCast, BitVec.toNat_ofNat, BitVec.toNat_ofNat, Nat.mod_eq_of_lt (by omega), Nat.mod_eq_of_lt (by omega)]
  have h7 : x ||| y * 256 ^ i = x + y * 256 ^ i := by
    have h8 : (256 : Nat) ^ i = 2 ^ (8 * i) := by rw [Nat.pow_mul]
    rw [h8] at hx ⊢
    have := Nat.two_pow_add_eq_or_of_lt hx y
    rw [Nat.mul_comm y, Nat.or_comm, ← this, Nat.add_comm]
  rw [h7]
  exact wrap_u64 (by omega) (by omega)
theorem oct_RNum (O : World) (F : Fz) (a : Nat) (v : Value) (l : List UInt8) (bad : Bool) (n : Int) (Fr : List Ent) (hv : SlB F [] v l) (hl : l.length ≤ 140737488355328) :
    Does Tryz.prog O 110 #[ptrV a, .int .i64 n] F (.mem a [v, .bool bad] 2 :: Fr)
      (fun r F' H' => F' = F ∧ r = .int .u64 (rdNum l bad n).1 ∧ ∃ v', SlB F [] v' (rdNum l bad n).2.1 ∧ H' = .mem a [v', .bool (rdNum l bad n).2.2] 2 :: Fr) := by
  obtain ⟨a0, cap, rfl, hcap⟩ := Sl.shape hv
  have bad_end : (bad = true ∨ n < 0 ∨ (l.length : Int) < n) → rdNum l bad n = (0, l, true) := fun h => by simp only [rdNum, if_pos h]
  refine does_of_run (args := [_, _]) Tryz.func110 rfl rfl ?_
  cases bad with
  | true =>
    refine r_seq (r_region rfl (o_vl rfl rfl (v_assign rfl) (o_end (r_seq (r_seq (r_region rfl (o_vl rfl rfl (v_move rfl) (o_vl rfl rfl (v_peqnil rfl rfl rfl) (o_vl rfl rfl (v_move rfl) (o_vl rfl rfl (v_move rfl) (o_vl rfl rfl (v_nilCheck rfl) (o_vl rfl rfl (v_field (k := 1) rfl rfl rfl) (o_vl rfl rfl (v_load rfl rfl (cell_at (j := 0) rfl rfl)) ?_)))))))))))))
    refine o_vl rfl rfl (v_pick0 rfl rfl) (o_vl rfl rfl (v_move rfl) (o_sk rfl rfl (o_sk rfl rfl (o_vl rfl rfl (v_pick1 rfl rfl) (o_vl rfl rfl (v_move rfl) (o_sk rfl rfl (o_sk rfl rfl (o_sk rfl rfl (o_sk rfl rfl (o_sk rfl rfl (o_sk rfl rfl (o_sk rfl rfl (o_vl rfl rfl (v_pick1 rfl rfl) ?_)))))))))))))
    refine o_end (r_true rfl (r_seq (r_region rfl (o_vl rfl rfl (v_move rfl) (o_call rfl rfl rfl rfl (c_call callable123 rfl) (oct_spoil _ _ _ _ _ _) ?_)))))
    rintro v' F' H' ⟨rfl, rfl, rfl⟩ _
    refine o_end (r_seq (r_region rfl (o_vl rfl rfl (v_assign rfl) (o_end ?_))))
    rw [bad_end (.inl rfl)]
    exact r_ret1 Tryz.func110 rfl rfl ⟨⟨rfl, rfl, _, hv, rfl⟩, Fz.le_refl _⟩
  | false =>
    refine r_seq (r_region rfl (o_vl rfl rfl (v_assign rfl) (o_end (r_seq (r_seq (r_region rfl (o_vl rfl rfl (v_move rfl) (o_vl rfl rfl (v_peqnil rfl rfl rfl) (o_vl rfl rfl (v_move rfl) (o_vl rfl rfl (v_move rfl) (o_vl rfl rfl (v_nilCheck rfl) (o_vl rfl rfl (v_field (k := 1) rfl rfl rfl) (o_vl rfl rfl (v_load rfl rfl (cell_at (j := 0) rfl rfl)) ?_)))))))))))))
    refine o_vl rfl rfl (v_pick0 rfl rfl) (o_vl rfl rfl (v_move rfl) (o_vl rfl rfl (v_move rfl) (o_vl rfl rfl (v_lss rfl rfl) (o_vl rfl rfl (v_pick0 rfl rfl) (o_vl rfl rfl (v_move rfl) ?_)))))
    refine j_prop 19 rfl (fun hn => ?_) (fun hn => ?_)
    · refine o_sk rfl rfl (o_sk rfl rfl (o_sk rfl rfl (o_sk rfl rfl (o_sk rfl rfl (o_sk rfl rfl (o_sk rfl rfl (o_vl rfl rfl (v_pick1 rfl rfl) (o_end (r_true rfl (r_seq (r_region rfl (o_vl rfl rfl (v_move rfl) (o_call rfl rfl rfl rfl (c_call callable123 rfl) (oct_spoil _ _ _ _ _ _) ?_)))))))))))))
      rintro v' F' H' ⟨rfl, rfl, rfl⟩ _
      refine o_end (r_seq (r_region rfl (o_vl rfl rfl (v_assign rfl) (o_end ?_))))
      rw [bad_end (.inr (.inl hn))]
      exact r_ret1 Tryz.func110 rfl rfl ⟨⟨rfl, rfl, _, hv, rfl⟩, Fz.le_refl _⟩
    · refine o_vl rfl rfl (v_move rfl) (o_vl rfl rfl (v_nilCheck rfl) (o_vl rfl rfl (v_field (k := 0) rfl rfl rfl) (o_vl rfl rfl (v_load rfl rfl (cell_at (j := 0) rfl rfl)) (o_vl rfl rfl (v_len rfl rfl) (o_vl rfl rfl (v_move rfl) (o_vl rfl rfl (v_lss rfl rfl) (o_vl rfl rfl (v_pick0 rfl rfl) (o_end (r_if rfl (fun h => ?_) (fun h => ?_))))))))))
      · refine r_seq (r_region rfl (o_vl rfl rfl (v_move rfl) (o_call rfl rfl rfl rfl (c_call callable123 rfl) (oct_spoil _ _ _ _ _ _) ?_)))
        rintro v' F' H' ⟨rfl, rfl, rfl⟩ _
        refine o_end (r_seq (r_region rfl (o_vl rfl rfl (v_assign rfl) (o_end ?_))))
        rw [bad_end (.inr (.inr h))]
        exact r_ret1 Tryz.func110 rfl rfl ⟨⟨rfl, rfl, _, hv, rfl⟩, Fz.le_refl _⟩
      · obtain ⟨k, rfl⟩ := Int.eq_ofNat_of_zero_le (Int.not_lt.1 hn)
        have hk : k ≤ l.length := by omega
        have hr : rdNum l false k = (leN (l.take (min k 8)), l.drop k, false) := by
          have : ¬ (False ∨ (k : Int) < 0 ∨ (l.length : Int) < k) := by
            rintro (h | h | h)
            · exact h
            · omega
            · omega
          simp only [rdNum, Bool.false_eq_true, if_neg this, Int.toNat_natCast]
        rw [hr]
        have hmin : (if (8 : Int) < k then (8 : Int) else k) = ((min k 8 : Nat) : Int) := by split <;> omega
        refine r_skip (r_seq (r_region rfl (o_vl rfl rfl (v_assign rfl) (o_end (r_seq (r_seq (r_region rfl (o_vl rfl rfl (v_move rfl) (o_vl rfl rfl (v_min rfl rfl) (o_vl rfl rfl (v_move rfl) (o_end (r_block ?_))))))))))))
        refine j_slot 31 rfl (v' := .int .i64 ((min k 8 : Nat) : Int)) (by rw [hmin]) ?_
        refine r_loop (fun i : Nat => i ≤ min k 8) (fun i => [(32, .int .i64 i), (31, .int .i64 ((min k 8 : Nat) : Int)), (0, ptrV a), (1, .int .i64 k), (5, .int .u64 (leN (l.take i)))]) (fun _ => F) (fun _ => .mem a [.slice a0 l.length cap, .bool false] 2 :: Fr) (fun i => min k 8 - i) 0 (Nat.zero_le _) ⟨rfl, rfl, rfl, rfl, rfl, trivial⟩ rfl rfl ?_
        intro i hi IH
        refine r_seq (r_region rfl (o_vl rfl rfl (v_lss rfl rfl) (o_end (r_seq (r_if rfl (fun h2 => ?_) (fun h2 => ?_))))))
        · have hil : i < l.length := by omega
          obtain ⟨b, off, cap', hab, _, hcell⟩ := Sl.view (hv.frz (H := .mem a [.slice a0 l.length cap, .bool false] 2 :: Fr) (Fz.le_refl F)) (by omega)
          simp only [Value.slice.injEq] at hab
          obtain ⟨rfl, _, rfl⟩ := hab
          have hlt := leN_lt (l.take i)
          rw [List.length_take, Nat.min_eq_left (by omega)] at hlt
          have hs : leN (l.take (i + 1)) = leN (l.take i) + l[i].toNat * 256 ^ i := by
            rw [List.take_succ_eq_append_getElem hil, leN_snoc, List.length_take, Nat.min_eq_left (by omega)]
          refine r_skip (r_seq (r_block (r_seq (r_region rfl (o_vl rfl rfl (v_move rfl) (o_vl rfl rfl (v_assign rfl) (o_end (r_region rfl (o_vl rfl rfl (v_move rfl) (o_vl rfl rfl (v_move rfl) (o_vl rfl rfl (v_nilCheck rfl) (o_vl rfl rfl (v_field (k := 0) rfl rfl rfl) (o_vl rfl rfl (v_load rfl rfl (cell_at (j := 0) rfl rfl)) ?_)))))))))))))
          refine o_vl rfl rfl (v_move rfl) (o_vl rfl rfl (v_index1 rfl rfl rfl rfl hil) ?_)
          refine o_vl rfl rfl (v_load rfl rfl (hcell i (byteV l[i]) (by rw [bytesV_get, List.getElem?_eq_getElem hil]; rfl))) ?_
          refine o_vl rfl rfl (v_conv rfl rfl rfl (wrap_u64 (by omega) (by have := l[i].toNat_lt; omega))) (o_vl rfl rfl (v_move rfl) (o_vl rfl rfl (v_mul rfl rfl (wrap_i64 (by omega) (by omega))) (o_vl rfl rfl (v_shl rfl rfl (by omega) (u64_shl l[i] i (by omega))) (o_vl rfl rfl (v_or rfl rfl (u64_or _ _ i hlt (l[i].toNat_lt) (by omega))) (o_vl rfl rfl (v_assign rfl) (o_end (r_inBlock (r_region rfl (o_vl rfl rfl (v_add rfl rfl (wrap_i64 (by omega) (by omega))) (o_vl rfl rfl (v_move rfl) (o_end ?_)))))))))))
          rw [← hs]
          refine j_keep ?_ (IH (i + 1) (by omega) (by omega))
          exact ⟨rfl, rfl, rfl, rfl, rfl, trivial⟩
        · obtain rfl : i = min k 8 := by omega
          refine r_exit rfl (r_seq (r_region rfl (o_vl rfl rfl (v_move rfl) (o_vl rfl rfl (v_move rfl) (o_vl rfl rfl (v_nilCheck rfl) (o_vl rfl rfl (v_field (k := 0) rfl rfl rfl) (o_vl rfl rfl (v_load rfl rfl (cell_at (j := 0) rfl rfl)) (o_vl rfl rfl (v_move rfl) (o_vl rfl rfl (v_sliceL (sz := 1) rfl rfl rfl rfl rfl hk) (o_vl rfl rfl (v_nilCheck rfl) (o_vl rfl rfl (v_field (k := 0) rfl rfl rfl) (o_act0 rfl rfl rfl (a_store1 0 rfl rfl rfl rfl rfl (Nat.le_of_ble_eq_true rfl)) ?_))))))))))))
          refine o_end (r_seq (r_region rfl (o_vl rfl rfl (v_move rfl) (o_vl rfl rfl (v_assign rfl) (o_end ?_)))))
          refine r_ret1 Tryz.func110 rfl rfl ⟨⟨rfl, rfl, _, ?_, rfl⟩, Fz.le_refl _⟩
          have := Sl.sliced hv hk (Nat.le_refl _)
          rw [Nat.mul_one, Nat.mul_one] at this
          unfold SlB
          rw [List.length_drop]
          have hd : bytesV (l.drop k) = ((bytesV l).drop k).take (l.length - k) := by
            rw [List.take_of_length_le (by simp)]
            simp [bytesV]
          rw [hd]
          exact this
theorem rdNum_lt (l : List UInt8) (bad : Bool) (n : Int) : (rdNum l bad n).1 < 256 ^ (min n.toNat 8) := by
  unfold rdNum
  split
  · exact Nat.pow_pos (by decide)
  · refine Nat.lt_of_lt_of_le (leN_lt _) (Nat.pow_le_pow_right (by decide) ?_)
    simp only [List.length_take]
    omega
theorem rdNum_len (l : List UInt8) (bad : Bool) (n : Int) : (rdNum l bad n).2.1.length ≤ l.length := by
  unfold rdNum
  split <;> simp
theorem SlB.drop {F : Fz} {H : List Ent} {a : Option Addr} {cap k : Nat} {l : List UInt8} (hv : SlB F H (.slice a l.length cap) l) (hk : k ≤ l.length) : SlB F H (Go.sliced a k l.length cap 1) (l.drop k) := by
  have := Sl.sliced hv hk (Nat.le_refl _)
  rw [Nat.mul_one, Nat.mul_one] at this
  unfold SlB
  rw [List.length_drop]
  have hd : bytesV (l.drop k) = ((bytesV l).drop k).take (l.length - k) := by
    rw [List.take_of_length_le (by simp)]
    simp [bytesV]
  rw [hd]
  exact this
theorem SlB.take {F : Fz} {H : List Ent} {a : Option Addr} {cap k : Nat} {l : List UInt8} (hv : SlB F H (.slice a l.length cap) l) (hk : k ≤ l.length) : SlB F H (Go.sliced a 0 k cap 1) (l.take k) := by
  have := Sl.sliced hv (Nat.zero_le k) hk
  rw [Nat.mul_one, Nat.mul_one, Nat.sub_zero] at this
  unfold SlB
  rw [List.length_take, Nat.min_eq_left hk]
  have hd : bytesV (l.take k) = ((bytesV l).drop 0).take k := by simp [bytesV]
  rw [hd]
  exact this
theorem SlB.takeM {F : Fz} {H : List Ent} {a : Option Addr} {cap k : Nat} {l : List UInt8} (hv : SlB F H (.slice a l.length cap) l) (hk : k ≤ l.length) : SlB F H (Go.sliced a 0 k k 1) (l.take k) := by
  obtain ⟨a', c', h1, h2, h3, h4, h5⟩ := SlB.take hv hk
  simp only [Go.sliced, Value.slice.injEq] at h1
  obtain ⟨rfl, hlen, rfl⟩ := h1
  refine ⟨if k = 0 then a else a.map (·.add (0 * 1)), k - 0, ?_, h2, by omega, fun hn => ?_, fun i c hi => ?_⟩
  · simp only [Go.sliced, Value.slice.injEq]
    exact ⟨trivial, hlen, trivial⟩
  · by_cases hk0 : k = 0
    · omega
    · simp only [hk0, if_false] at hn
      have hlt : 0 < (bytesV (l.take k)).length := by simp; omega
      obtain ⟨b, off, hb, _⟩ := h5 0 _ (List.getElem?_eq_getElem hlt)
      split at hb
      · subst hb; simp at hn
      · rw [hn] at hb; cases hb
  · obtain ⟨b, off, hb, hc⟩ := h5 i c hi
    refine ⟨b, off, ?_, hc⟩
    have hlt : i < (bytesV (l.take k)).length := by
      rcases Nat.lt_or_ge i (bytesV (l.take k)).length with h | h
      · exact h
      · simp [List.getElem?_eq_none h] at hi
    have hk0 : ¬ k = 0 := by simp at hlt; omega
    rw [if_neg hk0]
    split at hb
    · rw [hb]; simp [Addr.add]
    · exact hb
def rdBytes (l : List UInt8) (bad : Bool) (most : Int) : List UInt8 × List UInt8 × Bool :=
  if (rdNum l bad 4).2.2 = true ∨ most < 0 ∨ most < (rdNum l bad 4).1 ∨ (rdNum l bad 4).2.1.length < (rdNum l bad 4).1 then ([], (rdNum l bad 4).2.1, true)
  else ((rdNum l bad 4).2.1.take (rdNum l bad 4).1, (rdNum l bad 4).2.1.drop (rdNum l bad 4).1, false)
theorem oct_RBad (O : World) (F : Fz) (a : Nat) (v : Value) (bad : Bool) (Fr : List Ent) :
    Does Tryz.prog O 111 #[ptrV a] F (.mem a [v, .bool bad] 2 :: Fr) (fun r F' H' => r = .bool bad ∧ F' = F ∧ H' = .mem a [v, .bool bad] 2 :: Fr) := by
  refine does_of_run (args := [_]) Tryz.func111 rfl rfl ?_
  refine r_seq (r_region rfl (o_vl rfl rfl (v_assign rfl) (o_end (r_seq (r_region rfl (o_vl rfl rfl (v_move rfl) (o_vl rfl rfl (v_peqnil rfl rfl rfl) (o_vl rfl rfl (v_move rfl) (o_vl rfl rfl (v_move rfl) (o_vl rfl rfl (v_nilCheck rfl) (o_vl rfl rfl (v_field (k := 1) rfl rfl rfl) (o_vl rfl rfl (v_load rfl rfl (cell_at (j := 0) rfl rfl)) (o_vl rfl rfl (v_pick0 rfl rfl) ?_)))))))))))))
  refine o_vl rfl rfl (v_assign rfl) (o_end ?_)
  exact r_ret1 Tryz.func111 rfl rfl ⟨⟨rfl, rfl, rfl⟩, Fz.le_refl _⟩
theorem oct_RLeft (O : World) (F : Fz) (a : Nat) (v : Value) (l : List UInt8) (bad : Bool) (Fr : List Ent) (hv : SlB F [] v l) :
    Does Tryz.prog O 112 #[ptrV a] F (.mem a [v, .bool bad] 2 :: Fr) (fun r F' H' => r = .int .i64 (if bad = true then 0 else l.length) ∧ F' = F ∧ H' = .mem a [v, .bool bad] 2 :: Fr) := by
  obtain ⟨a0, cap, rfl, hcap⟩ := Sl.shape hv
  refine does_of_run (args := [_]) Tryz.func112 rfl rfl ?_
  cases bad with
  | true =>
    refine r_seq (r_region rfl (o_vl rfl rfl (v_assign rfl) (o_end (r_seq (r_seq (r_region rfl (o_vl rfl rfl (v_move rfl) (o_call rfl rfl rfl rfl (c_call callable111 rfl) (oct_RBad _ _ _ _ _ _) ?_))))))))
    rintro v' F' H' ⟨rfl, rfl, rfl⟩ _
    refine o_end (r_true rfl (r_seq (r_region rfl (o_vl rfl rfl (v_assign rfl) (o_end ?_)))))
    exact r_ret1 Tryz.func112 rfl rfl ⟨⟨rfl, rfl, rfl⟩, Fz.le_refl _⟩
  | false =>
    refine r_seq (r_region rfl (o_vl rfl rfl (v_assign rfl) (o_end (r_seq (r_seq (r_region rfl (o_vl rfl rfl (v_move rfl) (o_call rfl rfl rfl rfl (c_call callable111 rfl) (oct_RBad _ _ _ _ _ _) ?_))))))))
    rintro v' F' H' ⟨rfl, rfl, rfl⟩ _
    refine o_end (r_false rfl (r_skip (r_seq (r_region rfl (o_vl rfl rfl (v_move rfl) (o_vl rfl rfl (v_nilCheck rfl) (o_vl rfl rfl (v_field (k := 0) rfl rfl rfl) (o_vl rfl rfl (v_load rfl rfl (cell_at (j := 0) rfl rfl)) (o_vl rfl rfl (v_len rfl rfl) (o_vl rfl rfl (v_assign rfl) (o_end ?_)))))))))))
    exact r_ret1 Tryz.func112 rfl rfl ⟨⟨rfl, rfl, rfl⟩, Fz.le_refl _⟩
theorem oct_REnd (O : World) (F : Fz) (a : Nat) (v : Value) (l : List UInt8) (bad : Bool) (Fr : List Ent) (hv : SlB F [] v l) :
    Does Tryz.prog O 114 #[ptrV a] F (.mem a [v, .bool bad] 2 :: Fr) (fun r F' H' => r = .bool (!bad && decide (l = [])) ∧ F' = F ∧ H' = .mem a [v, .bool bad] 2 :: Fr) := by
  obtain ⟨a0, cap, rfl, hcap⟩ := Sl.shape hv
  refine does_of_run (args := [_]) Tryz.func114 rfl rfl ?_
  cases bad with
  | true =>
    refine r_seq (r_region rfl (o_vl rfl rfl (v_assign rfl) (o_end (r_seq (r_region rfl (o_vl rfl rfl (v_move rfl) (o_call rfl rfl rfl rfl (c_call callable111 rfl) (oct_RBad _ _ _ _ _ _) ?_)))))))
    rintro v' F' H' ⟨rfl, rfl, rfl⟩ _
    refine o_vl rfl rfl (v_not rfl) (o_vl rfl rfl (v_move rfl) (o_sk rfl rfl (o_sk rfl rfl (o_sk rfl rfl (o_sk rfl rfl (o_sk rfl rfl (o_sk rfl rfl (o_vl rfl rfl (v_pick0 rfl rfl) (o_vl rfl rfl (v_assign rfl) (o_end ?_))))))))))
    exact r_ret1 Tryz.func114 rfl rfl ⟨⟨rfl, rfl, rfl⟩, Fz.le_refl _⟩
  | false =>
    refine r_seq (r_region rfl (o_vl rfl rfl (v_assign rfl) (o_end (r_seq (r_region rfl (o_vl rfl rfl (v_move rfl) (o_call rfl rfl rfl rfl (c_call callable111 rfl) (oct_RBad _ _ _ _ _ _) ?_)))))))
    rintro v' F' H' ⟨rfl, rfl, rfl⟩ _
    refine o_vl rfl rfl (v_not rfl) (o_vl rfl rfl (v_move rfl) (o_vl rfl rfl (v_move rfl) (o_vl rfl rfl (v_nilCheck rfl) (o_vl rfl rfl (v_field (k := 0) rfl rfl rfl) (o_vl rfl rfl (v_load rfl rfl (cell_at (j := 0) rfl rfl)) (o_vl rfl rfl (v_len rfl rfl) (o_vl rfl rfl (v_eql rfl rfl) (o_vl rfl rfl (v_pick1 rfl rfl) (o_vl rfl rfl (v_assign rfl) (o_end ?_))))))))))
    refine r_ret1 Tryz.func114 rfl rfl ⟨⟨?_, rfl, rfl⟩, Fz.le_refl _⟩
    cases l <;> simp <;> omega
end Go.SX
namespace Go.SX
open Go Go.Proofs
set_option maxRecDepth 4000
theorem oct_RBytes (O : World) (F : Fz) (a : Nat) (v : Value) (l : List UInt8) (bad : Bool) (most : Int) (Fr : List Ent) (hv : SlB F [] v l) (hl : l.length ≤ 140737488355328) (hm : most ≤ 9223372036854775807) :
    Does Tryz.prog O 115 #[ptrV a, .int .i64 most] F (.mem a [v, .bool bad] 2 :: Fr)
      (fun r F' H' => F.le F' ∧ SlB F' [] r (rdBytes l bad most).1 ∧ ∃ v', SlB F' [] v' (rdBytes l bad most).2.1 ∧ H' = .mem a [v', .bool (rdBytes l bad most).2.2] 2 :: Fr) := by
  have hlt := rdNum_lt l bad 4
  have hln := rdNum_len l bad 4
  have h4 : (256 : Nat) ^ (min (4 : Int).toNat 8) = 4294967296 := by decide
  rw [h4] at hlt
  refine does_of_run (args := [_, _]) Tryz.func115 rfl rfl ?_
  refine r_seq (r_region rfl (o_vl rfl rfl (v_assign rfl) (o_end (r_seq (r_region rfl (o_vl rfl rfl (v_move rfl) (o_call rfl rfl rfl rfl (c_call callable110 rfl) (oct_RNum _ _ _ _ l bad 4 _ hv hl) ?_)))))))
  rintro v' F' H' ⟨rfl, rfl, v1, hv1, rfl⟩ _
  have hun : rdBytes l bad most = if (rdNum l bad 4).2.2 = true ∨ most < 0 ∨ most < (rdNum l bad 4).1 ∨ (rdNum l bad 4).2.1.length < (rdNum l bad 4).1 then ([], (rdNum l bad 4).2.1, true)
    else ((rdNum l bad 4).2.1.take (rdNum l bad 4).1, (rdNum l bad 4).2.1.drop (rdNum l bad 4).1, false) := rfl
  rw [hun]
  generalize rdNum l bad 4 = q at *
  obtain ⟨n, l1, b1⟩ := q
  dsimp only at *
  obtain ⟨a1, cap1, rfl, hcap1⟩ := Sl.shape hv1
  cases b1 with
  | true =>
    refine o_vl rfl rfl (v_assign rfl) (o_end (r_seq (r_seq (r_region rfl (o_vl rfl rfl (v_move rfl) (o_vl rfl rfl (v_peqnil rfl rfl rfl) (o_vl rfl rfl (v_move rfl) (o_vl rfl rfl (v_move rfl) (o_vl rfl rfl (v_nilCheck rfl) (o_vl rfl rfl (v_field (k := 1) rfl rfl rfl) (o_vl rfl rfl (v_load rfl rfl (cell_at (j := 0) rfl rfl)) (o_vl rfl rfl (v_pick0 rfl rfl) (o_vl rfl rfl (v_move rfl) ?_)))))))))))))
    refine o_sk rfl rfl (o_sk rfl rfl (o_vl rfl rfl (v_pick1 rfl rfl) (o_vl rfl rfl (v_move rfl) (o_sk rfl rfl (o_sk rfl rfl (o_sk rfl rfl (o_sk rfl rfl (o_vl rfl rfl (v_pick1 rfl rfl) (o_vl rfl rfl (v_move rfl) (o_sk rfl rfl (o_sk rfl rfl (o_sk rfl rfl (o_sk rfl rfl ?_)))))))))))))
    refine o_sk rfl rfl (o_sk rfl rfl (o_sk rfl rfl (o_sk rfl rfl (o_vl rfl rfl (v_pick1 rfl rfl) (o_end (r_true rfl (r_seq (r_region rfl (o_vl rfl rfl (v_move rfl) (o_call rfl rfl rfl rfl (c_call callable123 rfl) (oct_spoil _ _ _ _ _ _) ?_))))))))))
    rintro v' F' H' ⟨rfl, rfl, rfl⟩ _
    refine o_end (r_seq (r_region rfl (o_vl rfl rfl (v_assign rfl) (o_end ?_))))
    rw [if_pos (.inl rfl)]
    exact r_ret1 Tryz.func115 rfl rfl ⟨⟨Fz.le_refl _, Sl.nil _ _ _, _, hv1, rfl⟩, Fz.le_refl _⟩
  | false =>
    refine o_vl rfl rfl (v_assign rfl) (o_end (r_seq (r_seq (r_region rfl (o_vl rfl rfl (v_move rfl) (o_vl rfl rfl (v_peqnil rfl rfl rfl) (o_vl rfl rfl (v_move rfl) (o_vl rfl rfl (v_move rfl) (o_vl rfl rfl (v_nilCheck rfl) (o_vl rfl rfl (v_field (k := 1) rfl rfl rfl) (o_vl rfl rfl (v_load rfl rfl (cell_at (j := 0) rfl rfl)) (o_vl rfl rfl (v_pick0 rfl rfl) (o_vl rfl rfl (v_move rfl) ?_)))))))))))))
    refine o_vl rfl rfl (v_move rfl) (o_vl rfl rfl (v_lss rfl rfl) (o_vl rfl rfl (v_pick0 rfl rfl) (o_vl rfl rfl (v_move rfl) ?_)))
    refine j_prop 21 rfl (fun h1 => ?_) (fun h1 => ?_)
    · refine o_sk rfl rfl (o_sk rfl rfl (o_sk rfl rfl (o_sk rfl rfl (o_vl rfl rfl (v_pick1 rfl rfl) (o_vl rfl rfl (v_move rfl) (o_sk rfl rfl (o_sk rfl rfl (o_sk rfl rfl (o_sk rfl rfl (o_sk rfl rfl (o_sk rfl rfl (o_sk rfl rfl (o_sk rfl rfl ?_)))))))))))))
      refine o_vl rfl rfl (v_pick1 rfl rfl) (o_end (r_true rfl (r_seq (r_region rfl (o_vl rfl rfl (v_move rfl) (o_call rfl rfl rfl rfl (c_call callable123 rfl) (oct_spoil _ _ _ _ _ _) ?_))))))
      rintro v' F' H' ⟨rfl, rfl, rfl⟩ _
      refine o_end (r_seq (r_region rfl (o_vl rfl rfl (v_assign rfl) (o_end ?_))))
      rw [if_pos (.inr (.inl h1))]
      exact r_ret1 Tryz.func115 rfl rfl ⟨⟨Fz.le_refl _, Sl.nil _ _ _, _, hv1, rfl⟩, Fz.le_refl _⟩
    · refine o_vl rfl rfl (v_move rfl) (o_vl rfl rfl (v_move rfl) (o_vl rfl rfl (v_conv rfl rfl rfl (wrap_u64 (by omega) (by omega))) (o_vl rfl rfl (v_gtr rfl rfl) (o_vl rfl rfl (v_pick0 rfl rfl) (o_vl rfl rfl (v_move rfl) ?_)))))
      refine j_prop 27 rfl (fun h2 => ?_) (fun h2 => ?_)
      · refine o_sk rfl rfl (o_sk rfl rfl (o_sk rfl rfl (o_sk rfl rfl (o_sk rfl rfl (o_sk rfl rfl (o_sk rfl rfl (o_sk rfl rfl (o_vl rfl rfl (v_pick1 rfl rfl) (o_end (r_true rfl (r_seq (r_region rfl (o_vl rfl rfl (v_move rfl) ?_)))))))))))))
        refine o_call rfl rfl rfl rfl (c_call callable123 rfl) (oct_spoil _ _ _ _ _ _) ?_
        rintro v' F' H' ⟨rfl, rfl, rfl⟩ _
        refine o_end (r_seq (r_region rfl (o_vl rfl rfl (v_assign rfl) (o_end ?_))))
        rw [if_pos (.inr (.inr (.inl h2)))]
        exact r_ret1 Tryz.func115 rfl rfl ⟨⟨Fz.le_refl _, Sl.nil _ _ _, _, hv1, rfl⟩, Fz.le_refl _⟩
      · refine o_vl rfl rfl (v_move rfl) (o_vl rfl rfl (v_move rfl) (o_vl rfl rfl (v_nilCheck rfl) (o_vl rfl rfl (v_field (k := 0) rfl rfl rfl) (o_vl rfl rfl (v_load rfl rfl (cell_at (j := 0) rfl rfl)) (o_vl rfl rfl (v_len rfl rfl) (o_vl rfl rfl (v_conv rfl rfl rfl (wrap_u64 (by omega) (by omega))) (o_vl rfl rfl (v_gtr rfl rfl) (o_vl rfl rfl (v_pick0 rfl rfl) (o_end (r_if rfl (fun h3 => ?_) (fun h3 => ?_)))))))))))
        · refine r_seq (r_region rfl (o_vl rfl rfl (v_move rfl) (o_call rfl rfl rfl rfl (c_call callable123 rfl) (oct_spoil _ _ _ _ _ _) ?_)))
          rintro v' F' H' ⟨rfl, rfl, rfl⟩ _
          refine o_end (r_seq (r_region rfl (o_vl rfl rfl (v_assign rfl) (o_end ?_))))
          rw [if_pos (.inr (.inr (.inr (by omega))))]
          exact r_ret1 Tryz.func115 rfl rfl ⟨⟨Fz.le_refl _, Sl.nil _ _ _, _, hv1, rfl⟩, Fz.le_refl _⟩
        · have hn : n ≤ l1.length := by omega
          rw [if_neg (by rintro (h5 | h5 | h5 | h5); · cases h5
                         · omega
                         · omega
                         · omega)]
          refine r_skip (r_seq (r_region rfl (o_vl rfl rfl (v_move rfl) (o_vl rfl rfl (v_nilCheck rfl) (o_vl rfl rfl (v_field (k := 0) rfl rfl rfl) (o_vl rfl rfl (v_load rfl rfl (cell_at (j := 0) rfl rfl)) (o_vl rfl rfl (v_move rfl) (o_vl rfl rfl (v_sliceH (sz := 1) rfl rfl rfl rfl rfl (by omega)) ?_))))))))
          have ht := (SlB.take hv1 hn)
          have htl : (l1.take n).length = n := by simp; omega
          refine o_act rfl rfl rfl rfl (a_appendP (bf := .nil) (n := 0) (sz := 1) (bytes := 1) (xs := []) [.mem a [.slice a1 l1.length cap1, .bool false] 2] ⟨⟨_, _, _, rfl, rfl, rfl, rfl, rfl, rfl⟩, by decide⟩ rfl rfl rfl rfl rfl (ht.frz (Fz.le_refl _)) (bytes_one _) (by unfold maxLen; omega) (by omega)) ?_
          rintro v' H' ⟨bf, rfl, hok, rfl⟩
          simp only [Nat.zero_add, List.nil_append] at hok ⊢
          refine j_perm (H' := bf.ents 1 (bytesV (l1.take n)) ++ (.mem a [.slice a1 l1.length cap1, .bool false] 2 :: Fr)) (perm_pre _ _ _) ?_
          refine j_freezeBf hok (by simp) fun F1 hF1 hs1 => ?_
          refine o_vl rfl rfl (v_assign rfl) (o_end (r_seq (r_region rfl (o_vl rfl rfl (v_move rfl) (o_vl rfl rfl (v_move rfl) (o_vl rfl rfl (v_nilCheck rfl) (o_vl rfl rfl (v_field (k := 0) rfl rfl rfl) (o_vl rfl rfl (v_load rfl rfl (cell_at (j := 0) rfl rfl)) (o_vl rfl rfl (v_move rfl) (o_vl rfl rfl (v_sliceL (sz := 1) rfl rfl rfl rfl rfl hn) (o_vl rfl rfl (v_nilCheck rfl) (o_vl rfl rfl (v_field (k := 0) rfl rfl rfl) (o_act0 rfl rfl rfl (a_store1 0 rfl rfl rfl rfl rfl (Nat.le_of_ble_eq_true rfl)) ?_)))))))))))))
          refine o_end (r_seq (r_region rfl (o_vl rfl rfl (v_move rfl) (o_vl rfl rfl (v_assign rfl) (o_end ?_)))))
          exact r_ret1 Tryz.func115 rfl rfl ⟨⟨hF1, hs1, _, SlB.frz (SlB.drop hv1 hn) hF1, rfl⟩, hF1⟩
theorem leN_leB : ∀ k n, n < 256 ^ k → leN (leB k n) = n
  | 0, n, h => by simp at h; subst h; rfl
  | k + 1, n, h => by
    have : n / 256 < 256 ^ k := by rw [Nat.pow_succ] at h; omega
    simp only [leB, leN, leN_leB k _ this]
    simp
    omega
theorem leB_leN : ∀ l : List UInt8, leB l.length (leN l) = l
  | [] => rfl
  | b :: r => by
    have hb := b.toNat_lt
    simp only [List.length_cons, leB, leN]
    have h1 : (b.toNat + 256 * leN r) / 256 = leN r := by omega
    have h2 : UInt8.ofNat (b.toNat + 256 * leN r) = b := by
      apply UInt8.toNat_inj.1
      simp
    rw [h1, h2, leB_leN r]
def openB (l : List UInt8) : Nat × List UInt8 :=
  if l.length < 4 then (5, []) else if sealB (l.take (l.length - 4)) = l then (0, l.take (l.length - 4)) else (4, [])
theorem open_cond (l : List UInt8) (h : 4 ≤ l.length) : leN (l.drop (l.length - 4)) = (crc (l.take (l.length - 4))).toNat ↔ sealB (l.take (l.length - 4)) = l := by
  have hd : (l.drop (l.length - 4)).length = 4 := by simp; omega
  constructor
  · intro he
    have := leB_leN (l.drop (l.length - 4))
    rw [hd, he] at this
    unfold sealB
    rw [this, List.take_append_drop]
  · intro he
    have h1 : leB 4 (crc (l.take (l.length - 4))).toNat = l.drop (l.length - 4) := by
      have : sealB (l.take (l.length - 4)) = l.take (l.length - 4) ++ l.drop (l.length - 4) := by rw [List.take_append_drop]; exact he
      exact List.append_cancel_left this
    rw [← h1]
    exact leN_leB 4 _ (crc (l.take (l.length - 4))).isLt
theorem oct_Open (O : World) (F : Fz) (v : Value) (l : List UInt8) (Fr : List Ent) (hv : SlB F [] v l) (hl : l.length ≤ 140737488355328) :
    Does Tryz.prog O 113 #[v] F Fr (fun r F' H' => F' = F ∧ H' = Fr ∧ ∃ v', r = .tuple #[v', .int .i64 (openB l).1] ∧ SlB F [] v' (openB l).2) := by
  obtain ⟨a0, cap, rfl, hcap⟩ := Sl.shape hv
  refine does_of_run (args := [_]) Tryz.func113 rfl rfl ?_
  refine r_seq (r_region rfl (o_vl rfl rfl (v_assign rfl) (o_vl rfl rfl (v_assign rfl) (o_end (r_seq (r_region rfl (o_vl rfl rfl (v_move rfl) (o_vl rfl rfl (v_len rfl rfl) (o_vl rfl rfl (v_sub rfl rfl (wrap_i64 (by omega) (by omega))) (o_vl rfl rfl (v_assign rfl) (o_end (r_seq (r_seq ?_)))))))))))))
  refine r_region rfl (o_vl rfl rfl (v_move rfl) (o_vl rfl rfl (v_lss rfl rfl) (o_end (r_if rfl (fun h => ?_) (fun h => ?_)))))
  · refine r_seq (r_region rfl (o_vl rfl rfl (v_assign rfl) (o_vl rfl rfl (v_assign rfl) (o_end ?_))))
    have hr : openB l = (5, []) := by simp only [openB]; rw [if_pos (by omega)]
    rw [hr]
    exact r_ret2 Tryz.func113 rfl rfl rfl ⟨⟨rfl, rfl, _, rfl, Sl.nil _ _ _⟩, Fz.le_refl _⟩
  · have h4 : 4 ≤ l.length := by omega
    have hn : ((l.length : Int) - 4) = ((l.length - 4 : Nat) : Int) := by omega
    have hd := SlB.drop hv (k := l.length - 4) (by omega)
    have ht := SlB.take hv (k := l.length - 4) (by omega)
    refine j_slot 4 rfl (v' := .int .i64 ((l.length - 4 : Nat) : Int)) (by rw [hn]) ?_
    refine r_skip (r_seq (r_seq (d_region 1000000 rfl ([]) ?_)))
    refine d_tk (i := 0) rfl rfl (by simp) (v_move rfl) (d_tk (i := 1) rfl rfl (by simp) (v_move rfl) (d_tk (i := 2) rfl rfl (by simp) (v_sliceL (sz := 1) rfl rfl rfl rfl rfl (by omega)) (d_tk (i := 5) rfl rfl (by simp) (v_move rfl) (d_tk (i := 6) rfl rfl (by simp) (v_move rfl) (d_tk (i := 7) rfl rfl (by simp) (v_sliceH (sz := 1) rfl rfl rfl rfl rfl (by omega)) (d_one (i := 3) (by decide +kernel) (d1_call rfl rfl rfl rfl (c_call callable109 rfl) (oct_Read _ _ _ _ _ hd) ?_)))))))
    rintro v' F' H' ⟨rfl, a, rfl, rfl⟩ _
    refine ⟨fun w hw => held_of hw (by first | exact Fz.le_refl _ | assumption) (by simp), ?_⟩
    refine d_one (i := 4) (by decide +kernel) (d1_call rfl rfl rfl rfl (c_call callable110 rfl) (oct_RNum _ _ _ _ _ false 4 _ hd (by simp; omega)) ?_)
    rintro v' F' H' ⟨rfl, rfl, v2, hv2, rfl⟩ _
    refine ⟨fun w hw => held_of hw (by first | exact Fz.le_refl _ | assumption) (by simp), ?_⟩
    refine d_one (i := 8) (by decide +kernel) (d1_call rfl rfl rfl rfl (c_call callable118 rfl) (oct_Sum _ _ _ _ _ (ht.frz (Fz.le_refl _)) (by simp; omega)) ?_)
    rintro v' F' H' ⟨rfl, rfl, rfl⟩ _
    refine ⟨fun w hw => held_of hw (by first | exact Fz.le_refl _ | assumption) (by simp), ?_⟩
    have hr4 : (rdNum (l.drop (l.length - 4)) false 4).1 = leN (l.drop (l.length - 4)) := by
      have hd4 : (l.drop (l.length - 4)).length = 4 := by simp; omega
      unfold rdNum
      rw [hd4]
      rw [if_neg (by decide)]
      show leN ((l.drop (l.length - 4)).take 4) = _
      rw [List.take_of_length_le (by omega)]
    rw [hr4]
    refine j_drop (List.sublist_cons_self _ _) ?_
    refine d_tk (i := 9) rfl rfl (by simp) (v_conv rfl rfl rfl (wrap_u64 (by omega) (by have := (crc (l.take (l.length - 4))).isLt; omega))) (d_tk (i := 10) rfl rfl (by simp) (v_neq rfl rfl) (d_end (by decide +kernel) (r_if rfl (fun h5 => ?_) (fun h5 => ?_))))
    · refine r_seq (r_region rfl (o_vl rfl rfl (v_assign rfl) (o_vl rfl rfl (v_assign rfl) (o_end ?_))))
      have hr : openB l = (4, []) := by
        simp only [openB]
        rw [if_neg (by omega), if_neg (fun he => h5 (by exact_mod_cast (open_cond l h4).2 he))]
      rw [hr]
      exact r_ret2 Tryz.func113 rfl rfl rfl ⟨⟨rfl, rfl, _, rfl, Sl.nil _ _ _⟩, Fz.le_refl _⟩
    · refine r_skip (r_seq (r_region rfl (o_vl rfl rfl (v_move rfl) (o_vl rfl rfl (v_move rfl) (o_vl rfl rfl (v_move rfl) (o_vl rfl rfl (v_sliceHM (sz := 1) rfl rfl rfl rfl rfl rfl rfl (Nat.le_refl _) (by omega)) (o_vl rfl rfl (v_assign rfl) (o_vl rfl rfl (v_assign rfl) (o_end ?_)))))))))
      have hr : openB l = (0, l.take (l.length - 4)) := by
        simp only [openB]
        rw [if_neg (by omega), if_pos ((open_cond l h4).1 (by have := Decidable.not_not.1 h5; exact_mod_cast this))]
      rw [hr]
      exact r_ret2 Tryz.func113 rfl rfl rfl ⟨⟨rfl, rfl, _, rfl, SlB.takeM hv (by omega)⟩, Fz.le_refl _⟩
def lenB (l : List UInt8) : List UInt8 := leB 4 l.length ++ l
theorem oct_WBytes (O : World) (F : Fz) (a : Nat) (bf : Bf) (l m : List UInt8) (v : Value) (Fr : List Ent) (hok : bf.ok l.length) (hv : SlB F Fr v m) (hn : l.length + m.length ≤ 140737488354000) :
    Does Tryz.prog O 99 #[ptrV a, v] F (.mem a [bf.val l.length] 1 :: (bf.ents 1 (bytesV l) ++ Fr))
      (fun r F' H' => r = ptrV a ∧ F' = F ∧ ∃ bf' : Bf, bf'.ok (l ++ lenB m).length ∧ H' = .mem a [bf'.val (l ++ lenB m).length] 1 :: (bf'.ents 1 (bytesV (l ++ lenB m)) ++ Fr)) := by
  obtain ⟨a0, cap, rfl, hcap⟩ := Sl.shape hv
  refine does_of_run (args := [_, _]) Tryz.func99 rfl rfl ?_
  refine r_seq (r_region rfl (o_vl rfl rfl (v_assign rfl) (o_end (r_seq (r_region rfl (o_vl rfl rfl (v_move rfl) (o_vl rfl rfl (v_move rfl) (o_vl rfl rfl (v_len rfl rfl) (o_vl rfl rfl (v_conv rfl rfl rfl (wrap_u64 (by omega) (by omega))) (o_call rfl rfl rfl rfl (c_call callable96 rfl) (oct_Num _ _ _ bf l m.length 4 _ hok (by omega) (by omega)) ?_))))))))))
  rintro v' F' H' ⟨rfl, rfl, bf1, hok1, rfl⟩ _
  refine o_vl rfl rfl (v_move rfl) (o_call rfl rfl rfl rfl (c_call callable117 rfl) (oct_lay _ _ _ bf1 (l ++ leB 4 m.length) m _ _ hok1 (hv.mono (Fz.le_refl _) (by simp)) (by simp; omega)) ?_)
  rintro v' F' H' ⟨rfl, rfl, bf2, hok2, rfl⟩ _
  refine o_vl rfl rfl (v_assign rfl) (o_end ?_)
  have e : l ++ leB 4 m.length ++ m = l ++ lenB m := by simp [lenB]
  rw [e] at hok2 ⊢
  exact r_ret1 Tryz.func99 rfl rfl ⟨⟨rfl, rfl, bf2, hok2, rfl⟩, Fz.le_refl _⟩
theorem openB_seal (l : List UInt8) : openB (sealB l) = (0, l) := by
  unfold openB
  have h1 : (sealB l).length - 4 = l.length := by simp
  have h2 : (sealB l).take l.length = l := by simp [sealB]
  rw [if_neg (by simp), h1, h2, if_pos rfl]
end Go.SX
namespace Go.SX
open Go
def cat {α : Type} : List (List α) → List α
  | [] => []
  | [x] => x
  | x :: y :: r => x ++ cat (y :: r)
theorem cat_cons {α : Type} (x : List α) (r : List (List α)) : cat (x :: r) = x ++ cat r := by
  cases r with
  | nil => simp [cat]
  | cons y r => rfl
theorem cat_eq {α : Type} : ∀ Ls : List (List α), cat Ls = Ls.flatten
  | [] => rfl
  | x :: r => by rw [cat_cons, cat_eq r, List.flatten_cons]
def okSel (n : Nat) : List Nat → Bool
  | [] => true
  | i :: r => Nat.blt i n && !(r.any fun j => Nat.beq i j) && okSel n r
def pick1 {α : Type} (Ls : List (List α)) : List Nat → List (List α)
  | [] => []
  | i :: r => (match Ls[i]? with | some l => l | none => []) :: pick1 Ls r
theorem pick1_eq {α : Type} (Ls : List (List α)) : ∀ l : List Nat, pick1 Ls l = l.map fun i => (Ls[i]?).getD []
  | [] => rfl
  | i :: r => by
    simp only [pick1, List.map_cons, pick1_eq Ls r]
    cases Ls[i]? <;> rfl
theorem pick1_all {α : Type} (Ls : List (List α)) : pick1 Ls (List.range Ls.length) = Ls := by
  rw [pick1_eq]
  apply List.ext_getElem
  · simp
  · intro i h1 h2
    simp [List.getElem?_eq_getElem h2]
theorem okSel_spec {n : Nat} : ∀ {p : List Nat}, okSel n p = true → p.Nodup ∧ ∀ i ∈ p, i < n
  | [], _ => by simp
  | i :: r, h => by
    simp only [okSel, Bool.and_eq_true, Bool.not_eq_true'] at h
    obtain ⟨h1, h2⟩ := okSel_spec h.2
    refine ⟨List.nodup_cons.2 ⟨fun hm => ?_, h1⟩, fun j hj => ?_⟩
    · have := List.any_eq_false.1 h.1.2 i hm
      simp at this
    · rcases List.mem_cons.1 hj with rfl | hj
      · exact Nat.le_of_ble_eq_true h.1.1
      · exact h2 j hj
theorem perm_rest : ∀ (p L : List Nat), p.Nodup → (∀ i ∈ p, i ∈ L) → ∃ r, L.Perm (p ++ r)
  | [], L, _, _ => ⟨L, .refl _⟩
  | i :: p, L, hnd, hm => by
    obtain ⟨h1, h2⟩ := List.nodup_cons.1 hnd
    obtain ⟨r, hr⟩ := perm_rest p (L.erase i) h2 fun j hj => (List.mem_erase_of_ne (by rintro rfl; exact h1 hj)).2 (hm j (List.mem_cons_of_mem _ hj))
    exact ⟨r, (List.perm_cons_erase (hm i List.mem_cons_self)).trans (hr.cons i)⟩
theorem sel_range {n : Nat} {p : List Nat} (h : okSel n p = true) : ∃ r, (List.range n).Perm (p ++ r) := by
  obtain ⟨h1, h2⟩ := okSel_spec h
  exact perm_rest p _ h1 fun i hi => List.mem_range.2 (h2 i hi)
theorem sub_sel {α : Type} (p : List Nat) (Ls : List (List α)) (h : okSel Ls.length p = true) : ∃ rest, (Ls.flatten).Perm ((pick1 Ls p).flatten ++ rest) ∧ (Ls.length = p.length → rest = []) := by
  obtain ⟨r, hr⟩ := sel_range h
  refine ⟨(pick1 Ls r).flatten, ?_, fun hl => ?_⟩
  · have h3 : (pick1 Ls (List.range Ls.length)).Perm (pick1 Ls (p ++ r)) := by
      rw [pick1_eq, pick1_eq]
      exact hr.map _
    rw [pick1_all] at h3
    have h4 := h3.flatten
    rw [pick1_eq, List.map_append, List.flatten_append, ← pick1_eq, ← pick1_eq] at h4
    exact h4
  · have h5 := hr.length_eq
    rw [List.length_range, List.length_append] at h5
    have : r = [] := List.eq_nil_of_length_eq_zero (by omega)
    subst this
    rfl
section
variable {C : Cx} {τ : Env} {F : Fz} {H : List Ent}
theorem j_sel {X : Act → World → Prop} {H' : List Ent} (Ls : List (List Ent)) (p : List Nat) (hH : H = cat Ls) (hp : okSel Ls.length p = true) (hH' : H' = cat (pick1 Ls p)) (h : Jd C τ F H' X) : Jd C τ F H X := by
  intro a w ha hw
  obtain ⟨rest, hr, _⟩ := sub_sel p Ls hp
  subst hH hH'
  rw [cat_eq] at hw h
  exact h a w ha ((hw.perm hr).drop (List.sublist_append_left _ _))
theorem selPerm {H' : List Ent} (Ls : List (List Ent)) (p : List Nat) (hH : H = cat Ls) (hp : okSel Ls.length p = true) (hl : Ls.length = p.length) (hH' : H' = cat (pick1 Ls p)) : H.Perm H' := by
  subst hH hH'
  obtain ⟨rest, hr, hn⟩ := sub_sel p Ls hp
  rw [hn hl, List.append_nil] at hr
  rw [cat_eq, cat_eq]
  exact hr
end
theorem does_same {P : Program} {O : World} {f : FuncId} {args : Array Value} {F : Fz} {H H0 : List Ent} {v : Value} (hp : H.Perm H0) (h : Does P O f args F H0 (fun r F' H' => r = v ∧ F' = F ∧ H' = H0)) :
    Does P O f args F H (fun r F' H' => r = v ∧ F' = F ∧ H' = H) := by
  intro w hw
  refine (h w (hw.perm hp)).mono ?_
  rintro e w' ⟨r, F', H', he, ⟨hr, hF, hH⟩, hle, hst⟩
  subst hH
  exact ⟨r, F', H, he, ⟨hr, hF, rfl⟩, hle, hst.perm hp.symm⟩
theorem does_drop {P : Program} {O : World} {f : FuncId} {args : Array Value} {F : Fz} {H H0 : List Ent} {R : Value → Fz → List Ent → Prop} (hp : H0.Sublist H) (h : Does P O f args F H0 R) : Does P O f args F H R :=
  fun w hw => h w (hw.drop hp)
end Go.SX
namespace Go.SX
open Go
def zeros (zc : List Value) : Nat → List Value
  | 0 => []
  | n + 1 => zc ++ zeros zc n
theorem zeros_length (zc : List Value) : ∀ n, (zeros zc n).length = n * zc.length
  | 0 => by simp [zeros]
  | n + 1 => by simp only [zeros, List.length_append, zeros_length zc n]; rw [Nat.add_mul]; omega
theorem zeros_get (zc : List Value) : ∀ (n i : Nat), i < n * zc.length → (zeros zc n)[i]? = zc[i % zc.length]?
  | 0, i, h => by simp at h
  | n + 1, i, h => by
    simp only [zeros]
    rcases Nat.lt_or_ge i zc.length with h1 | h1
    · rw [List.getElem?_append_left h1, Nat.mod_eq_of_lt h1]
    · rw [List.getElem?_append_right h1, zeros_get zc n _ (by rw [Nat.add_mul] at h; omega), Nat.mod_eq_sub_mod h1]
theorem zeros_all {zc : List Value} (h : zc.all oneCellB = true) : ∀ n, (zeros zc n).all oneCellB = true
  | 0 => rfl
  | n + 1 => by simp [zeros, zeros_all h n, h]
theorem made_zeros (zc : List Value) (n : Nat) : (madeCells zc.toArray (n * zc.length)).toList = zeros zc n := by
  apply List.ext_getElem?
  intro i
  have hl : (madeCells zc.toArray (n * zc.length)).toList.length = n * zc.length := by simp [madeCells]
  rcases Nat.lt_or_ge i (n * zc.length) with h | h
  · rw [zeros_get _ _ _ h]
    have hpos : 0 < zc.length := by
      rcases Nat.eq_zero_or_pos zc.length with h0 | h0
      · rw [h0] at h; omega
      · exact h0
    have hm : i % zc.length < zc.length := Nat.mod_lt _ hpos
    simp [madeCells, h, List.getElem?_eq_getElem hm]
  · rw [List.getElem?_eq_none (by omega), List.getElem?_eq_none (by rw [zeros_length]; exact h)]
theorem zeroCells_zeros (zc : List Value) (n : Nat) : (Builtin.zeroCells zc.toArray n).toList = zeros zc n := by
  rw [← made_zeros]
  rfl
section
variable {C : Cx} {τ : Env} {F : Fz} {H : List Ent} {dst : Option Nat} {ty t u : TypeId} {pos : String} {aft : Array Edge} {g : Option (Nat × Bool)} {x y z : Operand}
structure AppZ (P : Program) (t : TypeId) (zc : List Value) (bytes : Nat) : Prop where
  ex : ∃ e i z, P.underlying t = some (.slice e) ∧ P.info? e = some i ∧ i.zero = some z ∧ i.size = zc.length ∧ i.bytes = bytes ∧ z.cells = zc.toArray
  pos : 0 < zc.length
theorem a_appendZ (Pre : List Ent) {bf : Bf} {n m bytes : Nat} {zc xs : List Value} {k k' : IntKind} {mi : Int} {H1 : List Ent} (hT : AppZ C.P t zc bytes) (hu : C.P.underlying u = some (.int k')) (hx : ev τ x = some (bf.val n)) (hok : bf.ok n) (hl : xs.length = n * zc.length)
    (hH : H = Pre ++ (bf.ents zc.length xs ++ H1)) (hy : ev τ y = some (.int k mi)) (hmi : mi = m) (h1 : zc.all oneCellB = true) (h63 : n + m ≤ 4611686018427387904) (hby : (n + m) * bytes ≤ 140737488355328) :
    Act1 C ⟨dst, .call { callee := .builtin .append, args := #[x, y], argTypes := #[t, u] }, ty, pos, aft, g⟩ τ F H
      (fun r H' => ∃ bf' : Bf, r = bf'.val (n + m) ∧ bf'.ok (n + m) ∧ H' = Pre ++ (bf'.ents zc.length (xs ++ zeros zc m) ++ H1)) := by
  intro a w ha hw
  obtain ⟨⟨e, i, z, ht, hi, hz, hsz, hbytes, hzs⟩, hpos⟩ := hT
  subst hbytes hmi
  have sw : ∀ E : List Ent, (Pre ++ (E ++ H1)).Perm (E ++ (Pre ++ H1)) := fun E => by
    rw [← List.append_assoc, ← List.append_assoc]
    exact List.Perm.append_right H1 List.perm_append_comm
  have hw : St C.O F (bf.ents zc.length xs ++ (Pre ++ H1)) w := St.perm (sw _) (by rw [← hH]; exact hw)
  suffices hs : ∃ (v : Value) (bf' : Bf) (w' : World), (execOp a.eval ⟨dst, .call { callee := .builtin .append, args := #[x, y], argTypes := #[t, u] }, ty, pos, aft, g⟩).run C.P w = .ok (.value v) w' ∧
      v = bf'.val (n + m) ∧ bf'.ok (n + m) ∧ St C.O F (bf'.ents zc.length (xs ++ zeros zc m) ++ (Pre ++ H1)) w' by
    obtain ⟨v, bf', w', h1, h2, h3, h4⟩ := hs
    exact ⟨v, _, w', h1, ⟨bf', h2, h3, rfl⟩, h4.perm (sw _).symm⟩
  have hops : ∀ (s : Value) (r : Value) (w' : World), (Builtin.append_ #[t, u] ty #[s, .int k m]).run C.P w = .ok r w' → a.eval x = s →
      (execOp a.eval ⟨dst, .call { callee := .builtin .append, args := #[x, y], argTypes := #[t, u] }, ty, pos, aft, g⟩).run C.P w = .ok (.value r) w' := fun s r w' hr hs => by
    rw [execOp_builtin_run (s := Builtin.append_ #[t, u] ty #[a.eval x, a.eval y]) (r := .ok r w') (fun _ => by simp [builtin]) (by rw [hs, ha.eval hy]; exact hr)]
    rfl
  have hsmall : n + m ≤ 9223372036854775807 := by omega
  have hwrap : IntKind.i64.wrap (m : Int) = m := wrap_i64 (by omega) (by omega)
  have hmb : m * i.bytes ≤ 281474976710656 := Nat.le_trans (Nat.mul_le_mul_right _ (by omega)) (Nat.le_trans hby (by decide))
  have hbig : ¬ (281474976710656 < (m : Int) * (i.bytes : Int)) := by rw [← Int.natCast_mul]; omega
  have hneg : ¬ ((m : Int) < 0) := by omega
  have hzl := zeros_length zc m
  have hzero : (if m * zc.length = 0 then (pure #[] : Sem (Array Value)) else (do pure (Builtin.zeroCells zc.toArray m))) = pure (zeros zc m).toArray := by
    split
    · rename_i h0
      have : zeros zc m = [] := List.eq_nil_of_length_eq_zero (by omega)
      rw [this]
    · rw [← zeroCells_zeros]
  have hz0 : Builtin.zeroCells zc.toArray m = (zeros zc m).toArray := by rw [← zeroCells_zeros]
  have grown : ∀ (W : World), St C.O F (bf.ents zc.length xs ++ (Pre ++ H1)) W → ∀ newcap, n + m ≤ newcap → W.heap.size = w.heap.size → St C.O F (Bf.ents zc.length (.at w.heap.size newcap) (xs ++ zeros zc m) ++ (Pre ++ H1))
      (W.alloc (.cells (xs.toArray ++ (zeros zc m).toArray ++ Builtin.zeroCells zc.toArray (newcap - (n + m))) e)) := fun W hW newcap hle hs => by
    have hW1 : St C.O F (Pre ++ H1) W := hW.drop (List.sublist_append_right _ _)
    refine hW1.new (o := .cells (xs.toArray ++ (zeros zc m).toArray ++ Builtin.zeroCells zc.toArray (newcap - (n + m))) e) rfl rfl rfl rfl hs.symm ?_
    refine ⟨zeros zc (newcap - (n + m)), e, ?_, ?_⟩
    · rw [← hs, heap_alloc_new]
      congr 2
      apply Array.ext'
      simp [← zeroCells_zeros]
    · simp only [List.length_append, zeros_length, hl, ← Nat.add_mul]
      congr 1
      omega
  have hev := ha.eval hx
  have hgrow : ∀ (cap : Nat) (a0 : Option Addr), bf.addr = a0 → bf.cp = cap → ¬ (n + m ≤ cap) → (Builtin.firstCells zc.length n (.slice a0 n cap)).run C.P w.drew = .ok xs.toArray w.drew →
      ∃ (v : Value) (bf' : Bf) (w' : World), (execOp a.eval ⟨dst, .call { callee := .builtin .append, args := #[x, y], argTypes := #[t, u] }, ty, pos, aft, g⟩).run C.P w = .ok (.value v) w' ∧
      v = bf'.val (n + m) ∧ bf'.ok (n + m) ∧ St C.O F (bf'.ents zc.length (xs ++ zeros zc m) ++ (Pre ++ H1)) w' := fun cap a0 ha0 hc0 hroom hold => by
    have h63' : ¬ (9223372036854775807 < (n : Int) + (m : Int)) := by omega
    have hfit : ¬ (281474976710656 < Builtin.nextslicecap (n + m) cap * i.bytes) := by
      have := growslice_fits (old := cap) (by omega) hby
      omega
    have hr : (Builtin.append_ #[t, u] ty #[.slice a0 n cap, .int k m]).run C.P w = .ok (.slice (some ⟨w.heap.size, 0, none⟩) (n + m) (grownCap w (n + m) cap e)) (w.drew.alloc (.cells (xs.toArray ++ (zeros zc m).toArray ++ Builtin.zeroCells zc.toArray (grownCap w (n + m) cap e - (n + m))) e)) := by
      by_cases h0 : m * zc.length = 0
      · have hnil : zeros zc m = [] := List.eq_nil_of_length_eq_zero (by omega)
        simp [Builtin.append_, run_underlying ht, run_underlying hu, asInt, asIntOf, hwrap, hneg, hbig, sizeOf, typeInfo, zeroValue, hi, hz, hsz, hzs, h0, hroom, h63', hfit, Question.forced, hold, newRow, grownCap, hnil]
      · simp [Builtin.append_, run_underlying ht, run_underlying hu, asInt, asIntOf, hwrap, hneg, hbig, sizeOf, typeInfo, zeroValue, hi, hz, hsz, hzs, h0, hroom, h63', hfit, Question.forced, hold, newRow, grownCap, hz0]
        congr 2
        apply Array.ext'
        simp
    have hge := grownCap_ge w (n + m) cap e
    refine ⟨_, .at w.heap.size (grownCap w (n + m) cap e), _, hops _ _ _ hr (by rw [hev]; simp only [Bf.val, ha0, hc0]), rfl, hge, grown w.drew (hw.drew _) _ hge rfl⟩
  cases bf with
  | nil =>
    have hn : n = 0 := hok
    subst hn
    have hxs : xs = [] := List.eq_nil_of_length_eq_zero (by simpa using hl)
    subst hxs
    by_cases hm : m = 0
    · subst hm
      refine ⟨.slice none 0 0, .nil, w, hops _ _ _ ?_ hev, rfl, rfl, by simpa [Bf.ents] using hw⟩
      have hneg0 : ¬ ((0 : Int) < 0) := by omega
      simp only [Int.ofNat_eq_natCast, Int.cast_ofNat_Int] at hwrap
      simp [Bf.addr, Bf.cp, Builtin.append_, run_underlying ht, run_underlying hu, asInt, asIntOf, hwrap, sizeOf, typeInfo, hi]
    · exact hgrow 0 none rfl rfl (by omega) (run_firstCells_none w.drew _ _ _ _)
  | «at» b cap =>
    have hle : n ≤ cap := hok
    have hj : (Bf.ents zc.length (.at b cap) xs ++ (Pre ++ H1))[0]? = some (.mem b xs (cap * zc.length)) := rfl
    obtain ⟨rest, e', hb, hlen⟩ := hw.own _ (List.mem_of_getElem? hj)
    by_cases hroom : n + m ≤ cap
    · have hfit : n * zc.length + (zeros zc m).length ≤ cap * zc.length := by rw [zeros_length, ← Nat.add_mul]; exact Nat.mul_le_mul_right _ hroom
      have hst := run_storeCells_at C.P b (n * zc.length) e' (zeros zc m) 0 (xs ++ rest).toArray w hb (by simp only [Nat.add_zero, List.size_toArray, hlen]; exact hfit) (fun u hu => by rw [oneCell_eq]; exact List.all_eq_true.1 (zeros_all h1 m) u hu)
      simp only [Nat.add_zero] at hst
      have e1 : (xs ++ rest).toArray.toList.take (n * zc.length) ++ zeros zc m ++ (xs ++ rest).toArray.toList.drop (n * zc.length + (zeros zc m).length) = (xs ++ zeros zc m) ++ rest.drop (zeros zc m).length := by
        show (xs ++ rest).take (n * zc.length) ++ zeros zc m ++ (xs ++ rest).drop (n * zc.length + (zeros zc m).length) = _
        rw [← hl, List.take_left, List.drop_append]
        have : xs.drop (xs.length + (zeros zc m).length) = [] := List.drop_eq_nil_of_le (by omega)
        rw [this]
        simp
      rw [e1] at hst
      refine ⟨.slice (some ⟨b, 0, none⟩) (n + m) cap, .at b cap, w.setRow b ((xs ++ zeros zc m) ++ rest.drop (zeros zc m).length).toArray, hops _ _ _ ?_ hev, rfl, hroom,
        hw.set (j := 0) hj rfl rfl rfl (fun k hk => setRow_other w b k _ hk) ⟨rest.drop (zeros zc m).length, e', setRow_heap w b _ _ e' _ hb, ?_⟩⟩
      · have hadd : (⟨b, 0, none⟩ : Addr).add (n * zc.length) = ⟨b, n * zc.length, none⟩ := by
          unfold Addr.add
          split
          · rename_i h0; rw [h0]
          · simp
        by_cases h0 : m * zc.length = 0
        · have hnil : zeros zc m = [] := List.eq_nil_of_length_eq_zero (by omega)
          rw [hnil] at hst ⊢
          simp only [List.append_nil, List.length_nil, List.drop_zero] at hst ⊢
          simp [Bf.addr, Bf.cp, Builtin.append_, run_underlying ht, run_underlying hu, asInt, asIntOf, hwrap, hneg, hbig, sizeOf, typeInfo, zeroValue, hi, hz, hsz, hzs, h0, hroom, hadd, hst]
        · simp [Bf.addr, Bf.cp, Builtin.append_, run_underlying ht, run_underlying hu, asInt, asIntOf, hwrap, hneg, hbig, sizeOf, typeInfo, zeroValue, hi, hz, hsz, hzs, h0, hroom, hadd, hz0, hst]
      · have := hlen
        have hrl : (zeros zc m).length ≤ rest.length := by
          have := hlen
          simp only [List.length_append, hl] at this
          omega
        simp only [List.length_append, List.length_drop] at this ⊢
        omega
    · refine hgrow cap (some ⟨b, 0, none⟩) rfl rfl hroom ?_
      refine run_firstCells_some (P := C.P) w.drew zc.length n _ n cap xs hl fun j u hj => ?_
      have hadd : (⟨b, 0, none⟩ : Addr).add j = ⟨b, j, none⟩ := by
        unfold Addr.add
        split
        · rename_i h0; rw [h0]
        · simp
      have hjl : j < xs.length := by
        rcases Nat.lt_or_ge j xs.length with h | h
        · exact h
        · simp [List.getElem?_eq_none h] at hj
      rw [hadd]
      have hb2 : w.drew.heap[b]? = some (.cells (xs ++ rest).toArray e' (0, 0)) := hb
      simp only [World.cell?, hb2]
      simp [List.getElem?_append_left hjl, hj]
end
end Go.SX
namespace Go.SX
open Go
section
variable {C : Cx} {k : List Item} {τ : Env} {F : Fz} {H : List Ent} {dst : Option Nat} {ty t u : TypeId} {pos : String} {aft : Array Edge} {g : Option (Nat × Bool)} {x y z : Operand}
theorem v_makeFunc {f : Fn} {first cap : List Operand} {vs us : List Value} (h1 : evs τ first = some vs) (h2 : evs τ cap = some us) : Val C ⟨dst, .makeFunc f first.toArray cap.toArray, ty, pos, aft, g⟩ τ F H (.func f vs.toArray us.toArray) := fun a w ha _ => by
  have e1 := evs_eval ha h1
  have e2 := evs_eval ha h2
  subst e1 e2
  simp only [execOp, Instr.makeFunc, List.map_toArray]
  rfl
theorem o_actN {ops : Array Oper} {i : Nat} {l : List Nat} {o : Oper} {R : Value → List Ent → Prop} (ho : ops[i]? = some o) (hd : o.dst = none) (hg : wantedB τ ops o = some true)
    (hx : Act1 C o τ F H R) (h : ∀ v H', R v H' → Ops C ops l k τ F H') : Ops C ops (i :: l) k τ F H := by
  intro a w ha hw
  rw [wpOps_cons]
  unfold wpOp
  rw [ho]
  simp only [wanted_ok ha hg, if_true]
  refine .inl ?_
  unfold Oper.wp
  obtain ⟨v, H', w', hr, hR, hst⟩ := hx a w ha hw
  rw [hr, Oper.upon_value, hd]
  exact h v H' hR _ w' ha hst
theorem putAt_length (cs : List Value) (off : Nat) (vs : List Value) (h : off + vs.length ≤ cs.length) : (putAt cs off vs).length = cs.length := by
  simp [putAt]; omega
theorem St.put {O : World} {F : Fz} {H : List Ent} {w : World} (P : Program) {j b off n : Nat} {cs vs : List Value} (hw : St O F H w) (hj : H[j]? = some (.mem b cs n)) (hfit : off + vs.length ≤ cs.length) (h1 : vs.all oneCellB = true) :
    ∃ w', (storeCells ⟨b, off, none⟩ vs).run P w = .ok () w' ∧ St O F (H.set j (.mem b (putAt cs off vs) n)) w' := by
  obtain ⟨rest, e', hb, hlen⟩ := hw.own _ (List.mem_of_getElem? hj)
  have hst := run_storeCells_at P b off e' vs 0 (cs ++ rest).toArray w hb (by simp; omega) (fun u hu => by rw [oneCell_eq]; exact List.all_eq_true.1 h1 u hu)
  simp only [Nat.add_zero] at hst
  have e1 : (cs ++ rest).toArray.toList.take off ++ vs ++ (cs ++ rest).toArray.toList.drop (off + vs.length) = putAt cs off vs ++ rest := by
    show (cs ++ rest).take off ++ vs ++ (cs ++ rest).drop (off + vs.length) = _
    rw [List.take_append_of_le_length (by omega), List.drop_append_of_le_length (by omega)]
    simp [putAt]
  rw [e1] at hst
  refine ⟨_, hst, hw.set hj rfl rfl rfl (fun k hk => setRow_other w b k _ hk) ⟨rest, e', setRow_heap w b _ _ e' _ hb, ?_⟩⟩
  rw [List.length_append, putAt_length _ _ _ hfit, ← List.length_append]
  exact hlen
theorem a_clear (j : Nat) {b off m cp bytes N : Nat} {zc zs : List Value} (hT : AppZ C.P t zc bytes) (hj : H[j]? = some (.mem b zs N)) (hx : ev τ x = some (.slice (some ⟨b, off, none⟩) m cp)) (h1 : zc.all oneCellB = true) (hfit : off + m * zc.length ≤ zs.length) :
    Act1 C ⟨dst, .call { callee := .builtin .clear, args := #[x], argTypes := #[t] }, ty, pos, aft, g⟩ τ F H (fun _ H' => H' = H.set j (.mem b (putAt zs off (zeros zc m)) N)) := by
  intro a w ha hw
  obtain ⟨⟨e, i, z, ht, hi, hz, hsz, hbytes, hzs⟩, hpos⟩ := hT
  obtain ⟨w', hst, hS⟩ := hw.put C.P (off := off) (vs := zeros zc m) hj (by rw [zeros_length]; exact hfit) (zeros_all h1 m)
  refine ⟨.tuple #[], _, w', ?_, rfl, hS⟩
  have hz0 : Builtin.zeroCells zc.toArray m = (zeros zc m).toArray := by rw [← zeroCells_zeros]
  have hr : (Builtin.clear_ #[t] ty #[.slice (some ⟨b, off, none⟩) m cp]).run C.P w = .ok (.tuple #[]) w' := by
    cases m with
    | zero =>
      have hnil : zeros zc 0 = [] := rfl
      rw [hnil] at hst
      have hww : w' = w := by
        have : (storeCells ⟨b, off, none⟩ []).run C.P w = .ok () w := by simp [storeCells]
        rw [this] at hst
        cases hst
        rfl
      subst hww
      simp [Builtin.clear_, run_underlying ht]
    | succ m => simp [Builtin.clear_, run_underlying ht, zeroValue, typeInfo, hi, hz, hzs, hz0, hst]
  rw [execOp_builtin_run (s := Builtin.clear_ #[t] ty #[a.eval x]) (r := .ok (.tuple #[]) w') (fun _ => by simp [builtin]) (by rw [ha.eval hx]; exact hr)]
  rfl
end
end Go.SX
namespace Go.SX
open Go
inductive Wf where
  | nil
  | at (b off cp N : Nat) (pre : List Value)
def Wf.addr : Wf → Option Addr
  | .nil => none
  | .at b off _ _ _ => some ⟨b, off, none⟩
def Wf.cp : Wf → Nat
  | .nil => 0
  | .at _ _ cp _ _ => cp
abbrev Wf.val (n : Nat) (wf : Wf) : Value := .slice wf.addr n wf.cp
def Wf.ents (xs : List Value) : Wf → List Ent
  | .nil => []
  | .at b _ _ N pre => [.mem b (pre ++ xs) N]
def Wf.ok (sz n : Nat) : Wf → Prop
  | .nil => n = 0
  | .at _ off cp N pre => n ≤ cp ∧ off + cp * sz ≤ N ∧ pre.length = off
theorem Wf.reads {wf : Wf} {sz n : Nat} {cs : List Value} {F : Fz} {H : List Ent} (hok : wf.ok sz n) (hl : cs.length = n * sz) (hH : wf.ents cs ⊆ H) : Sl F H sz (wf.val n) n cs := by
  cases wf with
  | nil =>
    have hn : n = 0 := hok
    subst hn
    have hcs : cs = [] := List.eq_nil_of_length_eq_zero (by simpa using hl)
    subst hcs
    exact Sl.nil _ _ _
  | «at» b off cp N pre =>
    obtain ⟨h1, h2, h3⟩ := hok
    refine ⟨_, cp, rfl, hl, h1, by simp [Wf.addr], fun i c hc => ⟨b, off, rfl, ?_⟩⟩
    refine cell_own (hH (List.mem_cons_self ..)) ?_
    rw [List.getElem?_append_right (by omega), h3, Nat.add_sub_cancel_left]
    exact hc
section
variable {C : Cx} {τ : Env} {F : Fz} {H : List Ent} {dst : Option Nat} {ty t u : TypeId} {pos : String} {aft : Array Edge} {g : Option (Nat × Bool)} {x y z : Operand}
theorem a_appendW (Pre : List Ent) {wf : Wf} {n m sz bytes : Nat} {xs ys : List Value} {v : Value} {H1 : List Ent} (hT : AppT C.P t sz bytes) (hx : ev τ x = some (wf.val n)) (hok : wf.ok sz n) (hl : xs.length = n * sz)
    (hH : H = Pre ++ (wf.ents xs ++ H1)) (hy : ev τ y = some v) (hv : Sl F H sz v m ys) (h1 : ys.all oneCellB = true) (h63 : n + m ≤ maxLen) (hby : (n + m) * bytes ≤ 140737488355328) :
    Act1 C ⟨dst, .call { callee := .builtin .append, args := #[x, y], argTypes := #[t, t] }, ty, pos, aft, g⟩ τ F H
      (fun r H' => ∃ wf' : Wf, r = wf'.val (n + m) ∧ wf'.ok sz (n + m) ∧ H' = Pre ++ (wf'.ents (xs ++ ys) ++ H1)) := by
  cases wf with
  | nil =>
    have hn : n = 0 := hok
    subst hn
    intro a w ha hw
    obtain ⟨r, H', w', hr, ⟨bf', h2, h3, h4⟩, hst⟩ := a_appendP (C := C) (F := F) (H := H) (ty := ty) (pos := pos) (aft := aft) (g := g) (dst := dst) Pre (bf := .nil) (n := 0) hT hx rfl hl hH hy hv h1 h63 hby a w ha hw
    cases bf' with
    | nil => exact ⟨r, H', w', hr, ⟨.nil, h2, h3, h4⟩, hst⟩
    | «at» b c => exact ⟨r, H', w', hr, ⟨.at b 0 c (c * sz) [], h2, ⟨h3, by omega, rfl⟩, h4⟩, hst⟩
  | «at» b off cap N pre =>
    intro a w ha hw
    obtain ⟨hle, hN, hpl⟩ := hok
    have sw : ∀ E : List Ent, (Pre ++ (E ++ H1)).Perm (E ++ (Pre ++ H1)) := fun E => by
      rw [← List.append_assoc, ← List.append_assoc]
      exact List.Perm.append_right H1 List.perm_append_comm
    have hv := hv.mono (F' := F) (H' := (Wf.at b off cap N pre).ents xs ++ (Pre ++ H1)) (Fz.le_refl F) (by rw [hH]; exact (sw _).subset)
    have hw : St C.O F ((Wf.at b off cap N pre).ents xs ++ (Pre ++ H1)) w := St.perm (sw _) (by rw [← hH]; exact hw)
    suffices hs : ∃ (v' : Value) (wf' : Wf) (w' : World), (execOp a.eval ⟨dst, .call { callee := .builtin .append, args := #[x, y], argTypes := #[t, t] }, ty, pos, aft, g⟩).run C.P w = .ok (.value v') w' ∧
        v' = wf'.val (n + m) ∧ wf'.ok sz (n + m) ∧ St C.O F (wf'.ents (xs ++ ys) ++ (Pre ++ H1)) w' by
      obtain ⟨v', wf', w', h1, h2, h3, h4⟩ := hs
      exact ⟨v', _, w', h1, ⟨wf', h2, h3, rfl⟩, h4.perm (sw _).symm⟩
    obtain ⟨⟨e, i, z, ht, hi, hz, hsz, hbytes, hzs⟩, hpos⟩ := hT
    subst hsz hbytes
    obtain ⟨a0, cap0, rfl, _⟩ := hv.shape
    have hyl := hv.len
    obtain ⟨_, hcells⟩ := hv.cells hw.held
    have hops : ∀ (s : Value) (r : Value) (w' : World), (Builtin.append_ #[t, t] ty #[s, .slice a0 m cap0]).run C.P w = .ok r w' → a.eval x = s →
        (execOp a.eval ⟨dst, .call { callee := .builtin .append, args := #[x, y], argTypes := #[t, t] }, ty, pos, aft, g⟩).run C.P w = .ok (.value r) w' := fun s r w' hr hs => by
      rw [execOp_builtin_run (s := Builtin.append_ #[t, t] ty #[a.eval x, a.eval y]) (r := .ok r w') (fun _ => by simp [builtin]) (by rw [hs, ha.eval hy]; exact hr)]
      rfl
    have hsmall : n + m ≤ 9223372036854775807 := by simp only [maxLen] at h63; omega
    have hev := ha.eval hx
    have hj : ((Wf.at b off cap N pre).ents xs ++ (Pre ++ H1))[0]? = some (.mem b (pre ++ xs) N) := rfl
    obtain ⟨rest, e', hb, hlen⟩ := hw.own _ (List.mem_of_getElem? hj)
    simp only [List.length_append, hpl, hl] at hlen
    by_cases hroom : n + m ≤ cap
    · have hf := hv.firstCells (P := C.P) hw.held
      have hmul : n * i.size + m * i.size ≤ cap * i.size := by rw [← Nat.add_mul]; exact Nat.mul_le_mul_right _ hroom
      have hst := run_storeCells_at C.P b (off + n * i.size) e' ys 0 (pre ++ xs ++ rest).toArray w hb (by simp only [Nat.add_zero, List.size_toArray, List.length_append, hpl, hl, hyl]; omega) (fun u hu => by rw [oneCell_eq]; exact List.all_eq_true.1 h1 u hu)
      simp only [Nat.add_zero] at hst
      have e1 : (pre ++ xs ++ rest).toArray.toList.take (off + n * i.size) ++ ys ++ (pre ++ xs ++ rest).toArray.toList.drop (off + n * i.size + ys.length) = (pre ++ (xs ++ ys)) ++ rest.drop ys.length := by
        have hpx : (pre ++ xs).length = off + n * i.size := by rw [List.length_append, hpl, hl]
        show (pre ++ xs ++ rest).take (off + n * i.size) ++ ys ++ (pre ++ xs ++ rest).drop (off + n * i.size + ys.length) = _
        rw [← hpx, List.take_left, List.drop_append]
        have : (pre ++ xs).drop ((pre ++ xs).length + ys.length) = [] := List.drop_eq_nil_of_le (by omega)
        rw [this]
        simp
      rw [e1] at hst
      refine ⟨.slice (some ⟨b, off, none⟩) (n + m) cap, .at b off cap N pre, w.setRow b ((pre ++ (xs ++ ys)) ++ rest.drop ys.length).toArray, hops _ _ _ ?_ hev, rfl, ⟨hroom, hN, hpl⟩,
        hw.set (j := 0) hj rfl rfl rfl (fun k hk => setRow_other w b k _ hk) ⟨rest.drop ys.length, e', setRow_heap w b _ _ e' _ hb, ?_⟩⟩
      · have hadd : (⟨b, off, none⟩ : Addr).add (n * i.size) = ⟨b, off + n * i.size, none⟩ := by
          unfold Addr.add
          split
          · rename_i h0; rw [h0, Nat.add_zero]
          · simp
        simp [Wf.addr, Wf.cp, Builtin.append_, run_underlying ht, sizeOf, typeInfo, hi, Builtin.lenOf, hroom, hf, hadd, hst]
      · simp only [List.length_append, List.length_drop, hpl, hl, hyl]
        omega
    · have hm : 0 < m := by omega
      obtain ⟨b2, off2, cap2, heq, _, hc⟩ := hv.view (Nat.mul_pos hm hpos)
      simp only [Value.slice.injEq] at heq
      obtain ⟨rfl, _, rfl⟩ := heq
      have hr := run_append_grow (P := C.P) w t ty e i z ht hi hz ⟨b, off, none⟩ n cap xs hl (fun j u hj => by
        have hadd : (⟨b, off, none⟩ : Addr).add j = ⟨b, off + j, none⟩ := by
          unfold Addr.add
          split
          · rename_i h0; rw [h0, Nat.add_zero]
          · simp
        have hjl : j < xs.length := by
          rcases Nat.lt_or_ge j xs.length with h | h
          · exact h
          · simp [List.getElem?_eq_none h] at hj
        rw [hadd]
        simp only [World.cell?, hb]
        have h9 : (pre ++ xs ++ rest)[off + j]? = some u := by
          rw [List.getElem?_append_left (by rw [List.length_append, hpl]; omega), List.getElem?_append_right (by omega), hpl, Nat.add_sub_cancel_left, hj]
        simpa using h9) ⟨b2, off2, none⟩ m cap0 ys hyl (fun j u hj => by
        obtain ⟨b', hb', h'⟩ := hcells j u hj
        simp only [Option.some.injEq] at hb'
        subst hb'
        exact h') (by omega) (by omega) (growslice_fits (by omega) hby)
      have hge := grownCap_ge w (n + m) cap e
      refine ⟨_, .at w.heap.size 0 (grownCap w (n + m) cap e) (grownCap w (n + m) cap e * i.size) [], _, hops _ _ _ hr hev, rfl, ⟨hge, by omega, rfl⟩, ?_⟩
      have hW1 : St C.O F (Pre ++ H1) w.drew := (hw.drew _).drop (List.sublist_append_right _ _)
      refine hW1.new (o := .cells (xs.toArray ++ ys.toArray ++ Builtin.zeroCells z.cells (grownCap w (n + m) cap e - (n + m))) e) rfl rfl rfl rfl rfl ?_
      refine ⟨(Builtin.zeroCells z.cells (grownCap w (n + m) cap e - (n + m))).toList, e, ?_, ?_⟩
      · show (w.drew.alloc _).heap[w.drew.heap.size]? = _
        rw [heap_alloc_new]
        congr 2
        apply Array.ext'
        simp
      · simp only [List.length_append, Array.length_toList, size_zeroCells, hzs, hl, hyl, ← Nat.add_mul, List.nil_append]
        congr 1
        omega
end
end Go.SX
namespace Go.SX
open Go
section
variable {α : Type} {c : α → List Value} {k : Nat}
theorem vec_len (hc : ∀ a, (c a).length = k) : ∀ l : List α, (l.flatMap c).length = l.length * k
  | [] => by simp
  | a :: r => by rw [List.flatMap_cons, List.length_append, hc, vec_len hc r, List.length_cons, Nat.add_mul]; omega
theorem vec_get (hc : ∀ a, (c a).length = k) : ∀ (l : List α) (i : Nat) (hi : i < l.length) (j : Nat), j < k → (l.flatMap c)[i * k + j]? = (c l[i])[j]?
  | a :: r, 0, _, j, hj => by
    rw [List.flatMap_cons, Nat.zero_mul, Nat.zero_add, List.getElem?_append_left (by rw [hc]; exact hj)]
    rfl
  | a :: r, i + 1, hi, j, hj => by
    have ih := vec_get hc r i (by simpa using hi) j hj
    rw [List.flatMap_cons, List.getElem?_append_right (by rw [hc, Nat.add_mul]; omega), hc]
    have e : (i + 1) * k + j - k = i * k + j := by rw [Nat.add_mul]; omega
    rw [e, ih]
    rfl
theorem vec_take (hc : ∀ a, (c a).length = k) (l : List α) (n : Nat) (hn : n ≤ l.length) : (l.flatMap c).take (n * k) = (l.take n).flatMap c := by
  have e : l.flatMap c = (l.take n).flatMap c ++ (l.drop n).flatMap c := by rw [← List.flatMap_append, List.take_append_drop]
  rw [e]
  exact List.take_left' (by rw [vec_len hc, List.length_take, Nat.min_eq_left hn])
theorem vec_drop (hc : ∀ a, (c a).length = k) (l : List α) (n : Nat) (hn : n ≤ l.length) : (l.flatMap c).drop (n * k) = (l.drop n).flatMap c := by
  have e : l.flatMap c = (l.take n).flatMap c ++ (l.drop n).flatMap c := by rw [← List.flatMap_append, List.take_append_drop]
  rw [e]
  exact List.drop_left' (by rw [vec_len hc, List.length_take, Nat.min_eq_left hn])
theorem vec_put (hc : ∀ a, (c a).length = k) (l : List α) (i : Nat) (hi : i < l.length) (a : α) : putAt (l.flatMap c) (i * k) (c a) = (l.set i a).flatMap c := by
  unfold putAt
  rw [vec_take hc l i (by omega), hc]
  have e : i * k + k = (i + 1) * k := by rw [Nat.add_mul, Nat.one_mul]
  rw [e, vec_drop hc l (i + 1) (by omega), List.set_eq_take_append_cons_drop, if_pos hi]
  simp
theorem vec_append (l m : List α) : (l ++ m).flatMap c = l.flatMap c ++ m.flatMap c := List.flatMap_append
theorem vec_cell {F : Fz} {H : List Ent} {b N : Nat} {l : List α} (hc : ∀ a, (c a).length = k) (hm : Ent.mem b (l.flatMap c) N ∈ H) (i : Nat) (hi : i < l.length) (j : Nat) (v : Value) (hv : (c l[i])[j]? = some v) : Cell F H b (i * k + j) v := by
  have hj : j < k := by
    rw [← hc l[i]]
    rcases Nat.lt_or_ge j (c l[i]).length with h | h
    · exact h
    · rw [List.getElem?_eq_none h] at hv; cases hv
  exact cell_own hm (by rw [vec_get hc l i hi j hj]; exact hv)
end
end Go.SX
namespace Go.SX
open Go
section
variable {C : Cx} {k : List Item} {τ : Env} {F : Fz} {H : List Ent} {dst : Option Nat} {ty t u : TypeId} {pos : String} {aft : Array Edge} {g : Option (Nat × Bool)} {x y z : Operand}
theorem a_appendNew {n m sz bytes : Nat} {a0 : Option Addr} {xs ys : List Value} {v : Value} (hT : AppT C.P t sz bytes) (hx : ev τ x = some (.slice a0 n n)) (hu : Sl F H sz (.slice a0 n n) n xs)
    (hy : ev τ y = some v) (hv : Sl F H sz v m ys) (hm : 0 < m) (h63 : n + m ≤ maxLen) (hby : (n + m) * bytes ≤ 140737488355328) :
    Act1 C ⟨dst, .call { callee := .builtin .append, args := #[x, y], argTypes := #[t, t] }, ty, pos, aft, g⟩ τ F H
      (fun r H' => ∃ b c, r = .slice (some ⟨b, 0, none⟩) (n + m) c ∧ n + m ≤ c ∧ H' = .mem b (xs ++ ys) (c * sz) :: H) := by
  intro a w ha hw
  obtain ⟨⟨e, i, z, ht, hi, hz, hsz, hbytes, hzs⟩, hpos⟩ := hT
  subst hsz hbytes
  obtain ⟨b2, off, cap0, heq, _, hc⟩ := hv.view (Nat.mul_pos hm hpos)
  subst heq
  have hyl := hv.len
  have hl := hu.len
  obtain ⟨_, hcells⟩ := hv.cells hw.held
  obtain ⟨_, hucells⟩ := hu.cells hw.held
  have hops : ∀ (s : Value) (r : Value) (w' : World), (Builtin.append_ #[t, t] ty #[s, .slice (some ⟨b2, off, none⟩) m cap0]).run C.P w = .ok r w' → a.eval x = s →
      (execOp a.eval ⟨dst, .call { callee := .builtin .append, args := #[x, y], argTypes := #[t, t] }, ty, pos, aft, g⟩).run C.P w = .ok (.value r) w' := fun s r w' hr hs => by
    rw [execOp_builtin_run (s := Builtin.append_ #[t, t] ty #[a.eval x, a.eval y]) (r := .ok r w') (fun _ => by simp [builtin]) (by rw [hs, ha.eval hy]; exact hr)]
    rfl
  have hsmall : n + m ≤ 9223372036854775807 := by simp only [maxLen] at h63; omega
  have grown : ∀ (W : World), St C.O F H W → ∀ newcap, n + m ≤ newcap → W.heap.size = w.heap.size → St C.O F (.mem w.heap.size (xs ++ ys) (newcap * i.size) :: H)
      (W.alloc (.cells (xs.toArray ++ ys.toArray ++ Builtin.zeroCells z.cells (newcap - (n + m))) e)) := fun W hW newcap hle hs => by
    refine hW.new (o := .cells (xs.toArray ++ ys.toArray ++ Builtin.zeroCells z.cells (newcap - (n + m))) e) rfl rfl rfl rfl hs.symm ?_
    refine ⟨(Builtin.zeroCells z.cells (newcap - (n + m))).toList, e, ?_, ?_⟩
    · rw [← hs, heap_alloc_new]
      congr 2
      apply Array.ext'
      simp
    · simp only [List.length_append, Array.length_toList, size_zeroCells, hzs, hl, hyl, ← Nat.add_mul]
      congr 1
      omega
  have hev := ha.eval hx
  have hy2 : ∀ (j : Nat) (u : Value), ys[j]? = some u → w.cell? ((⟨b2, off, none⟩ : Addr).add j) = some u := fun j u hj => by
    obtain ⟨b', hb', h'⟩ := hcells j u hj
    simp only [Option.some.injEq] at hb'
    subst hb'
    exact h'
  cases a0 with
  | none =>
    have hxs : xs = [] := by
      cases xs with
      | nil => rfl
      | cons c r => obtain ⟨b, hb, _⟩ := hucells 0 c rfl; cases hb
    subst hxs
    have hn : n = 0 := by
      have : n * i.size = 0 := by simpa using hl.symm
      rcases Nat.mul_eq_zero.1 this with h | h
      · exact h
      · omega
    subst hn
    have hr := run_append_nil (P := C.P) w t ty e i z ht hi hz ⟨b2, off, none⟩ m cap0 ys hyl hy2 (by omega) (by omega) (by simp only [Nat.zero_add] at hby; omega)
    have hge := grownCap_ge w m 0 e
    have hgr := grown w.drew (hw.drew _) (grownCap w m 0 e) (by omega) rfl
    simp only [List.nil_append, Nat.zero_add] at hgr ⊢
    refine ⟨_, _, _, hops _ _ _ hr hev, ⟨w.heap.size, grownCap w m 0 e, rfl, hge, rfl⟩, ?_⟩
    simpa using hgr
  | some q =>
    have hr := run_append_grow (P := C.P) w t ty e i z ht hi hz q n n xs hl (fun j u hj => by
      obtain ⟨b', hb', h'⟩ := hucells j u hj
      simp only [Option.some.injEq] at hb'
      subst hb'
      exact h') ⟨b2, off, none⟩ m cap0 ys hyl hy2 (by omega) (by omega) (growslice_fits (by omega) hby)
    have hge := grownCap_ge w (n + m) n e
    exact ⟨_, _, _, hops _ _ _ hr hev, ⟨w.heap.size, grownCap w (n + m) n e, rfl, hge, rfl⟩, grown w.drew (hw.drew _) _ hge rfl⟩
theorem part_int {P : Program} {t : TypeId} {cs : Array Value} {off : Nat} {v : Value} (h : isAggB P t = some false) (hv : cs[off]? = some v) (w : World) : (part t cs off).run P w = .ok v w := by
  simp [part, isAgg_run h, hv]
theorem v_agg2eq {k1 k2 k3 k4 : IntKind} {m n m' n' : Int} {f0 f1 : Field} (hx : ev τ x = some (.agg #[.int k1 m, .int k2 n])) (hy : ev τ y = some (.agg #[.int k1 m', .int k2 n'])) (ht : C.P.underlying t = some (.struct (C.P.fieldsOf t))) (hp : C.P.stoodInHeld t = false) (hg : C.P.eqGuardType C.P.depth t = false)
    (hf : (C.P.fieldsOf t).toList = [f0, f1]) (n0 : (f0.name != "_") = true) (n1 : (f1.name != "_") = true) (g0 : isAggB C.P f0.type = some false) (g1 : isAggB C.P f1.type = some false) (u0 : C.P.underlying f0.type = some (.int k3)) (u1 : C.P.underlying f1.type = some (.int k4)) (o0 : f0.offset = 0) (o1 : f1.offset = 1) :
    Val C ⟨dst, .binOp .eql t x y u, ty, pos, aft, g⟩ τ F H (.bool (decide (m = m' ∧ n = n'))) := fun a w ha hw => by
  have n0' : f0.name ≠ "_" := by simpa using n0
  have n1' : f1.name ≠ "_" := by simpa using n1
  have q0 : ∀ w, (part f0.type #[.int k1 m, .int k2 n] 0).run C.P w = .ok (.int k1 m) w := part_int g0 rfl
  have q1 : ∀ w, (part f1.type #[.int k1 m, .int k2 n] 1).run C.P w = .ok (.int k2 n) w := part_int g1 rfl
  have q2 : ∀ w, (part f0.type #[.int k1 m', .int k2 n'] 0).run C.P w = .ok (.int k1 m') w := part_int g0 rfl
  have q3 : ∀ w, (part f1.type #[.int k1 m', .int k2 n'] 1).run C.P w = .ok (.int k2 n') w := part_int g1 rfl
  have q4 : ∀ w, (Op.equalIn 9999 f0.type (.int k1 m) (.int k1 m')).run C.P w = .ok (m == m') w := fun w => run_equalIn_int w 9998 f0.type k1 k3 _ _ u0
  have q5 : ∀ w, (Op.equalIn 9999 f1.type (.int k2 n) (.int k2 n')).run C.P w = .ok (n == n') w := fun w => run_equalIn_int w 9998 f1.type k2 k4 _ _ u1
  simp only [execOp, ha.eval hx, ha.eval hy, Sem.run_bind, run_eqGuard_agg w .eql t x y _ _ hg, Result.andThen_ok, run_eql_struct, run_equalIn_agg w 9999 t _ _ ht hp, hf]
  simp only [Op.eqFields, n0', n1', ne_eq, not_false_eq_true, if_true, Sem.run_bind, o0, o1, q0, q1, q2, q3, q4, q5, Result.andThen_ok]
  have bm : ∀ p q : Int, p ≠ q → (p == q) = false := fun p q h => by simpa using h
  by_cases h1 : m = m'
  · subst h1
    by_cases h2 : n = n'
    · subst h2
      simp only [beq_self_eq_true, Bool.not_true, Bool.false_eq_true, if_false, Sem.run_bind, Sem.run_pure, q1, q3, q5, Result.andThen_ok]
      simp
    · simp only [beq_self_eq_true, Bool.not_true, Bool.false_eq_true, if_false, Sem.run_bind, Sem.run_pure, q1, q3, q5, Result.andThen_ok, bm _ _ h2]
      simp [h2]
  · simp [h1, bm _ _ h1]
end
end Go.SX
namespace Go.SX
open Go Go.Proofs
set_option maxRecDepth 4000
theorem sl_Clone (O : World) (F : Fz) (v : Value) (l : List UInt8) (Fr : List Ent) (hv : SlB F Fr v l) (hl : l.length ≤ 140737488355328) :
    Does Tryz.prog O 61 #[v] F Fr (fun r F' H' => F' = F ∧ ∃ bf : Bf, bf.ok l.length ∧ r = bf.val l.length ∧ H' = bf.ents 1 (bytesV l) ++ Fr) := by
  obtain ⟨a0, cap, rfl, hcap⟩ := Sl.shape hv
  refine does_of_run (args := [_]) Tryz.func61 rfl rfl ?_
  cases a0 with
  | none =>
    have hl0 : l = [] := by
      cases l with
      | nil => rfl
      | cons x r =>
        obtain ⟨a1, c1, h1, _, _, h4, h5⟩ := hv
        obtain ⟨b, off, hb, _⟩ := h5 0 (byteV x) rfl
        simp only [Value.slice.injEq] at h1
        rw [hb] at h1
        cases h1.1
    subst hl0
    refine r_seq (r_region rfl (o_vl rfl rfl (v_assign rfl) (o_end (r_seq (r_seq (r_region rfl (o_vl rfl rfl (v_move rfl) (o_vl rfl rfl (v_slnil rfl rfl rfl) (o_end (r_true rfl (r_seq (r_region rfl (o_vl rfl rfl (v_assign rfl) ?_)))))))))))))
    refine o_end ?_
    exact r_ret1 Tryz.func61 rfl rfl ⟨⟨rfl, .nil, rfl, rfl, rfl⟩, Fz.le_refl _⟩
  | some x =>
    refine r_seq (r_region rfl (o_vl rfl rfl (v_assign rfl) (o_end (r_seq (r_seq (r_region rfl (o_vl rfl rfl (v_move rfl) (o_vl rfl rfl (v_slnil rfl rfl rfl) (o_end (r_false rfl (r_skip (r_seq (r_region rfl ?_)))))))))))))
    refine o_act rfl rfl rfl rfl (a_buildS0 rfl rfl) ?_
    rintro v' H' ⟨b, rfl, rfl⟩
    refine o_vl rfl rfl (v_move rfl) (o_act rfl rfl rfl rfl (a_append (bf := .at b 0) (n := 0) (sz := 1) (bytes := 1) (xs := []) ⟨⟨_, _, _, rfl, rfl, rfl, rfl, rfl, rfl⟩, by decide⟩ rfl (Nat.le_refl _) rfl rfl rfl (hv.mono (Fz.le_refl _) (by simp)) (bytes_one _) (by unfold maxLen; omega) (by omega)) ?_)
    rintro v' H' ⟨bf, rfl, hok, rfl⟩
    rw [Nat.zero_add] at hok ⊢
    refine o_vl rfl rfl (v_assign rfl) (o_end ?_)
    exact r_ret1 Tryz.func61 rfl rfl ⟨⟨rfl, bf, hok, rfl, rfl⟩, Fz.le_refl _⟩
abbrev DkE (a : Nat) (bf : Bf) (l : List UInt8) (sure ops : Nat) : Ent := .mem a [bf.val l.length, .int .i64 sure, .int .i64 ops] 3
theorem dk_New (O : World) (F : Fz) (Fr : List Ent) : Does Tryz.prog O 27 #[] F Fr (fun r F' H' => F' = F ∧ ∃ a, r = ptrV a ∧ H' = DkE a .nil [] 0 0 :: Fr) := by
  refine does_of_run (args := []) Tryz.func27 rfl rfl ?_
  refine r_seq (r_region rfl (o_vl rfl rfl (v_assign rfl) (o_end (r_seq (r_region rfl (o_vl rfl rfl (v_build rfl rfl) (o_act rfl rfl rfl rfl (a_box rfl) ?_)))))))
  rintro v' H' ⟨a, rfl, rfl⟩
  refine o_vl rfl rfl (v_assign rfl) (o_end ?_)
  exact r_ret1 Tryz.func27 rfl rfl ⟨⟨rfl, a, rfl, rfl⟩, Fz.le_refl _⟩
theorem dk_Append (O : World) (F : Fz) (a : Nat) (bf : Bf) (l m : List UInt8) (sure ops : Nat) (v : Value) (Fr : List Ent) (hok : bf.ok l.length) (hv : SlB F Fr v m) (hl : l.length + m.length ≤ 140737488355328) (ho : ops ≤ 9223372036854775806) :
    Does Tryz.prog O 92 #[ptrV a, v] F (DkE a bf l sure ops :: (bf.ents 1 (bytesV l) ++ Fr))
      (fun r F' H' => r = .int .i64 0 ∧ F' = F ∧ ∃ bf' : Bf, bf'.ok (l ++ m).length ∧ H' = DkE a bf' (l ++ m) sure (ops + 1) :: (bf'.ents 1 (bytesV (l ++ m)) ++ Fr)) := by
  refine does_of_run (args := [_, _]) Tryz.func92 rfl rfl ?_
  refine r_seq (r_region rfl (o_vl rfl rfl (v_assign rfl) (o_end (r_seq (r_seq (r_region rfl (o_vl rfl rfl (v_move rfl) (o_vl rfl rfl (v_peqnil rfl rfl rfl) (o_end (r_false rfl (r_skip (r_seq (r_region rfl ?_)))))))))))))
  refine o_vl rfl rfl (v_move rfl) (o_vl rfl rfl (v_nilCheck rfl) (o_vl rfl rfl (v_field (k := 2) rfl rfl rfl) (o_vl rfl rfl (v_load rfl rfl (cell_at (j := 0) rfl rfl)) (o_vl rfl rfl (v_add rfl rfl (wrap_i64 (by omega) (by omega))) (o_vl rfl rfl (v_nilCheck rfl) (o_vl rfl rfl (v_field (k := 2) rfl rfl rfl) (o_act0 rfl rfl rfl (a_store1 0 rfl rfl rfl rfl rfl (Nat.le_of_ble_eq_true rfl)) ?_)))))))
  refine o_end (r_seq (r_region rfl (o_vl rfl rfl (v_move rfl) (o_vl rfl rfl (v_move rfl) (o_vl rfl rfl (v_nilCheck rfl) (o_vl rfl rfl (v_field (k := 0) rfl rfl rfl) (o_vl rfl rfl (v_load rfl rfl (cell_at (j := 0) rfl rfl)) (o_vl rfl rfl (v_move rfl) (o_act rfl rfl rfl rfl (a_appendP (bf := bf) (n := l.length) (sz := 1) (bytes := 1) [.mem a [bf.val l.length, .int .i64 sure, .int .i64 ((ops : Int) + 1)] 3] ⟨⟨_, _, _, rfl, rfl, rfl, rfl, rfl, rfl⟩, by decide⟩ rfl hok (by simp) rfl rfl (hv.mono (Fz.le_refl _) (by simp)) (bytes_one _) (by unfold maxLen; omega) (by omega)) ?_)))))))))
  rintro v' H' ⟨bf', rfl, hok', rfl⟩
  refine o_vl rfl rfl (v_nilCheck rfl) (o_vl rfl rfl (v_field (k := 0) rfl rfl rfl) (o_act0 rfl rfl rfl (a_store1 0 rfl rfl rfl rfl rfl (Nat.le_of_ble_eq_true rfl)) ?_))
  refine o_end (r_seq (r_region rfl (o_vl rfl rfl (v_assign rfl) (o_end ?_))))
  refine r_ret1 Tryz.func92 rfl rfl ⟨⟨rfl, rfl, bf', ?_, ?_⟩, Fz.le_refl _⟩
  · simpa using hok'
  · have e : (l ++ m).length = l.length + m.length := List.length_append
    rw [bytesV_append]
    show _ = Ent.mem a [bf'.val (l ++ m).length, .int .i64 sure, .int .i64 ((ops + 1 : Nat) : Int)] 3 :: _
    rw [e]
    rfl
theorem dk_Sync (O : World) (F : Fz) (a : Nat) (bf : Bf) (l : List UInt8) (sure ops : Nat) (Fr : List Ent) (ho : ops ≤ 9223372036854775806) :
    Does Tryz.prog O 41 #[ptrV a] F (DkE a bf l sure ops :: Fr) (fun r F' H' => r = .int .i64 0 ∧ F' = F ∧ H' = DkE a bf l l.length (ops + 1) :: Fr) := by
  refine does_of_run (args := [_]) Tryz.func41 rfl rfl ?_
  refine r_seq (r_region rfl (o_vl rfl rfl (v_assign rfl) (o_end (r_seq (r_seq (r_region rfl (o_vl rfl rfl (v_move rfl) (o_vl rfl rfl (v_peqnil rfl rfl rfl) (o_end (r_false rfl (r_skip (r_seq (r_region rfl ?_)))))))))))))
  refine o_vl rfl rfl (v_move rfl) (o_vl rfl rfl (v_nilCheck rfl) (o_vl rfl rfl (v_field (k := 2) rfl rfl rfl) (o_vl rfl rfl (v_load rfl rfl (cell_at (j := 0) rfl rfl)) (o_vl rfl rfl (v_add rfl rfl (wrap_i64 (by omega) (by omega))) (o_vl rfl rfl (v_nilCheck rfl) (o_vl rfl rfl (v_field (k := 2) rfl rfl rfl) (o_act0 rfl rfl rfl (a_store1 0 rfl rfl rfl rfl rfl (Nat.le_of_ble_eq_true rfl)) ?_)))))))
  refine o_end (r_seq (r_region rfl (o_vl rfl rfl (v_move rfl) (o_vl rfl rfl (v_move rfl) (o_vl rfl rfl (v_nilCheck rfl) (o_vl rfl rfl (v_field (k := 0) rfl rfl rfl) (o_vl rfl rfl (v_load rfl rfl (cell_at (j := 0) rfl rfl)) (o_vl rfl rfl (v_len rfl rfl) (o_vl rfl rfl (v_nilCheck rfl) (o_vl rfl rfl (v_field (k := 1) rfl rfl rfl) (o_act0 rfl rfl rfl (a_store1 0 rfl rfl rfl rfl rfl (Nat.le_of_ble_eq_true rfl)) ?_)))))))))))
  refine o_end (r_seq (r_region rfl (o_vl rfl rfl (v_assign rfl) (o_end ?_))))
  exact r_ret1 Tryz.func41 rfl rfl ⟨⟨rfl, rfl, rfl⟩, Fz.le_refl _⟩
theorem dk_Put (O : World) (F : Fz) (a : Nat) (bf : Bf) (l m : List UInt8) (sure ops : Nat) (v : Value) (Fr : List Ent) (hv : SlB F Fr v m) (hl : m.length ≤ 140737488355328) (ho : ops ≤ 9223372036854775806) :
    Does Tryz.prog O 49 #[ptrV a, v] F (DkE a bf l sure ops :: (bf.ents 1 (bytesV l) ++ Fr))
      (fun r F' H' => r = .int .i64 0 ∧ F' = F ∧ ∃ bf' : Bf, bf'.ok m.length ∧ H' = DkE a bf' m m.length (ops + 1) :: (bf'.ents 1 (bytesV m) ++ Fr)) := by
  obtain ⟨a0, cap, rfl, hcap⟩ := Sl.shape hv
  refine does_of_run (args := [_, _]) Tryz.func49 rfl rfl ?_
  refine r_seq (r_region rfl (o_vl rfl rfl (v_assign rfl) (o_end (r_seq (r_seq (r_region rfl (o_vl rfl rfl (v_move rfl) (o_vl rfl rfl (v_peqnil rfl rfl rfl) (o_end (r_false rfl (r_skip (r_seq (r_region rfl ?_)))))))))))))
  refine o_vl rfl rfl (v_move rfl) (o_vl rfl rfl (v_nilCheck rfl) (o_vl rfl rfl (v_field (k := 2) rfl rfl rfl) (o_vl rfl rfl (v_load rfl rfl (cell_at (j := 0) rfl rfl)) (o_vl rfl rfl (v_add rfl rfl (wrap_i64 (by omega) (by omega))) (o_vl rfl rfl (v_nilCheck rfl) (o_vl rfl rfl (v_field (k := 2) rfl rfl rfl) (o_act0 rfl rfl rfl (a_store1 0 rfl rfl rfl rfl rfl (Nat.le_of_ble_eq_true rfl)) ?_)))))))
  refine o_end (r_seq (r_region rfl (o_vl rfl rfl (v_move rfl) (o_vl rfl rfl (v_move rfl) (o_vl rfl rfl (v_move rfl) ?_)))))
  refine j_drop (H' := .mem a [bf.val l.length, .int .i64 sure, .int .i64 ((ops : Int) + 1)] 3 :: Fr) ((List.sublist_append_right _ _).cons_cons _) ?_
  refine o_call rfl rfl rfl rfl (c_call callable61 rfl) (sl_Clone _ _ _ m _ (hv.mono (Fz.le_refl _) (by simp)) hl) ?_
  rintro v' F' H' ⟨rfl, bf', hok', rfl, rfl⟩ _
  refine j_perm (H' := .mem a [bf.val l.length, .int .i64 sure, .int .i64 ((ops : Int) + 1)] 3 :: (bf'.ents 1 (bytesV m) ++ Fr)) List.perm_middle ?_
  refine o_vl rfl rfl (v_move rfl) (o_vl rfl rfl (v_len rfl rfl) (o_vl rfl rfl (v_nilCheck rfl) (o_vl rfl rfl (v_field (k := 0) rfl rfl rfl) (o_act0 rfl rfl rfl (a_store1 0 rfl rfl rfl rfl rfl (Nat.le_of_ble_eq_true rfl)) ?_))))
  refine o_vl rfl rfl (v_nilCheck rfl) (o_vl rfl rfl (v_field (k := 1) rfl rfl rfl) (o_act0 rfl rfl rfl (a_store1 0 rfl rfl rfl rfl rfl (Nat.le_of_ble_eq_true rfl)) ?_))
  refine o_end (r_seq (r_region rfl (o_vl rfl rfl (v_assign rfl) (o_end ?_))))
  exact r_ret1 Tryz.func49 rfl rfl ⟨⟨rfl, rfl, bf', hok', rfl⟩, Fz.le_refl _⟩
theorem dk_Read (O : World) (F : Fz) (a : Nat) (bf : Bf) (l : List UInt8) (sure ops : Nat) (Fr : List Ent) (hok : bf.ok l.length) (hl : l.length ≤ 140737488355328) :
    Does Tryz.prog O 71 #[ptrV a] F (DkE a bf l sure ops :: (bf.ents 1 (bytesV l) ++ Fr))
      (fun r F' H' => F' = F ∧ ∃ bf' : Bf, bf'.ok l.length ∧ r = bf'.val l.length ∧ H' = bf'.ents 1 (bytesV l) ++ DkE a bf l sure ops :: (bf.ents 1 (bytesV l) ++ Fr)) := by
  refine does_of_run (args := [_]) Tryz.func71 rfl rfl ?_
  refine r_seq (r_region rfl (o_vl rfl rfl (v_assign rfl) (o_end (r_seq (r_seq (r_region rfl (o_vl rfl rfl (v_move rfl) (o_vl rfl rfl (v_peqnil rfl rfl rfl) (o_end (r_false rfl (r_skip (r_seq (r_region rfl ?_)))))))))))))
  refine o_vl rfl rfl (v_move rfl) (o_vl rfl rfl (v_nilCheck rfl) (o_vl rfl rfl (v_field (k := 0) rfl rfl rfl) (o_vl rfl rfl (v_load rfl rfl (cell_at (j := 0) rfl rfl)) (o_call rfl rfl rfl rfl (c_call callable61 rfl) (sl_Clone _ _ _ l _ (Bf.reads (bf := bf) (sz := 1) (n := l.length) hok (by simp) (by intro e he; exact List.mem_cons_of_mem _ (List.mem_append_left _ he))) hl) ?_))))
  rintro v' F' H' ⟨rfl, bf', hok', rfl, rfl⟩ _
  refine o_vl rfl rfl (v_assign rfl) (o_end ?_)
  exact r_ret1 Tryz.func71 rfl rfl ⟨⟨rfl, bf', hok', rfl, rfl⟩, Fz.le_refl _⟩
theorem dk_Crash (O : World) (F : Fz) (a : Nat) (bf : Bf) (l : List UInt8) (sure ops : Nat) (keep : Int) (Fr : List Ent) (hok : bf.ok l.length) (hl : l.length ≤ 140737488355328) (hs : sure ≤ l.length) (hk0 : -9223372036854775808 ≤ keep) (hk1 : keep ≤ 9223372036854775807) :
    Does Tryz.prog O 22 #[ptrV a, .int .i64 keep] F (DkE a bf l sure ops :: (bf.ents 1 (bytesV l) ++ Fr))
      (fun r F' H' => r = noneV ∧ F' = F ∧ H' = DkE a bf (l.take (sure + min keep.toNat (l.length - sure))) (sure + min keep.toNat (l.length - sure)) ops :: (bf.ents 1 (bytesV (l.take (sure + min keep.toNat (l.length - sure)))) ++ Fr)) := by
  refine does_of_run (args := [_, _]) Tryz.func22 rfl rfl ?_
  have hle : sure + min keep.toNat (l.length - sure) ≤ l.length := by omega
  have hcr : IntKind.i64.wrap ((sure : Int) + if (if (l.length : Int) - sure < keep then (l.length : Int) - sure else keep) > 0 then (if (l.length : Int) - sure < keep then (l.length : Int) - sure else keep) else 0) = ((sure + min keep.toNat (l.length - sure) : Nat) : Int) := by
    have : ((sure : Int) + if (if (l.length : Int) - sure < keep then (l.length : Int) - sure else keep) > 0 then (if (l.length : Int) - sure < keep then (l.length : Int) - sure else keep) else 0) = ((sure + min keep.toNat (l.length - sure) : Nat) : Int) := by
      repeat' split
      all_goals omega
    rw [this]
    exact wrap_i64 (by omega) (by omega)
  generalize sure + min keep.toNat (l.length - sure) = s' at *
  refine r_seq (r_seq (r_region rfl (o_vl rfl rfl (v_move rfl) (o_vl rfl rfl (v_peqnil rfl rfl rfl) (o_end (r_false rfl (r_skip (r_seq (d_region 20 rfl ([DkE a bf l sure ops]) ?_)))))))))
  refine d_tk (i := 0) rfl rfl (by simp) (v_move rfl) (d_tk (i := 1) rfl rfl (by simp) (v_nilCheck rfl) (d_tk (i := 2) rfl rfl (by simp) (v_field (k := 1) rfl rfl rfl) (d_tk (i := 3) rfl rfl (by simp) (v_load rfl rfl (cell_at (j := 0) rfl rfl)) (d_tk (i := 4) rfl rfl (by simp) (v_move rfl) (d_tk (i := 5) rfl rfl (by simp) (v_move rfl) (d_tk (i := 6) rfl rfl (by simp) (v_nilCheck rfl) (d_tk (i := 7) rfl rfl (by simp) (v_field (k := 0) rfl rfl rfl) (d_tk (i := 8) rfl rfl (by simp) (v_load rfl rfl (cell_at (j := 0) rfl rfl)) (d_tk (i := 9) rfl rfl (by simp) (v_len rfl rfl) (d_tk (i := 10) rfl rfl (by simp) (v_move rfl) (d_tk (i := 11) rfl rfl (by simp) (v_nilCheck rfl) (d_tk (i := 12) rfl rfl (by simp) (v_field (k := 1) rfl rfl rfl) (d_tk (i := 13) rfl rfl (by simp) (v_load rfl rfl (cell_at (j := 0) rfl rfl)) ?_)))))))))))))
  refine d_tk (i := 14) rfl rfl (by simp) (v_sub rfl rfl (wrap_i64 (by omega) (by omega))) (d_tk (i := 15) rfl rfl (by simp) (v_min rfl rfl) (d_tk (i := 16) rfl rfl (by simp) (v_max rfl rfl) (d_tk (i := 17) rfl rfl (by simp) (v_add rfl rfl hcr) (d_tk (i := 18) rfl rfl (by simp) (v_nilCheck rfl) (d_tk (i := 19) rfl rfl (by simp) (v_field (k := 1) rfl rfl rfl) (d_one (i := 20) (by decide +kernel) ?_))))))
  refine d1_last 1000000 ([]) rfl rfl rfl (a_store1 0 rfl rfl rfl rfl rfl (Nat.le_of_ble_eq_true rfl)) ?_
  refine d_end (by decide +kernel) (d_region 12 rfl ([.mem a [bf.val l.length, .int .i64 s', .int .i64 ops] 3]) ?_)
  refine d_tk (i := 0) rfl rfl (by simp) (v_move rfl) (d_tk (i := 1) rfl rfl (by simp) (v_move rfl) (d_tk (i := 2) rfl rfl (by simp) (v_nilCheck rfl) (d_tk (i := 3) rfl rfl (by simp) (v_field (k := 0) rfl rfl rfl) (d_tk (i := 4) rfl rfl (by simp) (v_load rfl rfl (cell_at (j := 0) rfl rfl)) (d_tk (i := 5) rfl rfl (by simp) (v_move rfl) (d_tk (i := 6) rfl rfl (by simp) (v_nilCheck rfl) (d_tk (i := 7) rfl rfl (by simp) (v_field (k := 1) rfl rfl rfl) (d_tk (i := 8) rfl rfl (by simp) (v_load rfl rfl (cell_at (j := 0) rfl rfl)) (d_tk (i := 9) rfl rfl (by simp) (v_sliceH (sz := 1) rfl rfl rfl rfl rfl (Nat.le_trans hle (Bf.ok_cp hok))) (d_tk (i := 10) rfl rfl (by simp) (v_nilCheck rfl) (d_tk (i := 11) rfl rfl (by simp) (v_field (k := 0) rfl rfl rfl) ?_)))))))))))
  refine j_slot 35 rfl (v' := bf.val s') (Bf.cut _ _ _) ?_
  refine d_one (i := 12) (by decide +kernel) ?_
  refine d1_last 1000000 ([]) rfl rfl rfl (a_store1 0 rfl rfl rfl rfl rfl (Nat.le_of_ble_eq_true rfl)) ?_
  refine d_end (by decide +kernel) ?_
  refine j_cutBf [.mem a [bf.val s', .int .i64 s', .int .i64 ops] 3] s' ?_
  refine r_fall0 Tryz.func22 rfl ⟨⟨rfl, rfl, ?_⟩, Fz.le_refl _⟩
  have e : (l.take s').length = s' := by simp; omega
  show _ = Ent.mem a [bf.val (l.take s').length, .int .i64 s', .int .i64 ops] 3 :: _
  rw [e]
  simp [bytesV]
end Go.SX
