/-
  The operations that leave the memory as it is.
-/
import Derived.Test.YtdmpnpcpnhcioaaSxCore
import Derived.Laws.Small
import Derived.Laws.Strings
import Derived.Laws.Pointers
namespace Go.SX
open Go

theorem wrap_i64' (n : Int) : IntKind.i64.wrap n = if n % 18446744073709551616 ≥ 9223372036854775808 then n % 18446744073709551616 - 18446744073709551616 else n % 18446744073709551616 := by
  simp [IntKind.wrap, IntKind.bits, IntKind.signed]
theorem wrap_i64 {n : Int} (h0 : -9223372036854775808 ≤ n) (h1 : n ≤ 9223372036854775807) : IntKind.i64.wrap n = n := by
  rw [wrap_i64']
  split <;> omega
theorem wrap_u64 {n : Int} (h0 : 0 ≤ n) (h1 : n < 18446744073709551616) : IntKind.u64.wrap n = n := by
  simp only [IntKind.wrap, IntKind.bits, IntKind.signed, Bool.false_and]; simp; omega
theorem wrap_u32 {n : Int} (h0 : 0 ≤ n) (h1 : n < 4294967296) : IntKind.u32.wrap n = n := by
  simp only [IntKind.wrap, IntKind.bits, IntKind.signed, Bool.false_and]; simp; omega
theorem wrap_u16 {n : Int} (h0 : 0 ≤ n) (h1 : n < 65536) : IntKind.u16.wrap n = n := by
  simp only [IntKind.wrap, IntKind.bits, IntKind.signed, Bool.false_and]; simp; omega
theorem wrap_u8 {n : Int} (h0 : 0 ≤ n) (h1 : n < 256) : IntKind.u8.wrap n = n := by
  simp only [IntKind.wrap, IntKind.bits, IntKind.signed, Bool.false_and]; simp; omega
theorem wrap_u8' (n : Int) : IntKind.u8.wrap n = n % 256 := by
  simp only [IntKind.wrap, IntKind.bits, IntKind.signed, Bool.false_and]; simp
theorem wrap_u16' (n : Int) : IntKind.u16.wrap n = n % 65536 := by
  simp only [IntKind.wrap, IntKind.bits, IntKind.signed, Bool.false_and]; simp
theorem wrap_u32' (n : Int) : IntKind.u32.wrap n = n % 4294967296 := by
  simp only [IntKind.wrap, IntKind.bits, IntKind.signed, Bool.false_and]; simp
theorem wrap_u64' (n : Int) : IntKind.u64.wrap n = n % 18446744073709551616 := by
  simp only [IntKind.wrap, IntKind.bits, IntKind.signed, Bool.false_and]; simp

section
variable {C : Cx} {τ : Env} {F : Fz} {H : List Ent} {dst : Option Nat} {ty t u : TypeId} {pos : String} {aft : Array Edge} {g : Option (Nat × Bool)} {x y z : Operand}

/-! ### Semantics without memory -/

def pureRun {α : Type} (P : Program) : Sem α → Option α
  | .pure a => some a
  | .program k => pureRun P (k P)
  | .mark _ k => pureRun P k
  | _ => none

theorem pureRun_run {α : Type} {P : Program} : ∀ {s : Sem α} {a : α} {w : World}, pureRun P s = some a → s.run P w = .ok a w
  | .pure b, a, w, h => by simp only [pureRun, Option.some.injEq] at h; subst h; rfl
  | .program k, a, w, h => by simp only [pureRun] at h; exact pureRun_run (s := k P) h
  | .mark _ k, a, w, h => by simp only [pureRun] at h; exact pureRun_run (s := k) h
  | .load .., _, _, h | .store .., _, _, h | .new .., _, _, h | .shape .., _, _, h | .freeze .., _, _, h | .frozen .., _, _, h | .getObj .., _, _, h | .setObj .., _, _, h | .choose .., _, _, h | .sys .., _, _, h | .halt .., _, _, h => by
    simp [pureRun] at h

def evD (τ : Env) (x : Operand) : Value := (ev τ x).getD undef
def allEv (τ : Env) (xs : List Operand) : Bool := xs.all fun x => (ev τ x).isSome

theorem evD_eq {n : Nat} {a : Act} (ha : EnvOk n τ a) {x : Operand} (h : (ev τ x).isSome = true) : a.eval x = evD τ x := by
  obtain ⟨v, hv⟩ := Option.isSome_iff_exists.1 h
  rw [ha.eval hv, evD, hv]; rfl

/-- Any operation without memory, by its own run. -/
theorem v_pure {o : Oper} {v : Value} (hn : ∀ cs b, o.op ≠ .select cs b) (ho : allEv τ o.op.operands.toList = true) (h : pureRun C.P (execOp (evD τ) o) = some (.value v)) : Val C o τ F H v := by
  intro a w ha _
  have : execOp a.eval o = execOp (evD τ) o := execOp_congr o hn fun x hx => evD_eq ha (by
    have := List.all_eq_true.1 ho x (by simpa using hx)
    simpa using this)
  rw [this]
  exact pureRun_run h

theorem v_move {v : Value} (hx : ev τ x = some v) : Val C ⟨dst, .move x, ty, pos, aft, g⟩ τ F H v := fun a w ha _ => by
  simp only [execOp, ha.eval hx]; rfl
theorem v_assign {v : Value} (hx : ev τ x = some v) : Val C ⟨dst, .assign x, ty, pos, aft, g⟩ τ F H v := fun a w ha _ => by
  simp only [execOp, ha.eval hx]; rfl
theorem v_pick1 {v : Value} (hx : ev τ x = some (.bool true)) (hy : ev τ y = some v) : Val C ⟨dst, .pick x y z, ty, pos, aft, g⟩ τ F H v := fun a w ha _ => by
  simp only [execOp, ha.eval hx, ha.eval hy]; rfl
theorem v_pick0 {v : Value} (hx : ev τ x = some (.bool false)) (hz : ev τ z = some v) : Val C ⟨dst, .pick x y z, ty, pos, aft, g⟩ τ F H v := fun a w ha _ => by
  simp only [execOp, ha.eval hx, ha.eval hz]; rfl
theorem v_not {b : Bool} (hx : ev τ x = some (.bool b)) : Val C ⟨dst, .unOp .not t x, ty, pos, aft, g⟩ τ F H (.bool (!b)) := fun a w ha _ => by
  simp only [execOp, ha.eval hx]; rfl
theorem v_notp {p : Prop} [Decidable p] (hx : ev τ x = some (.bool (decide p))) : Val C ⟨dst, .unOp .not t x, ty, pos, aft, g⟩ τ F H (.bool (decide (¬ p))) := fun a w ha _ => by
  simp only [execOp, ha.eval hx]
  rw [decide_not]; rfl

/-! ### Whole numbers -/

theorem v_add {k : IntKind} {m n r : Int} (hx : ev τ x = some (.int k m)) (hy : ev τ y = some (.int k n)) (hr : k.wrap (m + n) = r) : Val C ⟨dst, .binOp .add t x y u, ty, pos, aft, g⟩ τ F H (.int k r) := fun a w ha _ => by
  subst hr; simp only [execOp, ha.eval hx, ha.eval hy]; cases k <;> rfl
theorem v_sub {k : IntKind} {m n r : Int} (hx : ev τ x = some (.int k m)) (hy : ev τ y = some (.int k n)) (hr : k.wrap (m - n) = r) : Val C ⟨dst, .binOp .sub t x y u, ty, pos, aft, g⟩ τ F H (.int k r) := fun a w ha _ => by
  subst hr; simp only [execOp, ha.eval hx, ha.eval hy]; cases k <;> rfl
theorem v_mul {k : IntKind} {m n r : Int} (hx : ev τ x = some (.int k m)) (hy : ev τ y = some (.int k n)) (hr : k.wrap (m * n) = r) : Val C ⟨dst, .binOp .mul t x y u, ty, pos, aft, g⟩ τ F H (.int k r) := fun a w ha _ => by
  subst hr; simp only [execOp, ha.eval hx, ha.eval hy]; cases k <;> rfl
theorem v_quo {k : IntKind} {m n r : Int} (hx : ev τ x = some (.int k m)) (hy : ev τ y = some (.int k n)) (hn : n ≠ 0) (hr : k.wrap (m.tdiv n) = r) : Val C ⟨dst, .binOp .quo t x y u, ty, pos, aft, g⟩ τ F H (.int k r) := fun a w ha _ => by
  subst hr; simp only [execOp, ha.eval hx, ha.eval hy]
  have : binOp .quo t (.int k m) (.int k n) = Op.intDiv .quo k m n := by cases k <;> rfl
  simp only [this, Op.intDiv, if_neg hn]; rfl
theorem v_rem {k : IntKind} {m n r : Int} (hx : ev τ x = some (.int k m)) (hy : ev τ y = some (.int k n)) (hn : n ≠ 0) (hr : m.tmod n = r) : Val C ⟨dst, .binOp .rem t x y u, ty, pos, aft, g⟩ τ F H (.int k r) := fun a w ha _ => by
  subst hr; simp only [execOp, ha.eval hx, ha.eval hy]
  have : binOp .rem t (.int k m) (.int k n) = Op.intDiv .rem k m n := by cases k <;> rfl
  simp only [this, Op.intDiv, if_neg hn]; rfl
/-- Bits: what the base says, by name. -/
def bitOp (op : BinOp) (k : IntKind) (m n : Int) : Int :=
  let a := BitVec.ofInt k.bits m
  let b := BitVec.ofInt k.bits n
  match op with
  | .and => k.wrap (a &&& b).toNat
  | .or => k.wrap (a ||| b).toNat
  | .xor => k.wrap (a ^^^ b).toNat
  | .andNot => k.wrap (a &&& ~~~b).toNat
  | _ => 0
theorem v_and {k : IntKind} {m n r : Int} (hx : ev τ x = some (.int k m)) (hy : ev τ y = some (.int k n)) (hr : bitOp .and k m n = r) : Val C ⟨dst, .binOp .and t x y u, ty, pos, aft, g⟩ τ F H (.int k r) := fun a w ha _ => by
  subst hr; simp only [execOp, ha.eval hx, ha.eval hy]; cases k <;> rfl
theorem v_or {k : IntKind} {m n r : Int} (hx : ev τ x = some (.int k m)) (hy : ev τ y = some (.int k n)) (hr : bitOp .or k m n = r) : Val C ⟨dst, .binOp .or t x y u, ty, pos, aft, g⟩ τ F H (.int k r) := fun a w ha _ => by
  subst hr; simp only [execOp, ha.eval hx, ha.eval hy]; cases k <;> rfl
theorem v_xor {k : IntKind} {m n r : Int} (hx : ev τ x = some (.int k m)) (hy : ev τ y = some (.int k n)) (hr : bitOp .xor k m n = r) : Val C ⟨dst, .binOp .xor t x y u, ty, pos, aft, g⟩ τ F H (.int k r) := fun a w ha _ => by
  subst hr; simp only [execOp, ha.eval hx, ha.eval hy]; cases k <;> rfl
theorem v_andNot {k : IntKind} {m n r : Int} (hx : ev τ x = some (.int k m)) (hy : ev τ y = some (.int k n)) (hr : bitOp .andNot k m n = r) : Val C ⟨dst, .binOp .andNot t x y u, ty, pos, aft, g⟩ τ F H (.int k r) := fun a w ha _ => by
  subst hr; simp only [execOp, ha.eval hx, ha.eval hy]; cases k <;> rfl
theorem v_compl {k : IntKind} {m r : Int} (hx : ev τ x = some (.int k m)) (hr : bitOp .xor k (if k.signed then -1 else k.max) m = r) : Val C ⟨dst, .unOp .xor t x, ty, pos, aft, g⟩ τ F H (.int k r) := fun a w ha _ => by
  subst hr; simp only [execOp, ha.eval hx]; cases k <;> rfl
theorem v_neg {k : IntKind} {m r : Int} (hx : ev τ x = some (.int k m)) (hr : k.wrap (0 - m) = r) : Val C ⟨dst, .unOp .neg t x, ty, pos, aft, g⟩ τ F H (.int k r) := fun a w ha _ => by
  subst hr; simp only [execOp, ha.eval hx]; cases k <;> rfl
theorem v_shl {k k' : IntKind} {m n r : Int} (hx : ev τ x = some (.int k m)) (hy : ev τ y = some (.int k' n)) (hn : 0 ≤ n) (hr : k.wrap (m * 2 ^ (min n.toNat k.bits)) = r) : Val C ⟨dst, .binOp .shl t x y u, ty, pos, aft, g⟩ τ F H (.int k r) := fun a w ha _ => by
  subst hr; simp only [execOp, ha.eval hx, ha.eval hy]
  have : binOp .shl t (.int k m) (.int k' n) = Op.shift .shl k m k' n := by cases k <;> cases k' <;> rfl
  simp only [this, Op.shift, if_neg (Int.not_lt.2 hn)]; rfl
theorem v_shr {k k' : IntKind} {m n r : Int} (hx : ev τ x = some (.int k m)) (hy : ev τ y = some (.int k' n)) (hn : 0 ≤ n) (hr : m.fdiv (2 ^ (min n.toNat k.bits)) = r) : Val C ⟨dst, .binOp .shr t x y u, ty, pos, aft, g⟩ τ F H (.int k r) := fun a w ha _ => by
  subst hr; simp only [execOp, ha.eval hx, ha.eval hy]
  have : binOp .shr t (.int k m) (.int k' n) = Op.shift .shr k m k' n := by cases k <;> cases k' <;> rfl
  simp only [this, Op.shift, if_neg (Int.not_lt.2 hn)]; rfl
theorem v_eql {k : IntKind} {m n : Int} (hx : ev τ x = some (.int k m)) (hy : ev τ y = some (.int k n)) : Val C ⟨dst, .binOp .eql t x y u, ty, pos, aft, g⟩ τ F H (.bool (decide (m = n))) := fun a w ha _ => by
  simp only [execOp, ha.eval hx, ha.eval hy]; cases k <;> rfl
theorem v_neq {k : IntKind} {m n : Int} (hx : ev τ x = some (.int k m)) (hy : ev τ y = some (.int k n)) : Val C ⟨dst, .binOp .neq t x y u, ty, pos, aft, g⟩ τ F H (.bool (decide (m ≠ n))) := fun a w ha _ => by
  simp only [execOp, ha.eval hx, ha.eval hy]
  have : decide (m ≠ n) = (m != n) := by rw [decide_not]; rfl
  rw [this]; cases k <;> rfl
theorem v_lss {k : IntKind} {m n : Int} (hx : ev τ x = some (.int k m)) (hy : ev τ y = some (.int k n)) : Val C ⟨dst, .binOp .lss t x y u, ty, pos, aft, g⟩ τ F H (.bool (decide (m < n))) := fun a w ha _ => by
  simp only [execOp, ha.eval hx, ha.eval hy]; cases k <;> rfl
theorem v_leq {k : IntKind} {m n : Int} (hx : ev τ x = some (.int k m)) (hy : ev τ y = some (.int k n)) : Val C ⟨dst, .binOp .leq t x y u, ty, pos, aft, g⟩ τ F H (.bool (decide (m ≤ n))) := fun a w ha _ => by
  simp only [execOp, ha.eval hx, ha.eval hy]; cases k <;> rfl
theorem v_gtr {k : IntKind} {m n : Int} (hx : ev τ x = some (.int k m)) (hy : ev τ y = some (.int k n)) : Val C ⟨dst, .binOp .gtr t x y u, ty, pos, aft, g⟩ τ F H (.bool (decide (n < m))) := fun a w ha _ => by
  simp only [execOp, ha.eval hx, ha.eval hy]; cases k <;> rfl
theorem v_geq {k : IntKind} {m n : Int} (hx : ev τ x = some (.int k m)) (hy : ev τ y = some (.int k n)) : Val C ⟨dst, .binOp .geq t x y u, ty, pos, aft, g⟩ τ F H (.bool (decide (n ≤ m))) := fun a w ha _ => by
  simp only [execOp, ha.eval hx, ha.eval hy]; cases k <;> rfl
theorem v_conv {src d : TypeId} {k k' : IntKind} {m r : Int} (hs : (C.P.underlying src).isSome = true) (hd : C.P.underlying d = some (.int k')) (hx : ev τ x = some (.int k m)) (hr : k'.wrap m = r) : Val C ⟨dst, .convert src d x, ty, pos, aft, g⟩ τ F H (.int k' r) := fun a w ha _ => by
  subst hr
  obtain ⟨ds, hds⟩ := Option.isSome_iff_exists.1 hs
  simp only [execOp, ha.eval hx, convert, underlying, program]
  simp only [bind, pure, Sem.bind, Sem.run, hds, hd]
  cases ds <;> rfl

/-! ### Truths, strings, pointers -/

theorem v_bin {op : BinOp} {vx vy v : Value} (hx : ev τ x = some vx) (hy : ev τ y = some vy) (hg : eqGuard op t x y vx vy = pure ()) (hr : ∀ w, Held F H w → (binOp op t vx vy).run C.P w = .ok v w) :
    Val C ⟨dst, .binOp op t x y u, ty, pos, aft, g⟩ τ F H v := fun a w ha hw => by
  simp only [execOp, ha.eval hx, ha.eval hy, hg]
  have := hr w hw
  simp [go_sem, this]

theorem v_beql {b c : Bool} (ht : C.P.underlying t = some .bool) (hx : ev τ x = some (.bool b)) (hy : ev τ y = some (.bool c)) : Val C ⟨dst, .binOp .eql t x y u, ty, pos, aft, g⟩ τ F H (.bool (decide (b = c))) :=
  v_bin hx hy rfl fun w _ => by rw [run_eql_bool w t b c ht]; cases b <;> cases c <;> rfl
theorem v_bneq {b c : Bool} (ht : C.P.underlying t = some .bool) (hx : ev τ x = some (.bool b)) (hy : ev τ y = some (.bool c)) : Val C ⟨dst, .binOp .neq t x y u, ty, pos, aft, g⟩ τ F H (.bool (decide (b ≠ c))) :=
  v_bin hx hy rfl fun w _ => by rw [run_neq_bool w t b c ht]; cases b <;> cases c <;> rfl

def strV (l : List UInt8) : Value := .string ⟨l.toArray⟩
theorem bytes_beq (l m : List UInt8) : ((ByteArray.mk l.toArray).toList == (ByteArray.mk m.toArray).toList) = decide (l = m) := by
  rw [ByteArray.toList_mk, ByteArray.toList_mk]
  by_cases e : l = m <;> simp [e]
theorem v_seql {l m : List UInt8} (hx : ev τ x = some (strV l)) (hy : ev τ y = some (strV m)) : Val C ⟨dst, .binOp .eql t x y u, ty, pos, aft, g⟩ τ F H (.bool (decide (l = m))) :=
  v_bin hx hy rfl fun w _ => by simp only [strV, binOp_string_eql, bytes_beq]; rfl
theorem v_sneq {l m : List UInt8} (hx : ev τ x = some (strV l)) (hy : ev τ y = some (strV m)) : Val C ⟨dst, .binOp .neq t x y u, ty, pos, aft, g⟩ τ F H (.bool (decide (l ≠ m))) :=
  v_bin hx hy rfl fun w _ => by simp only [strV, binOp_string_neq, bytes_beq, decide_not]; rfl

theorem v_peqnil {p : Option Addr} (ht : C.P.underlying t = some (.pointer (C.P.pointee t))) (hx : ev τ x = some (.pointer p)) (hy : ev τ y = some (.pointer none)) : Val C ⟨dst, .binOp .eql t x y u, ty, pos, aft, g⟩ τ F H (.bool p.isNone) :=
  v_bin hx hy rfl fun w _ => run_eql_pointer_nil w t p ht
theorem v_pneqnil {p : Option Addr} (ht : C.P.underlying t = some (.pointer (C.P.pointee t))) (hx : ev τ x = some (.pointer p)) (hy : ev τ y = some (.pointer none)) : Val C ⟨dst, .binOp .neq t x y u, ty, pos, aft, g⟩ τ F H (.bool (!p.isNone)) :=
  v_bin hx hy rfl fun w _ => run_neq_pointer_nil w t p ht
theorem v_nilCheck {a0 : Addr} (hx : ev τ x = some (.pointer (some a0))) : Val C ⟨dst, .nilCheck x, ty, pos, aft, g⟩ τ F H (.pointer (some a0)) := fun a w ha _ => by
  simp only [execOp, ha.eval hx]; rfl
theorem v_extract {vs : Array Value} {i : Nat} {v : Value} (hx : ev τ x = some (.tuple vs)) (hv : vs[i]? = some v) : Val C ⟨dst, .extract x i, ty, pos, aft, g⟩ τ F H v := fun a w ha _ => by
  simp only [execOp, ha.eval hx, Instr.extract, hv]; rfl
end
end Go.SX
