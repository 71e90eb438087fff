/-
  append to a slice that has no room: a new block; results of a slot, a struct and a slot.
-/
import Derived.Test.YtmpbgnffdpppbaaSxVec
import Derived.Laws.StructEq
namespace Go.SX
open Go

section
variable {C : Cx} {k : List Item} {τ : Env} {F : Fz} {H : List Ent} {dst : Option Nat} {ty t u : TypeId} {pos : String} {aft : Array Edge} {g : Option (Nat × Bool)} {x y z : Operand}

theorem a_appendNew {n m sz bytes : Nat} {a0 : Option Addr} {xs ys : List Value} {v : Value} (hT : AppT C.P t sz bytes) (hx : ev τ x = some (.slice a0 n n)) (hu : Sl F H sz (.slice a0 n n) n xs)
    (hy : ev τ y = some v) (hv : Sl F H sz v m ys) (hm : 0 < m) (h63 : n + m ≤ maxLen) (hby : (n + m) * bytes ≤ 140737488355328) :
    Act1 C ⟨dst, .call { callee := .builtin .append, args := #[x, y], argTypes := #[t, t] }, ty, pos, aft, g⟩ τ F H
      (fun r H' => ∃ b c, r = .slice (some ⟨b, 0, none⟩) (n + m) c ∧ n + m ≤ c ∧ H' = .mem b (xs ++ ys) (c * sz) :: H) := by
  intro a w ha hw
  obtain ⟨⟨e, i, z, ht, hi, hz, hsz, hbytes, hzs⟩, hpos⟩ := hT
  subst hsz hbytes
  obtain ⟨b2, off, cap0, heq, _, hc⟩ := hv.view (Nat.mul_pos hm hpos)
  subst heq
  have hyl := hv.len
  have hl := hu.len
  obtain ⟨_, hcells⟩ := hv.cells hw.held
  obtain ⟨_, hucells⟩ := hu.cells hw.held
  have hops : ∀ (s : Value) (r : Value) (w' : World), (Builtin.append_ #[t, t] ty #[s, .slice (some ⟨b2, off, none⟩) m cap0]).run C.P w = .ok r w' → a.eval x = s →
      (execOp a.eval ⟨dst, .call { callee := .builtin .append, args := #[x, y], argTypes := #[t, t] }, ty, pos, aft, g⟩).run C.P w = .ok (.value r) w' := fun s r w' hr hs => by
    rw [execOp_builtin_run (s := Builtin.append_ #[t, t] ty #[a.eval x, a.eval y]) (r := .ok r w') (fun _ => by simp [builtin]) (by rw [hs, ha.eval hy]; exact hr)]
    rfl
  have hsmall : n + m ≤ 9223372036854775807 := by simp only [maxLen] at h63; omega
  have grown : ∀ (W : World), St C.O F H W → ∀ newcap, n + m ≤ newcap → W.heap.size = w.heap.size → St C.O F (.mem w.heap.size (xs ++ ys) (newcap * i.size) :: H)
      (W.alloc (.cells (xs.toArray ++ ys.toArray ++ Builtin.zeroCells z.cells (newcap - (n + m))) e)) := fun W hW newcap hle hs => by
    refine hW.new (o := .cells (xs.toArray ++ ys.toArray ++ Builtin.zeroCells z.cells (newcap - (n + m))) e) rfl rfl rfl rfl hs.symm ?_
    refine ⟨(Builtin.zeroCells z.cells (newcap - (n + m))).toList, e, ?_, ?_⟩
    · rw [← hs, heap_alloc_new]
      congr 2
      apply Array.ext'
      simp
    · simp only [List.length_append, Array.length_toList, size_zeroCells, hzs, hl, hyl, ← Nat.add_mul]
      congr 1
      omega
  have hev := ha.eval hx
  have hy2 : ∀ (j : Nat) (u : Value), ys[j]? = some u → w.cell? ((⟨b2, off, none⟩ : Addr).add j) = some u := fun j u hj => by
    obtain ⟨b', hb', h'⟩ := hcells j u hj
    simp only [Option.some.injEq] at hb'
    subst hb'
    exact h'
  cases a0 with
  | none =>
    have hxs : xs = [] := by
      cases xs with
      | nil => rfl
      | cons c r => obtain ⟨b, hb, _⟩ := hucells 0 c rfl; cases hb
    subst hxs
    have hn : n = 0 := by
      have : n * i.size = 0 := by simpa using hl.symm
      rcases Nat.mul_eq_zero.1 this with h | h
      · exact h
      · omega
    subst hn
    have hr := run_append_nil (P := C.P) w t ty e i z ht hi hz ⟨b2, off, none⟩ m cap0 ys hyl hy2 (by omega) (by omega) (by simp only [Nat.zero_add] at hby; omega)
    have hge := grownCap_ge w m 0 e
    have hgr := grown w.drew (hw.drew _) (grownCap w m 0 e) (by omega) rfl
    simp only [List.nil_append, Nat.zero_add] at hgr ⊢
    refine ⟨_, _, _, hops _ _ _ hr hev, ⟨w.heap.size, grownCap w m 0 e, rfl, hge, rfl⟩, ?_⟩
    simpa using hgr
  | some q =>
    have hr := run_append_grow (P := C.P) w t ty e i z ht hi hz q n n xs hl (fun j u hj => by
      obtain ⟨b', hb', h'⟩ := hucells j u hj
      simp only [Option.some.injEq] at hb'
      subst hb'
      exact h') ⟨b2, off, none⟩ m cap0 ys hyl hy2 (by omega) (by omega) (growslice_fits (by omega) hby)
    have hge := grownCap_ge w (n + m) n e
    exact ⟨_, _, _, hops _ _ _ hr hev, ⟨w.heap.size, grownCap w (n + m) n e, rfl, hge, rfl⟩, grown w.drew (hw.drew _) _ hge rfl⟩

theorem r_ret1C1 {k : List Item} {t0 t1 t2 b off sz : Nat} {cs : List Value} {v0 v1 : Value} (hf : C.P.funcs[C.f]? = some C.fn) (hr : C.fn.results = #[.tmp t2, .cell t0 t, .tmp t1]) (h2 : τ.get? t2 = some v0) (h0 : τ.get? t0 = some (.pointer (some ⟨b, off, none⟩))) (h1 : τ.get? t1 = some v1)
    (ht : isAggB C.P t = some true) (hs : (C.P.info? t).map (·.size) = some sz) (hl : cs.length = sz) (hc : ∀ i c, cs[i]? = some c → Cell F H b (off + i) c) {H' : List Ent} (hd : H'.Sublist H) (hR : C.R (.tuple #[v0, .agg cs.toArray, v1]) F H') : Run C (.code .ret :: k) τ F H := fun a w ha hw =>
  (Fin.ret (k := k) hf ha.defers (by
    have g0 : a.tmps[t0]?.getD undef = .pointer (some ⟨b, off, none⟩) := by simpa using (ha.get t0 _ h0).2
    have g1 : a.tmps[t1]?.getD undef = v1 := by simpa using (ha.get t1 _ h1).2
    have g2 : a.tmps[t2]?.getD undef = v0 := by simpa using (ha.get t2 _ h2).2
    have h1 := loadVar_agg hw.held ht hs hl hc
    simp [results, hr, g0, g1, g2, asAddr, h1]) (hw.drop hd) hR).1

theorem part_int {P : Program} {t : TypeId} {cs : Array Value} {off : Nat} {v : Value} (h : isAggB P t = some false) (hv : cs[off]? = some v) (w : World) : (part t cs off).run P w = .ok v w := by
  simp [part, isAgg_run h, hv]
/-- Two structs of two numbers each. -/
theorem v_agg2eq {k1 k2 k3 k4 : IntKind} {m n m' n' : Int} {f0 f1 : Field} (hx : ev τ x = some (.agg #[.int k1 m, .int k2 n])) (hy : ev τ y = some (.agg #[.int k1 m', .int k2 n'])) (ht : C.P.underlying t = some (.struct (C.P.fieldsOf t))) (hp : C.P.stoodInHeld t = false) (hg : C.P.eqGuardType C.P.depth t = false)
    (hf : (C.P.fieldsOf t).toList = [f0, f1]) (n0 : (f0.name != "_") = true) (n1 : (f1.name != "_") = true) (g0 : isAggB C.P f0.type = some false) (g1 : isAggB C.P f1.type = some false) (u0 : C.P.underlying f0.type = some (.int k3)) (u1 : C.P.underlying f1.type = some (.int k4)) (o0 : f0.offset = 0) (o1 : f1.offset = 1) :
    Val C ⟨dst, .binOp .eql t x y u, ty, pos, aft, g⟩ τ F H (.bool (decide (m = m' ∧ n = n'))) := fun a w ha hw => by
  have n0' : f0.name ≠ "_" := by simpa using n0
  have n1' : f1.name ≠ "_" := by simpa using n1
  have q0 : ∀ w, (part f0.type #[.int k1 m, .int k2 n] 0).run C.P w = .ok (.int k1 m) w := part_int g0 rfl
  have q1 : ∀ w, (part f1.type #[.int k1 m, .int k2 n] 1).run C.P w = .ok (.int k2 n) w := part_int g1 rfl
  have q2 : ∀ w, (part f0.type #[.int k1 m', .int k2 n'] 0).run C.P w = .ok (.int k1 m') w := part_int g0 rfl
  have q3 : ∀ w, (part f1.type #[.int k1 m', .int k2 n'] 1).run C.P w = .ok (.int k2 n') w := part_int g1 rfl
  have q4 : ∀ w, (Op.equalIn 9999 f0.type (.int k1 m) (.int k1 m')).run C.P w = .ok (m == m') w := fun w => run_equalIn_int w 9998 f0.type k1 k3 _ _ u0
  have q5 : ∀ w, (Op.equalIn 9999 f1.type (.int k2 n) (.int k2 n')).run C.P w = .ok (n == n') w := fun w => run_equalIn_int w 9998 f1.type k2 k4 _ _ u1
  simp only [execOp, ha.eval hx, ha.eval hy, Sem.run_bind, run_eqGuard_agg w .eql t x y _ _ hg, Result.andThen_ok, run_eql_struct, run_equalIn_agg w 9999 t _ _ ht hp, hf]
  simp only [Op.eqFields, n0', n1', ne_eq, not_false_eq_true, if_true, Sem.run_bind, o0, o1, q0, q1, q2, q3, q4, q5, Result.andThen_ok]
  have bm : ∀ p q : Int, p ≠ q → (p == q) = false := fun p q h => by simpa using h
  by_cases h1 : m = m'
  · subst h1
    by_cases h2 : n = n'
    · subst h2
      simp only [beq_self_eq_true, Bool.not_true, Bool.false_eq_true, if_false, Sem.run_bind, Sem.run_pure, q1, q3, q5, Result.andThen_ok]
      simp
    · simp only [beq_self_eq_true, Bool.not_true, Bool.false_eq_true, if_false, Sem.run_bind, Sem.run_pure, q1, q3, q5, Result.andThen_ok, bm _ _ h2]
      simp [h2]
  · simp [h1, bm _ _ h1]
end
end Go.SX
