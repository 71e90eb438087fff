/-
  Function values; a slice's end moved within its block; cells cleared.
-/
import Derived.Test.YtdmpnpcpnhcioaaSxApp
namespace Go.SX
open Go

section
variable {C : Cx} {k : List Item} {τ : Env} {F : Fz} {H : List Ent} {dst : Option Nat} {ty t u : TypeId} {pos : String} {aft : Array Edge} {g : Option (Nat × Bool)} {x y z : Operand}

theorem v_makeFunc {f : Fn} {first cap : List Operand} {vs us : List Value} (h1 : evs τ first = some vs) (h2 : evs τ cap = some us) : Val C ⟨dst, .makeFunc f first.toArray cap.toArray, ty, pos, aft, g⟩ τ F H (.func f vs.toArray us.toArray) := fun a w ha _ => by
  have e1 := evs_eval ha h1
  have e2 := evs_eval ha h2
  subst e1 e2
  simp only [execOp, Instr.makeFunc, List.map_toArray]
  rfl

theorem v_slice3 {a0 : Option Addr} {n cap sz l h m : Nat} {kl kh km : IntKind} {li hi mi : Int} {q : Operand} (ht : isSliceB C.P t = true) (hs : elemSize C.P t = some sz) (hx : ev τ x = some (.slice a0 n cap)) (hy : ev τ y = some (.int kl li)) (hz : ev τ z = some (.int kh hi)) (hq : ev τ q = some (.int km mi))
    (hli : li = l) (hhi : hi = h) (hmi : mi = m) (h1 : l ≤ h) (h2 : h ≤ m) (h3 : m ≤ cap) : Val C ⟨dst, .slice t x (some y) (some z) (some q), ty, pos, aft, g⟩ τ F H (Go.sliced a0 l h m sz) := fun a w ha hw => by
  subst hli hhi hmi
  obtain ⟨h4, h5⟩ := isSlice_elem ht hs
  simp [execOp, ha.eval hx, ha.eval hy, ha.eval hz, ha.eval hq, run_sliceAt_slice w t _ _ _ _ h4, run_slice_lhm w t a0 n cap h4 kl kh km l h m (by omega) (by omega) (by omega) (by omega), h5]

/-- An operation that comes to a value which is written nowhere. -/
theorem o_actN {ops : Array Oper} {i : Nat} {l : List Nat} {o : Oper} {R : Value → List Ent → Prop} (ho : ops[i]? = some o) (hd : o.dst = none) (hg : wantedB τ ops o = some true)
    (hx : Act1 C o τ F H R) (h : ∀ v H', R v H' → Ops C ops l k τ F H') : Ops C ops (i :: l) k τ F H := by
  intro a w ha hw
  rw [wpOps_cons]
  unfold wpOp
  rw [ho]
  simp only [wanted_ok ha hg, if_true]
  refine .inl ?_
  unfold Oper.wp
  obtain ⟨v, H', w', hr, hR, hst⟩ := hx a w ha hw
  rw [hr, Oper.upon_value, hd]
  exact h v H' hR _ w' ha hst
theorem d1_actN {ops : Array Oper} {z : Nat} {S : World → Prop} {fuel i : Nat} {listed : Array Bool} {o : Oper} {R : Value → List Ent → Prop} (ho : ops[i]? = some o) (hd : o.dst = none)
    (hg : wantedB τ ops o = some true) (hx : Act1 C o τ F H R)
    (h : ∀ v H', R v H' → (∀ w, St C.O F H' w → S w) ∧ Dr C ops z S fuel (listed.setIfInBounds i true) k τ F H')  (hz : (i == z) = false := by decide +kernel) : D1 C ops z S fuel listed i k τ F H := by
  have hz' : i ≠ z := by simpa using hz
  intro a w ha hw
  unfold wpOp
  rw [ho]
  simp only [wanted_ok ha hg, if_true]
  refine .inl ?_
  unfold Oper.wp
  obtain ⟨v, H', w', hr, hR, hst⟩ := hx a w ha hw
  rw [hr, Oper.upon_value, hd]
  exact ⟨fun _ => ⟨(h v H' hR).1 w' hst, (h v H' hR).2 _ w' ha hst⟩, fun h => absurd h hz'⟩

theorem putAt_length (cs : List Value) (off : Nat) (vs : List Value) (h : off + vs.length ≤ cs.length) : (putAt cs off vs).length = cs.length := by
  simp [putAt]; omega

/-- Cells are stored into a block. -/
theorem St.put {O : World} {F : Fz} {H : List Ent} {w : World} (P : Program) {j b off n : Nat} {cs vs : List Value} (hw : St O F H w) (hj : H[j]? = some (.mem b cs n)) (hfit : off + vs.length ≤ cs.length) (h1 : vs.all oneCellB = true) :
    ∃ w', (storeCells ⟨b, off, none⟩ vs).run P w = .ok () w' ∧ St O F (H.set j (.mem b (putAt cs off vs) n)) w' := by
  obtain ⟨rest, e', hb, hlen⟩ := hw.own _ (List.mem_of_getElem? hj)
  have hst := run_storeCells_at P b off e' vs 0 (cs ++ rest).toArray w hb (by simp; omega) (fun u hu => by rw [oneCell_eq]; exact List.all_eq_true.1 h1 u hu)
  simp only [Nat.add_zero] at hst
  have e1 : (cs ++ rest).toArray.toList.take off ++ vs ++ (cs ++ rest).toArray.toList.drop (off + vs.length) = putAt cs off vs ++ rest := by
    show (cs ++ rest).take off ++ vs ++ (cs ++ rest).drop (off + vs.length) = _
    rw [List.take_append_of_le_length (by omega), List.drop_append_of_le_length (by omega)]
    simp [putAt]
  rw [e1] at hst
  refine ⟨_, hst, hw.set hj rfl rfl rfl (fun k hk => setRow_other w b k _ hk) ⟨rest, e', setRow_heap w b _ _ e' _ hb, ?_⟩⟩
  rw [List.length_append, putAt_length _ _ _ hfit, ← List.length_append]
  exact hlen

/-- Elements of a block, or of another, are appended where there is room: a slice's end is moved. -/
theorem a_appendIn (j : Nat) {b n m cap sz bytes N : Nat} {zs ys : List Value} {v : Value} (hT : AppT C.P t sz bytes) (hj : H[j]? = some (.mem b zs N)) (hx : ev τ x = some (.slice (some ⟨b, 0, none⟩) n cap))
    (hy : ev τ y = some v) (hv : Sl F H sz v m ys) (h1 : ys.all oneCellB = true) (hroom : n + m ≤ cap) (hfit : (n + m) * sz ≤ zs.length) :
    Act1 C ⟨dst, .call { callee := .builtin .append, args := #[x, y], argTypes := #[t, t] }, ty, pos, aft, g⟩ τ F H
      (fun r H' => r = .slice (some ⟨b, 0, none⟩) (n + m) cap ∧ H' = H.set j (.mem b (putAt zs (n * sz) ys) N)) := by
  intro a w ha hw
  obtain ⟨⟨e, i, z, ht, hi, hz, hsz, hbytes, hzs⟩, hpos⟩ := hT
  subst hsz hbytes
  obtain ⟨a0, cap0, rfl, _⟩ := hv.shape
  have hyl := hv.len
  have hops : ∀ (s : Value) (r : Value) (w' : World), (Builtin.append_ #[t, t] ty #[s, .slice a0 m cap0]).run C.P w = .ok r w' → a.eval x = s →
      (execOp a.eval ⟨dst, .call { callee := .builtin .append, args := #[x, y], argTypes := #[t, t] }, ty, pos, aft, g⟩).run C.P w = .ok (.value r) w' := fun s r w' hr hs => by
    rw [execOp_builtin_run (s := Builtin.append_ #[t, t] ty #[a.eval x, a.eval y]) (r := .ok r w') (fun _ => by simp [builtin]) (by rw [hs, ha.eval hy]; exact hr)]
    rfl
  have hf := hv.firstCells (P := C.P) hw.held
  obtain ⟨w', hst, hS⟩ := hw.put C.P (off := n * i.size) (vs := ys) hj (by rw [hyl, ← Nat.add_mul]; exact hfit) h1
  refine ⟨_, _, w', hops _ _ _ ?_ (ha.eval hx), ⟨rfl, rfl⟩, hS⟩
  have hadd : (⟨b, 0, none⟩ : Addr).add (n * i.size) = ⟨b, n * i.size, none⟩ := by
    unfold Addr.add
    split
    · rename_i h0; rw [h0]
    · simp
  simp [Builtin.append_, run_underlying ht, sizeOf, typeInfo, hi, Builtin.lenOf, hroom, hf, hadd, hst]

theorem a_clear (j : Nat) {b off m cp bytes N : Nat} {zc zs : List Value} (hT : AppZ C.P t zc bytes) (hj : H[j]? = some (.mem b zs N)) (hx : ev τ x = some (.slice (some ⟨b, off, none⟩) m cp)) (h1 : zc.all oneCellB = true) (hfit : off + m * zc.length ≤ zs.length) :
    Act1 C ⟨dst, .call { callee := .builtin .clear, args := #[x], argTypes := #[t] }, ty, pos, aft, g⟩ τ F H (fun _ H' => H' = H.set j (.mem b (putAt zs off (zeros zc m)) N)) := by
  intro a w ha hw
  obtain ⟨⟨e, i, z, ht, hi, hz, hsz, hbytes, hzs⟩, hpos⟩ := hT
  obtain ⟨w', hst, hS⟩ := hw.put C.P (off := off) (vs := zeros zc m) hj (by rw [zeros_length]; exact hfit) (zeros_all h1 m)
  refine ⟨.tuple #[], _, w', ?_, rfl, hS⟩
  have hz0 : Builtin.zeroCells zc.toArray m = (zeros zc m).toArray := by rw [← zeroCells_zeros]
  have hr : (Builtin.clear_ #[t] ty #[.slice (some ⟨b, off, none⟩) m cp]).run C.P w = .ok (.tuple #[]) w' := by
    cases m with
    | zero =>
      have hnil : zeros zc 0 = [] := rfl
      rw [hnil] at hst
      have hww : w' = w := by
        have : (storeCells ⟨b, off, none⟩ []).run C.P w = .ok () w := by simp [storeCells]
        rw [this] at hst
        cases hst
        rfl
      subst hww
      simp [Builtin.clear_, run_underlying ht]
    | succ m => simp [Builtin.clear_, run_underlying ht, zeroValue, typeInfo, hi, hz, hzs, hz0, hst]
  rw [execOp_builtin_run (s := Builtin.clear_ #[t] ty #[a.eval x]) (r := .ok (.tuple #[]) w') (fun _ => by simp [builtin]) (by rw [ha.eval hx]; exact hr)]
  rfl

/-- A slice that has a block stays so. -/
theorem a_appendAt (Pre : List Ent) {b0 c0 n m sz bytes : Nat} {xs ys : List Value} {v : Value} {H1 : List Ent} (hT : AppT C.P t sz bytes) (hx : ev τ x = some (.slice (some ⟨b0, 0, none⟩) n c0)) (hok : n ≤ c0) (hl : xs.length = n * sz)
    (hH : H = Pre ++ (.mem b0 xs (c0 * sz) :: H1)) (hy : ev τ y = some v) (hv : Sl F H sz v m ys) (h1 : ys.all oneCellB = true) (h63 : n + m ≤ maxLen) (hby : (n + m) * bytes ≤ 140737488355328) :
    Act1 C ⟨dst, .call { callee := .builtin .append, args := #[x, y], argTypes := #[t, t] }, ty, pos, aft, g⟩ τ F H
      (fun r H' => ∃ b c, r = .slice (some ⟨b, 0, none⟩) (n + m) c ∧ n + m ≤ c ∧ H' = Pre ++ (.mem b (xs ++ ys) (c * sz) :: H1)) := by
  intro a w ha hw
  obtain ⟨r, H', w', hr, ⟨bf', h2, h3, h4⟩, hst⟩ := a_appendP (C := C) (F := F) (ty := ty) (pos := pos) (aft := aft) (g := g) (dst := dst) Pre (bf := .at b0 c0) hT hx hok hl hH hy hv h1 h63 hby a w ha hw
  cases bf' with
  | «at» b c => exact ⟨r, _, w', hr, ⟨b, c, h2, h3, h4⟩, hst⟩
  | nil =>
    -- a slice with a block is not made nil: nothing was appended, and the block stays
    have hnm : n + m = 0 := h3
    have hn : n = 0 := by omega
    have hm : m = 0 := by omega
    subst hn hm
    exfalso
    obtain ⟨⟨e, i, z, ht, hi, hz, hsz, hbytes, hzs⟩, hpos⟩ := hT
    obtain ⟨a0, cap0, rfl, _⟩ := hv.shape
    have hf := hv.firstCells (P := C.P) hw.held
    have hyl := hv.len
    have hys : ys = [] := List.eq_nil_of_length_eq_zero (by omega)
    subst hys
    have hsc : (storeCells ⟨b0, 0, none⟩ ([] : List Value)).run C.P w = .ok () w := by simp [storeCells]
    have hrun : (Builtin.append_ #[t, t] ty #[.slice (some ⟨b0, 0, none⟩) 0 c0, .slice a0 0 cap0]).run C.P w = .ok (.slice (some ⟨b0, 0, none⟩) 0 c0) w := by
      have hadd : (⟨b0, 0, none⟩ : Addr).add (0 * i.size) = ⟨b0, 0, none⟩ := by simp [Addr.add]
      have hff : (Builtin.firstCells i.size 0 (.slice a0 0 cap0)).run C.P w = .ok #[] w := by rw [hsz]; simpa using hf
      simp [Builtin.append_, run_underlying ht, sizeOf, typeInfo, hi, Builtin.lenOf, hff, Addr.add, hsc]
    have h9 : (execOp a.eval ⟨dst, .call { callee := .builtin .append, args := #[x, y], argTypes := #[t, t] }, ty, pos, aft, g⟩).run C.P w = .ok (.value (.slice (some ⟨b0, 0, none⟩) 0 c0)) w := by
      rw [execOp_builtin_run (s := Builtin.append_ #[t, t] ty #[a.eval x, a.eval y]) (r := .ok (.slice (some ⟨b0, 0, none⟩) 0 c0) w) (fun _ => by simp [builtin]) (by rw [ha.eval hx, ha.eval hy]; exact hrun)]
      rfl
    rw [h9] at hr
    cases hr
    simp [Bf.addr] at h2
end
end Go.SX
