/-
  Contracts and plain laws, laid together: part 2.
-/
import Derived.Calls
import Derived.Orders
import Derived.OrdersHeld
import Derived.Tactics
import Derived.OwnWalk
import Derived.Laws.Small
import Derived.Laws.Strings
import Derived.Laws.Pointers
import Derived.Laws.CopyRow
import Derived.Laws.Append
import Derived.Laws.AppendOwn
import Derived.Laws.BytesArg
import Derived.Laws.Slices
import Derived.Laws.MakeOwn
import Derived.Laws.Tables
import Derived.Great.BuildSlice
import Derived.Laws.Cover3
import Derived.Laws.Concat
import Derived.Test.YtaeeagekgjjhjaaGreatProg
import Derived.Below
import Derived.SizedLaws
import Derived.ChangeSlices
import Derived.ChangeOld
import Derived.MapKept
import Derived.Carry
import Derived.WideLaws
import Derived.Laws.StructEq
import Derived.Deep.Matrix
import Derived.Deep.SlicePairs
import Derived.Deep.Grids
import Derived.Test.YtaeeagekgjjhjaaGreatMt1
namespace Go.SX
open Go
section
variable {T : Tab} {C : Cx} {O : World} {F0 : Fz} {m : PM} {h : XH} {w : World} {τ τr : Env} {o : Oper} {v : Value} {rs : List Rd}
theorem xbyte_ok {v : Value} {b : UInt8} (h : xbyte v = some b) : v = byteV b := by
  unfold xbyte at h
  split at h <;> try (cases h; done)
  rename_i n
  cases hb : Nat.blt n 256 with
  | false => rw [hb] at h; simp at h
  | true =>
    rw [hb] at h
    simp only [cond_true, Option.some.injEq] at h
    subst h
    have hn : n < 256 := Nat.le_of_ble_eq_true hb
    simp only [byteV]
    have : (UInt8.ofNat n).toNat = n := by simp; omega
    rw [this]; rfl
theorem xbytes_ok : ∀ {l : List Value} {r : List UInt8}, xbytes l = some r → l = bytesV r
  | [], r, h => by simp only [xbytes, Option.some.injEq] at h; subst h; rfl
  | v :: l, r, h => by
    simp only [xbytes] at h
    split at h <;> try (cases h; done)
    rename_i b hb
    split at h <;> try (cases h; done)
    rename_i l' hl'
    simp only [Option.some.injEq] at h
    subst h
    rw [xbyte_ok hb, xbytes_ok hl']
    rfl
theorem bytes_sc (l : List UInt8) : (bytesV l).all sc1 = true := by simp [bytesV, byteV, sc1]
theorem isBytes_ok {t : TypeId} (h : isBytes T t = true) : ∃ e, T.P.underlying t = some (.slice e) ∧ T.P.underlying e = some (.int .u8) := by
  unfold isBytes at h
  split at h <;> try (cases h; done)
  rename_i e hu
  split at h <;> try (cases h; done)
  rename_i he
  exact ⟨e, hu, he⟩
theorem isStrT_ok {P : Program} {t : TypeId} (h : isStrT P t = true) : P.underlying t = some .string := by
  unfold isStrT at h
  split at h
  · assumption
  · cases h
theorem isMapT_ok {P : Program} {t : TypeId} (h : isMapT P t = true) : ∃ k e, P.underlying t = some (.map k e) := by
  unfold isMapT at h
  split at h
  · rename_i k e hu; exact ⟨k, e, hu⟩
  · cases h
theorem xstring_ok {s d : TypeId} {x : Operand} {p : Value} (hP : T.P = C.P) (he : ER m τ τr) (hr : Rep O F0 m h w) (ho : o.op = .convert s d x) (hx : xev τ x = some p) (hs : isBytes T s = true) (hd : isStrT T.P d = true) (hl : xstring h p = some (v, rs)) :
    VOk C m τr w o v rs := by
  obtain ⟨dst, op, ty, pos, aft, g⟩ := o
  simp only at ho
  subst ho
  obtain ⟨pr, hpr, hvp⟩ := xev_ok he hx
  obtain ⟨e, hu, hue⟩ := isBytes_ok hs
  have hd := isStrT_ok hd
  rw [hP] at hu hue hd
  unfold xstring at hl
  split at hl <;> try (cases hl; done)
  · simp only [Option.some.injEq, Prod.mk.injEq] at hl
    obtain ⟨rfl, rfl⟩ := hl
    have := VR.sc1_eq (v := .slice none 0 0) rfl hvp
    subst this
    exact .pure (.sc rfl) fun w' => v_bytesString (l := []) hu hue hd hpr (Sl.nil _ _ _)
  · rename_i k off n c
    obtain ⟨b, oo, K, hm, rfl, hn⟩ := hvp.sl_inv
    cases hb : Nat.beq n 0 with
    | true =>
      rw [hb] at hl
      simp only [cond_true, Option.some.injEq, Prod.mk.injEq] at hl
      obtain ⟨rfl, rfl⟩ := hl
      have := beq_true hb
      subst this
      exact .pure (.sc rfl) fun w' => v_bytesString (l := []) hu hue hd hpr ⟨_, _, rfl, by simp, Nat.zero_le _, by simp, by simp⟩
    | false =>
      rw [hb] at hl
      simp only [cond_false] at hl
      have main : ∀ cs sz, (h.get k = some (.mem cs sz) ∨ h.get k = some (.fz cs)) → ∀ l l', xcut cs off n = some l → xbytes l = some l' → v = .string ⟨⟨l'⟩⟩ → rs = [.cs k off l] → VOk C m τr w ⟨dst, .convert s d x, ty, pos, aft, g⟩ v rs := by
        intro cs sz hg l l' hc hb rfl rfl
        obtain ⟨b', oo', K', vrs, hm', hv, hh, hlen⟩ := cells_of hr hg hc
        rw [hm] at hm'
        cases hm'
        have h1 := xbytes_ok hb
        subst h1
        have h2 := VRs.ofSc (bytes_sc l') hv
        subst h2
        refine .one (.sc rfl) (.cs hm hv) hh fun w' hw' => ?_
        have hl' : l'.length = n := by simpa using hlen
        have := v_bytesString (C := C) (F := allW w') (H := []) (dst := dst) (ty := ty) (pos := pos) (aft := aft) (g := g) (l := l') hu hue hd hpr
          ⟨_, _, by rw [hl'], by simp, by rw [hl']; exact hn, by simp, fun i c hi => ⟨b, oo + off, rfl, cell_all (hw' i c hi)⟩⟩
        exact this
      split at hl <;> try (cases hl; done)
      · rename_i cs sz hg
        split at hl <;> try (cases hl; done)
        rename_i l hc
        split at hl <;> try (cases hl; done)
        rename_i l' hb
        simp only [Option.some.injEq, Prod.mk.injEq] at hl
        exact main cs sz (.inl hg) l l' hc hb hl.1.symm hl.2.symm
      · rename_i cs hg
        split at hl <;> try (cases hl; done)
        rename_i l hc
        split at hl <;> try (cases hl; done)
        rename_i l' hb
        simp only [Option.some.injEq, Prod.mk.injEq] at hl
        exact main cs 0 (.inr hg) l l' hc hb hl.1.symm hl.2.symm
theorem xconv_ok {s d : TypeId} {x : Operand} {p : Value} (hP : T.P = C.P) (he : ER m τ τr) (hr : Rep O F0 m h w) (ho : o.op = .convert s d x) (hx : xev τ x = some p) (hl : xconv T τ h o s d p = some (v, rs)) :
    VOk C m τr w o v rs := by
  have hns : ∀ cs b, o.op ≠ .select cs b := by rw [ho]; intro cs b; simp
  unfold xconv at hl
  split at hl
  · rename_i k n
    rw [hP] at hl
    split at hl
    · rename_i k' hd
      cases hs : (C.P.underlying s).isSome with
      | false => rw [hs] at hl; simp at hl
      | true =>
        rw [hs] at hl
        simp only [cond_true, Option.some.injEq, Prod.mk.injEq] at hl
        obtain ⟨rfl, rfl⟩ := hl
        obtain ⟨pr, hpr, hvp⟩ := xev_ok he hx
        cases hvp.int
        obtain ⟨dst, op, ty, pos, aft, g⟩ := o
        simp only at ho
        subst ho
        exact .pure (.sc rfl) fun w' => v_conv hs hd hpr rfl
    · exact xpure_ok he hns hl
  · cases hs : isBytes T s && isStrT T.P d with
    | false => rw [hs] at hl; simp at hl
    | true =>
      rw [hs] at hl
      simp only [cond_true] at hl
      simp only [Bool.and_eq_true] at hs
      exact xstring_ok hP he hr ho hx hs.1 hs.2 hl
  · rw [hP] at hl
    exact xpure_ok he hns hl
/-! ### Lengths -/
theorem builtin_val {bi : Builtin} {args : Array Operand} {ats : Array TypeId} {dst : Option Nat} {ty : TypeId} {pos : String} {aft : Array Edge} {g : Option (Nat × Bool)} {w' : World} {vr : Value} {s : Act → Sem Value}
    (hs : ∀ (a : Act) cs, EnvOk C.fn.ntmps τr a → builtin bi ats ty cs (args.map a.eval) = (do pure (.value (← s a)))) (hr : ∀ (a : Act) w2, EnvOk C.fn.ntmps τr a → Held (allW w') [] w2 → (s a).run C.P w2 = .ok vr w2) :
    Val C ⟨dst, .call { callee := .builtin bi, args := args, argTypes := ats }, ty, pos, aft, g⟩ τr (allW w') [] vr := fun a w2 ha hw2 => by
  rw [execOp_builtin_run (s := s a) (r := .ok vr w2) (fun cs => hs a cs ha) (hr a w2 ha hw2)]
  rfl
theorem xlen_ok {t : TypeId} {x : Operand} {p : Value} (hP : T.P = C.P) (he : ER m τ τr) (hr : Rep O F0 m h w) (ho : o.op = .call ⟨.builtin .len, ⟨[x]⟩, ⟨[t]⟩⟩) (hx : xev τ x = some p) (hl : xlen T.P h t p = some (v, rs)) :
    VOk C m τr w o v rs := by
  obtain ⟨dst, op, ty, pos, aft, g⟩ := o
  simp only at ho
  subst ho
  obtain ⟨pr, hpr, hvp⟩ := xev_ok he hx
  rw [hP] at hl
  unfold xlen at hl
  split at hl
  · rename_i a n c
    cases hs : isSliceB C.P t with
    | false => rw [hs] at hl; simp at hl
    | true =>
      rw [hs] at hl
      simp only [cond_true, Option.some.injEq, Prod.mk.injEq] at hl
      obtain ⟨rfl, rfl⟩ := hl
      obtain ⟨a', c', rfl, _⟩ := hvp.sl_inv'
      exact .pure (.sc rfl) fun w' => v_len hs hpr
  · rename_i l
    cases hs : isStrT C.P t with
    | false => rw [hs] at hl; simp at hl
    | true =>
      rw [hs] at hl
      simp only [cond_true, Option.some.injEq, Prod.mk.injEq] at hl
      obtain ⟨rfl, rfl⟩ := hl
      have hu := isStrT_ok hs
      have hp := VR.sc1_eq (v := .string ⟨⟨l⟩⟩) rfl hvp
      subst hp
      refine .pure (.sc rfl) fun w' => builtin_val (s := fun a => Builtin.len_ #[t] ty #[a.eval x]) (fun a cs ha => by simp [builtin]) fun a w2 ha hw2 => ?_
      have hl2 : (ByteArray.mk ⟨l⟩).size = l.length := rfl
      simp [Builtin.len_, ha.eval hpr, run_underlying hu, goInt, hl2]
  · cases hs : isMapT C.P t with
    | false => rw [hs] at hl; simp at hl
    | true =>
      rw [hs] at hl
      simp only [cond_true] at hl
      obtain ⟨kt, et, hu⟩ := isMapT_ok hs
      unfold xlenMap at hl
      split at hl <;> try (cases hl; done)
      · simp only [Option.some.injEq, Prod.mk.injEq] at hl
        obtain ⟨rfl, rfl⟩ := hl
        have hp := VR.sc1_eq (v := .map none) rfl hvp
        subst hp
        refine .pure (.sc rfl) fun w' => builtin_val (s := fun a => Builtin.len_ #[t] ty #[a.eval x]) (fun a cs ha => by simp [builtin]) fun a w2 ha hw2 => ?_
        simp [Builtin.len_, ha.eval hpr, run_underlying hu, goInt]
      · rename_i k
        split at hl <;> try (cases hl; done)
        rename_i es c hg
        simp only [Option.some.injEq, Prod.mk.injEq] at hl
        obtain ⟨rfl, rfl⟩ := hl
        obtain ⟨b, oo, K, hm, rfl⟩ := hvp.map_inv
        obtain ⟨b', K', es', hm', hv, hb⟩ := hr.own _ _ hg
        rw [hm] at hm'
        cases hm'
        have hlen : es'.length = es.length := by
          clear hg hb
          induction hv with
          | nil => rfl
          | cons _ _ _ _ ih => simp [ih]
        refine .one (.sc rfl) (.map hm hv) hb fun w' hw' => builtin_val (s := fun a => Builtin.len_ #[t] ty #[a.eval x]) (fun a cs ha => by simp [builtin]) fun a w2 ha hw2 => ?_
        have hg2 : (getObj b).run C.P w2 = .ok (.map es'.toArray c) w2 := Go.MapKept.run_getObj_map (obj_all hw' hw2)
        simp [Builtin.len_, ha.eval hpr, run_underlying hu, goInt, hg2, hlen]
theorem xcap_ok {t : TypeId} {x : Operand} {p : Value} (hP : T.P = C.P) (he : ER m τ τr) (ho : o.op = .call ⟨.builtin .cap, ⟨[x]⟩, ⟨[t]⟩⟩) (hx : xev τ x = some p) (hl : xcap T.P t p = some (v, rs)) :
    VOk C m τr w o v rs := by
  obtain ⟨dst, op, ty, pos, aft, g⟩ := o
  simp only at ho
  subst ho
  obtain ⟨pr, hpr, hvp⟩ := xev_ok he hx
  rw [hP] at hl
  unfold xcap at hl
  split at hl <;> try (cases hl; done)
  · rename_i a n c
    cases hs : Nat.beq (Nat.mod c 2) 0 && isSliceB C.P t with
    | false => rw [hs] at hl; simp at hl
    | true =>
      rw [hs] at hl
      simp only [cond_true, Option.some.injEq, Prod.mk.injEq] at hl
      obtain ⟨rfl, rfl⟩ := hl
      simp only [Bool.and_eq_true] at hs
      obtain ⟨k, off, s⟩ := a
      obtain ⟨b, oo, K, hm, rfl, hn⟩ := hvp.sl_inv
      have h0 : c % 2 = 0 := beq_true hs.1
      have hc : cpOf K c = c / 2 := by simp [cpOf, h0]
      rw [hc] at hpr
      exact .pure (.sc rfl) fun w' => v_cap hs.2 hpr
  · rename_i n c
    cases hs : isSliceB C.P t with
    | false => rw [hs] at hl; simp at hl
    | true =>
      rw [hs] at hl
      simp only [cond_true, Option.some.injEq, Prod.mk.injEq] at hl
      obtain ⟨rfl, rfl⟩ := hl
      have hp := VR.sc1_eq (v := .slice none n c) rfl hvp
      subst hp
      exact .pure (.sc rfl) fun w' => v_cap hs hpr
theorem xminmax_ok {mx : Bool} {ats : Array TypeId} {x y : Operand} {p q : Value} (he : ER m τ τr) (ho : o.op = .call ⟨.builtin (cond mx .max .min), ⟨[x, y]⟩, ats⟩) (hx : xev τ x = some p) (hy : xev τ y = some q) (hl : xminmax mx p q = some (v, rs)) :
    VOk C m τr w o v rs := by
  obtain ⟨dst, op, ty, pos, aft, g⟩ := o
  simp only at ho
  subst ho
  obtain ⟨pr, hpr, hvp⟩ := xev_ok he hx
  obtain ⟨qr, hqr, hvq⟩ := xev_ok he hy
  unfold xminmax at hl
  split at hl <;> try (cases hl; done)
  split at hl <;> try (cases hl; done)
  cases hvp.int
  cases hvq.int
  simp only [dec_true] at hl
  split at hl <;> try (cases hl; done)
  rename_i hk
  subst hk
  simp only [Option.some.injEq, Prod.mk.injEq] at hl
  obtain ⟨rfl, rfl⟩ := hl
  cases mx with
  | true =>
    refine .pure (.sc rfl) fun w' => ?_
    · have := v_max (C := C) (F := allW w') (H := []) (dst := dst) (ty := ty) (pos := pos) (aft := aft) (g := g) (ats := ats) hpr hqr
      simp only [cond_true, gt_iff_lt] at this ⊢
      exact this
  | false =>
    refine .pure (.sc rfl) fun w' => ?_
    · have := v_min (C := C) (F := allW w') (H := []) (dst := dst) (ty := ty) (pos := pos) (aft := aft) (g := g) (ats := ats) hpr hqr
      simp only [cond_false] at this ⊢
      exact this
theorem xmakeFunc_ok {f : Fn} {first cap : Array Operand} {l r : List Value} (he : ER m τ τr) (ho : o.op = .makeFunc f first cap) (h1 : xevs τ first.toList = some l) (h2 : xevs τ cap.toList = some r) : VOk C m τr w o (.func f ⟨l⟩ ⟨r⟩) [] := by
  obtain ⟨dst, op, ty, pos, aft, g⟩ := o
  simp only at ho
  subst ho
  obtain ⟨l', h3, h4⟩ := xevs_ok he h1
  obtain ⟨r', h5, h6⟩ := xevs_ok he h2
  exact .pure (.func h4 h6) fun w' => v_makeFunc (first := first.toList) (cap := cap.toList) h3 h5
end
end Go.SX
namespace Go.SX
open Go
section
variable {T : Tab} {C : Cx} {O : World} {F0 : Fz} {m : PM} {h : XH} {w : World} {τ τr : Env} {o : Oper} {v : Value} {rs : List Rd}
/-! ### Literals -/
theorem xfill_ok (he : ER m τ τr) {n : Nat} {place place' : Nat → Option (Nat × Nat)} (hp : ∀ i p, place i = some p → place' i = some p) : ∀ {ps : List (Nat × Operand)} {cs cs' crs : List Value}, xfill τ place ps cs = some cs' → VRs m cs crs →
    ∃ (parts : List (Nat × Value)) (crs' : List Value), (∀ a, EnvOk n τr a → ps.map (fun p => (p.1, a.eval p.2)) = parts) ∧ Instr.fill place' ⟨crs⟩ parts = some ⟨crs'⟩ ∧ VRs m cs' crs'
  | [], cs, cs', crs, h, hv => by
    simp only [xfill, Option.some.injEq] at h
    subst h
    exact ⟨[], crs, fun a _ => rfl, rfl, hv⟩
  | (i, x) :: r, cs, cs', crs, h, hv => by
    simp only [xfill] at h
    split at h <;> try (cases h; done)
    rename_i off s hpl
    split at h <;> try (cases h; done)
    rename_i u hu
    cases hb : Nat.beq u.cells.toList.length s with
    | false => rw [hb] at h; simp at h
    | true =>
      rw [hb] at h
      simp only [cond_true] at h
      split at h <;> try (cases h; done)
      rename_i l hl
      obtain ⟨ur, h1, h2⟩ := xev_ok he hu
      obtain ⟨h3, h4⟩ := xput_eq _ _ _ _ hl
      have hc := h2.cells
      have hlen := hc.length
      have hlv := hv.length
      have hput : VRs m l (putAt crs off ur.cells.toList) := by rw [h3]; exact hv.put off hc
      obtain ⟨parts, crs', g1, g2, g3⟩ := xfill_ok (n := n) he hp h hput
      refine ⟨(i, ur) :: parts, crs', fun a ha => by simp [g1 a ha, ha.eval h1], ?_, g3⟩
      have hsz : ur.cells.size = s := by
        have := beq_true hb
        simp only [Array.length_toList] at this hlen
        omega
      have hfit : off + ur.cells.size ≤ (⟨crs⟩ : Array Value).size := by
        simp only [Array.length_toList] at h4 hlen
        show off + ur.cells.size ≤ crs.length
        omega
      simp only [Instr.fill, hp _ _ hpl]
      rw [if_neg (by simp [hsz]; rw [← hsz]; exact hfit)]
      rw [fold_put _ off ur.cells hfit]
      exact g2
theorem xbuild_ok {t : TypeId} {ps : Array (Nat × Operand)} (hP : T.P = C.P) (hty : T.ty = tiOf T.P) (he : ER m τ τr) (ho : o.op = .build t ps) (hl : xbuild T τ t ps.toList = some (v, rs)) : VOk C m τr w o v rs := by
  obtain ⟨dst, op, ty, pos, aft, g⟩ := o
  simp only at ho
  subst ho
  unfold xbuild at hl
  rw [hty, hP] at hl
  have fin : ∀ (place place' : Nat → Option (Nat × Nat)) (z l : List Value), (∀ i p, place i = some p → place' i = some p) → xfill τ place ps.toList z = some l → z.all sc1 = true →
      (∀ parts cells, Instr.fill place' ⟨z⟩ parts = some cells → C.P.built t parts = some cells) → v = .agg ⟨l⟩ → rs = [] → VOk C m τr w ⟨dst, .build t ps, ty, pos, aft, g⟩ v rs := by
    intro place place' z l hpp hf hz hbt rfl rfl
    obtain ⟨parts, crs', g1, g2, g3⟩ := xfill_ok (n := C.fn.ntmps) he hpp hf (VRs.sc hz)
    refine .pure (.agg g3) fun w' a w2 ha _ => ?_
    have hparts : (ps.map fun (j, x) => (j, a.eval x)).toList = parts := by
      rw [Array.toList_map, ← g1 a ha]
    have hrun := run_build (P := C.P) w2 t (ps.map fun (j, x) => (j, a.eval x)) ⟨crs'⟩ (by rw [hparts]; exact hbt _ _ g2)
    simp only [execOp, Sem.run_bind, hrun]
    rfl
  split at hl <;> try (cases hl; done)
  · rename_i ag sz z fs pl hi
    split at hl <;> try (cases hl; done)
    rename_i l hf
    simp only [Option.some.injEq, Prod.mk.injEq] at hl
    obtain ⟨_, _, hz, hk⟩ := ti_ok hi
    simp only at hz hk
    obtain ⟨fl, hu, _, hpl⟩ := kind_st hk.symm
    obtain ⟨hz, hsc⟩ := hz z rfl
    · refine fin _ (pl.toArray[·]?) z l (fun i p hp => by simpa using hp) hf hsc (fun parts cells hfl => ?_) hl.1.symm hl.2.symm
      unfold zeroCells? at hz
      obtain ⟨zv, hz1, hz2⟩ := Option.map_eq_some_iff.1 hz
      obtain ⟨it, hit, hzv⟩ := Option.bind_eq_some_iff.1 hz1
      unfold Program.built
      simp only [hit, hu, hzv, ← hpl]
      have : zv.cells = ⟨z⟩ := by apply Array.ext'; exact hz2
      rw [this]
      exact hfl
  · rename_i ag sz z n s a hi
    split at hl <;> try (cases hl; done)
    rename_i l hf
    simp only [Option.some.injEq, Prod.mk.injEq] at hl
    obtain ⟨_, _, hz, hk⟩ := ti_ok hi
    simp only at hz hk
    obtain ⟨e, ie, hu, hie, hs, _⟩ := kind_arr hk.symm
    obtain ⟨hz, hsc⟩ := hz z rfl
    · refine fin _ (fun i => some (i * ie.size, ie.size)) z l (fun i p hp => by rw [hs]; exact hp) hf hsc (fun parts cells hfl => ?_) hl.1.symm hl.2.symm
      unfold zeroCells? at hz
      obtain ⟨zv, hz1, hz2⟩ := Option.map_eq_some_iff.1 hz
      obtain ⟨it, hit, hzv⟩ := Option.bind_eq_some_iff.1 hz1
      unfold Program.built
      simp only [hit, hu, hzv, hie]
      have : zv.cells = ⟨z⟩ := by apply Array.ext'; exact hz2
      rw [this]
      exact hfl
/-! ### Maps -/
theorem equal_now {P : Program} {kt : TypeId} {d : TypeDesc} {a b : Value} {q : Bool} (hu : P.underlying kt = some d) (hs : Instr.sameNow d a b = some q) (w' : World) : (Op.equal kt a b).run P w' = .ok q w' := by
  have h0 : Op.equal kt a b = Op.equalIn (9999 + 1) kt a b := rfl
  rw [h0, Op.equalIn]
  simp only [Sem.run_bind, run_underlying hu, Result.andThen_ok]
  unfold Instr.sameNow at hs
  split at hs <;> try (cases hs; done)
  · rename_i k x k' y
    split at hs
    · rename_i hk
      subst hk
      simp only [Option.some.injEq] at hs
      subst hs
      simp
    · cases hs
  · simp only [Option.some.injEq] at hs
    subst hs
    rfl
  · simp only [Option.some.injEq] at hs
    subst hs
    rfl
theorem VEs.get : ∀ {l l' : List MapEntry} {i : Nat} {e : MapEntry}, VEs m l l' → l[i]? = some e → ∃ e', l'[i]? = some e' ∧ VR m e.key e'.key ∧ VR m e.val e'.val ∧ e'.born = e.born
  | _, _, i, e, .nil, h => by simp at h
  | _, _, 0, e, .cons (e' := e') hk hv hb _, h => by
    simp only [List.getElem?_cons_zero, Option.some.injEq] at h
    subst h
    exact ⟨e', by simp, hk, hv, hb⟩
  | _, _, i + 1, e, .cons _ _ _ g, h => by
    simp only [List.getElem?_cons_succ] at h ⊢
    exact VEs.get g h
theorem VEs.length : ∀ {l l' : List MapEntry}, VEs m l l' → l'.length = l.length
  | _, _, .nil => rfl
  | _, _, .cons _ _ _ g => by simp [VEs.length g]
/-- What is found, and what the executor finds. -/
def FR (m : PM) (es : List MapEntry) (i : Nat) : Option (Nat × MapEntry) → Option (Nat × Value) → Prop
  | none, r => r = none
  | some (j, e), r => i ≤ j ∧ es[j - i]? = some e ∧ ∃ vr, r = some (j, vr) ∧ VR m e.val vr
theorem xfind_ok {P : Program} {kt : TypeId} {k : Value} {d : TypeDesc} (hu : P.underlying kt = some d) : ∀ {es es' : List MapEntry} {i : Nat} {r : Option (Nat × MapEntry)}, (es.all fun e => sc e.key) = true → VEs m es es' → xfind P kt k es i = some r →
    ∃ rr, FR m es i r rr ∧ (∀ w', (Instr.findAsking kt k es' i).run P w' = .ok rr w') ∧ ∀ r', Instr.findNow d k es' i = some r' → r' = rr
  | [], _, i, r, _, .nil, h => by
    simp only [xfind, Option.some.injEq] at h
    subst h
    refine ⟨none, rfl, fun w' => by simp [Instr.findAsking], fun r' hr' => ?_⟩
    simp only [Instr.findNow, Option.some.injEq] at hr'
    exact hr'.symm
  | e :: es, _, i, r, hs, .cons (e' := e') (l' := l') hk hv hb g, h => by
    simp only [List.all_cons, Bool.and_eq_true] at hs
    have hkey : e'.key = e.key := VR.sc_eq hs.1 hk
    simp only [xfind] at h
    split at h <;> try (cases h; done)
    · rename_i hq
      simp only [Option.some.injEq] at h
      subst h
      have hrun : ∀ w', (Op.equal kt k e.key).run P w' = .ok true w' := fun w' => pureRun_run hq
      refine ⟨some (i, e'.val), ⟨Nat.le_refl _, by simp, e'.val, rfl, hv⟩, fun w' => ?_, fun r' hr' => ?_⟩
      · simp [Instr.findAsking, hkey, hrun w']
      · simp only [Instr.findNow, hkey] at hr'
        split at hr' <;> try (cases hr'; done)
        · simpa using hr'.symm
        · rename_i hsn
          have h1 := equal_now hu hsn default
          rw [hrun default] at h1
          cases h1
    · rename_i hq
      obtain ⟨rr, g1, g2, g3⟩ := xfind_ok hu hs.2 g h
      have hrun : ∀ w', (Op.equal kt k e.key).run P w' = .ok false w' := fun w' => pureRun_run hq
      refine ⟨rr, ?_, fun w' => ?_, fun r' hr' => ?_⟩
      · cases r with
        | none => exact g1
        | some p =>
          obtain ⟨j, e2⟩ := p
          obtain ⟨h1, h2, h3⟩ := g1
          refine ⟨by omega, ?_, h3⟩
          have : j - i = (j - (i + 1)) + 1 := by omega
          rw [this, List.getElem?_cons_succ]
          exact h2
      · simp [Instr.findAsking, hkey, hrun w', g2 w']
      · simp only [Instr.findNow, hkey] at hr'
        split at hr' <;> try (cases hr'; done)
        · rename_i hsn
          have h1 := equal_now hu hsn default
          rw [hrun default] at h1
          cases h1
        · exact g3 r' hr'
/-- The base's own search. -/
theorem xfind_run {P : Program} {kt : TypeId} {k : Value} {es es' : List MapEntry} {r : Option (Nat × MapEntry)} {d : TypeDesc} (hu : P.underlying kt = some d) (hs : (es.all fun e => sc e.key) = true) (hv : VEs m es es') (hf : xfind P kt k es 0 = some r) :
    ∃ rr, FR m es 0 r rr ∧ ∀ w', (Instr.findKey kt k es').run P w' = .ok rr w' := by
  obtain ⟨rr, h1, h2, h3⟩ := xfind_ok hu hs hv hf
  refine ⟨rr, h1, fun w' => ?_⟩
  unfold Instr.findKey
  simp only [Sem.run_bind, run_underlying hu, Result.andThen_ok]
  split
  · rename_i r' hr'
    rw [h3 r' hr']
    rfl
  · exact h2 w'
theorem xkey_ok {P : Program} {kt : TypeId} {k : Value} {es : List MapEntry} (hx : xkey P kt k es = true) : sc k = true ∧ (es.all fun e => sc e.key) = true ∧ ∀ w', (Instr.checkKey es.isEmpty 10000 kt k).run P w' = .ok () w' := by
  unfold xkey at hx
  simp only [Bool.and_eq_true] at hx
  obtain ⟨u, hu⟩ := Option.isSome_iff_exists.1 hx.2
  exact ⟨hx.1.1, hx.1.2, fun w' => pureRun_run hu⟩
theorem xlookup_ok {t : TypeId} {x y : Operand} {ok : Bool} {p k : Value} (hP : T.P = C.P) (hty : T.ty = tiOf T.P) (he : ER m τ τr) (hr : Rep O F0 m h w) (ho : o.op = .lookup t x y ok) (hx : xev τ x = some p) (hy : xev τ y = some k) (hl : xlookup T h t p k ok = some (v, rs)) :
    VOk C m τr w o v rs := by
  obtain ⟨dst, op, ty, pos, aft, g⟩ := o
  simp only at ho
  subst ho
  obtain ⟨pr, hpr, hvp⟩ := xev_ok he hx
  obtain ⟨kr, hkr, hvk⟩ := xev_ok he hy
  unfold xlookup at hl
  rw [hty, hP] at hl
  split at hl <;> try (cases hl; done)
  rename_i ag sz z0 kt z hi
  have hkind := (ti_ok hi).2.2.2.symm
  simp only at hkind
  obtain ⟨e, ie, hu, hie, hz, hsz, d, hd⟩ := kind_mp hkind
  have hzero : ∀ w2, (zeroValue e).run C.P w2 = .ok z w2 := fun w2 => by simp [zeroValue, typeInfo, hie, hz]
  simp only at hl
  split at hl <;> try (cases hl; done)
  · cases hxk : xkey C.P kt k [] with
    | false => rw [hxk] at hl; simp at hl
    | true =>
      rw [hxk] at hl
      simp only [cond_true, Option.some.injEq, Prod.mk.injEq] at hl
      obtain ⟨rfl, rfl⟩ := hl
      obtain ⟨hks, _, hck⟩ := xkey_ok hxk
      have hp := VR.sc1_eq (v := .map none) rfl hvp
      subst hp
      have hk := VR.sc_eq hks hvk
      subst hk
      refine .pure (v := cond ok (.tuple #[z, .bool false]) z) (vr := cond ok (.tuple #[z, .bool false]) z) ?_ fun w' a w2 ha _ => ?_
      · cases ok with
        | true => exact .tuple (.cons (.ofSc hsz) (.cons (.sc rfl) .nil))
        | false => exact .ofSc hsz
      · have h1 := hck w2
        simp only [List.isEmpty_nil] at h1
        have h2 : (Instr.findKey kt kr []).run C.P w2 = .ok none w2 := by
          simp [Instr.findKey, run_underlying hd, Instr.findNow]
        simp only [execOp, ha.eval hpr, ha.eval hkr, Instr.lookup, Sem.run_bind, run_underlying hu, Result.andThen_ok, Sem.run_pure, Array.isEmpty_empty, h1, h2, hzero]
        cases ok <;> rfl
  · rename_i b0
    split at hl <;> try (cases hl; done)
    rename_i es c hg
    cases hxk : xkey C.P kt k es with
    | false => rw [hxk] at hl; simp at hl
    | true =>
      rw [hxk] at hl
      simp only [cond_true] at hl
      obtain ⟨hks, hkeys, hck⟩ := xkey_ok hxk
      obtain ⟨b, oo, K, hm, rfl⟩ := hvp.map_inv
      have hk := VR.sc_eq hks hvk
      subst hk
      obtain ⟨b', K', es', hm', hv, hb⟩ := hr.own _ _ hg
      rw [hm] at hm'
      cases hm'
      have hemp : es'.toArray.isEmpty = es.isEmpty := by
        have := hv.length
        cases es <;> cases es' <;> simp_all
      have go : ∀ (r : Option (Nat × MapEntry)) (u : Value) (q : Bool), xfind C.P kt kr es 0 = some r → (r = none → u = z ∧ q = false) → (∀ j e, r = some (j, e) → u = e.val ∧ q = true) → v = cond ok (.tuple #[u, .bool q]) u → rs = [.ob b0 (.map es c)] → VOk C m τr w ⟨dst, .lookup t x y ok, ty, pos, aft, g⟩ v rs := by
        intro r u q hf hn hs rfl rfl
        obtain ⟨rr, hfr, hrun⟩ := xfind_run hd hkeys hv hf
        obtain ⟨ur, hur, hres⟩ : ∃ ur, VR m u ur ∧ ((rr = none ∧ ur = z ∧ q = false) ∨ ∃ j, rr = some (j, ur) ∧ q = true) := by
          cases r with
          | none =>
            obtain ⟨rfl, rfl⟩ := hn rfl
            exact ⟨u, .ofSc hsz, .inl ⟨hfr, rfl, rfl⟩⟩
          | some p =>
            obtain ⟨j, e2⟩ := p
            obtain ⟨rfl, rfl⟩ := hs j e2 rfl
            obtain ⟨_, _, vr, h1, h2⟩ := hfr
            exact ⟨vr, h2, .inr ⟨j, h1, rfl⟩⟩
        refine .one (vr := cond ok (.tuple #[ur, .bool q]) ur) ?_ (.map hm hv) hb fun w' hw' a w2 ha hw2 => ?_
        · cases ok with
          | true => exact .tuple (.cons hur (.cons (.sc rfl) .nil))
          | false => exact hur
        · have hg2 : (getObj b).run C.P w2 = .ok (.map es'.toArray c) w2 := Go.MapKept.run_getObj_map (obj_all hw' hw2)
          have h1 := hck w2
          have h2 := hrun w2
          simp only [execOp, ha.eval hpr, ha.eval hkr, Instr.lookup, Sem.run_bind, run_underlying hu, Result.andThen_ok, hg2, Sem.run_pure, hemp, h1, h2]
          rcases hres with ⟨rfl, rfl, rfl⟩ | ⟨j, rfl, rfl⟩
          · simp only [Sem.run_bind, hzero, Result.andThen_ok, Sem.run_pure]
            cases ok <;> rfl
          · simp only [Sem.run_pure, Result.andThen_ok]
            cases ok <;> rfl
      split at hl <;> try (cases hl; done)
      · rename_i j e2 hf
        simp only [Option.some.injEq, Prod.mk.injEq] at hl
        exact go _ e2.val true hf (by simp) (by intro j' e' h'; cases h'; exact ⟨rfl, rfl⟩) hl.1.symm hl.2.symm
      · rename_i hf
        simp only [Option.some.injEq, Prod.mk.injEq] at hl
        exact go _ z false hf (fun _ => ⟨rfl, rfl⟩) (by intro j e h'; cases h') hl.1.symm hl.2.symm
theorem VEs.born : ∀ {l l' : List MapEntry} {n i j : Nat}, VEs m l l' → xborn n l i = some j → i ≤ j ∧ ∃ e e', l[j - i]? = some e ∧ l'[j - i]? = some e' ∧ e.born = n ∧ VR m e.key e'.key ∧ VR m e.val e'.val ∧ e'.born = n ∧ l'.find? (fun e => e.born == n) = some e' ∧ l'.findIdx? (fun e => (e.born : Int) == (n : Int)) = some (j - i)
  | _, _, n, i, j, .nil, h => by simp [xborn] at h
  | _, _, n, i, j, .cons (e := e) (e' := e') (l := l) (l' := l') hk hv hb g, h => by
    simp only [xborn] at h
    cases hq : Nat.beq e.born n with
    | true =>
      rw [hq] at h
      simp only [cond_true, Option.some.injEq] at h
      subst h
      have := beq_true hq
      subst this
      exact ⟨Nat.le_refl _, e, e', by simp, by simp, rfl, hk, hv, hb, by simp [hb], by rw [List.findIdx?_cons]; simp [hb]⟩
    | false =>
      rw [hq] at h
      simp only [cond_false] at h
      obtain ⟨h1, e2, e2', h2, h3, h4, h5, h6, h7, h8, h9⟩ := VEs.born g h
      have hne := beq_false hq
      have hsub : j - i = (j - (i + 1)) + 1 := by omega
      refine ⟨by omega, e2, e2', by rw [hsub, List.getElem?_cons_succ]; exact h2, by rw [hsub, List.getElem?_cons_succ]; exact h3, h4, h5, h6, h7, ?_, ?_⟩
      · rw [List.find?_cons_of_neg (by simp [hb, hne])]
        exact h8
      · rw [List.findIdx?_cons]
        have : ((e'.born : Int) == (n : Int)) = false := by simp [hb]; omega
        rw [this]
        simp only [Bool.false_eq_true, if_false, h9, Option.map_some, hsub]
theorem xentry_ok {x : Operand} {p : Value} (he : ER m τ τr) (hr : Rep O F0 m h w) (ho : o.op = .entry x) (hx : xev τ x = some p) (hl : xentry h p = some (v, rs)) : VOk C m τr w o v rs := by
  obtain ⟨dst, op, ty, pos, aft, g⟩ := o
  simp only at ho
  subst ho
  obtain ⟨pr, hpr, hvp⟩ := xev_ok he hx
  unfold xentry at hl
  split at hl <;> try (cases hl; done)
  rename_i r
  split at hl <;> try (cases hl; done)
  rename_i mk since seen last hgi
  split at hl <;> try (cases hl; done)
  rename_i stamp hst
  split at hl <;> try (cases hl; done)
  rename_i es c hgm
  cases hcl : Nat.beq c last with
  | false => rw [hcl] at hl; simp at hl
  | true =>
    rw [hcl] at hl
    have := beq_true hcl
    subst this
    simp only [cond_true] at hl
    split at hl <;> try (cases hl; done)
    rename_i j hj
    split at hl <;> try (cases hl; done)
    rename_i e hej
    simp only [Option.some.injEq, Prod.mk.injEq] at hl
    obtain ⟨rfl, rfl⟩ := hl
    obtain ⟨b, oo, K, hm, rfl⟩ := hvp.ptr_inv
    obtain ⟨b', K', mm', hm', hvm, hb⟩ := hr.own _ _ hgi
    rw [hm] at hm'
    cases hm'
    obtain ⟨b2, o2, K2, hm2, heq⟩ := hvm.map_inv
    cases heq
    obtain ⟨b3, K3, es', hm3, hve, hb3⟩ := hr.own _ _ hgm
    rw [hm2] at hm3
    cases hm3
    obtain ⟨_, e1, e', h1, h2, h3, h4, h5, h6, h7, _⟩ := hve.born hj
    rw [Nat.sub_zero] at h1
    rw [hej] at h1
    cases h1
    refine ⟨.tuple ⟨[e'.key, e'.val]⟩, [.ob b (.mapIter (some b2) since seen.toArray c), .ob b2 (.map es'.toArray c)], .tuple (.cons h4 (.cons h5 .nil)), .cons (.iter hm hvm) (.cons (.map hm2 hve) .nil), ?_, fun w' hw' a w2 ha hw2 => ?_⟩
    · intro x hx
      simp only [List.mem_cons, List.not_mem_nil, or_false] at hx
      rcases hx with rfl | rfl
      · exact hb
      · exact hb3
    · have q1 : w'.heap[b]? = some (.mapIter (some b2) since seen.toArray c) := hw' (.ob b _) (by simp)
      have q2 : w'.heap[b2]? = some (.map es'.toArray c) := hw' (.ob b2 _) (by simp)
      have hio := obj_all q1 hw2
      have hg1 : (getObj b).run C.P w2 = .ok (.mapIter (some b2) since seen.toArray c) w2 := by simp only [getObj, Sem.run, hio]
      have hg2 : (getObj b2).run C.P w2 = .ok (.map es'.toArray c) w2 := Go.MapKept.run_getObj_map (obj_all q2 hw2)
      have hback : seen.toArray.back? = some stamp := by simpa [List.getLast?_eq_getElem?] using hst
      have hfind : es'.toArray.find? (fun e => e.born == stamp) = some e' := by simpa using h7
      simp only [execOp, ha.eval hpr, Instr.entry, Sem.run_bind, Nat.add_zero, hg1, Result.andThen_ok, hback, hg2, bne_self_eq_false, Bool.false_eq_true, if_false, hfind, Sem.run_pure]
/-- **All that comes to a value.** -/
theorem xval_ok (hP : T.P = C.P) (hty : T.ty = tiOf T.P) (he : ER m τ τr) (hr : Rep O F0 m h w) (hl : xval T τ h o = some (v, rs)) : VOk C m τr w o v rs := by
  have t1 : ∀ {x : Operand} {f : Value → XV}, x1 τ x f = some (v, rs) → ∃ p, xev τ x = some p ∧ f p = some (v, rs) := fun hq => by
    unfold x1 at hq
    split at hq
    · rename_i p hp; exact ⟨p, hp, hq⟩
    · cases hq
  have t2 : ∀ {x y : Operand} {f : Value → Value → XV}, x2 τ x y f = some (v, rs) → ∃ p q, xev τ x = some p ∧ xev τ y = some q ∧ f p q = some (v, rs) := fun hq => by
    unfold x2 at hq
    split at hq
    · rename_i p hp
      split at hq
      · rename_i q hq'; exact ⟨p, q, hp, hq', hq⟩
      · cases hq
    · cases hq
  unfold xval at hl
  split at hl
  · rename_i x ho; exact xmove_ok he (.inl ho) hl
  · rename_i x ho; exact xmove_ok he (.inr ho) hl
  · rename_i c a b ho
    split at hl
    · rename_i q hq; exact xpick_ok he ho hq hl
    · cases hl
  · rename_i x ho
    split at hl
    · rename_i a ha
      simp only [Option.some.injEq, Prod.mk.injEq] at hl
      obtain ⟨rfl, rfl⟩ := hl
      exact xnil_ok he ho ha
    · cases hl
  · rename_i op t x y u ho; obtain ⟨p, q, h1, h2, h3⟩ := t2 hl; exact xbin_ok hP he ho h1 h2 h3
  · rename_i op t x ho; rw [hP] at hl; exact xpure_ok he (by rw [ho]; intro cs b; simp) hl
  · rename_i s d x ho; obtain ⟨p, h1, h3⟩ := t1 hl; exact xconv_ok hP he hr ho h1 h3
  · rename_i t x ho; obtain ⟨p, h1, h3⟩ := t1 hl; exact xload_ok hP hty he hr ho h1 h3
  · rename_i t x f ho; obtain ⟨p, h1, h3⟩ := t1 hl; exact xfieldAddr_ok hP hty he ho h1 h3
  · rename_i t x f ho; obtain ⟨p, h1, h3⟩ := t1 hl; exact xfieldV_ok hP hty he ho h1 h3
  · rename_i t x i ho; obtain ⟨p, q, h1, h2, h3⟩ := t2 hl; exact xindexAddr_ok hP hty he ho h1 h2 h3
  · rename_i t x i ho; obtain ⟨p, q, h1, h2, h3⟩ := t2 hl; exact xindexV_ok hP hty he ho h1 h2 h3
  · rename_i x i ho
    split at hl
    · rename_i l hq; exact xextract_ok he ho hq hl
    · cases hl
  · rename_i t ps ho; exact xbuild_ok hP hty he ho hl
  · rename_i t x k ok ho; obtain ⟨p, q, h1, h2, h3⟩ := t2 hl; exact xlookup_ok hP hty he hr ho h1 h2 h3
  · rename_i f first cap ho
    split at hl <;> try (cases hl; done)
    rename_i l h1
    split at hl <;> try (cases hl; done)
    rename_i l' h2
    simp only [Option.some.injEq, Prod.mk.injEq] at hl
    obtain ⟨rfl, rfl⟩ := hl
    exact xmakeFunc_ok he ho h1 h2
  · rename_i it ho; obtain ⟨p, h1, h3⟩ := t1 hl; exact xentry_ok he hr ho h1 h3
  · rename_i x t ho; obtain ⟨p, h1, h3⟩ := t1 hl; exact xlen_ok hP he hr ho h1 h3
  · rename_i x t ho; obtain ⟨p, h1, h3⟩ := t1 hl; exact xcap_ok hP he ho h1 h3
  · rename_i x y ats ho; obtain ⟨p, q, h1, h2, h3⟩ := t2 hl; exact xminmax_ok (mx := false) he ho h1 h2 h3
  · rename_i x y ats ho; obtain ⟨p, q, h1, h2, h3⟩ := t2 hl; exact xminmax_ok (mx := true) he ho h1 h2 h3
  · cases hl
end
end Go.SX
namespace Go.SX
open Go
/-- An operation acts, and the executor's memory says what memory is then. -/
def AOk (C : Cx) (F0 : Fz) (m : PM) (h' : XH) (w : World) (τr : Env) (o : Oper) (ov : Option Value) : Prop :=
  ∀ a, EnvOk C.fn.ntmps τr a → ∃ m' w', m.le m' ∧ Rep C.O F0 m' h' w' ∧ (match ov with
    | some v => ∃ vr, VR m' v vr ∧ (execOp a.eval o).run C.P w = .ok (.value vr) w'
    | none => (execOp a.eval o).run C.P w = .ok .skip w')
section
variable {T : Tab} {C : Cx} {F0 : Fz} {m : PM} {h h' : XH} {w : World} {τ τr : Env} {o : Oper} {v : Value} {ov : Option Value}
theorem xstore_ok {t : TypeId} {x y : Operand} {p q : Value} (hP : T.P = C.P) (hty : T.ty = tiOf T.P) (he : ER m τ τr) (hr : Rep C.O F0 m h w) (ho : o.op = .store t x y) (hd : o.dst = none) (hx : xev τ x = some p) (hy : xev τ y = some q) (hl : xstore T h t p q = some (ov, h')) :
    AOk C F0 m h' w τr o ov := by
  obtain ⟨dst, op, ty, pos, aft, g⟩ := o
  simp only at ho hd
  subst ho hd
  obtain ⟨pr, hpr, hvp⟩ := xev_ok he hx
  obtain ⟨qr, hqr, hvq⟩ := xev_ok he hy
  unfold xstore at hl
  split at hl <;> try (cases hl; done)
  rename_i k off
  split at hl <;> try (cases hl; done)
  rename_i cs sz hg
  rw [hty, hP] at hl
  split at hl <;> try (cases hl; done)
  rename_i i hi
  cases hc : Nat.beq q.cells.toList.length i.size && q.cells.toList.all oneCellB with
  | false => rw [hc] at hl; simp at hl
  | true =>
    rw [hc] at hl
    simp only [cond_true] at hl
    simp only [Bool.and_eq_true] at hc
    split at hl <;> try (cases hl; done)
    rename_i l hput
    simp only [Option.some.injEq, Prod.mk.injEq] at hl
    obtain ⟨rfl, rfl⟩ := hl
    obtain ⟨b, oo, K, hm, rfl⟩ := hvp.ptr_inv
    obtain ⟨b', K', crs, rest, e, hm', hv, hb, hK⟩ := hr.own _ _ hg
    rw [hm] at hm'
    cases hm'
    obtain ⟨h1, h2⟩ := xput_eq _ _ _ _ hput
    have hcv := hvq.cells
    have hlen := hcv.length
    have hlv := hv.length
    have hsz : qr.cells.size = i.size := by
      have := beq_true hc.1
      simp only [Array.length_toList] at this hlen
      omega
    have hst : St C.O (butB w b) [.mem b crs (crs ++ rest).length] w := hr.but rfl ⟨rest, e, hb, rfl⟩
    intro a ha
    rw [Nat.zero_add] at hpr
    have hact := a_store (C := C) (F := butB w b) (ty := ty) (pos := pos) (aft := aft) (g := g) (H := [.mem b crs (crs ++ rest).length]) 0 rfl (ti_ok hi).2.1 hsz (hcv.one hc.2) hpr hqr (by simp only [Array.length_toList] at h2 hlen; omega)
    obtain ⟨w', hrun, hst'⟩ := hact a w ha hst
    refine ⟨m, w', PM.le_refl m, ?_, hrun⟩
    exact hr.upd hg hm (by rw [h1]; exact hv.put off hcv) (fun hs => hK hs) hst'
theorem xnew_ok {l lr : List Value} {s : Option (Nat × Nat)} {k : Nat} {b n : Nat} {w' : World} (hr : Rep C.O F0 m h w) (hv : VRs m l lr) (hh : h.new (some (.mem l 0)) = some (k, h')) (hst : St C.O (allW w) [.mem b lr n] w')
    (hs : ∀ n c, s = some (n, c) → n ≤ c) : ∃ m', m.le m' ∧ Rep C.O F0 m' h' w' ∧ VR m' (shaped s k) (match s with | none => .pointer (some ⟨b, 0, none⟩) | some (n, c) => .slice (some ⟨b, 0, none⟩) n c) := by
  obtain ⟨h1, h2⟩ := hr.push hst hv hh
  refine ⟨_, h2, h1, ?_⟩
  have hm := PM.ext_at m k (b, 0, 0)
  cases s with
  | none => exact .ptr (off := 0) hm
  | some p =>
    obtain ⟨n, c⟩ := p
    have hc : cpOf 0 (Nat.mul 2 c) = c := by
      have e1 : Nat.mul 2 c = 2 * c := rfl
      simp [cpOf, e1]
    have := VR.sl (m := m.ext k (b, 0, 0)) (off := 0) (s := none) (n := n) (c := Nat.mul 2 c) hm (by rw [hc]; exact hs n c rfl)
    rw [hc] at this
    exact this
theorem xlit_ok {n : Nat} (he : ER m τ τr) {s : Nat} : ∀ {i : Nat} {ps : List (Nat × Operand)} {l : List Value}, xlit τ s i ps = some l →
    ∃ (xs : List Operand) (vs : List Value), ps = (xs.zipIdx i).map (fun x => (x.2, x.1)) ∧ evs τr xs = some vs ∧ vs.all (fun v => v.cells.size == s) = true ∧ VRs m l (vs.flatMap fun v => v.cells.toList)
  | i, [], l, h => by
    simp only [xlit, Option.some.injEq] at h
    subst h
    exact ⟨[], [], rfl, rfl, rfl, .nil⟩
  | i, (j, x) :: r, l, h => by
    simp only [xlit] at h
    cases hb : Nat.beq i j with
    | false => rw [hb] at h; simp at h
    | true =>
      have := beq_true hb
      subst this
      rw [hb] at h
      simp only [cond_true] at h
      split at h <;> try (cases h; done)
      rename_i u hu
      cases hc : Nat.beq u.cells.toList.length s with
      | false => rw [hc] at h; simp at h
      | true =>
        rw [hc] at h
        simp only [cond_true] at h
        split at h <;> try (cases h; done)
        rename_i l' hl'
        obtain ⟨ur, h1, h2⟩ := xev_ok he hu
        obtain ⟨xs, vs, g1, g2, g3, g4⟩ := xlit_ok (n := n) he hl'
        have h3 := xapp_eq _ _ _ h
        refine ⟨x :: xs, ur :: vs, by simp [g1], by simp [evs, h1, g2], ?_, ?_⟩
        · have := beq_true hc
          have hlen := h2.cells.length
          simp only [Array.length_toList] at this hlen
          simp only [List.all_cons, Bool.and_eq_true, beq_iff_eq]
          exact ⟨by omega, g3⟩
        · rw [h3]
          exact h2.cells.append g4
theorem fits_ok {c b : Nat} (h : xfits c b = true) : c ≤ 1000000 ∧ c * b ≤ 1000000000 := by
  unfold xfits at h
  simp only [Bool.and_eq_true] at h
  exact ⟨Nat.le_of_ble_eq_true h.1, Nat.le_of_ble_eq_true h.2⟩
/-- A new block: what it holds, and how it is made in any world. -/
theorem xalloc_ok {l : List Value} {s : Option (Nat × Nat)} (hP : T.P = C.P) (hty : T.ty = tiOf T.P) (he : ER m τ τr) (hl : xalloc T τ o = some (l, s)) (hd : o.dst.isSome = true) :
    (∀ n c, s = some (n, c) → n ≤ c) ∧ ∃ lr, VRs m l lr ∧ ∀ (F : Fz) (H : List Ent), Act1 C o τr F H (fun v H' => ∃ b n, v = (match s with | none => .pointer (some ⟨b, 0, none⟩) | some (n, c) => .slice (some ⟨b, 0, none⟩) n c) ∧ H' = .mem b lr n :: H) := by
  obtain ⟨dst, op, ty, pos, aft, g⟩ := o
  unfold xalloc at hl
  rw [hty, hP] at hl
  split at hl <;> try (cases hl; done)
  · rename_i t ho
    simp only at ho
    subst ho
    split at hl <;> try (cases hl; done)
    rename_i ag sz z k hi
    simp only [Option.some.injEq, Prod.mk.injEq] at hl
    obtain ⟨rfl, rfl⟩ := hl
    obtain ⟨hz, hsc⟩ := (ti_ok hi).2.2.1 z rfl
    refine ⟨by simp, z, VRs.sc hsc, fun F H a w' ha hw' => ?_⟩
    obtain ⟨v, H', w2, h1, ⟨b, h2, h3⟩, h4⟩ := a_alloc (C := C) (F := F) (H := H) (dst := dst) (ty := ty) (pos := pos) (aft := aft) (g := g) hz a w' ha hw'
    exact ⟨v, H', w2, h1, ⟨b, _, h2, h3⟩, h4⟩
  · rename_i t x ho
    simp only at ho
    subst ho
    split at hl <;> try (cases hl; done)
    rename_i u hu
    simp only [Option.some.injEq, Prod.mk.injEq] at hl
    obtain ⟨rfl, rfl⟩ := hl
    obtain ⟨ur, h1, h2⟩ := xev_ok he hu
    refine ⟨by simp, _, h2.cells, fun F H a w' ha hw' => ?_⟩
    obtain ⟨v, H', w2, g1, ⟨b, g2, g3⟩, g4⟩ := a_box (C := C) (F := F) (H := H) (dst := dst) (ty := ty) (pos := pos) (aft := aft) (g := g) (t := t) h1 a w' ha hw'
    exact ⟨v, H', w2, g1, ⟨b, _, g2, g3⟩, g4⟩
  · rename_i t n ps ho
    simp only at ho
    subst ho
    split at hl <;> try (cases hl; done)
    rename_i ag sz z es eb ez hi
    split at hl <;> try (cases hl; done)
    rename_i l' hl'
    cases hc : Nat.beq l'.length (Nat.mul n es) && Nat.ble (Nat.mul n es) 16777216 && Nat.blt 0 es with
    | false => rw [hc] at hl; simp at hl
    | true =>
      rw [hc] at hl
      simp only [cond_true, Option.some.injEq, Prod.mk.injEq] at hl
      obtain ⟨rfl, rfl⟩ := hl
      simp only [Bool.and_eq_true] at hc
      have hln : l'.length = n * es := beq_true hc.1.1
      have hpos : 0 < es := Nat.le_of_ble_eq_true hc.2
      obtain ⟨e, ie, zv, hu, hie, hzv, hs, hbb, hez, hesc, hezl⟩ := kind_sl (ti_ok hi).2.2.2.symm
      obtain ⟨xs, vs, g1, g2, g3, g4⟩ := xlit_ok (n := C.fn.ntmps) he hl'
      have hsl : isSliceB C.P t = true := by simp [isSliceB, hu]
      have hel : elemSize C.P t = some es := by simp [elemSize, hu, hie, hs]
      have hvl := g4.length
      refine ⟨fun n' c' hq => by cases hq; exact Nat.le_refl _, _, g4, fun F H a w' ha hw' => ?_⟩
      have hps : ps = ⟨(xs.zipIdx 0).map fun x => (x.2, x.1)⟩ := by apply Array.ext'; exact g1
      have hxl : xs.length = n := by
        have h5 := evs_length g2
        have h6 : ∀ (vs : List Value), vs.all (fun v => v.cells.size == es) = true → (vs.flatMap fun v => v.cells.toList).length = vs.length * es := by
          intro vs
          induction vs with
          | nil => intro _; simp
          | cons v r ih =>
            intro hq
            simp only [List.all_cons, Bool.and_eq_true, beq_iff_eq] at hq
            simp only [List.flatMap_cons, List.length_append, Array.length_toList, List.length_cons]
            rw [ih hq.2, hq.1, Nat.add_mul, Nat.one_mul, Nat.add_comm]
        have h7 := h6 vs g3
        rw [hvl, hln, h5] at h7
        exact Nat.eq_of_mul_eq_mul_right hpos h7.symm
      by_cases h0 : n * es = 0
      · have hn0 : n = 0 := by
          rcases Nat.mul_eq_zero.1 h0 with h | h
          · exact h
          · omega
        subst hn0
        have hxs : xs = [] := List.eq_nil_of_length_eq_zero hxl
        subst hxs
        have hvs : vs = [] := by simpa [evs] using g2.symm
        subst hvs
        have hps0 : ps = #[] := hps
        subst hps0
        obtain ⟨v, H', w2, q1, ⟨b, q2, q3⟩, q4⟩ := a_buildS0 (C := C) (F := F) (H := H) (dst := dst) (ty := ty) (pos := pos) (aft := aft) (g := g) (t := t) hsl hel a w' ha hw'
        exact ⟨v, H', w2, q1, ⟨b, _, q2, q3⟩, q4⟩
      ·
        obtain ⟨v, H', w2, q1, ⟨b, q2, q3⟩, q4⟩ := a_buildS (C := C) (F := F) (H := H) (dst := dst) (ty := ty) (pos := pos) (aft := aft) (g := g) (t := t) (len := n) (sz := es) (parts := ps) xs (by rw [hps]) hxl g2 hsl hel
          (by simp [Program.elem, hu, hie, hzv]) (Nat.ble_eq_true_of_le (by omega)) hc.1.2 g3 rfl a w' ha hw'
        exact ⟨v, H', w2, q1, ⟨b, _, q2, q3⟩, q4⟩
  · rename_i t x y ho
    simp only at ho
    subst ho
    split at hl <;> try (cases hl; done)
    rename_i ag sz z es eb ez hi
    split at hl <;> try (cases hl; done)
    rename_i nv hn
    split at hl <;> try (cases hl; done)
    rename_i cv hc
    split at hl <;> try (cases hl; done)
    rename_i n hn'
    split at hl <;> try (cases hl; done)
    rename_i c hc'
    cases hq : Nat.ble n c && xfits c eb && Nat.blt 0 es with
    | false => rw [hq] at hl; simp at hl
    | true =>
      rw [hq] at hl
      simp only [cond_true] at hl
      split at hl <;> try (cases hl; done)
      rename_i l' hz
      simp only [Option.some.injEq, Prod.mk.injEq] at hl
      obtain ⟨rfl, rfl⟩ := hl
      simp only [Bool.and_eq_true] at hq
      have hnc : n ≤ c := Nat.le_of_ble_eq_true hq.1.1
      obtain ⟨hf1, hf2⟩ := fits_ok hq.1.2
      have hpos : 0 < es := Nat.le_of_ble_eq_true hq.2
      obtain ⟨e, ie, zv, hu, hie, hzv, hs, hbb, hez, hesc, hezl⟩ := kind_sl (ti_ok hi).2.2.2.symm
      have hz := xzeros_eq _ _ _ hz
      have intv : ∀ {u : Value} {k : Nat}, intOf u = some k → ∃ kk, u = .int kk (k : Int) := fun {u k} hq => by
        unfold intOf at hq
        split at hq
        · rename_i kk k'
          simp only [Option.some.injEq] at hq
          subst hq
          exact ⟨kk, rfl⟩
        · cases hq
      obtain ⟨kn, rfl⟩ := intv hn'
      obtain ⟨kc, rfl⟩ := intv hc'
      obtain ⟨nr, h1, h2⟩ := xev_ok he hn
      obtain ⟨cr, h3, h4⟩ := xev_ok he hc
      cases h2.int
      cases h4.int
      have hall : ∀ k, (zeros ez k).all sc1 = true := fun k => by
        induction k with
        | zero => rfl
        | succ k ih => simp only [zeros, List.all_append, Bool.and_eq_true]; exact ⟨hesc, ih⟩
      subst hz
      refine ⟨fun n' c' hq => by cases hq; exact hnc, _, VRs.sc (hall c), fun F H a w' ha hw' => ?_⟩
      have hAZ : AppZ C.P t ez eb := ⟨⟨e, ie, zv, hu, hie, hzv, by rw [hezl]; exact hs, hbb, by rw [← hez]⟩, by omega⟩
      · obtain ⟨v, H', w2, q1, ⟨b, q2, q3⟩, q4⟩ := a_make (C := C) (F := F) (H := H) (dst := dst) (ty := ty) (pos := pos) (aft := aft) (g := g) (t := t) (l := n) (c := c) hAZ h1 h3 rfl rfl hnc
          (by rw [Nat.mul_comm]; omega) (by omega) a w' ha hw'
        exact ⟨v, H', w2, q1, ⟨b, _, q2, q3⟩, q4⟩
end
end Go.SX
namespace Go.SX
open Go
section
variable {T : Tab} {C : Cx} {F0 : Fz} {m : PM} {h h' : XH} {w : World} {τ τr : Env} {o : Oper} {v : Value} {ov : Option Value}
theorem VEs.mod {f f' : MapEntry → MapEntry} (hf : ∀ e e', VR m e.key e'.key → VR m e.val e'.val → e'.born = e.born → VR m (f e).key (f' e').key ∧ VR m (f e).val (f' e').val ∧ (f' e').born = (f e).born) : ∀ {l l' : List MapEntry} {i : Nat}, VEs m l l' → VEs m (xmod f l i) (l'.modify i f')
  | _, _, 0, .nil => .nil
  | _, _, _ + 1, .nil => .nil
  | _, _, 0, .cons hk hv hb g => by
    obtain ⟨h1, h2, h3⟩ := hf _ _ hk hv hb
    exact .cons h1 h2 h3 g
  | _, _, i + 1, .cons hk hv hb g => .cons hk hv hb (VEs.mod hf g)
theorem VEs.append : ∀ {l l' r r' : List MapEntry}, VEs m l l' → VEs m r r' → VEs m (l ++ r) (l' ++ r')
  | _, _, _, _, .nil, h => h
  | _, _, _, _, .cons hk hv hb g, h => .cons hk hv hb (VEs.append g h)
theorem VEs.erase : ∀ {l l' : List MapEntry} (i : Nat), VEs m l l' → VEs m (l.eraseIdx i) (l'.eraseIdx i)
  | _, _, _, .nil => .nil
  | _, _, 0, .cons _ _ _ g => g
  | _, _, i + 1, .cons hk hv hb g => .cons hk hv hb (VEs.erase i g)
/-- A map's object gets another one in its place. -/
theorem map_put (hr : Rep C.O F0 m h w) {k b K c c' : Nat} {es es2 : List MapEntry} {es' es2' : List MapEntry} (hg : h.get k = some (.map es c)) (hm : m k = some (b, 0, K)) (hb : w.heap[b]? = some (.map es'.toArray c)) (hv : VEs m es2 es2') :
    ∃ w', (setObj b (.map es2'.toArray c')).run C.P w = .ok () w' ∧ Rep C.O F0 m (h.set k (some (.map es2 c'))) w' := by
  refine ⟨_, Go.MapKept.run_setObj_map (P := C.P) (.map es2'.toArray c') hb, ?_⟩
  have hst : St C.O (butB w b) [.obj b (.map es'.toArray c)] w := hr.but rfl ⟨hb, rfl⟩
  have h2 := hst.setObj (j := 0) (o' := .map es2'.toArray c') rfl (w' := { w with heap := w.heap.setIfInBounds b (.map es2'.toArray c') }) rfl rfl rfl (fun k hk => (Go.MapKept.heap_set hb).2 k hk) ⟨(Go.MapKept.heap_set hb).1, rfl⟩
  exact hr.updObj hg hm (fun w' hw' => ⟨b, K, es2', hm, hv, hw'⟩) h2
theorem new_obj (hr : Rep C.O F0 m h w) {ob : Obj} {blk : Blk} {k : Nat} (hob : isCells ob = false) (hnew : ∀ m' w', m.le m' → m' k = some (w.heap.size, 0, 0) → w'.heap[w.heap.size]? = some ob → blk.holds m' k w') (hh : h.new (some blk) = some (k, h')) :
    Rep C.O F0 (m.ext k (w.heap.size, 0, 0)) h' (w.alloc ob) ∧ m.le (m.ext k (w.heap.size, 0, 0)) := by
  have hst : St C.O (allW w) [.obj w.heap.size ob] (w.alloc ob) := hr.all.new (e := .obj w.heap.size ob) (o := ob) rfl rfl rfl rfl rfl ⟨by rw [heap_alloc_new], hob⟩
  exact hr.pushObj hst hnew hh
theorem xmakeMap_ok {t : TypeId} {k : Nat} (hr : Rep C.O F0 m h w) (ho : o.op = .makeMap t none) (hh : h.new (some (.map [] 0)) = some (k, h')) : AOk C F0 m h' w τr o (some (.map (some k))) := by
  obtain ⟨dst, op, ty, pos, aft, g⟩ := o
  simp only at ho
  subst ho
  intro a ha
  obtain ⟨h1, h2⟩ := new_obj hr (ob := .map #[] 0) (blk := .map [] 0) rfl (fun m' w' _ hm hw' => ⟨_, _, [], hm, .nil, hw'⟩) hh
  refine ⟨_, _, h2, h1, .map (some w.heap.size), .map (PM.ext_at _ _ _), ?_⟩
  simp only [execOp, Option.map_none, Sem.run_bind]
  rfl
theorem ve_split {k : Value} {es : List MapEntry} {P : Program} {kt : TypeId} (hx : xkey P kt k (⟨k, k, 0⟩ :: es) = true) : sc k = true ∧ (es.all fun e => sc e.key) = true ∧ ∀ w', (Instr.checkKey false 10000 kt k).run P w' = .ok () w' := by
  obtain ⟨h1, h2, h3⟩ := xkey_ok hx
  simp only [List.all_cons, Bool.and_eq_true] at h2
  exact ⟨h1, h2.2, h3⟩
theorem xmapUpdate_ok {t : TypeId} {x y z : Operand} {p q u : Value} (hP : T.P = C.P) (hty : T.ty = tiOf T.P) (he : ER m τ τr) (hr : Rep C.O F0 m h w) (ho : o.op = .mapUpdate t x y z) (hx : xev τ x = some p) (hy : xev τ y = some q) (hz : xev τ z = some u) (hl : xmapUpdate T h t p q u = some (ov, h')) :
    AOk C F0 m h' w τr o ov := by
  obtain ⟨dst, op, ty, pos, aft, g⟩ := o
  simp only at ho
  subst ho
  obtain ⟨pr, hpr, hvp⟩ := xev_ok he hx
  obtain ⟨qr, hqr, hvq⟩ := xev_ok he hy
  obtain ⟨ur, hur, hvu⟩ := xev_ok he hz
  unfold xmapUpdate at hl
  rw [hty, hP] at hl
  split at hl <;> try (cases hl; done)
  rename_i ag sz z0 kt zv hi
  obtain ⟨e, ie, hu, hie, hzv, hsz, d, hd⟩ := kind_mp (ti_ok hi).2.2.2.symm
  split at hl <;> try (cases hl; done)
  rename_i k0
  split at hl <;> try (cases hl; done)
  rename_i es c hg
  cases hxk : xkey C.P kt q (⟨q, q, 0⟩ :: es) with
  | false => rw [hxk] at hl; simp at hl
  | true =>
    rw [hxk] at hl
    simp only [cond_true] at hl
    obtain ⟨hks, hkeys, hck⟩ := ve_split hxk
    split at hl <;> try (cases hl; done)
    rename_i hf
    simp only [Option.some.injEq, Prod.mk.injEq] at hl
    obtain ⟨rfl, rfl⟩ := hl
    have hk := VR.sc_eq hks hvq
    subst hk
    obtain ⟨b, oo, K, hm, rfl⟩ := hvp.map_inv
    obtain ⟨b', K', es', hm', hv, hb⟩ := hr.own _ _ hg
    rw [hm] at hm'
    cases hm'
    obtain ⟨rr, hfr, hrun⟩ := xfind_run hd hkeys hv hf
    have hfr : rr = none := hfr
    subst hfr
    obtain ⟨w', h1, h2⟩ := map_put (C := C) (c' := Nat.succ c) (es2 := es ++ [⟨qr, u, c⟩]) (es2' := es' ++ [⟨qr, ur, c⟩]) hr hg hm hb (hv.append (.cons (.ofSc hks) hvu rfl .nil))
    intro a ha
    refine ⟨m, w', PM.le_refl m, h2, ?_⟩
    have hg2 : (getObj b).run C.P w = .ok (.map es'.toArray c) w := Go.MapKept.run_getObj_map hb
    have hpush : es'.toArray.push (⟨qr, ur, c⟩ : MapEntry) = (es' ++ [(⟨qr, ur, c⟩ : MapEntry)]).toArray := by simp
    simp only [execOp, ha.eval hpr, ha.eval hqr, ha.eval hur, Instr.mapUpdate, Sem.run_bind, run_underlying hu, Result.andThen_ok, hg2, hck w, hrun w, hpush]
    have h1' : (setObj b (.map (es' ++ [(⟨qr, ur, c⟩ : MapEntry)]).toArray (c + 1))).run C.P w = .ok () w' := h1
    rw [h1']
    rfl
theorem stays {old new : Value} (h : Instr.sameBits 10000 old new = true) {P : Program} {w' : World} : (Instr.keyThatStays old new).run P w' = .ok new w' := by
  unfold Instr.keyThatStays
  rw [if_pos h]
  rfl
theorem xmapEntry_ok {t : TypeId} {x y : Operand} {p q : Value} (hP : T.P = C.P) (hty : T.ty = tiOf T.P) (he : ER m τ τr) (hr : Rep C.O F0 m h w) (ho : o.op = .mapEntry t x y) (hx : xev τ x = some p) (hy : xev τ y = some q) (hl : xmapEntry T h t p q = some (ov, h')) :
    AOk C F0 m h' w τr o ov := by
  obtain ⟨dst, op, ty, pos, aft, g⟩ := o
  simp only at ho
  subst ho
  obtain ⟨pr, hpr, hvp⟩ := xev_ok he hx
  obtain ⟨qr, hqr, hvq⟩ := xev_ok he hy
  unfold xmapEntry at hl
  rw [hty, hP] at hl
  split at hl <;> try (cases hl; done)
  rename_i ag sz z0 kt zv hi
  obtain ⟨e, ie, hu, hie, hzv, hsz, d, hd⟩ := kind_mp (ti_ok hi).2.2.2.symm
  split at hl <;> try (cases hl; done)
  rename_i k0
  split at hl <;> try (cases hl; done)
  rename_i es c hg
  cases hxk : xkey C.P kt q (⟨q, q, 0⟩ :: es) with
  | false => rw [hxk] at hl; simp at hl
  | true =>
    rw [hxk] at hl
    simp only [cond_true] at hl
    obtain ⟨hks, hkeys, hck⟩ := ve_split hxk
    split at hl <;> try (cases hl; done)
    rename_i j e2 hf
    cases hsb : Instr.sameBits 10000 e2.key q with
    | false => rw [hsb] at hl; simp at hl
    | true =>
      rw [hsb] at hl
      simp only [cond_true, Option.some.injEq, Prod.mk.injEq] at hl
      obtain ⟨rfl, rfl⟩ := hl
      have hk := VR.sc_eq hks hvq
      subst hk
      obtain ⟨b, oo, K, hm, rfl⟩ := hvp.map_inv
      obtain ⟨b', K', es', hm', hv, hb⟩ := hr.own _ _ hg
      rw [hm] at hm'
      cases hm'
      obtain ⟨rr, hfr, hrun⟩ := xfind_run hd hkeys hv hf
      obtain ⟨_, hej, vr, hrr, hvr⟩ := hfr
      subst hrr
      simp only [Nat.sub_zero] at hej
      obtain ⟨e', he', hk', hv', hb'⟩ := hv.get hej
      have hkey : e'.key = e2.key := VR.sc_eq (by
        have := List.all_eq_true.1 hkeys e2 (List.mem_of_getElem? hej)
        exact this) hk'
      have hvv : vr = e'.val := VR.fn hvr hv'
      obtain ⟨w', h1, h2⟩ := map_put (C := C) (c' := c) (es2 := xmod (fun e => ⟨qr, e.val, e.born⟩) es j) (es2' := es'.modify j fun e => ⟨qr, e.val, e.born⟩) hr hg hm hb (VEs.mod (f := fun e => ⟨qr, e.val, e.born⟩) (f' := fun e => ⟨qr, e.val, e.born⟩) (fun e e' h1 h2 h3 => ⟨.ofSc hks, h2, h3⟩) hv)
      intro a ha
      refine ⟨m, w', PM.le_refl m, h2, .tuple ⟨[vr, .int .i64 (.ofNat e2.born)]⟩, .tuple (.cons hvr (.cons (.sc rfl) .nil)), ?_⟩
      have hg2 : (getObj b).run C.P w = .ok (.map es'.toArray c) w := Go.MapKept.run_getObj_map hb
      have hgk : ((es'.toArray[j]?).map (·.key)).getD qr = e2.key := by simp [he', hkey]
      have hgb : ((es'.toArray[j]?).map (fun x => (x.born : Int))).getD 0 = (e2.born : Int) := by simp [he', hb']
      have hmod : (es'.toArray.modify j fun e => { e with key := qr }) = (es'.modify j fun e => ⟨qr, e.val, e.born⟩).toArray := by simp
      simp only [execOp, ha.eval hpr, ha.eval hqr, Instr.mapEntry, Sem.run_bind, run_underlying hu, Result.andThen_ok, hg2, hck w, hrun w, hgk, stays hsb, hmod, h1, hgb]
      rfl
theorem xentryStore_ok {t : TypeId} {x y z : Operand} {p q u : Value} (he : ER m τ τr) (hr : Rep C.O F0 m h w) (ho : o.op = .entryStore t x y z) (hx : xev τ x = some p) (hy : xev τ y = some q) (hz : xev τ z = some u) (hl : xentryStore h p q u = some (ov, h')) :
    AOk C F0 m h' w τr o ov := by
  obtain ⟨dst, op, ty, pos, aft, g⟩ := o
  simp only at ho
  subst ho
  obtain ⟨pr, hpr, hvp⟩ := xev_ok he hx
  obtain ⟨qr, hqr, hvq⟩ := xev_ok he hy
  obtain ⟨ur, hur, hvu⟩ := xev_ok he hz
  unfold xentryStore at hl
  split at hl <;> try (cases hl; done)
  rename_i k0
  split at hl <;> try (cases hl; done)
  rename_i es c hg
  split at hl <;> try (cases hl; done)
  rename_i n
  split at hl <;> try (cases hl; done)
  rename_i j hj
  simp only [Option.some.injEq, Prod.mk.injEq] at hl
  obtain ⟨rfl, rfl⟩ := hl
  cases hvq.int
  obtain ⟨b, oo, K, hm, rfl⟩ := hvp.map_inv
  obtain ⟨b', K', es', hm', hv, hb⟩ := hr.own _ _ hg
  rw [hm] at hm'
  cases hm'
  obtain ⟨_, _, _, _, _, _, _, _, _, _, hidx⟩ := hv.born hj
  rw [Nat.sub_zero] at hidx
  obtain ⟨w', h1, h2⟩ := map_put (C := C) (c' := c) (es2 := xmod (fun e => ⟨e.key, u, e.born⟩) es j) (es2' := es'.modify j fun e => ⟨e.key, ur, e.born⟩) hr hg hm hb (VEs.mod (f := fun e => ⟨e.key, u, e.born⟩) (f' := fun e => ⟨e.key, ur, e.born⟩) (fun e e' h1 h2 h3 => ⟨h1, hvu, h3⟩) hv)
  intro a ha
  refine ⟨m, w', PM.le_refl m, h2, ?_⟩
  have hg2 : (getObj b).run C.P w = .ok (.map es'.toArray c) w := Go.MapKept.run_getObj_map hb
  have hidx2 : es'.toArray.findIdx? (fun e => (e.born : Int) == (Int.ofNat n)) = some j := by simpa using hidx
  have hmod : (es'.toArray.modify j fun e => { e with val := ur }) = (es'.modify j fun e => ⟨e.key, ur, e.born⟩).toArray := by simp
  simp only [execOp, ha.eval hpr, ha.eval hqr, ha.eval hur, Instr.entryStore, Sem.run_bind, Result.andThen_ok, hg2, asInt, asIntOf, Sem.run_pure, hidx2, hmod, h1]
theorem xdelete_ok {t u : TypeId} {x y : Operand} {p q : Value} (hP : T.P = C.P) (hty : T.ty = tiOf T.P) (he : ER m τ τr) (hr : Rep C.O F0 m h w) (ho : o.op = .call ⟨.builtin .delete, ⟨[x, y]⟩, ⟨[t, u]⟩⟩) (hx : xev τ x = some p) (hy : xev τ y = some q) (hl : xdelete T h t p q = some (ov, h')) :
    AOk C F0 m h' w τr o ov := by
  obtain ⟨dst, op, ty, pos, aft, g⟩ := o
  simp only at ho
  subst ho
  obtain ⟨pr, hpr, hvp⟩ := xev_ok he hx
  obtain ⟨qr, hqr, hvq⟩ := xev_ok he hy
  unfold xdelete at hl
  rw [hty, hP] at hl
  split at hl <;> try (cases hl; done)
  rename_i ag sz z0 kt zv hi
  obtain ⟨e, ie, hu, hie, hzv, hsz, d, hd⟩ := kind_mp (ti_ok hi).2.2.2.symm
  split at hl <;> try (cases hl; done)
  rename_i k0
  split at hl <;> try (cases hl; done)
  rename_i es c hg
  cases hxk : xkey C.P kt q es with
  | false => rw [hxk] at hl; simp at hl
  | true =>
    rw [hxk] at hl
    simp only [cond_true] at hl
    obtain ⟨hks, hkeys, hck⟩ := xkey_ok hxk
    have hk := VR.sc_eq hks hvq
    subst hk
    obtain ⟨b, oo, K, hm, rfl⟩ := hvp.map_inv
    obtain ⟨b', K', es', hm', hv, hb⟩ := hr.own _ _ hg
    rw [hm] at hm'
    cases hm'
    have hemp : es'.isEmpty = es.isEmpty := by
      have := hv.length
      cases es <;> cases es' <;> simp_all
    have hg2 : (getObj b).run C.P w = .ok (.map es'.toArray c) w := Go.MapKept.run_getObj_map hb
    have hck2 := hck w
    rw [← hemp] at hck2
    split at hl <;> try (cases hl; done)
    · rename_i j e2 hf
      simp only [Option.some.injEq, Prod.mk.injEq] at hl
      obtain ⟨rfl, rfl⟩ := hl
      obtain ⟨rr, hfr, hrun⟩ := xfind_run hd hkeys hv hf
      obtain ⟨_, hej, vr, hrr, hvr⟩ := hfr
      subst hrr
      obtain ⟨w', h1, h2⟩ := map_put (C := C) (c' := c) (es2 := es.eraseIdx j) (es2' := es'.eraseIdx j) hr hg hm hb (hv.erase j)
      intro a ha
      refine ⟨m, w', PM.le_refl m, h2, .tuple #[], .tuple .nil, ?_⟩
      have her : es'.toArray.eraseIdxIfInBounds j = (es'.eraseIdx j).toArray := by simp
      rw [execOp_builtin_run (s := Builtin.delete_ #[t, u] ty #[a.eval x, a.eval y]) (r := .ok (.tuple #[]) w') (fun _ => by simp [builtin]) (by
        simp [Builtin.delete_, ha.eval hpr, ha.eval hqr, run_underlying hu, hg2, hck2, hrun w, her, h1]
          )]
      rfl
    · rename_i hf
      simp only [Option.some.injEq, Prod.mk.injEq] at hl
      obtain ⟨rfl, rfl⟩ := hl
      obtain ⟨rr, hfr, hrun⟩ := xfind_run hd hkeys hv hf
      have hfr : rr = none := hfr
      subst hfr
      obtain ⟨w', h1, h2⟩ := map_put (C := C) (c' := c) (es2 := es) (es2' := es') hr hg hm hb hv
      intro a ha
      refine ⟨m, w', PM.le_refl m, h2, .tuple #[], .tuple .nil, ?_⟩
      rw [execOp_builtin_run (s := Builtin.delete_ #[t, u] ty #[a.eval x, a.eval y]) (r := .ok (.tuple #[]) w') (fun _ => by simp [builtin]) (by
        simp [Builtin.delete_, ha.eval hpr, ha.eval hqr, run_underlying hu, hg2, hck2, hrun w, h1]
          )]
      rfl
end
end Go.SX
namespace Go.SX
open Go
section
variable {T : Tab} {C : Cx} {F0 : Fz} {m : PM} {h h' : XH} {w : World} {τ τr : Env} {o : Oper} {v : Value} {ov : Option Value}
/-! ### Ranges -/
theorem xrange_ok {t : TypeId} {x : Operand} {p : Value} (hP : T.P = C.P) (hty : T.ty = tiOf T.P) (he : ER m τ τr) (hr : Rep C.O F0 m h w) (ho : o.op = .range t x) (hx : xev τ x = some p) (hl : xrange T h t p = some (ov, h')) :
    AOk C F0 m h' w τr o ov := by
  obtain ⟨dst, op, ty, pos, aft, g⟩ := o
  simp only at ho
  subst ho
  obtain ⟨pr, hpr, hvp⟩ := xev_ok he hx
  unfold xrange at hl
  rw [hty, hP] at hl
  split at hl <;> try (cases hl; done)
  rename_i ag sz z0 kt zv hi
  obtain ⟨e, ie, hu, hie, hzv, hsz, d, hd⟩ := kind_mp (ti_ok hi).2.2.2.symm
  split at hl <;> try (cases hl; done)
  · split at hl <;> try (cases hl; done)
    rename_i b h2 hh
    simp only [Option.some.injEq, Prod.mk.injEq] at hl
    obtain ⟨rfl, rfl⟩ := hl
    have hp := VR.sc1_eq (v := .map none) rfl hvp
    subst hp
    intro a ha
    obtain ⟨h1, h2⟩ := new_obj hr (ob := .mapIter none 0 #[] 0) (blk := .iter none 0 [] 0) rfl (fun m' w' _ hm hw' => ⟨_, _, none, hm, .sc rfl, hw'⟩) hh
    refine ⟨_, _, h2, h1, .pointer (some ⟨w.heap.size, 0, none⟩), .ptr (off := 0) (PM.ext_at _ _ _), ?_⟩
    simp only [execOp, ha.eval hpr, Instr.range, Sem.run_bind, run_underlying hu, Result.andThen_ok]
    rfl
  · rename_i r
    split at hl <;> try (cases hl; done)
    rename_i es c hg
    split at hl <;> try (cases hl; done)
    rename_i b h2 hh
    simp only [Option.some.injEq, Prod.mk.injEq] at hl
    obtain ⟨rfl, rfl⟩ := hl
    obtain ⟨b0, oo, K, hm, rfl⟩ := hvp.map_inv
    obtain ⟨b', K', es', hm', hv, hb⟩ := hr.own _ _ hg
    rw [hm] at hm'
    cases hm'
    intro a ha
    obtain ⟨h1, h2⟩ := new_obj hr (ob := .mapIter (some b0) c #[] c) (blk := .iter (some r) c [] c) rfl (fun m' w' hle hm2 hw' => ⟨_, _, some b0, hm2, .map (hle _ _ hm), hw'⟩) hh
    refine ⟨_, _, h2, h1, .pointer (some ⟨w.heap.size, 0, none⟩), .ptr (off := 0) (PM.ext_at _ _ _), ?_⟩
    have hg2 : (getObj b0).run C.P w = .ok (.map es'.toArray c) w := Go.MapKept.run_getObj_map hb
    simp only [execOp, ha.eval hpr, Instr.range, Sem.run_bind, run_underlying hu, Result.andThen_ok, hg2, Sem.run_pure]
    rfl
theorem VEs.filter {f : Nat → Bool} : ∀ {l l' : List MapEntry}, VEs m l l' → VEs m (l.filter fun e => f e.born) (l'.filter fun e => f e.born)
  | _, _, .nil => .nil
  | _, _, .cons (e := e) (e' := e') hk hv hb g => by
    have hb' : e'.born = e.born := hb
    simp only [List.filter_cons, hb']
    split
    · exact .cons hk hv hb (VEs.filter g)
    · exact VEs.filter g
theorem VEs.all {f : Nat → Bool} : ∀ {l l' : List MapEntry}, VEs m l l' → (l'.all fun e => f e.born) = (l.all fun e => f e.born)
  | _, _, .nil => rfl
  | _, _, .cons (e := e) (e' := e') hk hv hb g => by
    have hb' : e'.born = e.born := hb
    simp only [List.all_cons, hb', VEs.all g]
theorem VEs.emp {l l' : List MapEntry} (h : VEs m l l') : l'.isEmpty = l.isEmpty := by
  have := h.length
  cases l <;> cases l' <;> simp_all
theorem xnext_ok {x : Operand} {p : Value} (he : ER m τ τr) (hr : Rep C.O F0 m h w) (ho : o.op = .next x false) (hx : xev τ x = some p) (hl : xnext h p = some (ov, h')) : AOk C F0 m h' w τr o ov := by
  obtain ⟨dst, op, ty, pos, aft, g⟩ := o
  simp only at ho
  subst ho
  obtain ⟨pr, hpr, hvp⟩ := xev_ok he hx
  unfold xnext at hl
  split at hl <;> try (cases hl; done)
  rename_i r
  obtain ⟨b, oo, K, hm, rfl⟩ := hvp.ptr_inv
  split at hl <;> try (cases hl; done)
  · rename_i since seen last hgi
    simp only [Option.some.injEq, Prod.mk.injEq] at hl
    obtain ⟨rfl, rfl⟩ := hl
    obtain ⟨b', K', mm', hm', hvm, hb⟩ := hr.own _ _ hgi
    rw [hm] at hm'
    cases hm'
    have hmm := VR.sc1_eq (v := .map none) rfl hvm
    cases hmm
    intro a ha
    refine ⟨m, w, PM.le_refl m, hr, .tuple ⟨[.bool false]⟩, .tuple (.cons (.sc rfl) .nil), ?_⟩
    have hg1 : (getObj b).run C.P w = .ok (.mapIter none since seen.toArray last) w := by simp only [getObj, Sem.run, hb]
    simp only [execOp, ha.eval hpr, Instr.next, Sem.run_bind, Nat.add_zero, hg1, Result.andThen_ok]
    rfl
  · rename_i mk since seen last hgi
    split at hl <;> try (cases hl; done)
    rename_i es c hgm
    obtain ⟨b', K', mm', hm', hvm, hb⟩ := hr.own _ _ hgi
    rw [hm] at hm'
    cases hm'
    obtain ⟨b2, o2, K2, hm2, heq⟩ := hvm.map_inv
    cases heq
    obtain ⟨b3, K3, es', hm3, hve, hb3⟩ := hr.own _ _ hgm
    rw [hm2] at hm3
    cases hm3
    cases hc0 : (!seen.isEmpty && !es.isEmpty && es.all fun e => Nat.ble last e.born) with
    | true => rw [hc0] at hl; simp at hl
    | false =>
      rw [hc0] at hl
      simp only [cond_false] at hl
      have hg1 : (getObj b).run C.P w = .ok (.mapIter (some b2) since seen.toArray last) w := by simp only [getObj, Sem.run, hb]
      have hg2 : (getObj b2).run C.P w = .ok (.map es'.toArray c) w := Go.MapKept.run_getObj_map hb3
      have hcond : (!seen.toArray.isEmpty && !es'.toArray.isEmpty && es'.toArray.all fun e => decide (e.born ≥ last)) = false := by
        have h1 := hve.all (f := fun n => Nat.ble last n)
        have h2 : (es'.toArray.all fun e => decide (e.born ≥ last)) = es'.all fun e => Nat.ble last e.born := by
          simp only [List.all_toArray]
          congr 1
          funext e
          cases hq : Nat.ble last e.born with
          | true => simpa using Nat.le_of_ble_eq_true hq
          | false =>
            have : ¬ last ≤ e.born := fun hle => by rw [Nat.ble_eq_true_of_le hle] at hq; cases hq
            simp [this]
        rw [h2, h1, ← hc0]
        have h3 := hve.emp
        simp only [List.isEmpty_toArray, h3]
      have hleft : es'.toArray.filter (fun e => !seen.toArray.contains e.born) = (es'.filter fun e => !seen.contains e.born).toArray := by simp
      have hfv := hve.filter (f := fun n => !seen.contains n)
      have hfo : (Question.mapNext 1).forced = true := rfl
      split at hl <;> try (cases hl; done)
      · rename_i hf
        simp only [Option.some.injEq, Prod.mk.injEq] at hl
        obtain ⟨rfl, rfl⟩ := hl
        intro a ha
        refine ⟨m, w, PM.le_refl m, hr, .tuple ⟨[.bool false]⟩, .tuple (.cons (.sc rfl) .nil), ?_⟩
        rw [hf] at hfv
        have hf' : (es'.filter fun e => !seen.contains e.born) = [] := List.eq_nil_of_length_eq_zero (by simpa using hfv.length)
        rw [hf'] at hleft
        simp only [execOp, ha.eval hpr, Instr.next, Sem.run_bind, Nat.add_zero, hg1, Result.andThen_ok, hg2, hcond, Bool.false_eq_true, if_false, hleft]
        simp [hfo]
      · rename_i e hf
        cases hsn : Nat.blt e.born since with
        | false => rw [hsn] at hl; simp at hl
        | true =>
          rw [hsn] at hl
          simp only [cond_true, Option.some.injEq, Prod.mk.injEq] at hl
          obtain ⟨rfl, rfl⟩ := hl
          rw [hf] at hfv
          obtain ⟨e', hf', hk, hv, hbn⟩ : ∃ e', (es'.filter fun e => !seen.contains e.born) = [e'] ∧ VR m e.key e'.key ∧ VR m e.val e'.val ∧ e'.born = e.born := by
            cases hq : (es'.filter fun e => !seen.contains e.born) with
            | nil => rw [hq] at hfv; cases hfv
            | cons e' r =>
              rw [hq] at hfv
              cases hfv with
              | cons hk hv hb g => cases g; exact ⟨e', rfl, hk, hv, hb⟩
          rw [hf'] at hleft
          have hlt : e.born < since := Nat.le_of_ble_eq_true hsn
          intro a ha
          have hset : (setObj b (.mapIter (some b2) since (seen ++ [e.born]).toArray c)).run C.P w = .ok () { w with heap := w.heap.setIfInBounds b (.mapIter (some b2) since (seen ++ [e.born]).toArray c) } := by
            simp only [setObj, Sem.run, hb]
          refine ⟨m, { w with heap := w.heap.setIfInBounds b (.mapIter (some b2) since (seen ++ [e.born]).toArray c) }, PM.le_refl m, ?_, .tuple ⟨[.bool true, e'.key, e'.val]⟩, .tuple (.cons (.sc rfl) (.cons hk (.cons hv .nil))), ?_⟩
          · have hst : St C.O (butB w b) [.obj b (.mapIter (some b2) since seen.toArray last)] w := hr.but rfl ⟨hb, rfl⟩
            have h2 := hst.setObj (j := 0) (o' := .mapIter (some b2) since (seen ++ [e.born]).toArray c) rfl (w' := { w with heap := w.heap.setIfInBounds b (.mapIter (some b2) since (seen ++ [e.born]).toArray c) }) rfl rfl rfl (fun k hk => (Go.MapKept.heap_set hb).2 k hk) ⟨(Go.MapKept.heap_set hb).1, rfl⟩
            exact hr.updObj hgi hm (fun w' hw' => ⟨b, K, some b2, hm, hvm, hw'⟩) h2
          · have hpush : seen.toArray.push e'.born = (seen ++ [e.born]).toArray := by rw [hbn]; simp
            have hnl : ¬ since ≤ e.born := by omega
            have q1 : (List.filter (fun x => decide (x.born < since)) [e']) = [e'] := by simp [hbn, hlt]
            have q2 : List.filter (fun x => decide (since ≤ x.born)) [e'] = [] := by simp [hbn, hnl]
            simp only [execOp, ha.eval hpr, Instr.next, Sem.run_bind, Nat.add_zero, hg1, Result.andThen_ok, hg2, hcond, Bool.false_eq_true, if_false, hleft]
            simp [q1, q2, hnl, hfo, hbn, hset]
/-! ### Cleared -/
theorem a_clear1 (j : Nat) {H : List Ent} {F : Fz} {dst : Option Nat} {ty t : TypeId} {pos : String} {aft : Array Edge} {g : Option (Nat × Bool)} {x : Operand} {b off m cp bytes N : Nat} {zc zs : List Value} (hT : AppZ C.P t zc bytes) (hj : H[j]? = some (.mem b zs N)) (hx : ev τr x = some (.slice (some ⟨b, off, none⟩) m cp)) (h1 : zc.all oneCellB = true) (hfit : off + m * zc.length ≤ zs.length) :
    Act1 C ⟨dst, .call { callee := .builtin .clear, args := #[x], argTypes := #[t] }, ty, pos, aft, g⟩ τr F H (fun r H' => r = .tuple #[] ∧ H' = H.set j (.mem b (putAt zs off (zeros zc m)) N)) := by
  intro a w ha hw
  obtain ⟨⟨e, i, z, ht, hi, hz, hsz, hbytes, hzs⟩, hpos⟩ := hT
  obtain ⟨w', hst, hS⟩ := hw.put C.P (off := off) (vs := zeros zc m) hj (by rw [zeros_length]; exact hfit) (zeros_all h1 m)
  refine ⟨.tuple #[], _, w', ?_, ⟨rfl, rfl⟩, hS⟩
  have hz0 : Builtin.zeroCells zc.toArray m = (zeros zc m).toArray := by rw [← zeroCells_zeros]
  have hr : (Builtin.clear_ #[t] ty #[.slice (some ⟨b, off, none⟩) m cp]).run C.P w = .ok (.tuple #[]) w' := by
    cases m with
    | zero =>
      have hnil : zeros zc 0 = [] := rfl
      rw [hnil] at hst
      have hww : w' = w := by
        have : (storeCells ⟨b, off, none⟩ []).run C.P w = .ok () w := by simp [storeCells]
        rw [this] at hst
        cases hst
        rfl
      subst hww
      simp [Builtin.clear_, run_underlying ht]
    | succ m => simp [Builtin.clear_, run_underlying ht, zeroValue, typeInfo, hi, hz, hzs, hz0, hst]
  rw [execOp_builtin_run (s := Builtin.clear_ #[t] ty #[a.eval x]) (r := .ok (.tuple #[]) w') (fun _ => by simp [builtin]) (by rw [ha.eval hx]; exact hr)]
  rfl
end
end Go.SX
namespace Go.SX
open Go
section
variable {T : Tab} {C : Cx} {F0 : Fz} {m : PM} {h h' : XH} {w : World} {τ τr : Env} {o : Oper} {v : Value} {ov : Option Value}
theorem sc1_one {l : List Value} (h : l.all sc1 = true) : l.all oneCellB = true := by
  rw [List.all_eq_true] at h ⊢
  intro v hv
  have := h v hv
  cases v <;> first | rfl | (simp [sc1] at this)
theorem sty {t : TypeId} {f : Nat → Nat → List Value → XA} {r : Option Value × XH} (hP : T.P = C.P) (hty : T.ty = tiOf T.P) (hl : xtyS T t f = some r) : ∃ s b z, f s b z = some r ∧ kindOf C.P t = .sl s b z := by
  unfold xtyS at hl
  rw [hty, hP] at hl
  split at hl <;> try (cases hl; done)
  rename_i ag sz z0 s b z hi
  exact ⟨s, b, z, hl, (ti_ok hi).2.2.2.symm⟩
theorem xclear_ok {t : TypeId} {x : Operand} {p : Value} (hP : T.P = C.P) (hty : T.ty = tiOf T.P) (he : ER m τ τr) (hr : Rep C.O F0 m h w) (ho : o.op = .call ⟨.builtin .clear, ⟨[x]⟩, ⟨[t]⟩⟩) (hx : xev τ x = some p) (hl : xclearOp T h t p = some (ov, h')) :
    AOk C F0 m h' w τr o ov := by
  obtain ⟨dst, op, ty, pos, aft, g⟩ := o
  simp only at ho
  subst ho
  obtain ⟨pr, hpr, hvp⟩ := xev_ok he hx
  have fin : ∀ (w' : World) (m' : PM) (h' : XH), m.le m' → Rep C.O F0 m' h' w' → (∀ a, EnvOk C.fn.ntmps τr a → (Builtin.clear_ #[t] ty #[a.eval x]).run C.P w = .ok (.tuple #[]) w') →
      AOk C F0 m h' w τr ⟨dst, .call ⟨.builtin .clear, ⟨[x]⟩, ⟨[t]⟩⟩, ty, pos, aft, g⟩ (some (.tuple #[])) := fun w' m' h' h1 h2 h3 a ha => by
    refine ⟨m', w', h1, h2, .tuple #[], .tuple .nil, ?_⟩
    have := execOp_builtin_run (P := C.P) (a := a) (dst := dst) (ty := ty) (pos := pos) (aft := aft) (g := g) (bi := .clear) (args := #[x]) (ats := #[t]) (s := Builtin.clear_ #[t] ty #[a.eval x]) (fun _ => by simp [builtin]) (h3 a ha)
    rw [this]
    rfl
  unfold xclearOp at hl
  cases hts : (C.P.underlying t) with
  | none => rw [hP, hts] at hl; simp at hl
  | some d =>
  rw [hP, hts] at hl
  simp only [Option.isSome_some, cond_true] at hl
  split at hl <;> try (cases hl; done)
  · simp only [Option.some.injEq, Prod.mk.injEq] at hl
    obtain ⟨rfl, rfl⟩ := hl
    have hp := VR.sc1_eq (v := .map none) rfl hvp
    subst hp
    refine fin w m h (PM.le_refl m) hr fun a ha => ?_
    simp [Builtin.clear_, ha.eval hpr, run_underlying hts]
  · rename_i k
    split at hl <;> try (cases hl; done)
    rename_i es c hg
    simp only [Option.some.injEq, Prod.mk.injEq] at hl
    obtain ⟨rfl, rfl⟩ := hl
    obtain ⟨b, oo, K, hm, rfl⟩ := hvp.map_inv
    obtain ⟨b', K', es', hm', hv, hb⟩ := hr.own _ _ hg
    rw [hm] at hm'
    cases hm'
    obtain ⟨w', h1, h2⟩ := map_put (C := C) (c' := c) (es2 := []) (es2' := []) hr hg hm hb .nil
    refine fin w' m _ (PM.le_refl m) h2 fun a ha => ?_
    have hg2 : (getObj b).run C.P w = .ok (.map es'.toArray c) w := Go.MapKept.run_getObj_map hb
    have h1' : (setObj b (.map #[] c)).run C.P w = .ok () w' := h1
    simp [Builtin.clear_, ha.eval hpr, run_underlying hts, hg2, h1']
  · rename_i n c
    simp only [Option.some.injEq, Prod.mk.injEq] at hl
    obtain ⟨rfl, rfl⟩ := hl
    have hp := VR.sc1_eq (v := .slice none n c) rfl hvp
    subst hp
    refine fin w m h (PM.le_refl m) hr fun a ha => ?_
    simp [Builtin.clear_, ha.eval hpr, run_underlying hts]
  · rename_i k off n c
    obtain ⟨b, oo, K, hm, rfl, hn⟩ := hvp.sl_inv
    cases hn0 : Nat.beq n 0 with
    | true =>
      rw [hn0] at hl
      simp only [cond_true, Option.some.injEq, Prod.mk.injEq] at hl
      obtain ⟨rfl, rfl⟩ := hl
      have := beq_true hn0
      subst this
      refine fin w m h (PM.le_refl m) hr fun a ha => ?_
      simp [Builtin.clear_, ha.eval hpr, run_underlying hts]
    | false =>
      rw [hn0] at hl
      simp only [cond_false] at hl
      obtain ⟨s, eb, z, hl, hk⟩ := sty hP hty hl
      obtain ⟨e, ie, zv, hu, hie, hzv, hs, hbb, hez, hesc, hezl⟩ := kind_sl hk
      split at hl <;> try (cases hl; done)
      rename_i cs sz hg
      split at hl <;> try (cases hl; done)
      rename_i ys hys
      have hys := xzeros_eq _ _ _ hys
      cases hc : ys.all oneCellB && Nat.blt 0 s with
      | false => rw [hc] at hl; simp at hl
      | true =>
        rw [hc] at hl
        simp only [cond_true] at hl
        simp only [Bool.and_eq_true] at hc
        have hpos : 0 < s := Nat.le_of_ble_eq_true hc.2
        split at hl <;> try (cases hl; done)
        rename_i l hput
        simp only [Option.some.injEq, Prod.mk.injEq] at hl
        obtain ⟨rfl, rfl⟩ := hl
        obtain ⟨b', K', crs, rest, e0, hm', hv, hb, hK⟩ := hr.own _ _ hg
        rw [hm] at hm'
        cases hm'
        obtain ⟨h1, h2⟩ := xput_eq _ _ _ _ hput
        have hlv := hv.length
        have hAZ : AppZ C.P t z eb := ⟨⟨e, ie, zv, hu, hie, hzv, by rw [hezl]; exact hs, hbb, by rw [← hez]⟩, by omega⟩
        have hst : St C.O (butB w b) [.mem b crs (crs ++ rest).length] w := hr.but rfl ⟨rest, e0, hb, rfl⟩
        rw [Nat.zero_add] at hpr
        have hysl : ys.length = n * z.length := by rw [hys, zeros_length]
        intro a ha
        obtain ⟨r, H', w', hrun, ⟨rfl, rfl⟩, hst'⟩ := a_clear1 (C := C) (F := butB w b) (dst := dst) (ty := ty) (pos := pos) (aft := aft) (g := g) 0 (H := [.mem b crs (crs ++ rest).length]) hAZ rfl hpr (sc1_one hesc) (by rw [← hysl]; omega) a w ha hst
        have hall : ∀ k, (zeros z k).all sc1 = true := fun k => by
          induction k with
          | zero => rfl
          | succ k ih => simp only [zeros, List.all_append, Bool.and_eq_true]; exact ⟨hesc, ih⟩
        refine ⟨m, w', PM.le_refl m, ?_, .tuple #[], .tuple .nil, hrun⟩
        exact hr.upd hg hm (by rw [h1, hys]; exact hv.put off (VRs.sc (hall n))) (fun hs => hK hs) hst'
/-- A block is frozen. -/
theorem Rep.freezeB {O : World} {w' : World} {F' : Fz} (hr : Rep O F0 m h w) {k b K : Nat} {cs crs rest : List Value} {sz : Nat} {e : TypeId} {f : Nat × Nat} (hg : h.get k = some (.mem cs sz)) (hm : m k = some (b, 0, K)) (hv : VRs m cs crs)
    (hst : St O F' [] w') (hF : (butB w b).le F') (hb : F' b = some (.cells (crs ++ rest).toArray e f)) : Rep O F0 m (h.set k (some (.fz cs))) w' := by
  have hk := XH.get_lt hg
  have hgs := fun j => XH.get_set hr.lim hk (some (.fz cs)) j
  have key : ∀ j blk, (h.set k (some (.fz cs))).get j = some blk → j ≠ k → h.get j = some blk ∧ ∀ b' x o, m j = some (b', x) → w.heap[b']? = some o → w'.heap[b']? = some o := fun j blk hj hne => by
    rw [hgs, if_neg hne] at hj
    refine ⟨hj, fun b' x o hb' ho => hst.frz _ _ (hF _ _ ?_)⟩
    have hne : b' ≠ b := by
      rintro rfl
      exact hne (hr.inj j k blk _ _ _ _ hj hg hb' hm)
    simp only [butB, if_neg hne]
    exact ho
  have back : ∀ j blk, (h.set k (some (.fz cs))).get j = some blk → ∃ blk', h.get j = some blk' := fun j blk hj => by
    by_cases hjk : j = k
    · subst hjk; exact ⟨_, hg⟩
    · exact ⟨blk, (key j blk hj hjk).1⟩
  refine ⟨hst.os, hst.tape, hst.output, fun j o hj => hst.frz _ _ (hF _ _ (hr.le_but hg hm _ _ hj)), hr.lim, hr.dom, fun j blk hj => ?_, fun j blk b' x hj hb' => ?_, fun j j' blk blk' b' x x' hj hj' hb1 hb2 => ?_⟩
  · by_cases hjk : j = k
    · subst hjk
      rw [hgs, if_pos rfl] at hj
      cases hj
      exact ⟨b, K, crs, rest, e, f, hm, hv, hst.frz _ _ hb⟩
    · obtain ⟨h1, h2⟩ := key j blk hj hjk
      exact Blk.holds_mono (PM.le_refl m) (hr.own _ _ h1) h2
  · obtain ⟨blk', h1⟩ := back j blk hj
    exact hr.ap j blk' b' x h1 hb'
  · obtain ⟨bk, h1⟩ := back j blk hj
    obtain ⟨bk', h2⟩ := back j' blk' hj'
    exact hr.inj j j' bk bk' b' x x' h1 h2 hb1 hb2
theorem xsame_ok {s d : TypeId} {x : Operand} {p : Value} (hP : T.P = C.P) (he : ER m τ τr) (hr : Rep C.O F0 m h w) (ho : o.op = .convert s d x) (hx : xev τ x = some p) (hl : xsame T h s d p = some (ov, h')) :
    AOk C F0 m h' w τr o ov := by
  obtain ⟨dst, op, ty, pos, aft, g⟩ := o
  simp only at ho
  subst ho
  obtain ⟨pr, hpr, hvp⟩ := xev_ok he hx
  unfold xsame at hl
  split at hl <;> try (cases hl; done)
  rename_i k n c
  cases hc : Nat.beq s d && isBytes T s with
  | false => rw [hc] at hl; simp at hl
  | true =>
    rw [hc] at hl
    simp only [cond_true] at hl
    simp only [Bool.and_eq_true] at hc
    have hsd := beq_true hc.1
    subst hsd
    obtain ⟨e, hu, hue⟩ := isBytes_ok hc.2
    rw [hP] at hu hue
    split at hl <;> try (cases hl; done)
    rename_i cs sz hg
    simp only [Option.some.injEq, Prod.mk.injEq] at hl
    obtain ⟨rfl, rfl⟩ := hl
    obtain ⟨b, oo, K, hm, rfl, hn⟩ := hvp.sl_inv
    obtain ⟨b', K', crs, rest, e0, hm', hv, hb, hK⟩ := hr.own _ _ hg
    rw [hm] at hm'
    cases hm'
    have hst : St C.O (butB w b) [.mem b (crs ++ rest) (crs ++ rest).length] w := hr.but rfl ⟨[], e0, by simpa using hb, by simp⟩
    intro a ha
    obtain ⟨r, F', H', w', hrun, ⟨rfl, ⟨all, el, fz, hF', hall⟩, rfl⟩, hle, hst'⟩ := a_same (C := C) (F := butB w b) (dst := dst) (ty := ty) (pos := pos) (aft := aft) (g := g) 0 rfl hu hue hpr a w ha hst
    refine ⟨m, w', PM.le_refl m, ?_, _, hvp, hrun⟩
    have hall2 : all = (crs ++ (rest ++ all.toList.drop (crs ++ rest).length)).toArray := by
      apply Array.ext'
      rw [← List.append_assoc]
      apply List.ext_getElem?
      intro i
      rcases Nat.lt_or_ge i (crs ++ rest).length with hi | hi
      · rw [List.getElem?_append_left hi, Array.getElem?_toList]
        exact hall i _ (by rw [List.getElem?_eq_getElem hi]) |>.trans (by rw [List.getElem?_eq_getElem hi])
      · rw [List.getElem?_append_right hi, List.getElem?_drop]
        congr 1
        omega
    rw [hall2] at hF'
    exact hr.freezeB hg hm hv hst' hle hF'
/-! ### Slices -/
theorem xnum_ok (he : ER m τ τr) {x : Option Operand} {d n : Nat} (hx : xnum τ x d = some n) : (x = none ∧ n = d) ∨ ∃ y k, x = some y ∧ ev τr y = some (.int k (n : Int)) := by
  unfold xnum at hx
  split at hx
  · simp only [Option.some.injEq] at hx; exact .inl ⟨rfl, hx.symm⟩
  · rename_i y
    split at hx <;> try (cases hx; done)
    rename_i k n' hy
    simp only [Option.some.injEq] at hx
    subst hx
    obtain ⟨yr, h1, h2⟩ := xev_ok he hy
    cases h2.int
    exact .inr ⟨y, k, rfl, h1⟩
theorem bound_run {P : Program} {x : Value} {k : IntKind} {n c : Nat} {code : BoundsCode} (hx : x = .int k (n : Int)) (hn : n ≤ c) (w' : World) : (Instr.sliceBound x c code).run P w' = .ok n w' := by
  subst hx
  have h0 : (0 : Int) ≤ (n : Int) ∧ (n : Int) ≤ (c : Int) := by omega
  simp [Instr.sliceBound, asIntOf, h0]
/-- A slice's part, in the base's words. -/
theorem slice_run {P : Program} {t e : TypeId} {ie : TypeInfo} {a : Option Addr} {n cap l u mm s : Nat} {lo hi mx : Option Value} (hu : P.underlying t = some (.slice e)) (hie : P.info? e = some ie) (hs : ie.size = s)
    (hlo : (lo = none ∧ l = 0) ∨ ∃ x k, lo = some x ∧ x = .int k (l : Int)) (hhi : (hi = none ∧ u = n) ∨ ∃ x k, hi = some x ∧ x = .int k (u : Int)) (hmx : (mx = none ∧ mm = cap) ∨ ((∃ x k, mx = some x ∧ x = .int k (mm : Int)) ∧ hi.isSome = true))
    (h1 : l ≤ u) (h2 : u ≤ mm) (h3 : mm ≤ cap) (w' : World) : (Instr.sliceAt t (.slice a n cap) lo hi mx).run P w' = .ok (sliced a l u mm s) w' := by
  have hel : P.elem t = e := by simp [Program.elem, hu]
  rw [run_sliceAt_slice w' t _ _ _ _ (by rw [hel]; exact hu)]
  have hb : (Instr.sliceBounds true n cap lo hi mx).run P w' = .ok (l, u, mm) w' := by
    rcases hmx with ⟨rfl, rfl⟩ | ⟨⟨xm, km, rfl, hxm⟩, hsome⟩
    · rcases hhi with ⟨rfl, rfl⟩ | ⟨xh, kh, rfl, hxh⟩
      · rcases hlo with ⟨rfl, rfl⟩ | ⟨xl, kl, rfl, hxl⟩
        · simp [Instr.sliceBounds]
        · simp [Instr.sliceBounds, bound_run hxl h1]
      · rcases hlo with ⟨rfl, rfl⟩ | ⟨xl, kl, rfl, hxl⟩
        · simp [Instr.sliceBounds, bound_run hxh h2]
        · simp [Instr.sliceBounds, bound_run hxh h2, bound_run hxl h1]
    · rcases hhi with ⟨rfl, rfl⟩ | ⟨xh, kh, rfl, hxh⟩
      · simp at hsome
      · rcases hlo with ⟨rfl, rfl⟩ | ⟨xl, kl, rfl, hxl⟩
        · simp [Instr.sliceBounds, bound_run hxh h2, bound_run hxm h3]
        · simp [Instr.sliceBounds, bound_run hxh h2, bound_run hxm h3, bound_run hxl h1]
  simp [Instr.slice, run_underlying hu, hb, sizeOf, typeInfo, hie, hs, sliced]
end
end Go.SX
namespace Go.SX
open Go
section
variable {T : Tab} {C : Cx} {F0 : Fz} {m : PM} {h h' : XH} {w : World} {τ τr : Env} {o : Oper} {v : Value} {ov : Option Value}
theorem addr_add (b off n : Nat) : (⟨b, off, none⟩ : Addr).add n = ⟨b, off + n, none⟩ := by
  unfold Addr.add
  split <;> simp_all
theorem xslice_ok {t : TypeId} {x : Operand} {lo hi mx : Option Operand} {p : Value} (hP : T.P = C.P) (hty : T.ty = tiOf T.P) (he : ER m τ τr) (hr : Rep C.O F0 m h w) (ho : o.op = .slice t x lo hi mx) (hx : xev τ x = some p) (hl : xslice T h τ t p lo hi mx = some (v, h')) :
    ∃ m' vr, m.le m' ∧ Rep C.O F0 m' h' w ∧ VR m' v vr ∧ ∀ a w', EnvOk C.fn.ntmps τr a → (execOp a.eval o).run C.P w' = .ok (.value vr) w' := by
  obtain ⟨dst, op, ty, pos, aft, g⟩ := o
  simp only at ho
  subst ho
  obtain ⟨pr, hpr, hvp⟩ := xev_ok he hx
  unfold xslice at hl
  rw [hty, hP] at hl
  split at hl <;> try (cases hl; done)
  rename_i ag sz z0 s eb ez hti
  obtain ⟨e, ie, zv, hu, hie, hzv, hs, hbb, hez, hesc, hezl⟩ := kind_sl (ti_ok hti).2.2.2.symm
  -- what the base computes
  have base : ∀ (a0 : Option Addr) (n cap l u mm : Nat), pr = .slice a0 n cap → xmaxOk hi mx = true → xnum τ lo 0 = some l → xnum τ hi n = some u → ((mx = none ∧ mm = cap) ∨ ∃ y d, mx = some y ∧ xnum τ (some y) d = some mm) → l ≤ u → u ≤ mm → mm ≤ cap →
      ∀ a w', EnvOk C.fn.ntmps τr a → (execOp a.eval ⟨dst, .slice t x lo hi mx, ty, pos, aft, g⟩).run C.P w' = .ok (.value (sliced a0 l u mm s)) w' := by
    intro a0 n cap l u mm hp0 hmo hlo hhi hmx h1 h2 h3 a w' ha
    subst hp0
    have conv : ∀ {q : Option Operand} {d k : Nat}, xnum τ q d = some k → (q.map a.eval = none ∧ k = d) ∨ ∃ y kk, q.map a.eval = some y ∧ y = .int kk (k : Int) := fun {q d k} hq => by
      rcases xnum_ok he hq with ⟨rfl, rfl⟩ | ⟨y, kk, rfl, hy⟩
      · exact .inl ⟨rfl, rfl⟩
      · exact .inr ⟨_, kk, by simp [ha.eval hy], rfl⟩
    have hm2 : (mx.map a.eval = none ∧ mm = cap) ∨ ((∃ x k, mx.map a.eval = some x ∧ x = .int k (mm : Int)) ∧ (hi.map a.eval).isSome = true) := by
      rcases hmx with ⟨rfl, rfl⟩ | ⟨y, d, rfl, hy⟩
      · exact .inl ⟨rfl, rfl⟩
      · rcases conv hy with ⟨h4, _⟩ | h4
        · simp at h4
        · refine .inr ⟨h4, ?_⟩
          simp only [xmaxOk] at hmo
          simpa using hmo
    have := slice_run (P := C.P) (n := n) (cap := cap) (a := a0) hu hie hs (conv hlo) (conv hhi) hm2 h1 h2 h3 w'
    simp only [execOp, ha.eval hpr, Sem.run_bind, this, Result.andThen_ok, Sem.run_pure]
  split at hl <;> try (cases hl; done)
  · -- nil
    cases hmo : xmaxOk hi mx with
    | false => rw [hmo] at hl; simp at hl
    | true =>
      rw [hmo] at hl
      simp only [cond_true] at hl
      split at hl <;> try (cases hl; done)
      rename_i hlo
      split at hl <;> try (cases hl; done)
      rename_i hhi
      split at hl <;> try (cases hl; done)
      rename_i hmx
      simp only [Option.some.injEq, Prod.mk.injEq] at hl
      obtain ⟨rfl, rfl⟩ := hl
      have hp := VR.sc1_eq (v := .slice none 0 0) rfl hvp
      refine ⟨m, _, PM.le_refl m, hr, .sc rfl, ?_⟩
      have := base none 0 0 0 0 0 hp hmo hlo hhi (by
        cases mx with
        | none => exact .inl ⟨rfl, rfl⟩
        | some y => exact .inr ⟨y, 0, rfl, hmx⟩) (Nat.le_refl _) (Nat.le_refl _) (Nat.le_refl _)
      simpa [sliced] using this
  · rename_i k off n c
    cases hmo : xmaxOk hi mx with
    | false => rw [hmo] at hl; simp at hl
    | true =>
      rw [hmo] at hl
      simp only [cond_true] at hl
      split at hl <;> try (cases hl; done)
      rename_i l hlo
      split at hl <;> try (cases hl; done)
      rename_i u hhi
      obtain ⟨b, oo, K, hm, hpeq, hn⟩ := hvp.sl_inv
      have adr : ∀ mm, VR m (.pointer (some (xcutA k off mm l s))) (.pointer (some (if mm = l then ⟨b, oo + off, none⟩ else ⟨b, oo + off + l * s, none⟩))) := fun mm => by
        unfold xcutA
        cases hb : Nat.beq mm l with
        | true =>
          rw [if_pos (beq_true hb)]
          exact .ptr hm
        | false =>
          rw [if_neg (beq_false hb)]
          have : oo + off + l * s = oo + Nat.add off (Nat.mul l s) := Nat.add_assoc _ _ _
          rw [this]
          exact .ptr hm
      -- a part whose capacity is known
      have known : ∀ mm, l ≤ u → u ≤ mm → VR m (.slice (some (xcutA k off mm l s)) (Nat.sub u l) (Nat.mul 2 (Nat.sub mm l))) (sliced (some ⟨b, oo + off, none⟩) l u mm s) := fun mm h1 h2 => by
        have hc : ∀ K', cpOf K' (Nat.mul 2 (Nat.sub mm l)) = mm - l := fun K' => by
          have e1 : Nat.mul 2 (Nat.sub mm l) = 2 * (mm - l) := rfl
          simp [cpOf, e1]
        have hle : Nat.sub u l ≤ mm - l := Nat.sub_le_sub_right h2 l
        unfold xcutA sliced
        cases hb : Nat.beq mm l with
        | true =>
          rw [if_pos (beq_true hb)]
          have := VR.sl (m := m) (off := off) (s := none) (n := Nat.sub u l) (c := Nat.mul 2 (Nat.sub mm l)) hm (by rw [hc]; exact hle)
          rw [hc] at this
          exact this
        | false =>
          rw [if_neg (beq_false hb)]
          simp only [Option.map_some, addr_add]
          have h3 : oo + off + l * s = oo + Nat.add off (Nat.mul l s) := Nat.add_assoc _ _ _
          rw [h3]
          have := VR.sl (m := m) (off := Nat.add off (Nat.mul l s)) (s := none) (n := Nat.sub u l) (c := Nat.mul 2 (Nat.sub mm l)) hm (by rw [hc]; exact hle)
          rw [hc] at this
          exact this
      have hpar : ∀ {c : Nat}, Nat.beq (Nat.mod c 2) 0 = true → cpOf K c = c / 2 := fun {c} hq => by
        have : c % 2 = 0 := beq_true hq
        simp [cpOf, this]
      have hodd : ∀ {c : Nat}, Nat.beq (Nat.mod c 2) 0 = false → c % 2 = 1 ∧ cpOf K c = K - c / 2 := fun {c} hq => by
        have h0 : c % 2 ≠ 0 := beq_false hq
        have h1 : c % 2 = 1 := by omega
        exact ⟨h1, by simp [cpOf, h1]⟩
      split at hl
      · -- s[l:u]
        simp only [xcutS] at hl
        cases hlu : Nat.ble l u with
        | false => rw [hlu] at hl; simp at hl
        | true =>
          have h1 : l ≤ u := Nat.le_of_ble_eq_true hlu
          rw [hlu] at hl
          simp only [cond_true] at hl
          cases hev : Nat.beq (Nat.mod c 2) 0 with
          | true =>
            rw [hev] at hl
            simp only [cond_true] at hl
            cases huc : Nat.ble u (Nat.div c 2) with
            | false => rw [huc] at hl; simp at hl
            | true =>
              rw [huc] at hl
              simp only [cond_true, Option.some.injEq, Prod.mk.injEq] at hl
              obtain ⟨rfl, rfl⟩ := hl
              have h2 : u ≤ c / 2 := Nat.le_of_ble_eq_true huc
              refine ⟨m, _, PM.le_refl m, hr, known (Nat.div c 2) h1 h2, ?_⟩
              exact base _ n (c / 2) l u (Nat.div c 2) (by rw [hpeq, hpar hev]) hmo hlo hhi (.inl ⟨rfl, rfl⟩) h1 h2 (Nat.le_refl _)
          | false =>
            rw [hev] at hl
            simp only [cond_false] at hl
            obtain ⟨ho1, hcp⟩ := hodd hev
            cases hkn : xknown h k off s u n c with
            | false => rw [hkn] at hl; simp at hl
            | true =>
              rw [hkn] at hl
              simp only [cond_true] at hl
              have h2 : u ≤ K - c / 2 := by
                unfold xknown at hkn
                simp only [Bool.or_eq_true] at hkn
                rcases hkn with hq | hq
                · have := Nat.le_of_ble_eq_true hq
                  omega
                · split at hq
                  · rename_i cs sz hg
                    simp only [Bool.and_eq_true] at hq
                    obtain ⟨⟨⟨q1, q2⟩, q3⟩, q4⟩ := hq
                    have q1 := beq_true q1
                    have q2 : 0 < s := Nat.le_of_ble_eq_true q2
                    have q3 : off = c / 2 * s := beq_true q3
                    have q4 : off + u * s ≤ cs.length := Nat.le_of_ble_eq_true q4
                    obtain ⟨b', K', crs, rest, e0, hm', hv, hb, hK⟩ := hr.own _ _ hg
                    rw [hm] at hm'
                    cases hm'
                    have hK := hK (by omega)
                    have hlv := hv.length
                    simp only [List.length_append] at hK
                    rw [q1] at hK
                    have : (c / 2 + u) * s ≤ K * s := by rw [Nat.add_mul]; omega
                    have := Nat.le_of_mul_le_mul_right this q2
                    omega
                  · cases hq
              have hbase := base _ n (K - c / 2) l u (K - c / 2) (by rw [hpeq, hcp]) hmo hlo hhi (.inl ⟨rfl, rfl⟩) h1 h2 (Nat.le_refl _)
              cases hl0 : Nat.beq l 0 with
              | true =>
                rw [hl0] at hl
                simp only [cond_true, Option.some.injEq, Prod.mk.injEq] at hl
                obtain ⟨rfl, rfl⟩ := hl
                have := beq_true hl0
                subst this
                refine ⟨m, _, PM.le_refl m, hr, .sl (s := none) hm (by rw [hcp]; exact h2), ?_⟩
                rw [hcp]
                have e1 : sliced (some ⟨b, oo + off, none⟩) 0 u (K - c / 2) s = .slice (some ⟨b, oo + off, none⟩) u (K - c / 2) := by
                  unfold sliced
                  simp only [Option.map_some, addr_add, Nat.zero_mul, Nat.add_zero, Nat.sub_zero]
                  split <;> rfl
                rw [e1] at hbase
                exact hbase
              | false =>
                rw [hl0] at hl
                simp only [cond_false] at hl
                cases hlu2 : Nat.blt l u with
                | true =>
                  rw [hlu2] at hl
                  simp only [cond_true, Option.some.injEq, Prod.mk.injEq] at hl
                  obtain ⟨rfl, rfl⟩ := hl
                  have h3 : l < u := Nat.le_of_ble_eq_true hlu2
                  have e2 : Nat.add c (Nat.mul 2 l) = c + 2 * l := rfl
                  have hc2 : cpOf K (c + 2 * l) = K - c / 2 - l := by
                    have : (c + 2 * l) % 2 = 1 := by omega
                    simp only [cpOf, this]
                    simp only [Nat.one_ne_zero, if_false]
                    omega
                  have e3 : oo + off + l * s = oo + Nat.add off (Nat.mul l s) := Nat.add_assoc _ _ _
                  refine ⟨m, _, PM.le_refl m, hr, .sl (s := none) hm ?_, ?_⟩
                  · rw [e2, hc2]
                    exact Nat.sub_le_sub_right h2 l
                  · rw [e2, hc2]
                    have e1 : sliced (some ⟨b, oo + off, none⟩) l u (K - c / 2) s = .slice (some ⟨b, oo + Nat.add off (Nat.mul l s), none⟩) (Nat.sub u l) (K - c / 2 - l) := by
                      unfold sliced
                      rw [if_neg (by omega)]
                      simp only [Option.map_some, addr_add, e3]
                      rfl
                    rw [e1] at hbase
                    exact hbase
                | false =>
                  rw [hlu2] at hl
                  simp only [cond_false] at hl
                  split at hl <;> try (cases hl; done)
                  rename_i b' h2' hh
                  simp only [Option.some.injEq, Prod.mk.injEq] at hl
                  obtain ⟨rfl, rfl⟩ := hl
                  have hlu3 : l = u := by
                    have : ¬ l < u := fun hq => by rw [blt_true hq] at hlu2; cases hlu2
                    omega
                  obtain ⟨off', hs'⟩ : ∃ off', sliced (some ⟨b, oo + off, none⟩) l u (K - c / 2) s = .slice (some ⟨b, off', none⟩) 0 (K - c / 2 - l) := by
                    unfold sliced
                    simp only [Option.map_some, addr_add, hlu3, Nat.sub_self]
                    split
                    · exact ⟨_, rfl⟩
                    · exact ⟨_, rfl⟩
                  obtain ⟨h5, h6⟩ := hr.dead hh (b, off', K - c / 2 - l)
                  refine ⟨_, _, h6, h5, .sl (off := 0) (s := none) (PM.ext_at _ _ _) (Nat.zero_le _), ?_⟩
                  have hc1 : cpOf (K - c / 2 - l) 1 = K - c / 2 - l := by simp [cpOf]
                  rw [hc1]
                  rw [hs'] at hbase
                  exact hbase
      · -- s[l:u:mm]
        rename_i y
        split at hl <;> try (cases hl; done)
        rename_i mm hmm
        simp only [xcutS] at hl
        cases hq : (Nat.ble l u && Nat.ble u mm && Nat.ble mm (cond (Nat.beq (Nat.mod c 2) 0) (Nat.div c 2) n)) with
        | false => rw [hq] at hl; simp at hl
        | true =>
          rw [hq] at hl
          simp only [cond_true, Option.some.injEq, Prod.mk.injEq] at hl
          obtain ⟨rfl, rfl⟩ := hl
          simp only [Bool.and_eq_true] at hq
          have h1 : l ≤ u := Nat.le_of_ble_eq_true hq.1.1
          have h2 : u ≤ mm := Nat.le_of_ble_eq_true hq.1.2
          have h3 : mm ≤ cpOf K c := by
            have h4 := Nat.le_of_ble_eq_true hq.2
            cases hev : Nat.beq (Nat.mod c 2) 0 with
            | true =>
              rw [hev] at h4
              rw [hpar hev]
              exact h4
            | false =>
              rw [hev] at h4
              simp only [cond_false] at h4
              omega
          exact ⟨m, _, PM.le_refl m, hr, known mm h1 h2, base _ n (cpOf K c) l u mm hpeq hmo hlo hhi (.inr ⟨y, 0, rfl, hmm⟩) h1 h2 h3⟩
end
end Go.SX
namespace Go.SX
open Go
section
variable {T : Tab} {C : Cx} {F0 : Fz} {m : PM} {h h' : XH} {w : World} {τ τr : Env} {o : Oper} {v : Value} {ov : Option Value}
/-- The cells of a slice that is read. -/
theorem xfirst_ok {s mm : Nat} {p pr : Value} {ys : List Value} (hr : Rep C.O F0 m h w) (hvp : VR m p pr) (hl : xfirst h s p = some (mm, ys)) :
    ∃ a0 cap0 yrs, pr = .slice a0 mm cap0 ∧ VRs m ys yrs ∧ yrs.length = mm * s ∧ ∀ W : World, W.heap = w.heap → (Builtin.firstCells s mm pr).run C.P W = .ok yrs.toArray W := by
  unfold xfirst at hl
  split at hl <;> try (cases hl; done)
  · rename_i n c
    cases hq : Nat.beq n 0 && Nat.beq c 0 with
    | false => rw [hq] at hl; simp at hl
    | true =>
      rw [hq] at hl
      simp only [cond_true, Option.some.injEq, Prod.mk.injEq] at hl
      obtain ⟨rfl, rfl⟩ := hl
      simp only [Bool.and_eq_true] at hq
      have h1 := beq_true hq.1
      subst h1
      have hp := VR.sc1_eq (v := .slice none 0 c) rfl hvp
      subst hp
      exact ⟨none, c, [], rfl, .nil, by simp, fun W _ => run_firstCells_none W _ _ _ _⟩
  · rename_i k off n c
    obtain ⟨b, oo, K, hm, rfl, hn⟩ := hvp.sl_inv
    cases hq : Nat.beq n 0 with
    | true =>
      rw [hq] at hl
      simp only [cond_true, Option.some.injEq, Prod.mk.injEq] at hl
      obtain ⟨rfl, rfl⟩ := hl
      have h1 := beq_true hq
      subst h1
      exact ⟨_, _, [], rfl, .nil, by simp, fun W _ => by simp [Builtin.firstCells, loadCells, loadCellsFrom]⟩
    | false =>
      rw [hq] at hl
      simp only [cond_false] at hl
      have main : ∀ cs sz, (h.get k = some (.mem cs sz) ∨ h.get k = some (.fz cs)) → ∀ l, xcut cs off (Nat.mul n s) = some l → mm = n → ys = l → ∃ a0 cap0 yrs, (Value.slice (some ⟨b, oo + off, none⟩) n (cpOf K c)) = .slice a0 mm cap0 ∧ VRs m ys yrs ∧ yrs.length = mm * s ∧ ∀ W : World, W.heap = w.heap → (Builtin.firstCells s mm (Value.slice (some ⟨b, oo + off, none⟩) n (cpOf K c))).run C.P W = .ok yrs.toArray W := by
        intro cs sz hg l hc rfl rfl
        obtain ⟨b', oo', K', vrs, hm', hv, hh, hlen⟩ := cells_of hr hg hc
        rw [hm] at hm'
        cases hm'
        refine ⟨_, _, vrs, rfl, hv, hlen, fun W hW => ?_⟩
        refine run_firstCells_some W s mm _ mm _ vrs hlen fun j u hj => ?_
        rw [addr_add]
        have := hh j u hj
        unfold World.cell? at this ⊢
        rw [hW]
        exact this
      split at hl <;> try (cases hl; done)
      · rename_i cs sz hg
        split at hl <;> try (cases hl; done)
        rename_i l hc
        simp only [Option.some.injEq, Prod.mk.injEq] at hl
        exact main cs sz (.inl hg) l hc hl.1.symm hl.2.symm
      · rename_i cs hg
        split at hl <;> try (cases hl; done)
        rename_i l hc
        simp only [Option.some.injEq, Prod.mk.injEq] at hl
        exact main cs 0 (.inr hg) l hc hl.1.symm hl.2.symm
theorem app_new {P : Program} {O : World} {F : Fz} {t u ty e e2 : TypeId} {i : TypeInfo} {z : Value} {a0 a1 : Option Addr} {n mm cap cap1 : Nat} {xs ys : List Value} {w : World} (ht : P.underlying t = some (.slice e)) (hu : P.underlying u = some (.slice e2)) (hi : P.info? e = some i) (hz : i.zero = some z) (hzs : z.cells.size = i.size)
    (hg : ¬ n + mm ≤ cap) (hsm : n + mm ≤ 1000000) (hby : (n + mm) * i.bytes ≤ 1000000000) (hxl : xs.length = n * i.size) (hyl : ys.length = mm * i.size) (hw : St O F [] w)
    (hold : ∀ W : World, W.heap = w.heap → (Builtin.firstCells i.size n (.slice a0 n cap)).run P W = .ok xs.toArray W) (hnew : ∀ W : World, W.heap = w.heap → (Builtin.firstCells i.size mm (.slice a1 mm cap1)).run P W = .ok ys.toArray W) :
    ∃ b c w', (Builtin.append_ #[t, u] ty #[.slice a0 n cap, .slice a1 mm cap1]).run P w = .ok (.slice (some ⟨b, 0, none⟩) (n + mm) c) w' ∧ n + mm ≤ c ∧ St O F [.mem b (xs ++ ys) (c * i.size)] w' := by
  have h63' : ¬ (9223372036854775807 < (n : Int) + (mm : Int)) := by omega
  have hfit : ¬ (281474976710656 < Builtin.nextslicecap (n + mm) cap * i.bytes) := by
    have := growslice_fits (need := n + mm) (old := cap) (bytes := i.bytes) (by omega) (by omega)
    omega
  have h1 := hold w.drew rfl
  have h2 := hnew w.drew rfl
  have hge := grownCap_ge w (n + mm) cap e
  refine ⟨w.heap.size, grownCap w (n + mm) cap e, w.drew.alloc (.cells (xs.toArray ++ ys.toArray ++ Builtin.zeroCells z.cells (grownCap w (n + mm) cap e - (n + mm))) e), ?_, hge, ?_⟩
  · simp [Builtin.append_, Builtin.lenOf, run_underlying ht, run_underlying hu, sizeOf, typeInfo, zeroValue, hi, hz, hg, h63', hfit, Question.forced, h1, h2, newRow, grownCap]
    congr 2
    apply Array.ext'
    simp
  · refine (hw.drew _).new (e := .mem w.heap.size (xs ++ ys) (grownCap w (n + mm) cap e * i.size)) (o := .cells (xs.toArray ++ ys.toArray ++ Builtin.zeroCells z.cells (grownCap w (n + mm) cap e - (n + mm))) e) rfl rfl rfl rfl rfl ?_
    refine ⟨(Builtin.zeroCells z.cells (grownCap w (n + mm) cap e - (n + mm))).toList, e, ?_, ?_⟩
    · have : w.heap.size = w.drew.heap.size := rfl
      rw [this, heap_alloc_new]
      congr 2
      apply Array.ext'
      simp
    · simp only [List.length_append, Array.length_toList, size_zeroCells, hzs, hxl, hyl, ← Nat.add_mul]
      congr 1
      omega
theorem app_in {P : Program} {t u ty e e2 : TypeId} {i : TypeInfo} {ad : Addr} {a1 : Option Addr} {n mm cap cap1 : Nat} {ys : List Value} {w w' : World} (ht : P.underlying t = some (.slice e)) (hu : P.underlying u = some (.slice e2)) (hi : P.info? e = some i)
    (hg : n + mm ≤ cap) (hnew : (Builtin.firstCells i.size mm (.slice a1 mm cap1)).run P w = .ok ys.toArray w) (hst : (storeCells (ad.add (n * i.size)) ys).run P w = .ok () w') :
    (Builtin.append_ #[t, u] ty #[.slice (some ad) n cap, .slice a1 mm cap1]).run P w = .ok (.slice (some ad) (n + mm) cap) w' := by
  simp [Builtin.append_, Builtin.lenOf, run_underlying ht, run_underlying hu, sizeOf, typeInfo, hi, hg, hnew, hst]
theorem app_none {P : Program} {t u ty e e2 : TypeId} {i : TypeInfo} {a1 : Option Addr} {cap1 : Nat} {ys : List Value} {w : World} (ht : P.underlying t = some (.slice e)) (hu : P.underlying u = some (.slice e2)) (hi : P.info? e = some i)
    (hnew : (Builtin.firstCells i.size 0 (.slice a1 0 cap1)).run P w = .ok ys.toArray w) : (Builtin.append_ #[t, u] ty #[.slice none 0 0, .slice a1 0 cap1]).run P w = .ok (.slice none 0 0) w := by
  simp [Builtin.append_, Builtin.lenOf, run_underlying ht, run_underlying hu, sizeOf, typeInfo, hi, hnew]
theorem xgrow_new {s eb n : Nat} {xs ys : List Value} {ov : Option Value} (hl : xgrow h n s eb xs ys = some (ov, h')) : n ≤ 1000000 ∧ n * eb ≤ 1000000000 ∧ ∃ k, h.new (some (.mem (xs ++ ys) s)) = some (k, h') ∧ ov = some (.slice (some ⟨k, 0, none⟩) n 1) := by
  unfold xgrow at hl
  cases hf : xfits n eb with
  | false => rw [hf] at hl; simp at hl
  | true =>
    rw [hf] at hl
    simp only [cond_true] at hl
    obtain ⟨f1, f2⟩ := fits_ok hf
    split at hl <;> try (cases hl; done)
    rename_i l hx
    have hx := xapp_eq _ _ _ hx
    subst hx
    split at hl <;> try (cases hl; done)
    rename_i k h2 hh
    simp only [Option.some.injEq, Prod.mk.injEq] at hl
    obtain ⟨rfl, rfl⟩ := hl
    exact ⟨f1, f2, k, hh, rfl⟩
theorem xappend_ok {t u : TypeId} {x y : Operand} {p q : Value} (hP : T.P = C.P) (hty : T.ty = tiOf T.P) (he : ER m τ τr) (hr : Rep C.O F0 m h w) (ho : o.op = .call ⟨.builtin .append, ⟨[x, y]⟩, ⟨[t, u]⟩⟩) (hx : xev τ x = some p) (hy : xev τ y = some q) (hl : xappendOp T h t u p q = some (ov, h')) :
    AOk C F0 m h' w τr o ov := by
  obtain ⟨dst, op, ty, pos, aft, g⟩ := o
  simp only at ho
  subst ho
  obtain ⟨pr, hpr, hvp⟩ := xev_ok he hx
  obtain ⟨qr, hqr, hvq⟩ := xev_ok he hy
  unfold xappendOp at hl
  obtain ⟨s, eb, z, hl2, hk⟩ := sty hP hty hl
  clear hl
  have hl := hl2
  clear hl2
  obtain ⟨e, ie, zv, hut, hie, hzv, hs, hbb, hez, hesc, hezl⟩ := kind_sl hk
  rw [hP] at hl
  cases hsu : isSliceB C.P u with
  | false => rw [hsu] at hl; simp at hl
  | true =>
  rw [hsu] at hl
  simp only [cond_true] at hl
  obtain ⟨e2, huu⟩ : ∃ e2, C.P.underlying u = some (.slice e2) := by
    unfold isSliceB at hsu
    split at hsu
    · rename_i e' hu; exact ⟨e', hu⟩
    · cases hsu
  split at hl <;> try (cases hl; done)
  rename_i mm ys hfst
  obtain ⟨a1, cap1, yrs, rfl, hvy, hyl, hnew⟩ := xfirst_ok hr hvq hfst
  subst hs
  subst hbb
  have hzs : zv.cells.size = ie.size := by rw [← hezl, ← hez]; simp
  have fin : ∀ (w' : World) (m' : PM) (h' : XH) (v vr : Value), m.le m' → Rep C.O F0 m' h' w' → VR m' v vr → (∀ a, EnvOk C.fn.ntmps τr a → (Builtin.append_ #[t, u] ty #[a.eval x, a.eval y]).run C.P w = .ok vr w') →
      AOk C F0 m h' w τr ⟨dst, .call ⟨.builtin .append, ⟨[x, y]⟩, ⟨[t, u]⟩⟩, ty, pos, aft, g⟩ (some v) := fun w' m' h' v vr h1 h2 h3 h4 a ha => by
    refine ⟨m', w', h1, h2, vr, h3, ?_⟩
    have := execOp_builtin_run (P := C.P) (a := a) (dst := dst) (ty := ty) (pos := pos) (aft := aft) (g := g) (bi := .append) (args := #[x, y]) (ats := #[t, u]) (s := Builtin.append_ #[t, u] ty #[a.eval x, a.eval y]) (fun _ => by simp [builtin]) (h4 a ha)
    rw [this]
    rfl
  unfold xappend at hl
  cases hc : Nat.blt 0 ie.size && ys.all oneCellB with
  | false => rw [hc] at hl; simp at hl
  | true =>
  rw [hc] at hl
  simp only [cond_true] at hl
  simp only [Bool.and_eq_true] at hc
  have hpos : 0 < ie.size := Nat.le_of_ble_eq_true hc.1
  have hone := hvy.one hc.2
  -- a new block, all else stays
  have grow : ∀ (a0 : Option Addr) (n cap : Nat) (xs xrs : List Value), pr = .slice a0 n cap → VRs m xs xrs → xrs.length = n * ie.size → (∀ W : World, W.heap = w.heap → (Builtin.firstCells ie.size n pr).run C.P W = .ok xrs.toArray W) → ¬ n + mm ≤ cap →
      xgrow h (n + mm) ie.size ie.bytes xs ys = some (ov, h') → AOk C F0 m h' w τr ⟨dst, .call ⟨.builtin .append, ⟨[x, y]⟩, ⟨[t, u]⟩⟩, ty, pos, aft, g⟩ ov := by
    intro a0 n cap xs xrs hp0 hvx hxl hold hgr hl
    subst hp0
    obtain ⟨f1, f2, k, hh, rfl⟩ := xgrow_new hl
    obtain ⟨b, c, w', hrun, hge, hst⟩ := app_new (ty := ty) hut huu hie hzv hzs hgr f1 f2 hxl hyl hr.all hold hnew
    obtain ⟨h1, h2⟩ := hr.pushS hst rfl (hvx.append hvy) hh
    have hcp : cpOf c 1 = c := by simp [cpOf]
    refine fin w' _ _ _ (.slice (some ⟨b, 0, none⟩) (n + mm) c) h2 h1 ?_ fun a ha => by rw [ha.eval hpr, ha.eval hqr]; exact hrun
    have := VR.sl (m := m.ext k (b, 0, c)) (off := 0) (s := none) (n := n + mm) (c := 1) (PM.ext_at _ _ _) (by rw [hcp]; exact hge)
    rw [hcp] at this
    exact this
  split at hl <;> try (cases hl; done)
  · have hp := VR.sc1_eq (v := .slice none 0 0) rfl hvp
    subst hp
    cases hm0 : Nat.beq mm 0 with
    | true =>
      rw [hm0] at hl
      simp only [cond_true, Option.some.injEq, Prod.mk.injEq] at hl
      obtain ⟨rfl, rfl⟩ := hl
      have := beq_true hm0
      subst this
      exact fin w m h _ _ (PM.le_refl m) hr (.sc rfl) fun a ha => by rw [ha.eval hpr, ha.eval hqr]; exact app_none hut huu hie (hnew w rfl)
    | false =>
      rw [hm0] at hl
      simp only [cond_false] at hl
      have hne := beq_false hm0
      refine grow none 0 0 [] [] rfl .nil (by simp) (fun W _ => run_firstCells_none W _ _ _ _) (by omega) ?_
      rw [Nat.zero_add]
      exact hl
  · rename_i k off n c
    obtain ⟨b, oo, K, hm, rfl, hn⟩ := hvp.sl_inv
    split at hl <;> try (cases hl; done)
    rename_i cs sz hg
    obtain ⟨b', K', crs, rest, e0, hm', hv, hb, hK⟩ := hr.own _ _ hg
    rw [hm] at hm'
    cases hm'
    have hlv := hv.length
    have hst0 : St C.O (butB w b) [.mem b crs (crs ++ rest).length] w := hr.but rfl ⟨rest, e0, hb, rfl⟩
    -- the cells are laid in where they are known
    have inPlace : ∀ l, n + mm ≤ cpOf K c → xput cs (off + n * ie.size) ys = some l → ov = some (.slice (some ⟨k, off, none⟩) (n + mm) c) → h' = h.set k (some (.mem l sz)) → AOk C F0 m h' w τr ⟨dst, .call ⟨.builtin .append, ⟨[x, y]⟩, ⟨[t, u]⟩⟩, ty, pos, aft, g⟩ ov := by
      intro l hroom hput h1 h2
      subst h1 h2
      obtain ⟨q1, q2⟩ := xput_eq _ _ _ _ hput
      have hyv := hvy.length
      obtain ⟨w', hrun, hst'⟩ := hst0.put C.P (j := 0) (off := off + n * ie.size) (vs := yrs) rfl (by omega) hone
      refine fin w' m _ _ _ (PM.le_refl m) (hr.upd hg hm (by rw [q1]; exact hv.put _ hvy) (fun hs => hK hs) hst') (.sl (s := none) hm hroom) fun a ha => ?_
      rw [ha.eval hpr, ha.eval hqr]
      refine app_in hut huu hie hroom (hnew w rfl) ?_
      rw [addr_add, Nat.zero_add]
      exact hrun
    have xcells : ∀ xs, xcut cs off (n * ie.size) = some xs → ∃ xrs, VRs m xs xrs ∧ xrs.length = n * ie.size ∧ xrs = (crs.drop off).take (n * ie.size) ∧ ∀ W : World, W.heap = w.heap → (Builtin.firstCells ie.size n (.slice (some ⟨b, 0 + off, none⟩) n (cpOf K c))).run C.P W = .ok xrs.toArray W := fun xs hxs => by
      obtain ⟨b2, o2, K2, xrs, hm2, hvx, hh, hlen⟩ := cells_of hr (.inl hg) hxs
      rw [hm] at hm2
      cases hm2
      refine ⟨xrs, hvx, hlen, ?_, fun W hW => run_firstCells_some W _ n _ n _ xrs hlen fun j u hj => ?_⟩
      · have h1 := (xcut_eq hxs).1
        have h2 : VRs m xs ((crs.drop off).take (n * ie.size)) := by rw [h1]; exact (hv.drop off).take _
        exact hvx.fn h2
      · rw [addr_add]
        have := hh j u hj
        unfold World.cell? at this ⊢
        rw [hW]
        exact this
    cases hsz0 : Nat.beq sz 0 with
    | true =>
      rw [hsz0] at hl
      simp only [cond_true] at hl
      cases hev : Nat.beq (Nat.mod c 2) 0 with
      | false => rw [hev] at hl; simp at hl
      | true =>
        rw [hev] at hl
        simp only [cond_true] at hl
        have hcp : cpOf K c = c / 2 := by
          have : c % 2 = 0 := beq_true hev
          simp [cpOf, this]
        cases hroom : Nat.ble (Nat.add n mm) (Nat.div c 2) with
        | true =>
          rw [hroom] at hl
          simp only [cond_true] at hl
          have hr2 : n + mm ≤ c / 2 := Nat.le_of_ble_eq_true hroom
          split at hl <;> try (cases hl; done)
          rename_i l hput
          simp only [Option.some.injEq, Prod.mk.injEq] at hl
          exact inPlace l (by rw [hcp]; exact hr2) hput hl.1.symm hl.2.symm
        | false =>
          rw [hroom] at hl
          simp only [cond_false] at hl
          have hr2 : ¬ n + mm ≤ c / 2 := fun hq => by
            have h1 : Nat.ble (Nat.add n mm) (Nat.div c 2) = true := Nat.ble_eq_true_of_le hq
            rw [h1] at hroom; cases hroom
          split at hl <;> try (cases hl; done)
          rename_i xs hxs
          obtain ⟨xrs, hvx, hxl, _, hold⟩ := xcells xs hxs
          exact grow _ n _ xs xrs rfl hvx hxl hold (by rw [hcp]; exact hr2) hl
    | false =>
      rw [hsz0] at hl
      simp only [cond_false] at hl
      have hszne := beq_false hsz0
      have hK := hK hszne
      cases hq : (Nat.beq sz ie.size && Nat.beq c 1 && Nat.beq off 0) with
      | false => rw [hq] at hl; simp at hl
      | true =>
        rw [hq] at hl
        simp only [cond_true] at hl
        simp only [Bool.and_eq_true] at hq
        have e1 := beq_true hq.1.1
        have e2 := beq_true hq.1.2
        have e3 := beq_true hq.2
        subst e2 e3
        have hcp : cpOf K 1 = K := by simp [cpOf]
        cases hroom : Nat.ble (Nat.add 0 (Nat.mul (Nat.add n mm) ie.size)) cs.length with
        | true =>
          rw [hroom] at hl
          simp only [cond_true] at hl
          have hr2 : 0 + (n + mm) * ie.size ≤ cs.length := Nat.le_of_ble_eq_true hroom
          split at hl <;> try (cases hl; done)
          rename_i l hput
          simp only [Option.some.injEq, Prod.mk.injEq] at hl
          refine inPlace l ?_ hput hl.1.symm hl.2.symm
          rw [hcp]
          simp only [List.length_append] at hK
          rw [e1] at hK
          have : (n + mm) * ie.size ≤ K * ie.size := by omega
          exact Nat.le_of_mul_le_mul_right this hpos
        | false =>
          rw [hroom] at hl
          simp only [cond_false] at hl
          split at hl <;> try (cases hl; done)
          rename_i xs hxs
          obtain ⟨xrs, hvx, hxl, hxrs, hold⟩ := xcells xs hxs
          obtain ⟨f1, f2, k2, hh, rfl⟩ := xgrow_new hl
          have done : ∀ (b2 c2 n2 : Nat) (w' : World), n + mm ≤ c2 → n2 = c2 * ie.size → St C.O (butB w b) [.mem b2 (xrs ++ yrs) n2] w' → (∀ a, EnvOk C.fn.ntmps τr a → (Builtin.append_ #[t, u] ty #[a.eval x, a.eval y]).run C.P w = .ok (.slice (some ⟨b2, 0, none⟩) (n + mm) c2) w') →
              AOk C F0 m h' w τr ⟨dst, .call ⟨.builtin .append, ⟨[x, y]⟩, ⟨[t, u]⟩⟩, ty, pos, aft, g⟩ (some (.slice (some ⟨k2, 0, none⟩) (n + mm) 1)) := by
            intro b2 c2 n2 w' hle hn2 hst hrun
            obtain ⟨g1, g2⟩ := hr.swap hg hm hst hn2 (hvx.append hvy) hh
            have hcp2 : cpOf c2 1 = c2 := by simp [cpOf]
            refine fin w' _ _ _ (.slice (some ⟨b2, 0, none⟩) (n + mm) c2) g2 g1 ?_ hrun
            have := VR.sl (m := m.ext k2 (b2, 0, c2)) (off := 0) (s := none) (n := n + mm) (c := 1) (PM.ext_at _ _ _) (by rw [hcp2]; exact hle)
            rw [hcp2] at this
            exact this
          by_cases hrm : n + mm ≤ K
          · -- there is room
            have hst1 : St C.O (butB w b) [.mem b (crs ++ rest) (crs ++ rest).length] w := hr.but rfl ⟨[], e0, by simpa using hb, by simp⟩
            have hfit : n * ie.size + yrs.length ≤ (crs ++ rest).length := by
              rw [hyl, ← Nat.add_mul, hK, e1]
              exact Nat.mul_le_mul_right _ hrm
            obtain ⟨w', hrun, hst'⟩ := hst1.put C.P (j := 0) (off := n * ie.size) (vs := yrs) rfl hfit hone
            have hpre : xrs = (crs ++ rest).take (n * ie.size) := by
              rw [hxrs, List.drop_zero]
              have hle : n * ie.size ≤ crs.length := by
                have h1 : n * ie.size = 0 ∨ 0 + n * ie.size ≤ cs.length := (xcut_eq hxs).2.2
                rcases h1 with h1 | h1
                · rw [h1]; exact Nat.zero_le _
                · omega
              rw [List.take_append_of_le_length hle]
            refine done b K (crs ++ rest).length w' hrm (by rw [hK, e1]) ?_ fun a ha => ?_
            · obtain ⟨rest2, e3, q1, q2⟩ := hst'.own _ (List.mem_singleton.2 rfl)
              refine ⟨hst'.os, hst'.tape, hst'.output, hst'.frz, ?_, by simp, by simp [butB, Ent.b]⟩
              intro e4 he4
              simp only [List.mem_singleton] at he4
              subst he4
              refine ⟨(crs ++ rest).drop (n * ie.size + yrs.length) ++ rest2, e3, ?_, ?_⟩
              · rw [hpre]
                have : (crs ++ rest).take (n * ie.size) ++ yrs ++ ((crs ++ rest).drop (n * ie.size + yrs.length) ++ rest2) = putAt (crs ++ rest) (n * ie.size) yrs ++ rest2 := by
                  simp [putAt]
                rw [this]
                exact q1
              · rw [hpre]
                have : (crs ++ rest).take (n * ie.size) ++ yrs ++ ((crs ++ rest).drop (n * ie.size + yrs.length) ++ rest2) = putAt (crs ++ rest) (n * ie.size) yrs ++ rest2 := by
                  simp [putAt]
                rw [this]
                exact q2
            · rw [ha.eval hpr, ha.eval hqr, hcp]
              refine app_in hut huu hie hrm (hnew w rfl) ?_
              rw [addr_add]
              simpa using hrun
          · -- there is none
            rw [hcp] at hold
            obtain ⟨b2, c2, w', hrun, hge, hst⟩ := app_new (ty := ty) hut huu hie hzv hzs hrm f1 f2 hxl hyl hr.all hold hnew
            refine done b2 c2 _ w' hge rfl ⟨hst.os, hst.tape, hst.output, fun j ob hj => hst.frz j ob ?_, hst.own, hst.nd, fun e4 he4 => ?_⟩ fun a ha => by rw [ha.eval hpr, ha.eval hqr, hcp]; exact hrun
            · unfold butB at hj
              split at hj
              · cases hj
              · exact hj
            · have := hst.ap e4 he4
              unfold butB
              split
              · rfl
              · exact this
/-- **All that acts.** -/
theorem xact_ok (hP : T.P = C.P) (hty : T.ty = tiOf T.P) (he : ER m τ τr) (hr : Rep C.O F0 m h w) (hl : xact T τ h o = some (ov, h')) : AOk C F0 m h' w τr o ov := by
  have t1 : ∀ {x : Operand} {f : Value → XA}, a1 τ x f = some (ov, h') → ∃ p, xev τ x = some p ∧ f p = some (ov, h') := fun hq => by
    unfold a1 at hq
    split at hq
    · rename_i p hp; exact ⟨p, hp, hq⟩
    · cases hq
  have t2 : ∀ {x y : Operand} {f : Value → Value → XA}, a2 τ x y f = some (ov, h') → ∃ p q, xev τ x = some p ∧ xev τ y = some q ∧ f p q = some (ov, h') := fun hq => by
    unfold a2 at hq
    split at hq
    · rename_i p hp
      split at hq
      · rename_i q hq'; exact ⟨p, q, hp, hq', hq⟩
      · cases hq
    · cases hq
  have t3 : ∀ {x y z : Operand} {f : Value → Value → Value → XA}, a3 τ x y z f = some (ov, h') → ∃ p q r, xev τ x = some p ∧ xev τ y = some q ∧ xev τ z = some r ∧ f p q r = some (ov, h') := fun hq => by
    unfold a3 at hq
    split at hq
    · rename_i p hp
      split at hq
      · rename_i q hq'
        split at hq
        · rename_i r hr; exact ⟨p, q, r, hp, hq', hr, hq⟩
        · cases hq
      · cases hq
    · cases hq
  have al : ∀ {l : List Value} {s : Option (Nat × Nat)}, o.dst.isSome = true → xalloc T τ o = some (l, s) → xnew h l (shaped s) = some (ov, h') → AOk C F0 m h' w τr o ov := fun {l s} hdst ha hn => by
    obtain ⟨h1, lr, h2, h3⟩ := xalloc_ok hP hty he ha hdst
    unfold xnew at hn
    split at hn <;> try (cases hn; done)
    rename_i b h2' hh
    simp only [Option.some.injEq, Prod.mk.injEq] at hn
    obtain ⟨rfl, rfl⟩ := hn
    intro a ha'
    obtain ⟨v, H', w', g1, ⟨bb, nn, g2, g3⟩, g4⟩ := h3 (allW w) [] a w ha' hr.all
    subst g2 g3
    obtain ⟨m', q1, q2, q3⟩ := xnew_ok hr h2 hh g4 h1
    cases s with
    | none => exact ⟨m', w', q1, q2, _, q3, g1⟩
    | some p => exact ⟨m', w', q1, q2, _, q3, g1⟩
  unfold xact at hl
  split at hl
  · rename_i t p v ho
    cases hds : o.dst.isSome with
    | true => rw [hds] at hl; simp at hl
    | false =>
      rw [hds] at hl
      simp only [cond_false] at hl
      obtain ⟨p, q, h1, h2, h3⟩ := t2 hl
      exact xstore_ok hP hty he hr ho (by simpa using hds) h1 h2 h3
  · cases hds : o.dst.isSome with
    | false => rw [hds] at hl; simp at hl
    | true =>
      rw [hds] at hl
      simp only [cond_true] at hl
      split at hl
      · rename_i l s ha; exact al hds ha hl
      · cases hl
  · cases hds : o.dst.isSome with
    | false => rw [hds] at hl; simp at hl
    | true =>
      rw [hds] at hl
      simp only [cond_true] at hl
      split at hl
      · rename_i l s ha; exact al hds ha hl
      · cases hl
  · cases hds : o.dst.isSome with
    | false => rw [hds] at hl; simp at hl
    | true =>
      rw [hds] at hl
      simp only [cond_true] at hl
      split at hl
      · rename_i l s ha; exact al hds ha hl
      · cases hl
  · cases hds : o.dst.isSome with
    | false => rw [hds] at hl; simp at hl
    | true =>
      rw [hds] at hl
      simp only [cond_true] at hl
      split at hl
      · rename_i l s ha; exact al hds ha hl
      · cases hl
  · rename_i t ho
    split at hl <;> try (cases hl; done)
    rename_i b h2 hh
    simp only [Option.some.injEq, Prod.mk.injEq] at hl
    obtain ⟨rfl, rfl⟩ := hl
    exact xmakeMap_ok hr ho hh
  · rename_i t x k v ho; obtain ⟨p, q, r, h1, h2, h3, h4⟩ := t3 hl; exact xmapUpdate_ok hP hty he hr ho h1 h2 h3 h4
  · rename_i t x k ho; obtain ⟨p, q, h1, h2, h3⟩ := t2 hl; exact xmapEntry_ok hP hty he hr ho h1 h2 h3
  · rename_i t x s v ho; obtain ⟨p, q, r, h1, h2, h3, h4⟩ := t3 hl; exact xentryStore_ok he hr ho h1 h2 h3 h4
  · rename_i t x ho; obtain ⟨p, h1, h3⟩ := t1 hl; exact xrange_ok hP hty he hr ho h1 h3
  · rename_i it ho; obtain ⟨p, h1, h3⟩ := t1 hl; exact xnext_ok he hr ho h1 h3
  · rename_i t x lo hi mx ho
    obtain ⟨p, h1, h3⟩ := t1 hl
    split at h3 <;> try (cases h3; done)
    rename_i v2 h2 hs
    simp only [Option.some.injEq, Prod.mk.injEq] at h3
    obtain ⟨rfl, rfl⟩ := h3
    obtain ⟨m', vr, q1, q2, q3, q4⟩ := xslice_ok hP hty he hr ho h1 hs
    exact fun a ha => ⟨m', w, q1, q2, vr, q3, q4 a w ha⟩
  · rename_i s d x ho; obtain ⟨p, h1, h3⟩ := t1 hl; exact xsame_ok hP he hr ho h1 h3
  · rename_i x y t u ho; obtain ⟨p, q, h1, h2, h3⟩ := t2 hl; exact xappend_ok hP hty he hr ho h1 h2 h3
  · rename_i x t ho; obtain ⟨p, h1, h3⟩ := t1 hl; exact xclear_ok hP hty he hr ho h1 h3
  · rename_i x y t u ho; obtain ⟨p, q, h1, h2, h3⟩ := t2 hl; exact xdelete_ok hP hty he hr ho h1 h2 h3
  · cases hl
end
end Go.SX
namespace Go.SX
open Go
/-- What a seat's tables must hold to. -/
structure TOk (T : Tab) (P : Program) (O : World) : Prop where
  hP : T.P = P
  ty : T.ty = tiOf T.P
  mixed : P.follows .mixedOrders = true
  fn : ∀ g f, T.fn g = some f → P.funcs[g]? = some f
  can : ∀ g f c, T.fn g = some f → f.body = some c → callableB P g = true
  ext : ∀ g vs v, T.ext g vs = some v → vs.all sc1 = true ∧ sc1 v = true ∧ ∀ w, (callFunc g vs.toArray).run P w = .ok (.value v) w
  known : ∀ g vs h v h', T.known g vs h = some (v, h') → callableB P g = true ∧ ∀ F0 m vrs w, VRs m vs vrs → Rep O F0 m h w → Calls P g vrs.toArray w fun e w' => ∃ m' vr, m.le m' ∧ VR m' v vr ∧ e = .returned vr ∧ Rep O F0 m' h' w'
  plan : ∀ g f c, T.fn g = some f → f.body = some c → okCode T g c = true
/-- What a call comes to. -/
def CallOk (P : Program) (O : World) (call : XC) : Prop :=
  ∀ g vs h v h', call g vs h = some (v, h') → callableB P g = true ∧ ∀ F0 m vrs w, VRs m vs vrs → Rep O F0 m h w → Calls P g vrs.toArray w fun e w' => ∃ m' vr, m.le m' ∧ VR m' v vr ∧ e = .returned vr ∧ Rep O F0 m' h' w'
section
variable {T : Tab} {C : Cx} {F0 : Fz} {m : PM} {h h' : XH} {w : World} {τ τ' τr : Env} {o : Oper} {v : Value} {ov : Option Value} {rs : List Rd}
theorem undef_ok : VR m undef undef := .tuple .nil
theorem wanted_er {ops : Array Oper} {q : Bool} (he : ER m τ τr) (h : wantedB τ ops o = some q) : wantedB τr ops o = some q := by
  unfold wantedB at h ⊢
  split at h
  · exact h
  · rename_i j want hg
    split at h
    · rename_i d hd
      split at h
      · rename_i b hb
        obtain ⟨v', h1, h2⟩ := he.get hb
        cases h2.bool
        rw [h1]
        exact h
      · rename_i vs hvs
        obtain ⟨v', h1, h2⟩ := he.get hvs
        obtain ⟨l⟩ := vs
        obtain ⟨l', _, rfl⟩ := h2.tuple_inv
        rw [h1]
        exact h
      · cases h
    · cases h
/-- Behind an operation. -/
def OpK (m' : PM) (K : Act → World → Prop) (a : Act) (d : Option Nat) (w' : World) : Option Value → Prop
  | some v => ∀ vr, VR m' v vr → K (a.put d vr) w'
  | none => K (a.put d undef) w'
/-- What an operation comes to: a value that is read, an act, a call. -/
theorem op_ok {call : XC} {ops : Array Oper} {i : Nat} {Q : Exit → Act → World → Prop} {K : Act → World → Prop} {a : Act} (hT : TOk T C.P C.O) (hc : CallOk C.P C.O call) (ho : ops[i]? = some o) (hw : wantedB τ ops o = some true)
    (hs : xop T call τ h o = some (ov, h', rs)) (he : ER m τ τr) (ha : EnvOk C.fn.ntmps τr a) (hr : Rep C.O F0 m h w)
    (hK : ∀ m' w', m.le m' → Rep C.O F0 m' h' w' → OpK m' K a o.dst w' ov) : wpOp C.P ops Q i K a w := by
  unfold wpOp
  rw [ho]
  simp only [wanted_ok ha (wanted_er he hw), if_true]
  refine .inl ?_
  unfold Oper.wp
  unfold xop at hs
  split at hs
  · rename_i v rs' hv
    simp only [Option.some.injEq, Prod.mk.injEq] at hs
    obtain ⟨rfl, rfl, rfl⟩ := hs
    obtain ⟨vr, rrs, h1, h2, h3, h4⟩ := xval_ok hT.hP hT.ty he hr hv
    rw [h4 w h3 a w ha ⟨fun _ _ h => h, by simp⟩, Oper.upon_value]
    exact hK m w (PM.le_refl m) hr vr h1
  · split at hs
    · rename_i v h2 hv
      simp only [Option.some.injEq, Prod.mk.injEq] at hs
      obtain ⟨rfl, rfl, rfl⟩ := hs
      obtain ⟨m', w', h1, h2, h3⟩ := xact_ok hT.hP hT.ty he hr hv a ha
      cases v with
      | none =>
        rw [h3, Oper.upon_skip]
        exact hK m' w' h1 h2
      | some v =>
        obtain ⟨vr, h4, h5⟩ := h3
        rw [h5, Oper.upon_value]
        exact hK m' w' h1 h2 vr h4
    · split at hs <;> try (cases hs; done)
      rename_i f args ats hop
      split at hs <;> try (cases hs; done)
      rename_i g vs hcl
      unfold xcalled at hcl
      split at hcl <;> try (cases hcl; done)
      rename_i us hus
      split at hcl <;> try (cases hcl; done)
      rename_i g' first cap hf
      simp only [Option.some.injEq, Prod.mk.injEq] at hcl
      obtain ⟨rfl, rfl⟩ := hcl
      obtain ⟨fr, hfr, hvf⟩ := xev_ok he hf
      obtain ⟨first', cap', hvfirst, hvcap, rfl⟩ := hvf.func_inv
      obtain ⟨us', hus', hvus⟩ := xevs_ok he hus
      have hvs : VRs m (first ++ us ++ cap) (first' ++ us' ++ cap') := (hvfirst.append hvus).append hvcap
      obtain ⟨dst, op, ty, pos, aft, gd⟩ := o
      simp only at hop
      subst hop
      have hargs := evs_eval ha hus'
      have hinv : ∀ r, (callFunc g' (first' ++ us' ++ cap').toArray).run C.P w = r → (execOp a.eval ⟨dst, .call ⟨.value f, ⟨args⟩, ats⟩, ty, pos, aft, gd⟩).run C.P w = r := fun r hr' => by
        have e1 : (({ toList := args } : Array Operand).map a.eval) = us'.toArray := by rw [← hargs]; simp
        have e2 : ({ toList := first' } : Array Value) ++ us'.toArray ++ ({ toList := cap' } : Array Value) = (first' ++ us' ++ cap').toArray := by simp
        simp only [execOp, resolve, Sem.run_bind, e1, ha.eval hfr, Deferred.ofValue]
        simp only [Sem.run_pure, Result.andThen_ok, invoke, e2]
        exact hr'
      cases hext : T.ext g' (first ++ us ++ cap) with
      | some v =>
        rw [hext] at hs
        simp only [Option.some.injEq, Prod.mk.injEq] at hs
        obtain ⟨rfl, rfl, rfl⟩ := hs
        obtain ⟨h1, h2, h3⟩ := hT.ext _ _ _ hext
        have := VRs.ofSc h1 hvs
        have h3' : (callFunc g' (first' ++ us' ++ cap').toArray).run C.P w = .ok (.value v) w := by rw [this]; exact h3 w
        rw [hinv _ h3', Oper.upon_value]
        exact hK m w (PM.le_refl m) hr v (.sc h2)
      | none =>
        rw [hext] at hs
        simp only at hs
        cases hcall : call g' (first ++ us ++ cap) h with
        | none => rw [hcall] at hs; cases hs
        | some p =>
        obtain ⟨v, h2⟩ := p
        rw [hcall] at hs
        simp only [Option.some.injEq, Prod.mk.injEq] at hs
        obtain ⟨rfl, rfl, rfl⟩ := hs
        obtain ⟨hcan, hcalls⟩ := hc _ _ _ _ _ hcall
        rw [hinv _ (callFunc_run hcan _ w), Oper.upon_enter]
        refine (hcalls F0 m _ w hvs hr).mono ?_
        rintro e w' ⟨m', vr, h1, h3, rfl, h4⟩
        exact hK m' w' h1 h4 vr h3
theorem step_ok {call : XC} {ops : Array Oper} {i n : Nat} {Q : Exit → Act → World → Prop} {K : Act → World → Prop} {a : Act} (hT : TOk T C.P C.O) (hc : CallOk C.P C.O call) (hn : C.fn.ntmps = n) (ho : ops[i]? = some o)
    (hs : xstep T call n ops o τ h = some (τ', h', rs)) (he : ER m τ τr) (ha : EnvOk C.fn.ntmps τr a) (hr : Rep C.O F0 m h w)
    (hK : ∀ m' τr' a' w', m.le m' → ER m' τ' τr' → EnvOk C.fn.ntmps τr' a' → Rep C.O F0 m' h' w' → K a' w') : wpOp C.P ops Q i K a w := by
  unfold xstep at hs
  split at hs <;> try (cases hs; done)
  · rename_i hw
    split at hs <;> try (cases hs; done)
    rename_i v h2 rs2 hop
    split at hs <;> try (cases hs; done)
    rename_i τ2 hput
    simp only [Option.some.injEq, Prod.mk.injEq] at hs
    obtain ⟨rfl, rfl, rfl⟩ := hs
    refine op_ok hT hc ho hw hop he ha hr fun m' w' h1 h2 => ?_
    unfold xput1 at hput
    cases v with
    | none =>
      show K _ w'
      split at hput
      · rename_i hd
        simp only [Option.some.injEq] at hput
        subst hput
        rw [hd]
        exact hK m' τr a w' h1 (he.mono h1) ha h2
      · simp at hput
    | some v =>
      intro vr hv
      split at hput
      · rename_i hd
        simp only [Option.some.injEq] at hput
        subst hput
        rw [hd]
        exact hK m' τr a w' h1 (he.mono h1) ha h2
      · rename_i d hd
        simp only at hput
        cases hlt : Nat.blt d n with
        | false => rw [hlt] at hput; simp at hput
        | true =>
          rw [hlt] at hput
          simp only [cond_true, Option.some.injEq] at hput
          subst hput
          rw [hd]
          exact hK m' _ _ w' h1 (.cons hv (he.mono h1)) (ha.put (by rw [hn]; exact Nat.le_of_ble_eq_true hlt) vr) h2
  · rename_i hw
    split at hs <;> try (cases hs; done)
    rename_i d hd
    cases hlt : Nat.blt d n with
    | false => rw [hlt] at hs; simp at hs
    | true =>
      rw [hlt] at hs
      simp only [cond_true, Option.some.injEq, Prod.mk.injEq] at hs
      obtain ⟨rfl, rfl, rfl⟩ := hs
      unfold wpOp
      rw [ho]
      simp only [wanted_ok ha (wanted_er he hw), Bool.false_eq_true, if_false, hd]
      exact hK m _ _ w (PM.le_refl m) (.cons undef_ok he) (ha.put (by rw [hn]; exact Nat.le_of_ble_eq_true hlt) undef) hr
/-- A region in the text's order. -/
theorem ops_ok {call : XC} {ops : Array Oper} {n : Nat} {Q : Exit → Act → World → Prop} (hT : TOk T C.P C.O) (hc : CallOk C.P C.O call) (hn : C.fn.ntmps = n) : ∀ (l : List Oper) (j : Nat) {τ τr : Env} {h : XH} {m : PM} {a : Act} {w : World},
    (∀ k, l[k]? = ops[j + k]?) → xops T call n ops l τ h = some (τ', h') → ER m τ τr → EnvOk C.fn.ntmps τr a → Rep C.O F0 m h w →
    (∀ m' τr' a' w', m.le m' → ER m' τ' τr' → EnvOk C.fn.ntmps τr' a' → Rep C.O F0 m' h' w' → Q .normal a' w') → wpOps C.P ops Q (List.range' j l.length) a w
  | [], j, τ, τr, h, m, a, w, hl, hs, he, ha, hr, hK => by
    simp only [xops, Option.some.injEq, Prod.mk.injEq] at hs
    obtain ⟨rfl, rfl⟩ := hs
    exact hK m τr a w (PM.le_refl m) he ha hr
  | o :: r, j, τ, τr, h, m, a, w, hl, hs, he, ha, hr, hK => by
    simp only [xops] at hs
    split at hs <;> try (cases hs; done)
    rename_i τ2 h2 rs2 hst
    have ho : ops[j]? = some o := by have := hl 0; simpa using this.symm
    rw [List.length_cons, List.range'_succ, wpOps_cons]
    refine step_ok hT hc hn ho hst he ha hr fun m' τr' a' w' h1 he' ha' hr' => ?_
    refine ops_ok hT hc hn r (j + 1) (fun k => ?_) hs he' ha' hr' fun m'' τr'' a'' w'' h1' he'' ha'' hr'' => hK m'' τr'' a'' w'' (PM.le_trans h1 h1') he'' ha'' hr''
    have := hl (k + 1)
    rw [List.getElem?_cons_succ] at this
    rw [this]
    congr 1
    omega
end
end Go.SX
namespace Go.SX
open Go
/-- As wpAny; and, till number z has come up, what is held for z holds behind every operation. -/
def wpAnyM (P : Program) (ops : Array Oper) (Q : Exit → Act → World → Prop) (Ss : List (Nat × (World → Prop))) : Nat → Array Bool → Act → World → Prop
  | 0, listed, a, w => Region.ready .any ops listed = [] ∧ Q .normal a w
  | fuel + 1, listed, a, w => (Region.ready .any ops listed = [] → Q .normal a w) ∧
    ∀ i ∈ Region.ready .any ops listed, wpOp P ops Q i (fun a' w' => (∀ c ∈ Ss, (listed.setIfInBounds i true).getD c.1 false = false → c.2 w') ∧ wpAnyM P ops Q Ss fuel (listed.setIfInBounds i true) a' w') a w
section
variable {P : Program} {ops : Array Oper} {Q : Exit → Act → World → Prop} {Ss Ss' : List (Nat × (World → Prop))}
theorem wpAny_of_M : ∀ (fuel : Nat) (listed : Array Bool) (a : Act) (w : World), wpAnyM P ops Q Ss fuel listed a w → wpAny P .any ops Q fuel listed a w
  | 0, _, _, _, h => h
  | fuel + 1, listed, _, _, h => ⟨h.1, fun i hi => wpOp_mono (fun a' w' h' => wpAny_of_M fuel _ a' w' h'.2) (h.2 i hi)⟩
theorem wpAnyM_mono (hS : ∀ c ∈ Ss, c ∈ Ss') : ∀ (fuel : Nat) (listed : Array Bool) (a : Act) (w : World), wpAnyM P ops Q Ss' fuel listed a w → wpAnyM P ops Q Ss fuel listed a w
  | 0, _, _, _, h => h
  | fuel + 1, listed, _, _, h => ⟨h.1, fun i hi => wpOp_mono (fun a' w' h' => ⟨fun c hc => h'.1 c (hS c hc), wpAnyM_mono hS fuel _ a' w' h'.2⟩) (h.2 i hi)⟩
theorem getD_set (listed : Array Bool) (i k : Nat) (d : Bool) (hk : i ≠ k) : (listed.setIfInBounds i true).getD k d = listed.getD k d := getD_set_ne d hk
theorem wpAnyM_take {z i : Nat} {S : World → Prop} {oi : Oper} {v : Value} (hi : ops[i]? = some oi) (hs : Region.noSelect ops = true) (hQ : ∀ c a w, Q (.panic c) (a.put oi.dst v) w → Q (.panic c) a w)
    (hiz : i ≠ z) (hc : (z, S) ∈ Ss) (hni : ∀ c ∈ Ss, c.1 ≠ i) :
    ∀ (fuel : Nat) (listed : Array Bool) (a : Act) (w : World), (ops[z]? = none ∨ Waits ops i listed z) → listed.getD z false = false →
      (∀ j oj, ops[j]? = some oj → j ≠ i → listed.getD j true = false → (∀ e ∈ oj.after, Region.binds .any e = true → e.on ≠ i) → oi.apart ops oj = true) →
      i ∈ Region.ready .any ops listed → YieldsIf P ops S oi v a → (∀ c ∈ Ss, (listed.setIfInBounds i true).getD c.1 false = false → c.2 w) →
      wpAnyM P ops Q Ss fuel (listed.setIfInBounds i true) (a.put oi.dst v) w → wpAnyM P ops Q Ss (fuel + 1) listed a w := by
  intro fuel
  have self : ∀ (n : Nat) (listed : Array Bool) (a : Act) (w : World), listed.getD z false = false → YieldsIf P ops S oi v a → (∀ c ∈ Ss, (listed.setIfInBounds i true).getD c.1 false = false → c.2 w) → wpAnyM P ops Q Ss n (listed.setIfInBounds i true) (a.put oi.dst v) w →
      wpOp P ops Q i (fun a' w' => (∀ c ∈ Ss, (listed.setIfInBounds i true).getD c.1 false = false → c.2 w') ∧ wpAnyM P ops Q Ss n (listed.setIfInBounds i true) a' w') a w :=
    fun n listed a w hz hy hS H => hy.wpOp hi (hS _ hc (by rw [getD_set _ _ _ _ hiz]; exact hz)) ⟨hS, H⟩
  induction fuel with
  | zero =>
    intro listed a w _ hz _ hr hy hS H
    refine ⟨fun h => (by rw [h] at hr; cases hr), fun j hj => ?_⟩
    by_cases hji : j = i
    · subst hji; exact self 0 listed a w hz hy hS H
    · have := ready_mono hj hji
      rw [H.1] at this
      cases this
  | succ fuel ih =>
    intro listed a w hzw hz hfree hr hy hS H
    refine ⟨fun h => (by rw [h] at hr; cases hr), fun j hj => ?_⟩
    by_cases hji : j = i
    · subst hji; exact self _ listed a w hz hy hS H
    · obtain ⟨hjun, oj, hoj, hall⟩ := mem_ready.1 hj
      have hnot : ∀ e ∈ oj.after, Region.binds .any e = true → e.on ≠ i := fun e he hb heq => by
        have h1 := hall e he hb
        have h0 := (mem_ready.1 hr).1
        rw [heq] at h1
        rcases Nat.lt_or_ge i listed.size with h' | h'
        · simp [h'] at h0 h1; rw [h0] at h1; cases h1
        · simp [Array.getElem?_eq_none h'] at h1
      have hjz : j ≠ z := by
        rintro rfl
        rcases hzw with hzw | hzw
        · rw [hoj] at hzw; cases hzw
        · exact hzw.not_ready hr hj
      refine wpOp_mono (fun a' w' h3 => ?_) (wpOp_putIf hoj (hfree j oj hoj hji hjun hnot) (fun cs b => Region.noSelect_spec hs i oi cs b hi) (fun cs b => Region.noSelect_spec hs j oj cs b hoj) hQ hy (H.2 j (ready_mono hj hji)))
      have h4 := h3.2
      have hcomm : (listed.setIfInBounds j true).setIfInBounds i true = (listed.setIfInBounds i true).setIfInBounds j true := (Array.setIfInBounds_comm _ _ hji)
      have hz' : (listed.setIfInBounds j true).getD z false = false := by rw [getD_set _ _ _ _ hjz]; exact hz
      refine ⟨fun c hcs hlc => ?_, ih (listed.setIfInBounds j true) a' w' (hzw.imp id fun h => h.step hr hj) hz' (fun k ok hk hki hun hno => hfree k ok hk hki ?_ hno) (ready_mono hr (Ne.symm hji)) h3.1 ?_ ?_⟩
      · refine h4.1 c hcs ?_
        rw [← hcomm, getD_set _ _ _ _ (Ne.symm (hni c hcs))]
        exact hlc
      · by_cases hjk : j = k
        · subst hjk; exact hjun
        · rw [getD_set_ne true hjk] at hun; exact hun
      · intro c hcs hlc
        refine h4.1 c hcs ?_
        rw [← hcomm]
        exact hlc
      · rw [hcomm]
        exact h4.2
end
/-! ### How many are left -/
def leftN (L : Array Bool) : Nat := (L.toList.filter fun b => !b).length
theorem filter_set : ∀ (l : List Bool) (j : Nat), l[j]? = some false → ((l.set j true).filter fun b => !b).length + 1 = (l.filter fun b => !b).length
  | [], j, h => by simp at h
  | b :: r, 0, h => by
    simp only [List.getElem?_cons_zero, Option.some.injEq] at h
    subst h
    simp
  | b :: r, j + 1, h => by
    simp only [List.getElem?_cons_succ] at h
    have ih := filter_set r j h
    cases b <;> simp only [List.set_cons_succ, List.filter_cons] <;> simp <;> omega
theorem left_set {L : Array Bool} {j : Nat} (h : L[j]? = some false) : leftN (L.setIfInBounds j true) + 1 = leftN L := by
  unfold leftN
  rw [Array.toList_setIfInBounds]
  exact filter_set _ _ (by simpa using h)
theorem ready_false {ops : Array Oper} {L : Array Bool} {j : Nat} (h : j ∈ Region.ready .any ops L) (hs : L.size = ops.size) : L[j]? = some false := by
  obtain ⟨h1, oj, hoj, _⟩ := mem_ready.1 h
  have hlt : j < L.size := by rw [hs]; exact (Array.getElem?_eq_some_iff.1 hoj).1
  simp [hlt] at h1
  rw [Array.getElem?_eq_getElem hlt, h1]
/-! ### Which of the blocks have come -/
theorem withB_size (L : Array Bool) : ∀ B, (withB L B).size = L.size
  | [] => rfl
  | b :: r => by simp [withB, withB_size L r]
theorem withB_get (L : Array Bool) (j : Nat) : ∀ B, (withB L B)[j]? = if j ∈ B ∧ j < L.size then some true else L[j]?
  | [] => by simp [withB]
  | b :: r => by
    simp only [withB]
    rw [Array.getElem?_setIfInBounds, withB_get L j r, withB_size]
    by_cases hb : b = j
    · subst hb
      by_cases hlt : b < L.size
      · simp [hlt]
      · have : L[b]? = none := Array.getElem?_eq_none (by omega)
        simp [hlt]
    · have : ¬ j = b := fun e => hb e.symm
      simp [hb, this]
end Go.SX
namespace Go.SX
open Go
/-- A new block that may have come. -/
structure Pd where
  i : Nat
  l : List Value
  s : Option (Nat × Nat)
  ds : List Nat
  ex : Option (Nat × Obj)
def rshape (s : Option (Nat × Nat)) (b : Nat) : Value := match s with
  | none => .pointer (some ⟨b, 0, none⟩)
  | some (n, c) => .slice (some ⟨b, 0, none⟩) n c
def PdSt (C : Cx) (F0 G : Fz) (a : Act) (o : Oper) (d : Nat) (lr : List Value) (s : Option (Nat × Nat)) (ds : List Nat) : Option (Nat × Obj) → Prop
  | none => ∃ τop, (∀ F H, Act1 C o τop F H (fun v H' => ∃ b n, v = rshape s b ∧ H' = .mem b lr n :: H)) ∧ EnvOk C.fn.ntmps τop a ∧ ∀ t ∈ ds, τop.get? t = none
  | some (b, ob) => G b = some ob ∧ F0 b = none ∧ (∃ rest e, ob = .cells (lr ++ rest).toArray e (0, 0)) ∧ a.tmps.getD d undef = rshape s b
def PdOk (C : Cx) (F0 G : Fz) (m : PM) (τr : Env) (ops : Array Oper) (a : Act) (p : Pd) : Prop :=
  ∃ o d lr, ops[p.i]? = some o ∧ o.guard = none ∧ o.dst = some d ∧ d < C.fn.ntmps ∧ (∀ n c, p.s = some (n, c) → n ≤ c) ∧ VRs m p.l lr ∧ τr.get? d = none ∧ PdSt C F0 G a o d lr p.s p.ds p.ex
/-- What is held holds. -/
def Cov (m : PM) (listed : Array Bool) (rs : List (Nat × Rd)) (Ss : List (Nat × (World → Prop))) (w : World) : Prop :=
  ∀ c ∈ Ss, listed.getD c.1 false = true ∨ ∃ rs' rrs, (∀ r ∈ rs', (c.1, r) ∈ rs) ∧ RRs m rs' rrs ∧ c.2 = (fun w => ∀ x ∈ rrs, x.holds w) ∧ ∀ x ∈ rrs, x.holds w
structure DI (C : Cx) (ops : Array Oper) (F0 G : Fz) (m : PM) (τ τr : Env) (h : XH) (rs : List (Nat × Rd)) (A : List (Nat × List Value × Option (Nat × Nat))) (As : List (Nat × List Nat)) (Z : List Nat) (Ss : List (Nat × (World → Prop)))
    (listed : Array Bool) (PL : List Pd) (a : Act) (w : World) : Prop where
  pa : PL.map (fun p => (p.i, p.l, p.s)) = A
  ps : PL.map (fun p => (p.i, p.ds)) = As
  ok : ∀ p ∈ PL, PdOk C F0 G m τr ops a p
  pw : ∀ p ∈ PL, ∀ q ∈ PL, p.i ≠ q.i → ∀ d, dstOf ops p.i = some d → d ∈ q.ds ∧ dstOf ops q.i ≠ some d
  nd : (PL.map (·.i)).Nodup
  bd : ∀ p ∈ PL, ∀ q ∈ PL, ∀ b o o', p.ex = some (b, o) → q.ex = some (b, o') → p.i = q.i
  un : ∀ p ∈ PL, listed.getD p.i true = false
  le : F0.le G
  rep : Rep C.O G m h w
  er : ER m τ τr
  env : EnvOk C.fn.ntmps τr a
  cov : Cov m listed rs Ss w
  zs : ∀ c ∈ Ss, c.1 ∈ Z
  sz : listed.size = ops.size
def came (PL : List Pd) : List Nat := (PL.filter fun p => p.ex.isSome).map (·.i)
theorem came_sub : ∀ (PL : List Pd), came PL ∈ psub (PL.map (·.i))
  | [] => by simp [came, psub]
  | p :: r => by
    have ih := came_sub r
    simp only [came, List.filter_cons, List.map_cons, psub, List.mem_append, List.mem_map] at ih ⊢
    cases p.ex.isSome with
    | true => exact .inr ⟨_, ih, rfl⟩
    | false => exact .inl ih
theorem came_iff {PL : List Pd} {j : Nat} : j ∈ came PL ↔ ∃ p ∈ PL, p.i = j ∧ p.ex.isSome = true := by
  simp only [came, List.mem_map, List.mem_filter]
  constructor
  · rintro ⟨p, ⟨h1, h2⟩, rfl⟩; exact ⟨p, h1, rfl, h2⟩
  · rintro ⟨p, h1, rfl, h2⟩; exact ⟨p, ⟨h1, h2⟩, rfl⟩
section
variable {T : Tab} {C : Cx} {ops : Array Oper} {F0 G : Fz} {m : PM} {h h' : XH} {w : World} {τ τ' τr : Env} {a : Act} {Q : Exit → Act → World → Prop}
  {rs : List (Nat × Rd)} {A : List (Nat × List Value × Option (Nat × Nat))} {As : List (Nat × List Nat)} {Z : List Nat} {Ss : List (Nat × (World → Prop))} {listed : Array Bool} {PL : List Pd}
theorem same_i {p q : Pd} (hnd : (PL.map (·.i)).Nodup) (hp : p ∈ PL) (hq : q ∈ PL) (he : p.i = q.i) : p = q := by
  obtain ⟨i, hi⟩ := List.mem_iff_getElem?.1 hp
  obtain ⟨j, hj⟩ := List.mem_iff_getElem?.1 hq
  have h1 : (PL.map (·.i))[i]? = some p.i := by simp [hi]
  have h2 : (PL.map (·.i))[j]? = some p.i := by simp [hj, he]
  have := nodup_inj hnd h1 h2
  subst this
  rw [hi] at hj
  simpa using hj
theorem env_other {d : Nat} {v : Value} {τx : Env} (ha : EnvOk C.fn.ntmps τx a) (hd : τx.get? d = none) : EnvOk C.fn.ntmps τx (a.put (some d) v) := by
  refine ⟨by simp [Act.put, ha.size], by simp [Act.put, ha.defers], fun t u hu => ?_⟩
  obtain ⟨h1, h2⟩ := ha.get t u hu
  have hne : d ≠ t := by rintro rfl; rw [hd] at hu; cases hu
  refine ⟨h1, ?_⟩
  simp only [Act.put]
  rw [Array.getD_eq_getD_getElem?, Array.getElem?_setIfInBounds_ne hne, ← Array.getD_eq_getD_getElem?]
  exact h2
theorem slot_other {d d' : Nat} {v : Value} (hd : d ≠ d') : (a.put (some d) v).tmps.getD d' undef = a.tmps.getD d' undef := by
  simp only [Act.put]
  rw [Array.getD_eq_getD_getElem?, Array.getElem?_setIfInBounds_ne hd, ← Array.getD_eq_getD_getElem?]
theorem slot_same {d : Nat} {v : Value} (hd : d < a.tmps.size) : (a.put (some d) v).tmps.getD d undef = v := by
  simp [Act.put, hd]
theorem Rr.mono {x : Rr} {w w' : World} (hx : x.holds w) (hw : ∀ (b : Nat) (o : Obj), w.heap[b]? = some o → w'.heap[b]? = some o) : x.holds w' := by
  cases x with
  | cs b off vs =>
    intro i v hv
    have := hx i v hv
    unfold World.cell? at this ⊢
    cases hb : w.heap[b]? with
    | none => simp [hb] at this
    | some o =>
      rw [hw b o hb]
      simp only [hb] at this
      exact this
  | ob b o => exact hw b o hx
theorem Cov.ext {w' : World} {m' : PM} (hm : m.le m') (hc : Cov m listed rs Ss w) (hw : ∀ (b : Nat) (o : Obj), w.heap[b]? = some o → w'.heap[b]? = some o) : Cov m' listed rs Ss w' := fun c hcs => by
  rcases hc c hcs with h1 | ⟨rs', rrs, h1, h2, h3, h4⟩
  · exact .inl h1
  · refine .inr ⟨rs', rrs, h1, ?_, h3, fun x hx => Rr.mono (h4 x hx) hw⟩
    clear h1 h3 h4
    induction h2 with
    | nil => exact .nil
    | cons q _ ih => exact .cons (q.mono hm) ih
/-- All that is active holds now. -/
theorem Cov.now {L : Array Bool} (hc : Cov m listed rs Ss w) (hL : ∀ j, L.getD j false = false → listed.getD j false = false) : ∀ c ∈ Ss, L.getD c.1 false = false → c.2 w := fun c hcs hl => by
  rcases hc c hcs with h1 | ⟨rs', rrs, h1, h2, h3, h4⟩
  · rw [hL _ hl] at h1; cases h1
  · rw [h3]; exact h4
theorem withB_down {B : List Nat} {j : Nat} (h : (withB listed B).getD j false = false) : listed.getD j false = false := by
  rw [Array.getD_eq_getD_getElem?, withB_get] at h
  rw [Array.getD_eq_getD_getElem?]
  split at h
  · simp at h
  · exact h
theorem set_down {L : Array Bool} {i j : Nat} (h : (L.setIfInBounds i true).getD j false = false) : L.getD j false = false := by
  rw [Array.getD_eq_getD_getElem?, Array.getElem?_setIfInBounds] at h
  rw [Array.getD_eq_getD_getElem?]
  split at h
  · rename_i hij
    subst hij
    split at h
    · simp at h
    · rename_i hlt; rw [Array.getElem?_eq_none (by omega)]; rfl
  · exact h
/-- A block comes. -/
theorem float_ok {K : Act → World → Prop} {j : Nat} (hd : DI C ops F0 G m τ τr h rs A As Z Ss listed PL a w) {p : Pd} (hp : p ∈ PL) (hj : p.i = j) (hex : p.ex = none)
    (hK : ∀ G' a' w' PL', DI C ops F0 G' m τ τr h rs A As Z Ss listed PL' a' w' → (∀ k, k ∈ came PL' ↔ k ∈ came PL ∨ k = j) → K a' w') : wpOp C.P ops Q j K a w := by
  subst hj
  obtain ⟨o, d, lr, ho, hg, hds, hdn, hsn, hv, hτ, hst⟩ := hd.ok p hp
  rw [hex] at hst
  obtain ⟨τop, hact, henv, htop⟩ := hst
  obtain ⟨v, H', w', hrun, ⟨b, n, hvb, hH⟩, hS⟩ := hact (allW w) [] a w henv hd.rep.all
  subst hvb hH
  unfold wpOp
  rw [ho]
  have hwant : Region.wanted o (yielded ops a.tmps) = true := by simp [Region.wanted, hg]
  simp only [hwant, if_true]
  refine .inl ?_
  unfold Oper.wp
  rw [hrun, Oper.upon_value, hds]
  obtain ⟨rest, e, hb, _⟩ := hS.own _ (List.mem_singleton.2 rfl)
  have hfresh : w.heap[b]? = none := hS.ap (.mem b lr n) (List.mem_singleton.2 rfl)
  have hGb : G b = none := by
    cases hq : G b with
    | none => rfl
    | some o' => have := hd.rep.frz b o' hq; rw [hfresh] at this; cases this
  have hFb : F0 b = none := by
    cases hq : F0 b with
    | none => rfl
    | some o' => have := hd.le b o' hq; rw [hGb] at this; cases this
  have hext : ∀ x o', w.heap[x]? = some o' → w'.heap[x]? = some o' := fun x o' hx => hS.frz x o' hx
  have hds2 : dstOf ops p.i = some d := by simp [dstOf, ho, hds]
  refine hK (fun x => if x = b then some (.cells (lr ++ rest).toArray e (0, 0)) else G x) _ w' (PL.map fun q => if q.i = p.i then { q with ex := some (b, .cells (lr ++ rest).toArray e (0, 0)) } else q) ⟨?_, ?_, ?_, ?_, ?_, ?_, ?_, ?_, ?_, hd.er, env_other hd.env hτ, Cov.ext (PM.le_refl m) hd.cov hext, hd.zs, hd.sz⟩ ?_
  · rw [List.map_map, ← hd.pa]
    apply List.map_congr_left
    intro q hq
    simp only [Function.comp]
    split <;> rfl
  · rw [List.map_map, ← hd.ps]
    apply List.map_congr_left
    intro q hq
    simp only [Function.comp]
    split <;> rfl
  · intro q' hq'
    obtain ⟨q, hq, rfl⟩ := List.mem_map.1 hq'
    by_cases hqi : q.i = p.i
    · have := same_i hd.nd hq hp hqi
      subst this
      rw [if_pos rfl]
      refine ⟨o, d, lr, ho, hg, hds, hdn, hsn, hv, hτ, ?_⟩
      exact ⟨by simp, hFb, ⟨rest, e, rfl⟩, slot_same (by rw [hd.env.size]; exact hdn)⟩
    · rw [if_neg hqi]
      obtain ⟨o2, d2, lr2, g1, g2, g3, g4, g5, g6, g7, g8⟩ := hd.ok q hq
      have hpw := hd.pw p hp q hq (fun e => hqi e.symm) d hds2
      have hdd : d ≠ d2 := by
        rintro rfl
        exact hpw.2 (by simp [dstOf, g1, g3])
      refine ⟨o2, d2, lr2, g1, g2, g3, g4, g5, g6, g7, ?_⟩
      cases hqe : q.ex with
      | none =>
        rw [hqe] at g8
        obtain ⟨τq, k1, k2, k3⟩ := g8
        exact ⟨τq, k1, env_other k2 (k3 d hpw.1), k3⟩
      | some x =>
        obtain ⟨b2, ob2⟩ := x
        rw [hqe] at g8
        obtain ⟨k1, k2, k3, k4⟩ := g8
        have hne : b2 ≠ b := by rintro rfl; rw [hGb] at k1; cases k1
        exact ⟨by simp [hne, k1], k2, k3, by rw [slot_other hdd]; exact k4⟩
  · intro q1 h1 q2 h2 hne d1 hd1
    obtain ⟨r1, hr1, rfl⟩ := List.mem_map.1 h1
    obtain ⟨r2, hr2, rfl⟩ := List.mem_map.1 h2
    have e1 : (if r1.i = p.i then { r1 with ex := some (b, Obj.cells (lr ++ rest).toArray e (0, 0)) } else r1).i = r1.i := by split <;> rfl
    have e2 : (if r2.i = p.i then { r2 with ex := some (b, Obj.cells (lr ++ rest).toArray e (0, 0)) } else r2).i = r2.i := by split <;> rfl
    have e3 : (if r2.i = p.i then { r2 with ex := some (b, Obj.cells (lr ++ rest).toArray e (0, 0)) } else r2).ds = r2.ds := by split <;> rfl
    rw [e1] at hne hd1
    rw [e2] at hne ⊢
    rw [e3]
    exact hd.pw r1 hr1 r2 hr2 hne d1 hd1
  · have : (PL.map fun q => if q.i = p.i then { q with ex := some (b, Obj.cells (lr ++ rest).toArray e (0, 0)) } else q).map (·.i) = PL.map (·.i) := by
      rw [List.map_map]
      apply List.map_congr_left
      intro q _
      simp only [Function.comp]
      split <;> rfl
    rw [this]
    exact hd.nd
  · intro q1 h1 q2 h2 b1 o1 o1' hx1 hx2
    obtain ⟨r1, hr1, rfl⟩ := List.mem_map.1 h1
    obtain ⟨r2, hr2, rfl⟩ := List.mem_map.1 h2
    have old : ∀ r ∈ PL, ∀ b' o', r.ex = some (b', o') → b' ≠ b := fun r hr b' o' hx => by
      obtain ⟨_, _, _, _, _, _, _, _, _, _, g8⟩ := hd.ok r hr
      rw [hx] at g8
      have k1 : G b' = some o' := g8.1
      rintro rfl
      rw [hGb] at k1
      cases k1
    by_cases c1 : r1.i = p.i
    · by_cases c2 : r2.i = p.i
      · rw [if_pos c1, if_pos c2]
        exact c1.trans c2.symm
      · rw [if_pos c1] at hx1
        rw [if_neg c2] at hx2
        simp only [Option.some.injEq, Prod.mk.injEq] at hx1
        exact absurd hx1.1.symm (old r2 hr2 _ _ hx2)
    · by_cases c2 : r2.i = p.i
      · rw [if_neg c1] at hx1
        rw [if_pos c2] at hx2
        simp only [Option.some.injEq, Prod.mk.injEq] at hx2
        exact absurd hx2.1.symm (old r1 hr1 _ _ hx1)
      · rw [if_neg c1] at hx1 ⊢
        rw [if_neg c2] at hx2 ⊢
        exact hd.bd r1 hr1 r2 hr2 b1 o1 o1' hx1 hx2
  · intro q' hq'
    obtain ⟨q, hq, rfl⟩ := List.mem_map.1 hq'
    have e1 : (if q.i = p.i then { q with ex := some (b, Obj.cells (lr ++ rest).toArray e (0, 0)) } else q).i = q.i := by split <;> rfl
    rw [e1]
    exact hd.un q hq
  · intro x o' hx
    have hne : x ≠ b := by rintro rfl; rw [hFb] at hx; cases hx
    simp only [if_neg hne]
    exact hd.le x o' hx
  · refine ⟨hS.os, hS.tape, hS.output, fun x o' hx => ?_, hd.rep.lim, hd.rep.dom, fun k blk hk => Blk.holds_mono (PM.le_refl m) (hd.rep.own k blk hk) (fun b' x o' _ ho => hext b' o' ho), fun k blk b' x hk hm => ?_, hd.rep.inj⟩
    · split at hx
      · rename_i hxb
        simp only [Option.some.injEq] at hx
        subst hxb hx
        exact hb
      · exact hext x o' (hd.rep.frz x o' hx)
    · have hne : b' ≠ b := by
        rintro rfl
        obtain ⟨b2, x2, o2, k1, k2⟩ := Blk.holds_dom (hd.rep.own k blk hk)
        rw [hm] at k1
        cases k1
        rw [hfresh] at k2; cases k2
      simp only [if_neg hne]
      exact hd.rep.ap k blk b' x hk hm
  · intro k
    rw [came_iff, came_iff]
    constructor
    · rintro ⟨q', hq', hk, hxs⟩
      obtain ⟨q, hq, rfl⟩ := List.mem_map.1 hq'
      by_cases c : q.i = p.i
      · rw [if_pos c] at hk
        exact .inr (hk ▸ c)
      · rw [if_neg c] at hk hxs
        exact .inl ⟨q, hq, hk, hxs⟩
    · rintro (⟨q, hq, hk, hxs⟩ | rfl)
      · refine ⟨_, List.mem_map.2 ⟨q, hq, rfl⟩, ?_, ?_⟩
        · split <;> exact hk
        · split
          · rfl
          · exact hxs
      · exact ⟨_, List.mem_map.2 ⟨p, hp, rfl⟩, by rw [if_pos rfl], by rw [if_pos rfl]; rfl⟩
end
end Go.SX
namespace Go.SX
open Go
/-! ### What was read, looked at again -/
theorem veq_eq {v u : Value} (h : veq v u = true) : v = u := by
  unfold veq at h
  split at h <;> first
    | (simp only [Bool.and_eq_true, decide_eq_true_eq, beq_iff_eq] at h
       first
         | (obtain ⟨⟨h1, h2⟩, h3⟩ := h; have h2 := beq_true h2; have h3 := beq_true h3; subst h1 h2 h3; rfl)
         | (obtain ⟨h1, h2⟩ := h; subst h1 h2; rfl)
         | (obtain ⟨h1, h2⟩ := h; have h2 := beq_true h2; subst h1 h2; rfl)
         | (subst h; rfl))
    | rfl
    | cases h
theorem veqs_eq : ∀ {l r : List Value}, veqs l r = true → l = r
  | [], [], _ => rfl
  | [], _ :: _, h => by simp [veqs] at h
  | _ :: _, [], h => by simp [veqs] at h
  | v :: l, u :: r, h => by
    simp only [veqs, Bool.and_eq_true] at h
    rw [veq_eq h.1, veqs_eq h.2]
theorem veq2_eq {v u : Value} (h : veq2 v u = true) : v = u := by
  unfold veq2 at h
  split at h
  · rw [veqs_eq h]
  · exact veq_eq h
theorem eeqs_eq : ∀ {l r : List MapEntry}, eeqs l r = true → l = r
  | [], [], _ => rfl
  | [], _ :: _, h => by simp [eeqs] at h
  | _ :: _, [], h => by simp [eeqs] at h
  | d :: l, e :: r, h => by
    simp only [eeqs, Bool.and_eq_true] at h
    obtain ⟨⟨⟨h1, h2⟩, h3⟩, h4⟩ := h
    have g1 := veq2_eq h1
    have g2 := veq2_eq h2
    have g3 := beq_true h3
    clear h1 h2 h3
    cases d
    cases e
    simp only at g1 g2 g3
    subst g1 g2 g3
    rw [eeqs_eq h4]
theorem VEs.fn {m : PM} : ∀ {l l' : List MapEntry}, VEs m l l' → ∀ {u : List MapEntry}, VEs m l u → l' = u
  | _, _, .nil, u, h2 => by cases h2; rfl
  | _, _, .cons (e' := e') hk hv hb h, u, h2 => by
    cases h2 with
    | cons hk2 hv2 hb2 h2 =>
      rename_i e2 l2
      rw [VEs.fn h h2]
      have q1 := hk.fn hk2
      have q2 := hv.fn hv2
      cases e'
      cases e2
      simp only at q1 q2 hb hb2
      subst q1 q2
      rw [hb, hb2]
section
variable {T : Tab} {C : Cx} {ops : Array Oper} {F0 G : Fz} {m m' : PM} {h h' : XH} {w w' : World} {τ τ' τr : Env} {a : Act} {Q : Exit → Act → World → Prop}
  {rs rs' : List (Nat × Rd)} {A : List (Nat × List Value × Option (Nat × Nat))} {As : List (Nat × List Nat)} {Z Z' : List Nat} {Ss Ss' : List (Nat × (World → Prop))} {listed : Array Bool} {PL : List Pd} {o : Oper} {v : Value}
theorem rd_ok {O : World} {r : Rd} {x : Rr} (hq : rdOk h r = true) (hx : RR m r x) (hr : Rep O F0 m h w) : x.holds w := by
  unfold rdOk at hq
  split at hq <;> try (cases hq; done)
  · rename_i k off vs
    cases hx with
    | cs hm hv =>
    rename_i b oo K vrs
    have main : ∀ cs sz, (h.get k = some (.mem cs sz) ∨ h.get k = some (.fz cs)) → ∀ l, xcut cs off vs.length = some l → veqs vs l = true → Rr.holds w (.cs b (oo + off) vrs) := fun cs sz hg l hc hv2 => by
      have := veqs_eq hv2
      subst this
      obtain ⟨b', oo', K', vrs', hm', hv', hh, hlen⟩ := cells_of hr hg hc
      rw [hm] at hm'
      cases hm'
      rw [hv.fn hv']
      exact hh
    split at hq <;> try (cases hq; done)
    · rename_i cs sz hg
      split at hq <;> try (cases hq; done)
      rename_i l hc
      exact main cs sz (.inl hg) l hc hq
    · rename_i cs hg
      split at hq <;> try (cases hq; done)
      rename_i l hc
      exact main cs 0 (.inr hg) l hc hq
  · rename_i k es c
    cases hx with
    | map hm hv =>
    split at hq <;> try (cases hq; done)
    rename_i es' c' hg
    simp only [Bool.and_eq_true] at hq
    have h1 := beq_true hq.1
    have h2 := eeqs_eq hq.2
    subst h1 h2
    obtain ⟨b', K', es2, hm', hv', hb⟩ := hr.own _ _ hg
    rw [hm] at hm'
    cases hm'
    rw [hv.fn hv']
    exact hb
def consE (d : Option Nat) (v : Value) (τ : Env) : Env := match d with
  | some d => (d, v) :: τ
  | none => τ
theorem env_cons {d : Option Nat} {v : Value} (ha : EnvOk C.fn.ntmps τr a) (hd : ∀ x, d = some x → x < C.fn.ntmps) : EnvOk C.fn.ntmps (consE d v τr) (a.put d v) := by
  cases d with
  | none => exact ha
  | some d => exact ha.put (hd d rfl) v
/-- One step, and what is written. -/
theorem step_ok2 {call : XC} {i n : Nat} {K : Act → World → Prop} {rs1 : List Rd} (hT : TOk T C.P C.O) (hc : CallOk C.P C.O call) (hn : C.fn.ntmps = n) (ho : ops[i]? = some o)
    (hs : xstep T call n ops o τ h = some (τ', h', rs1)) (he : ER m τ τr) (ha : EnvOk C.fn.ntmps τr a) (hr : Rep C.O F0 m h w)
    (hK : ∀ m' vr w', m.le m' → ER m' τ' (consE o.dst vr τr) → (∀ x, o.dst = some x → x < C.fn.ntmps) → Rep C.O F0 m' h' w' → K (a.put o.dst vr) w') : wpOp C.P ops Q i K a w := by
  unfold xstep at hs
  split at hs <;> try (cases hs; done)
  · rename_i hw
    split at hs <;> try (cases hs; done)
    rename_i v h2 rs2 hop
    split at hs <;> try (cases hs; done)
    rename_i τ2 hput
    simp only [Option.some.injEq, Prod.mk.injEq] at hs
    obtain ⟨rfl, rfl, rfl⟩ := hs
    refine op_ok hT hc ho hw hop he ha hr fun m' w' h1 h2 => ?_
    unfold xput1 at hput
    cases v with
    | none =>
      split at hput
      · rename_i hd
        simp only [Option.some.injEq] at hput
        subst hput
        exact hK m' undef w' h1 (by rw [hd]; exact he.mono h1) (by rw [hd]; simp) h2
      · simp at hput
    | some v =>
      intro vr hv
      split at hput
      · rename_i hd
        simp only [Option.some.injEq] at hput
        subst hput
        exact hK m' vr w' h1 (by rw [hd]; exact he.mono h1) (by rw [hd]; simp) h2
      · rename_i d hd
        simp only at hput
        cases hlt : Nat.blt d n with
        | false => rw [hlt] at hput; simp at hput
        | true =>
          rw [hlt] at hput
          simp only [cond_true, Option.some.injEq] at hput
          subst hput
          exact hK m' vr w' h1 (by rw [hd]; exact .cons hv (he.mono h1)) (by rw [hd, hn]; intro x hx; cases hx; exact Nat.le_of_ble_eq_true hlt) h2
  · rename_i hw
    split at hs <;> try (cases hs; done)
    rename_i d hd
    cases hlt : Nat.blt d n with
    | false => rw [hlt] at hs; simp at hs
    | true =>
      rw [hlt] at hs
      simp only [cond_true, Option.some.injEq, Prod.mk.injEq] at hs
      obtain ⟨rfl, rfl, rfl⟩ := hs
      unfold wpOp
      rw [ho]
      simp only [wanted_ok ha (wanted_er he hw), Bool.false_eq_true, if_false]
      exact hK m undef w (PM.le_refl m) (by rw [hd]; exact .cons undef_ok he) (by rw [hd, hn]; intro x hx; cases hx; exact Nat.le_of_ble_eq_true hlt) hr
theorem PdOk.put {q : Pd} {d' : Nat} {v : Value} (hq : PdOk C F0 G m τr ops a q) (hm : m.le m') (h1 : dstOf ops q.i ≠ some d') (h2 : d' ∈ q.ds) : PdOk C F0 G m' ((d', v) :: τr) ops (a.put (some d') v) q := by
  obtain ⟨o, d, lr, g1, g2, g3, g4, g5, g6, g7, g8⟩ := hq
  have hdd : d' ≠ d := by
    rintro rfl
    exact h1 (by simp [dstOf, g1, g3])
  refine ⟨o, d, lr, g1, g2, g3, g4, g5, g6.mono hm, ?_, ?_⟩
  · simp only [Env.get?]
    have : Nat.beq d d' = false := by
      cases hb : Nat.beq d d' with
      | false => rfl
      | true => exact absurd (beq_true hb).symm hdd
    rw [this]
    exact g7
  · cases hx : q.ex with
    | none =>
      rw [hx] at g8
      obtain ⟨τq, k1, k2, k3⟩ := g8
      exact ⟨τq, k1, env_other k2 (k3 d' h2), k3⟩
    | some x =>
      obtain ⟨b2, ob2⟩ := x
      rw [hx] at g8
      obtain ⟨k1, k2, k3, k4⟩ := g8
      exact ⟨k1, k2, k3, by rw [slot_other hdd]; exact k4⟩
theorem PdOk.le {q : Pd} (hq : PdOk C F0 G m τr ops a q) (hm : m.le m') : PdOk C F0 G m' τr ops a q := by
  obtain ⟨o, d, lr, g1, g2, g3, g4, g5, g6, g7, g8⟩ := hq
  exact ⟨o, d, lr, g1, g2, g3, g4, g5, g6.mono hm, g7, g8⟩
theorem okDst_ok {i d : Nat} (hk : okDst ops As i = true) (hd : dstOf ops i = some d) {p : Pd} (hp : (p.i, p.ds) ∈ As) (hne : p.i ≠ i) : d ∈ p.ds ∧ dstOf ops p.i ≠ some d := by
  unfold okDst at hk
  rw [hd] at hk
  simp only at hk
  have := List.all_eq_true.1 hk _ hp
  simp only [Bool.or_eq_true, Bool.and_eq_true, Bool.not_eq_true'] at this
  rcases this with h1 | ⟨h1, h2⟩
  · exact absurd (beq_true h1) hne
  · refine ⟨by simpa using h1, fun hx => ?_⟩
    rw [hx] at h2
    simp at h2
/-- Behind an operation that is no new block's. -/
theorem DI.step {i : Nat} {vr : Value} (hd : DI C ops F0 G m τ τr h rs A As Z Ss listed PL a w) (hi : ∀ p ∈ PL, p.i ≠ i) (hk : okDst ops As i = true) (ho : ops[i]? = some o) (hm : m.le m') (her : ER m' τ' (consE o.dst vr τr)) (hdn : ∀ x, o.dst = some x → x < C.fn.ntmps)
    (hrep : Rep C.O G m' h' w') (hcov : Cov m' (listed.setIfInBounds i true) rs' Ss' w') (hz : ∀ c ∈ Ss', c.1 ∈ Z') : DI C ops F0 G m' τ' (consE o.dst vr τr) h' rs' A As Z' Ss' (listed.setIfInBounds i true) PL (a.put o.dst vr) w' := by
  refine ⟨hd.pa, hd.ps, fun p hp => ?_, hd.pw, hd.nd, hd.bd, fun p hp => ?_, hd.le, hrep, her, env_cons hd.env hdn, hcov, hz, by simp [hd.sz]⟩
  · cases hds : o.dst with
    | none => exact (hd.ok p hp).le hm
    | some d =>
      have h1 : dstOf ops i = some d := by simp [dstOf, ho, hds]
      have h2 : (p.i, p.ds) ∈ As := by rw [← hd.ps]; exact List.mem_map.2 ⟨p, hp, rfl⟩
      obtain ⟨h3, h4⟩ := okDst_ok hk h1 h2 (hi p hp)
      exact (hd.ok p hp).put hm h4 h3
  · rw [getD_set _ _ _ _ (fun e => hi p hp e.symm)]
    exact hd.un p hp
/-- A block that has come is taken up. -/
theorem sink_ok {p : Pd} {b k : Nat} {ob : Obj} (hd : DI C ops F0 G m τ τr h rs A As Z Ss listed PL a w) (hp : p ∈ PL) (hex : p.ex = some (b, ob)) (hh : h.new (some (.mem p.l 0)) = some (k, h')) {d : Nat} (hdst : dstOf ops p.i = some d) :
    ∃ G' m', m.le m' ∧ DI C ops F0 G' m' ((d, shaped p.s k) :: τ) ((d, rshape p.s b) :: τr) h' rs (A.filter fun x => !(Nat.beq x.1 p.i)) (As.filter fun x => !(Nat.beq x.1 p.i)) Z Ss (listed.setIfInBounds p.i true) (PL.filter fun q => !(Nat.beq q.i p.i)) a w := by
  obtain ⟨o, d2, lr, g1, g2, g3, g4, g5, g6, g7, g8⟩ := hd.ok p hp
  have hdd : d2 = d := by simpa [dstOf, g1, g3] using hdst
  subst hdd
  rw [hex] at g8
  obtain ⟨k1, k2, ⟨rest, e, rfl⟩, k4⟩ := g8
  obtain ⟨h1, h2, h3, h4⟩ := XH.new_ok hh
  subst h1
  have hle := PM.ext_le (x := (b, 0, 0)) hd.rep.fresh
  have hb := hd.rep.frz _ _ k1
  have hsub : ∀ q, q ∈ PL.filter (fun q => !(Nat.beq q.i p.i)) → q ∈ PL ∧ q.i ≠ p.i := fun q hq => by
    obtain ⟨q1, q2⟩ := List.mem_filter.1 hq
    refine ⟨q1, fun e => ?_⟩
    rw [e] at q2
    simp at q2
  have hold : ∀ j blk, h'.get j = some blk → j ≠ h.nx → h.get j = some blk := fun j blk hj hne => by
    rw [h4, if_neg hne] at hj
    exact hj
  have hrep : Rep C.O (fun x => if x = b then none else G x) (m.ext h.nx (b, 0, 0)) h' w := by
    refine ⟨hd.rep.os, hd.rep.tape, hd.rep.output, fun x o' hx => ?_, by omega, fun j y hj => ?_, fun j blk hj => ?_, fun j blk b' x hj hm => ?_, fun j j' blk blk' b' x x' hj hj' hm hm' => ?_⟩
    · split at hx
      · cases hx
      · exact hd.rep.frz x o' hx
    · unfold PM.ext at hj
      split at hj
      · omega
      · have := hd.rep.dom _ _ hj; omega
    · by_cases hjn : j = h.nx
      · subst hjn
        rw [h4, if_pos rfl] at hj
        cases hj
        exact ⟨b, 0, lr, rest, e, PM.ext_at _ _ _, g6.mono hle, hb, fun h => absurd rfl h⟩
      · exact Blk.holds_mono hle (hd.rep.own _ _ (hold j blk hj hjn)) (fun _ _ _ _ h => h)
    · by_cases hjn : j = h.nx
      · subst hjn
        rw [PM.ext_at] at hm
        cases hm
        simp
      · simp only [PM.ext, if_neg hjn] at hm
        split
        · rfl
        · exact hd.rep.ap j blk b' x (hold j blk hj hjn) hm
    · have ne : ∀ j blk x, h'.get j = some blk → j ≠ h.nx → (m.ext h.nx (b, 0, 0)) j = some (b, x) → False := fun j blk x hj hjn hm => by
        simp only [PM.ext, if_neg hjn] at hm
        have := hd.rep.ap j blk b x (hold j blk hj hjn) hm
        rw [k1] at this; cases this
      by_cases hjn : j = h.nx
      · by_cases hjn' : j' = h.nx
        · rw [hjn, hjn']
        · subst hjn
          rw [PM.ext_at] at hm
          cases hm
          exact absurd (ne j' blk' _ hj' hjn' hm') id
      · by_cases hjn' : j' = h.nx
        · subst hjn'
          rw [PM.ext_at] at hm'
          cases hm'
          exact absurd (ne j blk _ hj hjn hm) id
        · simp only [PM.ext, if_neg hjn] at hm
          simp only [PM.ext, if_neg hjn'] at hm'
          exact hd.rep.inj j j' blk blk' b' x x' (hold j blk hj hjn) (hold j' blk' hj' hjn') hm hm'
  refine ⟨_, _, hle, ⟨?_, ?_, fun q hq => ?_, fun q1 h1 q2 h2 => hd.pw q1 (hsub q1 h1).1 q2 (hsub q2 h2).1, ?_, fun q1 h1 q2 h2 => hd.bd q1 (hsub q1 h1).1 q2 (hsub q2 h2).1, fun q hq => ?_, fun x o' hx => ?_, hrep, ?_, ?_, ?_, hd.zs, by simp [hd.sz]⟩⟩
  · rw [← hd.pa, List.filter_map]
    rfl
  · rw [← hd.ps, List.filter_map]
    rfl
  · obtain ⟨q1, q2⟩ := hsub q hq
    obtain ⟨o2, d2', lr2, f1, f2, f3, f4, f5, f6, f7, f8⟩ := hd.ok q q1
    have hpw := hd.pw p hp q q1 (fun e => q2 e.symm) _ hdst
    have hdd : d2 ≠ d2' := by
      rintro rfl
      exact hpw.2 (by simp [dstOf, f1, f3])
    refine ⟨o2, d2', lr2, f1, f2, f3, f4, f5, f6.mono hle, ?_, ?_⟩
    · simp only [Env.get?]
      have : Nat.beq d2' d2 = false := by
        cases hbq : Nat.beq d2' d2 with
        | false => rfl
        | true => exact absurd (beq_true hbq).symm hdd
      rw [this]
      exact f7
    · cases hx : q.ex with
      | none => rw [hx] at f8; exact f8
      | some x =>
        obtain ⟨b2, ob2⟩ := x
        rw [hx] at f8
        obtain ⟨m1, m2, m3, m4⟩ := f8
        have hne : b2 ≠ b := by
          rintro rfl
          exact q2 (hd.bd q q1 p hp _ _ _ hx hex)
        exact ⟨by simp [hne, m1], m2, m3, m4⟩
  · exact (List.Sublist.map _ List.filter_sublist).nodup hd.nd
  · obtain ⟨q1, q2⟩ := hsub q hq
    rw [getD_set _ _ _ _ (fun e => q2 e.symm)]
    exact hd.un q q1
  · have hne : x ≠ b := by rintro rfl; rw [k2] at hx; cases hx
    simp only [if_neg hne]
    exact hd.le x o' hx
  · refine .cons ?_ (hd.er.mono hle)
    have hm := PM.ext_at m h.nx (b, 0, 0)
    cases hs : p.s with
    | none => exact .ptr (off := 0) hm
    | some x =>
      obtain ⟨n, c⟩ := x
      have hc : cpOf 0 (Nat.mul 2 c) = c := by
        have e1 : Nat.mul 2 c = 2 * c := rfl
        simp [cpOf, e1]
      have := VR.sl (m := m.ext h.nx (b, 0, 0)) (off := 0) (s := none) (n := n) (c := Nat.mul 2 c) hm (by rw [hc]; exact g5 n c hs)
      rw [hc] at this
      exact this
  · refine ⟨hd.env.size, hd.env.defers, fun t u hu => ?_⟩
    simp only [Env.get?] at hu
    cases hbq : Nat.beq t d2 with
    | true =>
      rw [hbq] at hu
      have := beq_true hbq
      subst this
      simp only [cond_true, Option.some.injEq] at hu
      subst hu
      exact ⟨g4, k4⟩
    | false =>
      rw [hbq] at hu
      exact hd.env.get t u hu
  · intro c hc
    rcases Cov.ext (m' := m.ext h.nx (b, 0, 0)) hle hd.cov (fun _ _ h => h) c hc with q | q
    · refine .inl ?_
      by_cases hcp : p.i = c.1
      · have := hd.un p hp
        rw [← hcp] at q
        rw [Array.getD_eq_getD_getElem?] at this q
        cases hx : listed[p.i]? with
        | none => rw [hx] at this; simp at this
        | some y => rw [hx] at this q; simp at this q; rw [this] at q; cases q
      · rw [getD_set _ _ _ _ hcp]
        exact q
    · exact .inr q
end
end Go.SX
namespace Go.SX
open Go
section
variable {T : Tab} {C : Cx} {ops : Array Oper} {F0 G : Fz} {m m' : PM} {h h' : XH} {w w' : World} {τ τ' τr : Env} {a : Act} {k : List Item}
  {rs rs' : List (Nat × Rd)} {A : List (Nat × List Value × Option (Nat × Nat))} {As : List (Nat × List Nat)} {Z Z' : List Nat} {Ss Ss' : List (Nat × (World → Prop))} {listed : Array Bool} {PL : List Pd} {o : Oper} {v : Value}
theorem RRs.mono (hm : m.le m') : ∀ {l : List Rd} {l' : List Rr}, RRs m l l' → RRs m' l l'
  | _, _, .nil => .nil
  | _, _, .cons q r => .cons (q.mono hm) (RRs.mono hm r)
theorem xtakeS_ok {n : Nat} {rs1 : List Rd} (hT : TOk T C.P C.O) (hn : C.fn.ntmps = n) (hs : xtakeS T n ops o τ h = some (τ', h', rs1)) (he : ER m τ τr) (ha : EnvOk C.fn.ntmps τr a) (hr : Rep C.O G m h w) :
    ∃ m' vr rrs, m.le m' ∧ ER m' τ' (consE o.dst vr τr) ∧ (∀ x, o.dst = some x → x < C.fn.ntmps) ∧ Rep C.O G m' h' w ∧ RRs m' rs1 rrs ∧ (∀ x ∈ rrs, x.holds w) ∧ YieldsIf C.P ops (fun w => ∀ x ∈ rrs, x.holds w) o vr a := by
  unfold xtakeS at hs
  split at hs <;> try (cases hs; done)
  · rename_i hw
    split at hs <;> try (cases hs; done)
    rename_i v h2 rs2 hop
    split at hs <;> try (cases hs; done)
    rename_i τ2 hput
    simp only [Option.some.injEq, Prod.mk.injEq] at hs
    obtain ⟨rfl, rfl, rfl⟩ := hs
    have hval : ∃ m' vr rrs, m.le m' ∧ VR m' v vr ∧ Rep C.O G m' h2 w ∧ RRs m' rs2 rrs ∧ (∀ x ∈ rrs, x.holds w) ∧ ∀ w', (∀ x ∈ rrs, x.holds w') → (execOp a.eval o).run C.P w' = .ok (.value vr) w' := by
      unfold xvalT at hop
      split at hop
      · rename_i v' rs' hv
        simp only [Option.some.injEq, Prod.mk.injEq] at hop
        obtain ⟨rfl, rfl, rfl⟩ := hop
        obtain ⟨vr, rrs, h1, h2, h3, h4⟩ := xval_ok hT.hP hT.ty he hr hv
        exact ⟨m, vr, rrs, PM.le_refl m, h1, hr, h2, h3, fun w' hw' => h4 w' hw' a w' ha ⟨fun _ _ h => h, by simp⟩⟩
      · split at hop <;> try (cases hop; done)
        rename_i t x lo hi mx ho
        split at hop <;> try (cases hop; done)
        rename_i p hp
        split at hop <;> try (cases hop; done)
        rename_i v' h3 hsl
        simp only [Option.some.injEq, Prod.mk.injEq] at hop
        obtain ⟨rfl, rfl, rfl⟩ := hop
        obtain ⟨m', vr, q1, q2, q3, q4⟩ := xslice_ok hT.hP hT.ty he hr ho hp hsl
        exact ⟨m', vr, [], q1, q3, q2, .nil, by simp, fun w' _ => q4 a w' ha⟩
    obtain ⟨m', vr, rrs, h1, h2', h3, h4, h5, h6⟩ := hval
    have hy : YieldsIf C.P ops (fun w => ∀ x ∈ rrs, x.holds w) o vr a := .inl ⟨wanted_ok ha (wanted_er he hw), h6⟩
    unfold xput1 at hput
    split at hput
    · rename_i hd
      simp only [Option.some.injEq] at hput
      subst hput
      exact ⟨m', vr, rrs, h1, by rw [hd]; exact he.mono h1, by rw [hd]; simp, h3, h4, h5, hy⟩
    · rename_i d hd
      simp only at hput
      cases hlt : Nat.blt d n with
      | false => rw [hlt] at hput; simp at hput
      | true =>
        rw [hlt] at hput
        simp only [cond_true, Option.some.injEq] at hput
        subst hput
        exact ⟨m', vr, rrs, h1, by rw [hd]; exact .cons h2' (he.mono h1), by rw [hd, hn]; intro x hx; cases hx; exact Nat.le_of_ble_eq_true hlt, h3, h4, h5, hy⟩
  · rename_i hw
    split at hs <;> try (cases hs; done)
    rename_i d hd
    cases hlt : Nat.blt d n with
    | false => rw [hlt] at hs; simp at hs
    | true =>
      rw [hlt] at hs
      simp only [cond_true, Option.some.injEq, Prod.mk.injEq] at hs
      obtain ⟨rfl, rfl, rfl⟩ := hs
      exact ⟨m, undef, [], PM.le_refl m, by rw [hd]; exact .cons undef_ok he, by rw [hd, hn]; intro x hx; cases hx; exact Nat.le_of_ble_eq_true hlt, hr, .nil, by simp, .inr ⟨wanted_ok ha (wanted_er he hw), rfl⟩⟩
theorem withB_set (L : Array Bool) (i : Nat) (B : List Nat) : (withB L B).setIfInBounds i true = withB (L.setIfInBounds i true) B := by
  apply Array.ext_getElem?
  intro j
  rw [Array.getElem?_setIfInBounds, withB_get, withB_get, withB_size, Array.size_setIfInBounds, Array.getElem?_setIfInBounds]
  by_cases hij : i = j
  · subst hij
    by_cases hlt : i < L.size
    · simp [hlt]
    · simp [hlt]
  · simp [hij]
theorem set_up {L : Array Bool} {i j : Nat} (h : L.getD j false = true) : (L.setIfInBounds i true).getD j false = true := by
  rw [Array.getD_eq_getD_getElem?] at h ⊢
  rw [Array.getElem?_setIfInBounds]
  split
  · rename_i hij
    subst hij
    cases hx : L[i]? with
    | none => rw [hx] at h; simp at h
    | some y => have := (Array.getElem?_eq_some_iff.1 hx).1; simp [this]
  · exact h
theorem Cov.more {i : Nat} {rs2 : List (Nat × Rd)} (hm : m.le m') (hc : Cov m listed rs Ss w) (hs : ∀ x ∈ rs, x ∈ rs2) : Cov m' (listed.setIfInBounds i true) rs2 Ss w := fun c hcs => by
  rcases hc c hcs with h1 | ⟨rs', rrs, h1, h2, h3, h4⟩
  · exact .inl (set_up h1)
  · exact .inr ⟨rs', rrs, fun r hr => hs _ (h1 r hr), h2.mono hm, h3, h4⟩
/-- What an act leaves as it was. -/
theorem Cov.act {i : Nat} (hm : m.le m') (hc : Cov m listed rs Ss w) (hi : i < listed.size) (hr : Rep C.O G m' h' w') (hq : (rs.filter fun x => !(Nat.beq x.1 i)).all (fun x => rdOk h' x.2) = true) :
    Cov m' (listed.setIfInBounds i true) (rs.filter fun x => !(Nat.beq x.1 i)) Ss w' := fun c hcs => by
  by_cases hci : c.1 = i
  · refine .inl ?_
    rw [hci, Array.getD_eq_getD_getElem?, Array.getElem?_setIfInBounds]
    simp [hi]
  · rcases hc c hcs with h1 | ⟨rs', rrs, h1, h2, h3, h4⟩
    · exact .inl (set_up h1)
    · have hin : ∀ r ∈ rs', (c.1, r) ∈ rs.filter fun x => !(Nat.beq x.1 i) := fun r hr => by
        refine List.mem_filter.2 ⟨h1 r hr, ?_⟩
        cases hb : Nat.beq c.1 i with
        | false => rfl
        | true => exact absurd (beq_true hb) hci
      refine .inr ⟨rs', rrs, hin, h2.mono hm, h3, ?_⟩
      have hall : ∀ r ∈ rs', rdOk h' r = true := fun r hr => List.all_eq_true.1 hq _ (hin r hr)
      clear h1 h3 h4 hin
      induction h2 with
      | nil => simp
      | cons q _ ih =>
        intro x hx
        rcases List.mem_cons.1 hx with rfl | hx
        · exact rd_ok (hall _ List.mem_cons_self) (q.mono hm) hr
        · exact ih (fun r hr => hall r (List.mem_cons_of_mem _ hr)) x hx
theorem Rep.weaken {O : World} (hr : Rep O G m h w) (hle : F0.le G) : Rep O F0 m h w :=
  ⟨hr.os, hr.tape, hr.output, fun b o hb => hr.frz b o (hle b o hb), hr.lim, hr.dom, hr.own, (fun k blk b x hk hm => by
    cases hq : F0 b with
    | none => rfl
    | some o =>
      have := hle b o hq
      rw [hr.ap k blk b x hk hm] at this
      cases this), hr.inj⟩
theorem drop_get {ds : List Nat} {t : Nat} {v : Value} : ∀ {τ : Env}, (xdropS ds τ).get? t = some v → τ.get? t = some v ∧ t ∉ ds
  | [], h => by simp [xdropS, Env.get?] at h
  | (s, u) :: r, h => by
    simp only [xdropS] at h
    cases hs : ds.any (Nat.beq s) with
    | true =>
      rw [hs] at h
      simp only [cond_true] at h
      obtain ⟨h1, h2⟩ := drop_get h
      have hne : Nat.beq t s = false := by
        cases hb : Nat.beq t s with
        | false => rfl
        | true =>
          have := beq_true hb
          subst this
          obtain ⟨x, hx1, hx2⟩ := List.any_eq_true.1 hs
          have := beq_true hx2
          subst this
          exact absurd hx1 h2
      exact ⟨by simp only [Env.get?, hne]; exact h1, h2⟩
    | false =>
      rw [hs] at h
      simp only [cond_false, Env.get?] at h ⊢
      cases hb : Nat.beq t s with
      | true =>
        rw [hb] at h
        simp only [cond_true] at h ⊢
        refine ⟨h, fun hin => ?_⟩
        have := beq_true hb
        subst this
        have : ds.any (Nat.beq t) = true := List.any_eq_true.2 ⟨t, hin, by simp⟩
        rw [this] at hs; cases hs
      | false =>
        rw [hb] at h
        simp only [cond_false] at h ⊢
        exact drop_get h
theorem drop_none {ds : List Nat} {t : Nat} {τ : Env} (h : τ.get? t = none ∨ t ∈ ds) : (xdropS ds τ).get? t = none := by
  cases hq : (xdropS ds τ).get? t with
  | none => rfl
  | some v =>
    obtain ⟨h1, h2⟩ := drop_get hq
    rcases h with h | h
    · rw [h] at h1; cases h1
    · exact absurd h h2
theorem ER.drop (ds : List Nat) : ∀ {τ τr : Env}, ER m τ τr → ER m (xdropS ds τ) (xdropS ds τr)
  | _, _, .nil => .nil
  | _, _, .cons (t := t) hv he => by
    simp only [xdropS]
    cases ds.any (Nat.beq t) with
    | true => exact ER.drop ds he
    | false => exact .cons hv (ER.drop ds he)
theorem withB_add {L : Array Bool} {B B' : List Nat} {j : Nat} (hB : ∀ q, q ∈ B' ↔ q ∈ B ∨ q = j) : (withB L B).setIfInBounds j true = withB L B' := by
  apply Array.ext_getElem?
  intro q
  rw [Array.getElem?_setIfInBounds, withB_get, withB_get, withB_size]
  by_cases hjq : j = q
  · subst hjq
    by_cases hlt : j < L.size
    · simp [hlt, hB]
    · simp [hlt]
  · have : q ≠ j := fun e => hjq e.symm
    simp [hjq, hB, this]
theorem withB_sink {L : Array Bool} {B B' : List Nat} {i : Nat} (hB : ∀ q, q ∈ B' ↔ q ∈ B ∧ q ≠ i) (hi : i ∈ B) : withB (L.setIfInBounds i true) B' = withB L B := by
  apply Array.ext_getElem?
  intro q
  rw [withB_get, withB_get, Array.size_setIfInBounds, Array.getElem?_setIfInBounds]
  by_cases hiq : i = q
  · subst hiq
    by_cases hlt : i < L.size
    · simp [hlt, hB, hi]
    · simp [hlt]
  · have : q ≠ i := fun e => hiq e.symm
    simp [hiq, hB, this]
/-- One that may come, comes. -/
theorem float_step {f j : Nat} (hd : DI C ops F0 G m τ τr h rs A As Z Ss listed PL a w) (hj : j ∈ PL.map (·.i)) (hnc : j ∉ came PL) (hready : j ∈ Region.ready .any ops (withB listed (came PL))) (hf : leftN (withB listed (came PL)) ≤ f + 1)
    (ih : ∀ {PL' : List Pd} {G' : Fz} {a' : Act} {w' : World}, DI C ops F0 G' m τ τr h rs A As Z Ss listed PL' a' w' → leftN (withB listed (came PL')) ≤ f → wpAnyM C.P ops (QK C k) Ss f (withB listed (came PL')) a' w') :
    wpOp C.P ops (QK C k) j (fun a' w' => (∀ c ∈ Ss, ((withB listed (came PL)).setIfInBounds j true).getD c.1 false = false → c.2 w') ∧ wpAnyM C.P ops (QK C k) Ss f ((withB listed (came PL)).setIfInBounds j true) a' w') a w := by
  obtain ⟨q, hq, hqj⟩ := List.mem_map.1 hj
  have hqe : q.ex = none := by
    cases hx : q.ex with
    | none => rfl
    | some x => exact absurd (came_iff.2 ⟨q, hq, hqj, by rw [hx]; rfl⟩) hnc
  have hLs : (withB listed (came PL)).size = ops.size := by rw [withB_size, hd.sz]
  have hleft := left_set (ready_false hready hLs)
  refine float_ok hd hq hqj hqe fun G' a' w' PL' hd' hcame => ?_
  have e := withB_add (L := listed) hcame
  refine ⟨fun c hcs hlc => Cov.now hd'.cov (L := (withB listed (came PL)).setIfInBounds j true) (fun x hx => withB_down (set_down hx)) c hcs hlc, ?_⟩
  rw [e]
  exact ih hd' (by rw [← e]; omega)
/-- **A region whose order is open.** -/
theorem xdr_ok {call : XC} {n : Nat} {m0 : PM} (hT : TOk T C.P C.O) (hc : CallOk C.P C.O call) (hn : C.fn.ntmps = n) (hsel : Region.noSelect ops = true) : ∀ (p : List PS) {listed : Array Bool} {As : List (Nat × List Nat)} {Z : List Nat}
    {A : List (Nat × List Value × Option (Nat × Nat))} {rs : List (Nat × Rd)} {τ : Env} {h : XH}, planOk ops p listed As Z = true → xdr T call n ops p A rs τ h = some (τ', h') →
    ∀ (fuel : Nat) {PL : List Pd} {G : Fz} {m : PM} {τr : Env} {a : Act} {w : World} {Ss : List (Nat × (World → Prop))}, DI C ops F0 G m τ τr h rs A As Z Ss listed PL a w → m0.le m → leftN (withB listed (came PL)) ≤ fuel →
    (∀ m' τr' a' w', m0.le m' → ER m' τ' τr' → EnvOk C.fn.ntmps τr' a' → Rep C.O F0 m' h' w' → Fin C k a' w') → wpAnyM C.P ops (QK C k) Ss fuel (withB listed (came PL)) a w
  | [], listed, As, Z, A, rs, τ, h, hpl, hx, fuel, PL, G, m, τr, a, w, Ss, hd, hm0, hf, hK => by
    simp only [planOk, Bool.and_eq_true, List.isEmpty_iff] at hpl
    obtain ⟨h1, h2⟩ := hpl
    have hPL : PL = [] := by
      have := hd.ps
      rw [h1] at this
      simpa using this
    subst hPL
    have hA : A = [] := hd.pa.symm
    subst hA
    simp only [xdr, Option.some.injEq, Prod.mk.injEq] at hx
    obtain ⟨rfl, rfl⟩ := hx
    have hq : QK C k .normal a w := ⟨rfl, hK m τr a w hm0 hd.er hd.env (hd.rep.weaken hd.le)⟩
    have hr : Region.ready .any ops (withB listed (came [])) = [] := h2
    cases fuel with
    | zero => exact ⟨hr, hq⟩
    | succ f => exact ⟨fun _ => hq, fun i hi => by rw [hr] at hi; cases hi⟩
  | .take i z :: r, listed, As, Z, A, rs, τ, h, hpl, hx, fuel, PL, G, m, τr, a, w, Ss, hd, hm0, hf, hK => by
    simp only [planOk, Bool.and_eq_true, Bool.not_eq_true'] at hpl
    obtain ⟨⟨⟨⟨p1, p2⟩, p3⟩, p4⟩, p5⟩ := hpl
    have hids : As.map (·.1) = PL.map (·.i) := by rw [← hd.ps, List.map_map]; rfl
    have hB := List.all_eq_true.1 p4 (came PL) (by rw [hids]; exact came_sub PL)
    simp only [Bool.and_eq_true] at hB
    obtain ⟨⟨b1, b2⟩, b3⟩ := hB
    have hready : i ∈ Region.ready .any ops (withB listed (came PL)) := by simpa using b3
    have hLs : (withB listed (came PL)).size = ops.size := by rw [withB_size, hd.sz]
    have hleft := left_set (ready_false hready hLs)
    simp only [xdr] at hx
    split at hx <;> try (cases hx; done)
    rename_i o ho
    split at hx <;> try (cases hx; done)
    rename_i τ2 h2 rs1 htk
    obtain ⟨m', vr, rrs, q1, q2, q3, q4, q5, q6, q7⟩ := xtakeS_ok hT hn htk hd.er hd.env hd.rep
    cases fuel with
    | zero => omega
    | succ f =>
      have hilt : i < ops.size := (Array.getElem?_eq_some_iff.1 ho).1
      obtain ⟨hiz, hzun, hzw⟩ : i ≠ z ∧ (withB listed (came PL)).getD z false = false ∧ (ops[z]? = none ∨ Waits ops i (withB listed (came PL)) z) := by
        unfold zOk at b1
        split at b1
        · rename_i hz
          have hzs : ops.size ≤ z := by
            rcases Nat.lt_or_ge z ops.size with hh | hh
            · rw [Array.getElem?_eq_getElem hh] at hz; cases hz
            · exact hh
          refine ⟨by omega, ?_, .inl hz⟩
          rw [Array.getD_eq_getD_getElem?, Array.getElem?_eq_none (by omega)]
          rfl
        · rename_i oz hz
          simp only [Bool.and_eq_true, Bool.not_eq_true'] at b1
          have hzlt : z < ops.size := (Array.getElem?_eq_some_iff.1 hz).1
          refine ⟨beq_false b1.1.2, ?_, .inr (waits_of _ _ b1.1.1)⟩
          have h9 := b1.2
          rw [Array.getD_eq_getD_getElem?] at h9 ⊢
          rw [Array.getElem?_eq_getElem (by omega)] at h9 ⊢
          exact h9
      have hi : ∀ p ∈ PL, p.i ≠ i := fun p hp e => by
        have : i ∈ As.map (·.1) := by rw [hids]; exact e ▸ List.mem_map.2 ⟨p, hp, rfl⟩
        simp only [List.contains_eq_mem, decide_eq_false_iff_not] at p1
        exact p1 this
      have hzi : ∀ c ∈ Ss, c.1 ≠ i := fun c hcs e => by
        have := hd.zs c hcs
        rw [e] at this
        simp only [List.contains_eq_mem, decide_eq_false_iff_not] at p2
        exact p2 this
      have hcov : Cov m' (listed.setIfInBounds i true) (rs1.map (fun x => (z, x)) ++ rs) ((z, fun w => ∀ x ∈ rrs, x.holds w) :: Ss) w := fun c hcs => by
        rcases List.mem_cons.1 hcs with rfl | hcs
        · exact .inr ⟨rs1, rrs, fun r hr => List.mem_append.2 (.inl (List.mem_map.2 ⟨r, hr, rfl⟩)), q5, rfl, q6⟩
        · exact Cov.more (i := i) (rs2 := rs1.map (fun x => (z, x)) ++ rs) q1 hd.cov (fun x hx => List.mem_append.2 (.inr hx)) c hcs
      have hd2 := hd.step (i := i) (vr := vr) (Z' := z :: Z) (Ss' := (z, fun w => ∀ x ∈ rrs, x.holds w) :: Ss) hi p3 ho q1 q2 q3 q4 hcov (fun c hcs => by
        rcases List.mem_cons.1 hcs with rfl | hcs
        · exact List.mem_cons_self
        · exact List.mem_cons_of_mem _ (hd.zs c hcs))
      have hnext := xdr_ok hT hc hn hsel r p5 hx f hd2 (PM.le_trans hm0 q1) (by rw [← withB_set]; omega) hK
      refine wpAnyM_mono (Ss' := (z, fun w => ∀ x ∈ rrs, x.holds w) :: Ss) (fun c hcs => List.mem_cons_of_mem _ hcs) _ _ _ _ ?_
      refine wpAnyM_take (v := vr) ho hsel (fun c a w hq => by cases hq.1) hiz List.mem_cons_self (fun c hcs => ?_) f _ a w hzw hzun (Region.free_spec ho b2) hready q7 (fun c hcs hlc => ?_) ?_
      · rcases List.mem_cons.1 hcs with rfl | hcs
        · exact fun e => hiz e.symm
        · exact hzi c hcs
      · rcases List.mem_cons.1 hcs with rfl | hcs
        · exact q6
        · exact Cov.now hd.cov (L := (withB listed (came PL)).setIfInBounds i true) (fun j hj => withB_down (set_down hj)) c hcs hlc
      · rw [withB_set]
        exact hnext
  | .fl i ds :: r, listed, As, Z, A, rs, τ, h, hpl, hx, fuel, PL, G, m, τr, a, w, Ss, hd, hm0, hf, hK => by
    simp only [planOk, Bool.and_eq_true, Bool.not_eq_true'] at hpl
    obtain ⟨⟨⟨⟨⟨p1, p2⟩, p3⟩, p4⟩, p5⟩, p6⟩ := hpl
    have hids : As.map (·.1) = PL.map (·.i) := by rw [← hd.ps, List.map_map]; rfl
    have hi : ∀ p ∈ PL, p.i ≠ i := fun p hp e => by
      have : i ∈ As.map (·.1) := by rw [hids]; exact e ▸ List.mem_map.2 ⟨p, hp, rfl⟩
      simp only [List.contains_eq_mem, decide_eq_false_iff_not] at p1
      exact p1 this
    simp only [xdr] at hx
    split at hx <;> try (cases hx; done)
    rename_i o ho
    rw [ho] at p3
    simp only [isAlloc, Bool.and_eq_true, Option.isNone_iff_eq_none] at p3
    split at hx <;> try (cases hx; done)
    rename_i l s hal
    split at hx <;> try (cases hx; done)
    rename_i d hds
    cases hdn : Nat.blt d n with
    | false => rw [hdn] at hx; simp at hx
    | true =>
      rw [hdn] at hx
      simp only [cond_true] at hx
      have hdst : dstOf ops i = some d := by simp [dstOf, ho, hds]
      have hunl : ∀ j dj, listed.getD j true = false → dstOf ops j = some dj → dj ∈ ds := fun j dj hj hdj => by
        have hjs : j < ops.size := by
          unfold dstOf at hdj
          split at hdj
          · rename_i oj hoj; exact (Array.getElem?_eq_some_iff.1 hoj).1
          · cases hdj
        have := List.all_eq_true.1 p5 j (List.mem_range.2 hjs)
        rw [hj, hdj] at this
        simpa using this
      have hdds : d ∈ ds := hunl i d p2 hdst
      obtain ⟨g1, lr, g2, g3⟩ := xalloc_ok hT.hP hT.ty (hd.er.drop ds) hal (by rw [hds]; rfl)
      have henv : EnvOk C.fn.ntmps (xdropS ds τr) a := ⟨hd.env.size, hd.env.defers, fun t v hv => hd.env.get t v (drop_get hv).1⟩
      have hd2 : DI C ops F0 G m (xdropS ds τ) (xdropS ds τr) h rs ((i, l, s) :: A) ((i, ds) :: As) Z Ss listed (⟨i, l, s, ds, none⟩ :: PL) a w := by
        refine ⟨by rw [List.map_cons, hd.pa], by rw [List.map_cons, hd.ps], fun p hp => ?_, fun p hp q hq hne dp hdp => ?_, ?_, fun p hp q hq b o1 o2 e1 e2 => ?_, fun p hp => ?_, hd.le, hd.rep, hd.er.drop ds, henv, hd.cov, hd.zs, hd.sz⟩
        · rcases List.mem_cons.1 hp with rfl | hp
          · refine ⟨o, d, lr, ho, p3.1.1, hds, by rw [hn]; exact Nat.le_of_ble_eq_true hdn, g1, g2, drop_none (.inr hdds), xdropS ds τr, fun F H => ?_, henv, fun t ht => drop_none (.inr ht)⟩
            intro a' w' ha' hw'
            obtain ⟨v, H', w2, k1, ⟨b, nn, k2, k3⟩, k4⟩ := g3 F H a' w' ha' hw'
            refine ⟨v, H', w2, k1, ⟨b, nn, ?_, k3⟩, k4⟩
            rw [k2]
            cases s <;> rfl
          · obtain ⟨o2, d2, lr2, f1, f2, f3, f4, f5, f6, f7, f8⟩ := hd.ok p hp
            exact ⟨o2, d2, lr2, f1, f2, f3, f4, f5, f6, drop_none (.inl f7), f8⟩
        · rcases List.mem_cons.1 hp with rfl | hp
          · rcases List.mem_cons.1 hq with rfl | hq
            · exact absurd rfl hne
            · exact okDst_ok p4 hdp (by rw [← hd.ps]; exact List.mem_map.2 ⟨q, hq, rfl⟩) (hi q hq)
          · rcases List.mem_cons.1 hq with rfl | hq
            · refine ⟨hunl p.i dp (hd.un p hp) hdp, fun hx2 => ?_⟩
              have := okDst_ok p4 hx2 (p := p) (by rw [← hd.ps]; exact List.mem_map.2 ⟨p, hp, rfl⟩) (hi p hp)
              exact this.2 hdp
            · exact hd.pw p hp q hq hne dp hdp
        · rw [List.map_cons, List.nodup_cons]
          refine ⟨fun hm => ?_, hd.nd⟩
          obtain ⟨q, hq, hqi⟩ := List.mem_map.1 hm
          exact hi q hq hqi
        · rcases List.mem_cons.1 hp with rfl | hp
          · cases e1
          · rcases List.mem_cons.1 hq with rfl | hq
            · cases e2
            · exact hd.bd p hp q hq b o1 o2 e1 e2
        · rcases List.mem_cons.1 hp with rfl | hp
          · exact p2
          · exact hd.un p hp
      have hcame : came (⟨i, l, s, ds, none⟩ :: PL) = came PL := rfl
      have := xdr_ok hT hc hn hsel r p6 hx fuel hd2 hm0 (by rw [hcame]; exact hf) hK
      rw [hcame] at this
      exact this
  | .al i :: r, listed, As, Z, A, rs, τ, h, hpl, hx, fuel, PL, G, m, τr, a, w, Ss, hd, hm0, hf, hK => by
    simp only [planOk, Bool.and_eq_true] at hpl
    obtain ⟨⟨⟨p1, p2⟩, p3⟩, p4⟩ := hpl
    simp only [xdr] at hx
    split at hx <;> try (cases hx; done)
    rename_i o ho
    split at hx <;> try (cases hx; done)
    rename_i i2 l s hfind
    split at hx <;> try (cases hx; done)
    rename_i b h2 hh
    split at hx <;> try (cases hx; done)
    rename_i τ2 hput
    have hids : As.map (·.1) = PL.map (·.i) := by rw [← hd.ps, List.map_map]; rfl
    have key : ∀ (fuel : Nat) {PL : List Pd} {G : Fz} {a : Act} {w : World}, DI C ops F0 G m τ τr h rs A As Z Ss listed PL a w → leftN (withB listed (came PL)) ≤ fuel → wpAnyM C.P ops (QK C k) Ss fuel (withB listed (came PL)) a w := by
      intro fuel
      -- taken up
      have sunk : ∀ (fuel : Nat) {PL : List Pd} {G : Fz} {a : Act} {w : World}, DI C ops F0 G m τ τr h rs A As Z Ss listed PL a w → leftN (withB listed (came PL)) ≤ fuel → i ∈ came PL → wpAnyM C.P ops (QK C k) Ss fuel (withB listed (came PL)) a w := by
        intro fuel PL G a w hd hf hci
        obtain ⟨p, hp, hpi, hpx⟩ := came_iff.1 hci
        subst hpi
        obtain ⟨x, hx2⟩ := Option.isSome_iff_exists.1 hpx
        obtain ⟨β, ob⟩ := x
        have hls : l = p.l ∧ s = p.s := by
          have h1 := List.mem_of_find?_eq_some hfind
          have h2 := List.find?_some hfind
          rw [← hd.pa] at h1
          obtain ⟨q, hq, hqe⟩ := List.mem_map.1 h1
          simp only [Prod.mk.injEq] at hqe
          obtain ⟨e1, e2, e3⟩ := hqe
          have e4 : i2 = p.i := beq_true h2
          have := same_i hd.nd hq hp (e1.trans e4)
          subst this
          exact ⟨e2.symm, e3.symm⟩
        obtain ⟨rfl, rfl⟩ := hls
        obtain ⟨o2, d, lr, g1, g2, g3, g4, g5, g6, g7, g8⟩ := hd.ok p hp
        rw [ho] at g1
        cases g1
        have hdst : dstOf ops p.i = some d := by simp [dstOf, ho, g3]
        obtain ⟨G', m', hm, hd'⟩ := sink_ok hd hp hx2 hh hdst
        have hput2 : τ2 = (d, shaped p.s b) :: τ := by
          unfold xput1 at hput
          rw [g3] at hput
          simp only at hput
          cases hlt : Nat.blt d n with
          | false => rw [hlt] at hput; simp at hput
          | true =>
            rw [hlt] at hput
            simpa using hput.symm
        subst hput2
        have e := withB_sink (L := listed) (B := came PL) (B' := came (PL.filter fun q => !(Nat.beq q.i p.i))) (i := p.i) (fun q => by
          rw [came_iff, came_iff]
          constructor
          · rintro ⟨q', hq', rfl, hqx⟩
            obtain ⟨k1, k2⟩ := List.mem_filter.1 hq'
            refine ⟨⟨q', k1, rfl, hqx⟩, fun e => ?_⟩
            rw [e] at k2
            simp at k2
          · rintro ⟨⟨q', hq', rfl, hqx⟩, hne⟩
            refine ⟨q', List.mem_filter.2 ⟨hq', ?_⟩, rfl, hqx⟩
            cases hb : Nat.beq q'.i p.i with
            | false => rfl
            | true => exact absurd (beq_true hb) hne) hci
        have := xdr_ok hT hc hn hsel r p4 hx fuel hd' (PM.le_trans hm0 hm) (by rw [e]; exact hf) hK
        rw [e] at this
        exact this
      induction fuel with
      | zero =>
        intro PL G a w hd hf
        by_cases hci : i ∈ came PL
        · exact sunk 0 hd hf hci
        · exfalso
          have hids : As.map (·.1) = PL.map (·.i) := by rw [← hd.ps, List.map_map]; rfl
          have hB := List.all_eq_true.1 p3 (came PL) (by rw [hids]; exact came_sub PL)
          simp only [Bool.or_eq_true, Bool.and_eq_true] at hB
          rcases hB with hB | ⟨_, hB⟩
          · exact hci (by simpa using hB)
          · have hready : i ∈ Region.ready .any ops (withB listed (came PL)) := by simpa using hB
            have hleft := left_set (ready_false hready (by rw [withB_size, hd.sz]))
            omega
      | succ f ihf =>
        intro PL G a w hd hf
        by_cases hci : i ∈ came PL
        · exact sunk (f + 1) hd hf hci
        · have hids : As.map (·.1) = PL.map (·.i) := by rw [← hd.ps, List.map_map]; rfl
          have hB := List.all_eq_true.1 p3 (came PL) (by rw [hids]; exact came_sub PL)
          simp only [Bool.or_eq_true, Bool.and_eq_true] at hB
          rcases hB with hB | ⟨hB1, hB⟩
          · exact absurd (by simpa using hB) hci
          · have hready : i ∈ Region.ready .any ops (withB listed (came PL)) := by simpa using hB
            refine ⟨fun h0 => (by rw [h0] at hready; cases hready), fun j hj => ?_⟩
            have hj2 := List.all_eq_true.1 hB1 j hj
            simp only [Bool.and_eq_true, Bool.not_eq_true'] at hj2
            exact float_step hd (by rw [← hids]; simpa using hj2.1) (by simpa using hj2.2) hj hf ihf
    exact key fuel hd hf
  | .act i :: r, listed, As, Z, A, rs, τ, h, hpl, hx, fuel, PL, G, m, τr, a, w, Ss, hd, hm0, hf, hK => by
    simp only [planOk, Bool.and_eq_true, Bool.not_eq_true'] at hpl
    obtain ⟨⟨⟨p1, p2⟩, p3⟩, p4⟩ := hpl
    simp only [xdr] at hx
    split at hx <;> try (cases hx; done)
    rename_i o ho
    split at hx <;> try (cases hx; done)
    rename_i τ2 h2 rs1 hst
    cases hrd : ((rs.filter fun x => !(Nat.beq x.1 i)).all fun x => rdOk h2 x.2) with
    | false => rw [hrd] at hx; simp at hx
    | true =>
    rw [hrd] at hx
    simp only [cond_true] at hx
    have key : ∀ (fuel : Nat) {PL : List Pd} {G : Fz} {a : Act} {w : World}, DI C ops F0 G m τ τr h rs A As Z Ss listed PL a w → leftN (withB listed (came PL)) ≤ fuel → wpAnyM C.P ops (QK C k) Ss fuel (withB listed (came PL)) a w := by
      intro fuel
      induction fuel with
      | zero =>
        intro PL G a w hd hf
        exfalso
        have hids : As.map (·.1) = PL.map (·.i) := by rw [← hd.ps, List.map_map]; rfl
        have hB := List.all_eq_true.1 p3 (came PL) (by rw [hids]; exact came_sub PL)
        simp only [Bool.and_eq_true] at hB
        have hready : i ∈ Region.ready .any ops (withB listed (came PL)) := by simpa using hB.1
        have hleft := left_set (ready_false hready (by rw [withB_size, hd.sz]))
        omega
      | succ f ihf =>
        intro PL G a w hd hf
        have hids : As.map (·.1) = PL.map (·.i) := by rw [← hd.ps, List.map_map]; rfl
        have hB := List.all_eq_true.1 p3 (came PL) (by rw [hids]; exact came_sub PL)
        simp only [Bool.and_eq_true] at hB
        have hready : i ∈ Region.ready .any ops (withB listed (came PL)) := by simpa using hB.1
        have hleft := left_set (ready_false hready (by rw [withB_size, hd.sz]))
        have hi : ∀ p ∈ PL, p.i ≠ i := fun p hp e => by
          have : i ∈ As.map (·.1) := by rw [hids]; exact e ▸ List.mem_map.2 ⟨p, hp, rfl⟩
          simp only [List.contains_eq_mem, decide_eq_false_iff_not] at p1
          exact p1 this
        refine ⟨fun h0 => (by rw [h0] at hready; cases hready), fun j hj => ?_⟩
        have hj2 := List.all_eq_true.1 hB.2 j hj
        simp only [Bool.or_eq_true, Bool.and_eq_true, Bool.not_eq_true'] at hj2
        by_cases hji : j = i
        · subst hji
          refine step_ok2 hT hc hn ho hst hd.er hd.env hd.rep fun m' vr w' q1 q2 q3 q4 => ?_
          have hcov := Cov.act (i := j) q1 hd.cov (by rw [hd.sz]; exact (Array.getElem?_eq_some_iff.1 ho).1) q4 hrd
          have hd2 := hd.step (i := j) (vr := vr) (Z' := Z) hi p2 ho q1 q2 q3 q4 hcov hd.zs
          refine ⟨fun c hcs hlc => ?_, ?_⟩
          · rw [withB_set] at hlc
            exact Cov.now hcov (L := withB (listed.setIfInBounds j true) (came PL)) (fun x hx => withB_down hx) c hcs hlc
          · rw [withB_set]
            exact xdr_ok hT hc hn hsel r p4 hx f hd2 (PM.le_trans hm0 q1) (by rw [← withB_set]; omega) hK
        · rcases hj2 with hj2 | hj2
          · exact absurd (beq_true hj2) hji
          · exact float_step hd (by rw [← hids]; simpa using hj2.1) (by simpa using hj2.2) hj hf ihf
    exact key fuel hd hf
end
end Go.SX
namespace Go.SX
open Go
section
variable {T : Tab} {C : Cx} {F0 : Fz} {m : PM} {h h' : XH} {w w' : World} {τ τr : Env} {a : Act} {v : Value}
/-- More memory than there was. -/
theorem Rep.extW {O : World} (hr : Rep O F0 m h w) (hos : w'.os = O.os) (ht : w'.tape = O.tape) (ho : w'.output = O.output) (hh : ∀ (b : Nat) (o : Obj), w.heap[b]? = some o → w'.heap[b]? = some o) : Rep O F0 m h w' :=
  ⟨hos, ht, ho, fun b o hb => hh b o (hr.frz b o hb), hr.lim, hr.dom, fun k blk hk => Blk.holds_mono (PM.le_refl m) (hr.own k blk hk) (fun b _ o _ hb => hh b o hb), hr.ap, hr.inj⟩
/-! ### What comes back -/
def resOne (tmps : Array Value) : ResultVar → Sem Value
  | .tmp t => pure (tmps.getD t undef)
  | .cell a t => do loadVar t (← asAddr (tmps.getD a undef))
theorem xres_ok (hP : T.P = C.P) (hty : T.ty = tiOf T.P) (he : ER m τ τr) (ha : EnvOk C.fn.ntmps τr a) (hr : Rep C.O F0 m h w) : ∀ {rl : List ResultVar} {l : List Value}, xres T τ h rl = some l → ∃ lr, VRs m l lr ∧ (rl.mapM (resOne a.tmps)).run C.P w = .ok lr w
  | [], l, hl => by
    simp only [xres, Option.some.injEq] at hl
    subst hl
    exact ⟨[], .nil, by simp⟩
  | .tmp t :: r, l, hl => by
    simp only [xres] at hl
    split at hl <;> try (cases hl; done)
    rename_i u hu
    split at hl <;> try (cases hl; done)
    rename_i l' hl'
    simp only [Option.some.injEq] at hl
    subst hl
    obtain ⟨ur, h1, h2⟩ := he.get hu
    obtain ⟨lr, h3, h4⟩ := xres_ok hP hty he ha hr hl'
    refine ⟨ur :: lr, .cons h2 h3, ?_⟩
    have h5 := (ha.get t ur h1).2
    simp only [List.mapM_cons, Sem.run_bind, resOne, Sem.run_pure, Result.andThen_ok, h5, h4]
  | .cell t ty :: r, l, hl => by
    simp only [xres] at hl
    split at hl <;> try (cases hl; done)
    rename_i p hp
    split at hl <;> try (cases hl; done)
    rename_i u rs hu
    split at hl <;> try (cases hl; done)
    rename_i l' hl'
    simp only [Option.some.injEq] at hl
    subst hl
    obtain ⟨lr, h3, h4⟩ := xres_ok hP hty he ha hr hl'
    -- a load, in words of an operation's
    have hload := xload_ok (o := ⟨none, .load ty (.tmp t), 0, "", #[], none⟩) (x := .tmp t) hP hty he hr rfl hp hu
    obtain ⟨ur, rrs, k1, k2, k3, k4⟩ := hload
    have hrun := k4 w k3 a w ha ⟨fun _ _ h => h, by simp⟩
    obtain ⟨pr, q1, q2⟩ := he.get hp
    have h5 := (ha.get t pr q1).2
    have hev : a.eval (.tmp t) = pr := ha.eval (x := .tmp t) q1
    unfold xload at hu
    split at hu <;> try (cases hu; done)
    rename_i k0 off0
    obtain ⟨b, oo, K, hm, rfl⟩ := q2.ptr_inv
    refine ⟨ur :: lr, .cons k1 h3, ?_⟩
    have hlv : (loadVar ty ⟨b, oo + off0, none⟩).run C.P w = .ok ur w := by
      simp only [execOp, hev, Instr.loadAt, Instr.sureAddr] at hrun
      cases hq : (loadVar ty ⟨b, oo + off0, none⟩).run C.P w with
      | ok v2 w2 =>
        simp [hq] at hrun
        obtain ⟨e1, e2⟩ := hrun
        rw [e1, e2]
      | halt hh w2 => simp [hq] at hrun
    simp only [List.mapM_cons, Sem.run_bind, resOne, h5, asAddr, Sem.run_pure, Result.andThen_ok, hlv, h4]
theorem xret_ok (hP : T.P = C.P) (hty : T.ty = tiOf T.P) (he : ER m τ τr) (ha : EnvOk C.fn.ntmps τr a) (hr : Rep C.O F0 m h w) (hl : xret T C.fn τ h = some (v, h')) : h' = h ∧ ∃ vr, VR m v vr ∧ (results C.fn a.tmps).run C.P w = .ok vr w := by
  unfold xret at hl
  have base : ∀ l lr, VRs m l lr → (C.fn.results.toList.mapM (resOne a.tmps)).run C.P w = .ok lr w → (results C.fn a.tmps).run C.P w = .ok (if h : lr.toArray.size = 1 then lr.toArray[0] else .tuple lr.toArray) w := fun l lr h1 h2 => by
    have e0 : results C.fn a.tmps = (do let vs ← C.fn.results.mapM (resOne a.tmps); pure (if h : vs.size = 1 then vs[0] else .tuple vs)) := by
      unfold results
      congr 1
    rw [e0, Array.mapM_eq_mapM_toList]
    simp only [Sem.run_bind, map_eq_pure_bind, h2, Result.andThen_ok, Sem.run_pure]
  split at hl <;> try (cases hl; done)
  · rename_i u hx
    simp only [Option.some.injEq, Prod.mk.injEq] at hl
    obtain ⟨rfl, rfl⟩ := hl
    obtain ⟨lr, h1, h2⟩ := xres_ok hP hty he ha hr hx
    cases h1 with
    | cons g g' =>
      cases g'
      exact ⟨rfl, _, g, base _ _ (.cons g .nil) h2⟩
  · rename_i l hne hx
    simp only [Option.some.injEq, Prod.mk.injEq] at hl
    obtain ⟨rfl, rfl⟩ := hl
    obtain ⟨lr, h1, h2⟩ := xres_ok hP hty he ha hr hx
    refine ⟨rfl, .tuple ⟨lr⟩, .tuple h1, ?_⟩
    rw [base _ _ h1 h2]
    have hs : ¬ lr.toArray.size = 1 := fun hq => by
      have hll := h1.length
      simp only [List.size_toArray] at hq
      obtain ⟨u, hu⟩ := List.length_eq_one_iff.1 (hll ▸ hq : l.length = 1)
      exact hne u hu
    rw [dif_neg hs]
end
end Go.SX
namespace Go.SX
open Go
def okItem (T : Tab) (f : Nat) : Item → Bool
  | .code c => okCode T f c
  | .inLoop c => okCode T f c
  | _ => true
section
variable {T : Tab} {P : Program} {O : World}
theorem exit_ok {f id : Nat} : ∀ {k k' : List Item}, exitTo id k = some k' → k.all (okItem T f) = true → k'.all (okItem T f) = true
  | [], k', h, _ => by simp [exitTo] at h
  | x :: k, k', h, hk => by
    simp only [List.all_cons, Bool.and_eq_true] at hk
    cases x <;> simp only [exitTo] at h
    case inBlock id' =>
      split at h
      · simp only [Option.some.injEq] at h; subst h; exact hk.2
      · exact exit_ok h hk.2
    all_goals exact exit_ok h hk.2
/-- What comes back of a call. -/
def ResR (O : World) (F0 : Fz) (m0 : PM) (v : Value) (h' : XH) : Value → Fz → List Ent → Prop := fun vr F' H' => H' = [] ∧ ∃ w' m', F' = allW w' ∧ m0.le m' ∧ VR m' v vr ∧ Rep O F0 m' h' w'
/-- A call from its body. -/
theorem calls_of_fin {f : FuncId} {fn : Func} {c : Code} {args : List Value} {R : Value → Fz → List Ent → Prop} {w : World} (hf : P.funcs[f]? = some fn) (hb : fn.body = some c) (hn : Nat.ble args.length fn.ntmps = true)
    (h : ∀ a, EnvOk fn.ntmps (argEnv 0 args) a → Fin ⟨P, O, f, fn, R⟩ [.code c] a w) : Calls P f args.toArray w fun e w' => ∃ v F' H', e = .returned v ∧ R v F' H' ∧ St O F' H' w' := by
  intro cs
  let b : Frame := { (default : Frame) with fn := f, kind := .normal }
  have henter : Frame.enter P f args.toArray .normal = b.at { tmps := args.toArray ++ Array.replicate (fn.ntmps - args.toArray.size) undef, defers := [] } [.code c] := by
    simp [Frame.enter, Frame.at, hf, hb, b]
  obtain ⟨v, F', H', w', fr, hR, hst, hsteps, hfn, hl⟩ := h { tmps := args.toArray ++ Array.replicate (fn.ntmps - args.toArray.size) undef, defers := [] }
    ⟨by have := Nat.le_of_ble_eq_true hn; simp; omega, rfl, fun t v ht => by
      obtain ⟨_, h2⟩ := argEnv_get args 0 t v ht
      simp only [Nat.sub_zero] at h2
      have hlt : t < args.length := by
        rcases Nat.lt_or_ge t args.length with h | h
        · exact h
        · simp [List.getElem?_eq_none h] at h2
      refine ⟨Nat.lt_of_lt_of_le hlt (Nat.le_of_ble_eq_true hn), ?_⟩
      rw [Array.getD_eq_getD_getElem?, Array.getElem?_append_left (by simpa using hlt)]
      simp [h2]⟩ b rfl rfl cs
  rw [← henter] at hsteps
  exact ⟨.returned v, w', fr, ⟨v, F', H', rfl, hR, hst⟩, hsteps, hfn, hl⟩
/-- What a run comes to. -/
def RunOk (T : Tab) (P : Program) (O : World) (run : Nat → Func → List Item → Env → XH → Option (Value × XH)) : Prop :=
  ∀ f fn k τ h v h', run f fn k τ h = some (v, h') → T.fn f = some fn → k.all (okItem T f) = true → ∀ F0 m0 m τr a w, m0.le m → ER m τ τr → EnvOk fn.ntmps τr a → Rep O F0 m h w → Fin ⟨P, O, f, fn, ResR O F0 m0 v h'⟩ k a w
theorem call_of_run {run : Nat → Func → List Item → Env → XH → Option (Value × XH)} (hT : TOk T P O) (hr : RunOk T P O run) : CallOk P O (xcallF T run) := by
  intro g vs h v h' hc
  unfold xcallF at hc
  cases hk : T.known g vs h with
  | some u =>
    rw [hk] at hc
    obtain ⟨u1, u2⟩ := u
    simp only [Option.some.injEq, Prod.mk.injEq] at hc
    obtain ⟨rfl, rfl⟩ := hc
    exact hT.known g vs h u1 u2 hk
  | none =>
    rw [hk] at hc
    simp only at hc
    cases hfn : T.fn g with
    | none => rw [hfn] at hc; cases hc
    | some fn =>
      rw [hfn] at hc
      simp only at hc
      cases hb : fn.body with
      | none => rw [hb] at hc; cases hc
      | some c =>
        rw [hb] at hc
        simp only at hc
        cases hn : Nat.ble vs.length fn.ntmps with
        | false => rw [hn] at hc; simp at hc
        | true =>
          rw [hn] at hc
          simp only [cond_true] at hc
          refine ⟨hT.can g fn c hfn hb, fun F0 m vrs w hv hrep => ?_⟩
          have hfin : ∀ a, EnvOk fn.ntmps (argEnv 0 vrs) a → Fin ⟨P, O, g, fn, ResR O F0 m v h'⟩ [.code c] a w := fun a ha =>
            hr g fn [.code c] _ h v h' hc hfn (by simp [okItem, hT.plan g fn c hfn hb]) F0 m m _ a w (PM.le_refl m) (ER.args 0 hv) ha hrep
          refine (calls_of_fin (hT.fn g fn hfn) hb (by rw [hv.length]; exact hn) hfin).mono ?_
          rintro e w' ⟨vr, F', H', rfl, ⟨rfl, w2, m', rfl, h1, h2, h3⟩, hst⟩
          exact ⟨m', vr, h1, h2, rfl, h3.extW hst.os hst.tape hst.output fun b o hb => hst.frz b o hb⟩
theorem region_ok {call : XC} {f : Nat} {fn : Func} {id : Nat} {ops : Array Oper} {d : Bool} {τ τ' τr : Env} {h h' : XH} {F0 : Fz} {m : PM} {a : Act} {w : World} {k : List Item} {R : Value → Fz → List Ent → Prop} (hT : TOk T P O) (hc : CallOk P O call)
    (hok : okCode T f (.region id ops d) = true) (hx : xregion T call f fn id ops d τ h = some (τ', h')) (he : ER m τ τr) (ha : EnvOk fn.ntmps τr a) (hr : Rep O F0 m h w)
    (hK : ∀ m' τr' a' w', m.le m' → ER m' τ' τr' → EnvOk fn.ntmps τr' a' → Rep O F0 m' h' w' → Fin ⟨P, O, f, fn, R⟩ k a' w') : Fin ⟨P, O, f, fn, R⟩ (.code (.region id ops d) :: k) a w := by
  cases d with
  | false =>
    simp only [xregion] at hx
    have h1 := ops_ok (C := ⟨P, O, f, fn, R⟩) (Q := QK ⟨P, O, f, fn, R⟩ k) hT hc rfl ops.toList 0 (fun j => by simp) hx he ha hr fun m' τr' a' w' q1 q2 q3 q4 => ⟨rfl, hK m' τr' a' w' q1 q2 q3 q4⟩
    have h2 : List.range' 0 ops.toList.length = List.range ops.size := by rw [List.range_eq_range', Array.length_toList]
    rw [h2] at h1
    exact Fin.head (fun b cs _ _ => .one step_region) (fin_of_ops h1)
  | true =>
    simp only [xregion] at hx
    split at hx <;> try (cases hx; done)
    rename_i p hp
    simp only [okCode, hp, okPlan, Bool.and_eq_true] at hok
    have hd : DI (⟨P, O, f, fn, R⟩ : Cx) ops F0 F0 m τ τr h [] [] [] [] [] (Array.replicate ops.size false) [] a { w with drawn := w.drawn + 1 } :=
      ⟨rfl, rfl, by simp, by simp, by simp, by simp, by simp, Fz.le_refl F0, hr.drew _, he, ha, (fun c hc => by cases hc), by simp, by simp⟩
    -- m stays below
    have h1 := xdr_ok (C := ⟨P, O, f, fn, R⟩) (k := k) (T := T) hT hc rfl hok.1 p hok.2 hx ops.size hd (PM.le_refl m) (by
      show leftN (Array.replicate ops.size false) ≤ ops.size
      unfold leftN
      refine Nat.le_trans (List.length_filter_le _ _) ?_
      simp) hK
    have h2 := wpAny_of_M _ _ _ _ h1
    have h3 : ∀ t, wpOps P ops (QK ⟨P, O, f, fn, R⟩ k) (Region.schedule (P.follows .mixedOrders) ops t) a { w with drawn := w.drawn + 1 } := fun t => by
      simp only [Region.schedule, hT.mixed, Bool.true_or, if_true]
      exact wpAny_sound ops.size t _ a _ h2
    exact Fin.head (C := ⟨P, O, f, fn, R⟩) (k' := .inRegion ops (Region.schedule (P.follows .mixedOrders) ops (w.tape w.drawn (.order f id))) :: k) (fun b cs hb _ => .one (by
      have hb' : b.fn = f := hb
      rw [← hb']
      exact step_region_draw)) (fin_of_ops (h3 _))
/-- **The executor is right.** -/
theorem xrun_ok (hT : TOk T P O) : ∀ n, RunOk T P O (xrun T n)
  | 0 => fun f fn k τ h v h' hx _ _ => by simp [xrun] at hx
  | n + 1 => fun f fn k τ h v h' hx hfn hk F0 m0 m τr a w hm he ha hr => by
    have ih := xrun_ok hT n
    have hcall := call_of_run hT ih
    have hf := hT.fn f fn hfn
    have ret : ∀ (k : List Item), xret T fn τ h = some (v, h') → Fin ⟨P, O, f, fn, ResR O F0 m0 v h'⟩ (.code .ret :: k) a w ∧ Fin ⟨P, O, f, fn, ResR O F0 m0 v h'⟩ [] a w := fun k hq => by
      obtain ⟨rfl, vr, h1, h2⟩ := xret_ok (C := ⟨P, O, f, fn, ResR O F0 m0 v h'⟩) hT.hP hT.ty he ha hr hq
      exact Fin.ret (C := ⟨P, O, f, fn, ResR O F0 m0 v h'⟩) (k := k) hf ha.defers h2 hr.all ⟨rfl, w, m, rfl, hm, h1, hr⟩
    unfold xrun at hx
    split at hx
    · exact (ret [] hx).2
    · rename_i c k
      simp only [List.all_cons, Bool.and_eq_true] at hk
      obtain ⟨hc, hk⟩ := hk
      split at hx
      · rename_i x y
        simp only [okItem, okCode, Bool.and_eq_true] at hc
        exact Fin.head (fun b cs _ _ => .one step_seq) (ih f fn _ τ h v h' hx hfn (by simp only [List.all_cons, okItem, hc.1, hc.2, hk, Bool.and_self]) F0 m0 m τr a w hm he ha hr)
      · exact Fin.head (fun b cs _ _ => .one step_skip) (ih f fn _ τ h v h' hx hfn hk F0 m0 m τr a w hm he ha hr)
      · exact Fin.head (fun b cs _ _ => .one step_label) (ih f fn _ τ h v h' hx hfn hk F0 m0 m τr a w hm he ha hr)
      · rename_i id ops d
        cases hreg : xregion T (xcallF T (xrun T n)) f fn id ops d τ h with
        | none => rw [hreg] at hx; cases hx
        | some p =>
          obtain ⟨τ2, h2⟩ := p
          rw [hreg] at hx
          exact region_ok hT hcall hc hreg he ha hr fun m' τr' a' w' q1 q2 q3 q4 => ih f fn k τ2 h2 v h' hx hfn hk F0 m0 m' τr' a' w' (PM.le_trans hm q1) q2 q3 q4
      · rename_i c x y
        simp only [okItem, okCode, Bool.and_eq_true] at hc
        split at hx <;> try (cases hx; done)
        · rename_i hq
          obtain ⟨vr, h1, h2⟩ := xev_ok he hq
          cases h2.bool
          have hev : a.eval c = .bool true := ha.eval h1
          exact Fin.head (fun b cs _ _ => .one (by simpa using step_cond (x := x) (y := y) hev)) (ih f fn _ τ h v h' hx hfn (by simp only [List.all_cons, okItem, hc.1, hk, Bool.and_self]) F0 m0 m τr a w hm he ha hr)
        · rename_i hq
          obtain ⟨vr, h1, h2⟩ := xev_ok he hq
          cases h2.bool
          have hev : a.eval c = .bool false := ha.eval h1
          exact Fin.head (fun b cs _ _ => .one (by simpa using step_cond (x := x) (y := y) hev)) (ih f fn _ τ h v h' hx hfn (by simp only [List.all_cons, okItem, hc.2, hk, Bool.and_self]) F0 m0 m τr a w hm he ha hr)
      · rename_i id b
        simp only [okItem, okCode] at hc
        exact Fin.head (fun b cs _ _ => .one step_block) (ih f fn _ τ h v h' hx hfn (by simp only [List.all_cons, okItem, hc, hk, Bool.and_self]) F0 m0 m τr a w hm he ha hr)
      · rename_i b
        simp only [okItem, okCode] at hc
        exact Fin.head (fun b cs _ _ => .one step_loop) (ih f fn _ τ h v h' hx hfn (by simp only [List.all_cons, okItem, hc, hk, Bool.and_self]) F0 m0 m τr a w hm he ha hr)
      · rename_i id
        split at hx <;> try (cases hx; done)
        rename_i k' hk'
        exact Fin.head (fun b cs _ _ => .one (step_exit hk')) (ih f fn _ τ h v h' hx hfn (exit_ok hk' hk) F0 m0 m τr a w hm he ha hr)
      · exact (ret k hx).1
      · cases hx
    · rename_i id k
      simp only [List.all_cons, Bool.and_eq_true] at hk
      exact Fin.head (fun b cs _ _ => .one step_inBlock) (ih f fn _ τ h v h' hx hfn hk.2 F0 m0 m τr a w hm he ha hr)
    · rename_i b k
      simp only [List.all_cons, Bool.and_eq_true] at hk
      exact Fin.head (fun b cs _ _ => .one step_inLoop) (ih f fn _ τ h v h' hx hfn (by simp only [List.all_cons, okItem] at hk ⊢; simp only [hk.1, hk.2, Bool.and_self]) F0 m0 m τr a w hm he ha hr)
    · cases hx
/-- A call that the executor has run. -/
theorem xcall_ok (hT : TOk T P O) (n : Nat) : CallOk P O (xcallF T (xrun T n)) := call_of_run hT (xrun_ok hT n)
end
end Go.SX
namespace Go.SX
open Go
/-! ### Memory, written out -/
abbrev I (k : IntKind) (n : Nat) : Value := .int k (.ofNat n)
abbrev N (k : IntKind) (n : Int) : Value := .int k n
abbrev Fl (b : Nat) : Value := .float .f64 b
abbrev Tt : Value := .bool true
abbrev Ff : Value := .bool false
abbrev P0 : Value := .pointer none
abbrev Pp (b o : Nat) : Value := .pointer (some ⟨b, o, none⟩)
abbrev S0 : Value := .slice none 0 0
abbrev Ss (b o n c : Nat) : Value := .slice (some ⟨b, o, none⟩) n c
abbrev Mm (b : Nat) : Value := .map (some b)
abbrev Ag (l : List Value) : Value := .agg ⟨l⟩
abbrev Tu (l : List Value) : Value := .tuple ⟨l⟩
def u8s (l : List Nat) : List Value := l.map (I .u8)
def ofLT : List (Nat × Blk) → Tr → Tr
  | [], t => t
  | (k, b) :: r, t => ofLT r (Tr.set XH.D t k (some b))
def ofL (n : Nat) (l : List (Nat × Blk)) : XH := ⟨n, ofLT l .nil⟩
def beqB : Blk → Blk → Bool
  | .mem l s, .mem l' s' => veqs l l' && Nat.beq s s'
  | .fz l, .fz l' => veqs l l'
  | .map es c, .map es' c' => eeqs es es' && Nat.beq c c'
  | _, _ => false
def inH (h : XH) : List (Nat × Blk) → Bool
  | [] => true
  | (k, b) :: r => (match h.get k with
    | some b' => beqB b b'
    | none => false) && inH h r
def veqT : Value → Value → Bool
  | .tuple ⟨l⟩, .tuple ⟨r⟩ => veqs l r
  | v, u => veq2 v u
def veq2s : List Value → List Value → Bool
  | [], [] => true
  | v :: r, w :: s => veq2 v w && veq2s r s
  | _, _ => false
/-- A call comes to that value, and memory holds that. -/
def pc (x : Option (Value × XH)) (v : Value) (n : Nat) (l : List (Nat × Blk)) : Bool := match x with
  | some (v', h') => Nat.beq h'.nx n && veqT v v' && inH h' l
  | none => false
structure Memo where
  g : Nat
  vs : List Value
  n : Nat
  l : List (Nat × Blk)
  v : Value
  n' : Nat
  l' : List (Nat × Blk)
def memoK (base : Nat → List Value → XH → Option (Value × XH)) : List Memo → Nat → List Value → XH → Option (Value × XH)
  | [], g, vs, h => base g vs h
  | e :: r, g, vs, h => cond (Nat.beq g e.g && Nat.beq h.nx e.n && veq2s e.vs vs && inH h e.l) (some (e.v, ofL e.n' e.l')) (memoK base r g vs h)
theorem beqB_eq {b c : Blk} (h : beqB b c = true) : b = c := by
  unfold beqB at h
  split at h
  · simp only [Bool.and_eq_true] at h
    rw [veqs_eq h.1, beq_true h.2]
  · rw [veqs_eq h]
  · simp only [Bool.and_eq_true] at h
    rw [eeqs_eq h.1, beq_true h.2]
  · cases h
theorem veqT_eq {v u : Value} (h : veqT v u = true) : v = u := by
  unfold veqT at h
  split at h
  · rw [veqs_eq h]
  · exact veq2_eq h
theorem veq2s_eq : ∀ {l r : List Value}, veq2s l r = true → l = r
  | [], [], _ => rfl
  | [], _ :: _, h => by simp [veq2s] at h
  | _ :: _, [], h => by simp [veq2s] at h
  | v :: l, u :: r, h => by
    simp only [veq2s, Bool.and_eq_true] at h
    rw [veq2_eq h.1, veq2s_eq h.2]
def smallL (l : List (Nat × Blk)) : Bool := l.all fun x => Nat.blt x.1 32768
theorem ofLT_get {k : Nat} {b : Blk} (hk : k < 32768) : ∀ {l : List (Nat × Blk)} {t : Tr}, smallL l = true → Tr.get XH.D (ofLT l t) k = some b → (k, b) ∈ l ∨ Tr.get XH.D t k = some b
  | [], t, _, h => .inr h
  | (j, c) :: r, t, hs, h => by
    simp only [smallL, List.all_cons, Bool.and_eq_true] at hs
    have hj : j < 32768 := Nat.le_of_ble_eq_true hs.1
    rcases ofLT_get hk (l := r) (by exact hs.2) h with h1 | h1
    · exact .inl (List.mem_cons_of_mem _ h1)
    · rw [Tr.get_set] at h1
      have e : (2 : Nat) ^ XH.D = 32768 := rfl
      rw [e, Nat.mod_eq_of_lt hj, Nat.mod_eq_of_lt hk] at h1
      split at h1
      · rename_i hjk
        subst hjk
        simp only [Option.some.injEq] at h1
        subst h1
        exact .inl List.mem_cons_self
      · exact .inr h1
theorem ofL_get {n k : Nat} {b : Blk} {l : List (Nat × Blk)} (hn : n ≤ 32768) (hs : smallL l = true) (h : (ofL n l).get k = some b) : (k, b) ∈ l := by
  have hk := XH.get_lt h
  have hk2 : k < n := hk
  unfold XH.get ofL at h
  simp only [blt_true hk2, cond_true] at h
  rcases ofLT_get (by omega) hs h with h1 | h1
  · exact h1
  · rw [Tr.get_nil] at h1; cases h1
theorem inH_get {h : XH} : ∀ {l : List (Nat × Blk)} {k : Nat} {b : Blk}, inH h l = true → (k, b) ∈ l → h.get k = some b
  | (j, c) :: r, k, b, hi, hm => by
    simp only [inH, Bool.and_eq_true] at hi
    rcases List.mem_cons.1 hm with he | hm
    · simp only [Prod.mk.injEq] at he
      obtain ⟨rfl, rfl⟩ := he
      have h1 := hi.1
      split at h1
      · rename_i b' hb
        rw [beqB_eq h1]
        exact hb
      · cases h1
    · exact inH_get hi.2 hm
section
variable {T : Tab} {P : Program} {O : World} {F0 : Fz} {m : PM} {h h' : XH} {w : World}
/-- Memory is forgotten. -/
theorem Rep.prune (hr : Rep O F0 m h w) (hn : h'.nx = h.nx) (hg : ∀ k b, h'.get k = some b → h.get k = some b) : Rep O F0 m h' w :=
  ⟨hr.os, hr.tape, hr.output, hr.frz, by rw [hn]; exact hr.lim, fun k x hk => by rw [hn]; exact hr.dom k x hk, fun k b hk => hr.own k b (hg k b hk), fun k b c x hk hm => hr.ap k b c x (hg k b hk) hm, fun k k' b b' c x x' hk hk' => hr.inj k k' b b' c x x' (hg k b hk) (hg k' b' hk')⟩
theorem Rep.pruneL {n : Nat} {l : List (Nat × Blk)} (hr : Rep O F0 m h w) (hn : h.nx = n) (hs : smallL l = true) (hi : inH h l = true) : Rep O F0 m (ofL n l) w :=
  hr.prune hn.symm fun k b hk => inH_get hi (ofL_get (by rw [← hn]; exact hr.lim) hs hk)
def Memo.ok (P : Program) (O : World) (e : Memo) : Prop := ∃ T1 N, TOk T1 P O ∧ smallL e.l = true ∧ smallL e.l' = true ∧ pc (xcallF T1 (xrun T1 N) e.g e.vs (ofL e.n e.l)) e.v e.n' e.l' = true
theorem memo_known (hT : TOk T P O) : ∀ {ms : List Memo}, (∀ e ∈ ms, e.ok P O) → ∀ g vs h v h', memoK T.known ms g vs h = some (v, h') → callableB P g = true ∧ ∀ F0 m vrs w, VRs m vs vrs → Rep O F0 m h w → Calls P g vrs.toArray w fun e w' => ∃ m' vr, m.le m' ∧ VR m' v vr ∧ e = .returned vr ∧ Rep O F0 m' h' w'
  | [], _, g, vs, h, v, h', hk => hT.known g vs h v h' hk
  | e :: r, hm, g, vs, h, v, h', hk => by
    simp only [memoK] at hk
    cases hc : (Nat.beq g e.g && Nat.beq h.nx e.n && veq2s e.vs vs && inH h e.l) with
    | false =>
      rw [hc] at hk
      exact memo_known hT (fun e he => hm e (List.mem_cons_of_mem _ he)) g vs h v h' hk
    | true =>
      rw [hc] at hk
      simp only [cond_true, Option.some.injEq, Prod.mk.injEq] at hk
      obtain ⟨rfl, rfl⟩ := hk
      simp only [Bool.and_eq_true] at hc
      obtain ⟨⟨⟨c1, c2⟩, c3⟩, c4⟩ := hc
      have c1 := beq_true c1
      have c2 := beq_true c2
      have c3 := veq2s_eq c3
      subst c1 c3
      obtain ⟨T1, N, hT1, s1, s2, hp⟩ := hm e List.mem_cons_self
      unfold pc at hp
      split at hp <;> try (cases hp; done)
      rename_i v2 h2 hcall
      simp only [Bool.and_eq_true] at hp
      obtain ⟨⟨p1, p2⟩, p3⟩ := hp
      have p2 := veqT_eq p2
      obtain ⟨k1, k2⟩ := xcall_ok hT1 N _ _ _ _ _ hcall
      refine ⟨k1, fun F0 m vrs w hv hr => ?_⟩
      refine (k2 F0 m vrs w hv (hr.pruneL c2 s1 c4)).mono ?_
      rintro q w' ⟨m', vr, q1, q2, rfl, q3⟩
      exact ⟨m', vr, q1, by rw [p2]; exact q2, rfl, q3.pruneL (beq_true p1) s2 p3⟩
/-- A table, and what is kept besides. -/
theorem memo_ok (hT : TOk T P O) {ms : List Memo} (hm : ∀ e ∈ ms, e.ok P O) : TOk { T with known := memoK T.known ms } P O := by
  have hplan : ∀ (f : Nat) (c : Code), okCode { T with known := memoK T.known ms } f c = okCode T f c := fun f c => by
    induction c with
    | seq a b iha ihb => simp only [okCode, iha, ihb]
    | cond _ a b iha ihb => simp only [okCode, iha, ihb]
    | block _ b ih => simp only [okCode, ih]
    | loop b ih => simp only [okCode, ih]
    | region id ops d => cases d <;> rfl
    | _ => rfl
  exact ⟨hT.hP, hT.ty, hT.mixed, hT.fn, hT.can, hT.ext, memo_known hT hm, fun g f c hg hb => by rw [hplan]; exact hT.plan g f c hg hb⟩
/-- **A call without arguments that the executor has run, in any world.** -/
theorem does_of_run0 (hT : TOk T P O) {g N n : Nat} {v : Value} {l : List (Nat × Blk)} (hv : sc1 v = true) (hp : pc (xcallF T (xrun T N) g [] ⟨1, .nil⟩) v n l = true) (F : Fz) (H : List Ent) : Does P O g #[] F H (fun r F' H' => r = v ∧ F' = F ∧ H' = H) := by
  intro w hw
  unfold pc at hp
  split at hp <;> try (cases hp; done)
  rename_i v2 h2 hcall
  simp only [Bool.and_eq_true] at hp
  have p2 := veqT_eq hp.1.2
  obtain ⟨k1, k2⟩ := xcall_ok hT N _ _ _ _ _ hcall
  have hnone : ∀ k, (⟨1, .nil⟩ : XH).get k = none := fun k => by
    unfold XH.get
    cases Nat.blt k 1 with
    | true => exact Tr.get_nil _ _
    | false => rfl
  have hrep : Rep O (allW w) (fun _ => none) ⟨1, .nil⟩ w := ⟨hw.os, hw.tape, hw.output, fun _ _ h => h, by decide, (fun k x hk => by cases hk), (fun k b hk => by rw [hnone] at hk; cases hk), (fun k b c x hk => by rw [hnone] at hk; cases hk), (fun k k' b b' c x x' hk => by rw [hnone] at hk; cases hk)⟩
  refine (k2 (allW w) (fun _ => none) [] w .nil hrep).mono ?_
  rintro q w' ⟨m', vr, q1, q2, rfl, q3⟩
  have hvr : vr = v := by rw [← p2] at q2; exact VR.sc1_eq hv q2
  refine ⟨vr, F, H, rfl, ⟨hvr, rfl, rfl⟩, Fz.le_refl F, q3.os, q3.tape, q3.output, fun b o hb => q3.frz b o (hw.frz b o hb), fun e he => ?_, hw.nd, hw.ap⟩
  have h1 := hw.own e he
  have hb := hw.block_lt he
  refine Ent.holds_of h1 ?_
  rw [Array.getElem?_eq_getElem hb]
  exact q3.frz e.b _ (Array.getElem?_eq_getElem hb)
/-- Bytes that the executor reads. -/
theorem slb_of {p pr : Value} {l : List UInt8} {rs : List Rd} (hr : Rep O F0 m h w) (hvp : VR m p pr) (hl : xstring h p = some (.string ⟨⟨l⟩⟩, rs)) : SlB (allW w) [] pr l := by
  unfold xstring at hl
  split at hl <;> try (cases hl; done)
  · simp only [Option.some.injEq, Prod.mk.injEq, Value.string.injEq, ByteArray.mk.injEq, Array.mk.injEq] at hl
    obtain ⟨rfl, rfl⟩ := hl
    have := VR.sc1_eq (v := .slice none 0 0) rfl hvp
    subst this
    exact Sl.nil _ _ _
  · rename_i k off n c
    obtain ⟨b, oo, K, hm, rfl, hn⟩ := hvp.sl_inv
    cases hb : Nat.beq n 0 with
    | true =>
      rw [hb] at hl
      simp only [cond_true, Option.some.injEq, Prod.mk.injEq, Value.string.injEq, ByteArray.mk.injEq, Array.mk.injEq] at hl
      obtain ⟨rfl, rfl⟩ := hl
      have := beq_true hb
      subst this
      exact ⟨_, _, rfl, by simp, Nat.zero_le _, by simp, by simp⟩
    | false =>
      rw [hb] at hl
      simp only [cond_false] at hl
      have main : ∀ cs sz, (h.get k = some (.mem cs sz) ∨ h.get k = some (.fz cs)) → ∀ l0 l', xcut cs off n = some l0 → xbytes l0 = some l' → l' = l → SlB (allW w) [] (.slice (some ⟨b, oo + off, none⟩) n (cpOf K c)) l := by
        intro cs sz hg l0 l' hc hb2 hll
        subst hll
        obtain ⟨b', oo', K', vrs, hm', hv, hh, hlen⟩ := cells_of hr hg hc
        rw [hm] at hm'
        cases hm'
        have h1 := xbytes_ok hb2
        subst h1
        have h2 := VRs.ofSc (bytes_sc l') hv
        subst h2
        have hl' : l'.length = n := by simpa using hlen
        exact ⟨_, _, by rw [hl'], by simp, by rw [hl']; exact hn, by simp, fun i c hi => ⟨b, oo + off, rfl, cell_all (hh i c hi)⟩⟩
      split at hl <;> try (cases hl; done)
      · rename_i cs sz hg
        split at hl <;> try (cases hl; done)
        rename_i l0 hc
        split at hl <;> try (cases hl; done)
        rename_i l' hb2
        simp only [Option.some.injEq, Prod.mk.injEq, Value.string.injEq, ByteArray.mk.injEq, Array.mk.injEq] at hl
        exact main cs sz (.inl hg) l0 l' hc hb2 hl.1
      · rename_i cs hg
        split at hl <;> try (cases hl; done)
        rename_i l0 hc
        split at hl <;> try (cases hl; done)
        rename_i l' hb2
        simp only [Option.some.injEq, Prod.mk.injEq, Value.string.injEq, ByteArray.mk.injEq, Array.mk.injEq] at hl
        exact main cs 0 (.inr hg) l0 l' hc hb2 hl.1
end
end Go.SX
namespace Go.SX
open Go Go.Proofs
set_option maxRecDepth 4000
def stepN (c : Nat) : Nat := cond (Nat.beq (Nat.mod c 2) 0) (Nat.div c 2) (Nat.xor (Nat.div c 2) 3988292384)
theorem step_bit (c : BitVec 32) : stepN c.toNat = (bit c).toNat := by
  unfold stepN bit
  have h1 : c &&& 1 = 1 ↔ c.toNat % 2 = 1 := by
    rw [← u32_bit]
    rw [BitVec.toNat_and]
    have : (1 : BitVec 32).toNat = 1 := rfl
    rw [this, Nat.and_one_is_mod]
    omega
  have hs : (c >>> 1).toNat = c.toNat / 2 := by rw [BitVec.toNat_ushiftRight, Nat.shiftRight_eq_div_pow]
  have e1 : Nat.mod c.toNat 2 = c.toNat % 2 := rfl
  have e2 : Nat.div c.toNat 2 = c.toNat / 2 := rfl
  by_cases h : c &&& 1 = 1
  · rw [if_pos h, BitVec.toNat_xor, hs]
    have h2 := h1.1 h
    rw [e1, e2, h2]
    rfl
  · rw [if_neg h, hs]
    have h2 : c.toNat % 2 = 0 := by
      rcases Nat.mod_two_eq_zero_or_one c.toNat with h2 | h2
      · exact h2
      · exact absurd (h1.2 h2) h
    rw [e1, e2, h2]
    rfl
theorem bits8_in : ∀ (n : Nat) (c : BitVec 32), bits8 (n + 1) c = bits8 n (bit c)
  | 0, c => rfl
  | n + 1, c => by
    show bit (bits8 (n + 1) c) = bit (bits8 n (bit c))
    rw [bits8_in n c]
theorem bitN_eq : ∀ (n : Nat) (c : BitVec 32), bitN n c.toNat = (bits8 n c).toNat
  | 0, c => rfl
  | n + 1, c => by
    rw [bits8_in]
    show bitN n (stepN c.toNat) = _
    rw [step_bit]
    exact bitN_eq n (bit c)
theorem crcU_eq : ∀ (l : List UInt8) (c : BitVec 32), crcU l c.toNat = (~~~ (crcL c l)).toNat
  | [], c => by
    show Nat.xor c.toNat 4294967295 = (~~~ c).toNat
    have h1 : c ^^^ BitVec.allOnes 32 = ~~~ c := BitVec.xor_allOnes
    rw [← h1, BitVec.toNat_xor]
    rfl
  | b :: r, c => by
    show crcU r (bitN 8 (Nat.xor c.toNat b.toNat)) = _
    have h1 : Nat.xor c.toNat b.toNat = (c ^^^ b.toBitVec.setWidth 32).toNat := by
      rw [BitVec.toNat_xor, BitVec.toNat_setWidth]
      have : b.toBitVec.toNat % 2 ^ 32 = b.toNat := Nat.mod_eq_of_lt (by have := b.toNat_lt; show b.toNat < _; omega)
      rw [this]
      rfl
    rw [h1, bitN_eq]
    exact crcU_eq r (crcB c b)
theorem crcU_crc (l : List UInt8) : crcU l 4294967295 = (crc l).toNat := crcU_eq l (~~~ 0)
theorem sum_known {O : World} {g : Nat} {vs : List Value} {h h' : XH} {v : Value} (hk : knownX 163 g vs h = some (v, h')) : callableB Tryz.prog g = true ∧ ∀ F0 m vrs w, VRs m vs vrs → Rep O F0 m h w →
    Calls Tryz.prog g vrs.toArray w fun e w' => ∃ m' vr, m.le m' ∧ VR m' v vr ∧ e = .returned vr ∧ Rep O F0 m' h' w' := by
  unfold knownX at hk
  cases hg : Nat.beq g 163 with
  | false => rw [hg] at hk; simp at hk
  | true =>
    rw [hg] at hk
    simp only [cond_true] at hk
    have := beq_true hg
    subst this
    split at hk <;> try (cases hk; done)
    rename_i v0
    split at hk <;> try (cases hk; done)
    rename_i l rs hx
    cases hl : Nat.blt l.length 1000000 with
    | false => rw [hl] at hk; simp at hk
    | true =>
      rw [hl] at hk
      simp only [cond_true, Option.some.injEq, Prod.mk.injEq] at hk
      obtain ⟨rfl, rfl⟩ := hk
      have hlt : l.length < 1000000 := Nat.le_of_ble_eq_true hl
      refine ⟨callable163, fun F0 m vrs w hv hr => ?_⟩
      cases hv with
      | cons hv0 hv1 =>
      cases hv1
      rename_i vr0
      have hs := slb_of hr hv0 hx
      refine (oct_Sum O (allW w) [] vr0 l hs (by omega) w hr.all).mono ?_
      rintro e w' ⟨r, F', H', rfl, ⟨rfl, rfl, rfl⟩, hle, hst⟩
      exact ⟨m, _, PM.le_refl m, by rw [crcU_crc]; exact .sc rfl, rfl, hr.extW hst.os hst.tape hst.output fun b o hb => hst.frz b o hb⟩
end Go.SX
