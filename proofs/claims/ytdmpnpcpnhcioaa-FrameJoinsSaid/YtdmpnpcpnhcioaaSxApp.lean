/-
  Slices that are made, and noughts that are appended.
-/
import Derived.Test.YtdmpnpcpnhcioaaSxPerm
namespace Go.SX
open Go

/-- n zero values, one behind the other. -/
def zeros (zc : List Value) : Nat → List Value
  | 0 => []
  | n + 1 => zc ++ zeros zc n
theorem zeros_length (zc : List Value) : ∀ n, (zeros zc n).length = n * zc.length
  | 0 => by simp [zeros]
  | n + 1 => by simp only [zeros, List.length_append, zeros_length zc n]; rw [Nat.add_mul]; omega
theorem zeros_get (zc : List Value) : ∀ (n i : Nat), i < n * zc.length → (zeros zc n)[i]? = zc[i % zc.length]?
  | 0, i, h => by simp at h
  | n + 1, i, h => by
    simp only [zeros]
    rcases Nat.lt_or_ge i zc.length with h1 | h1
    · rw [List.getElem?_append_left h1, Nat.mod_eq_of_lt h1]
    · rw [List.getElem?_append_right h1, zeros_get zc n _ (by rw [Nat.add_mul] at h; omega), Nat.mod_eq_sub_mod h1]
theorem zeros_one (v : Value) : ∀ n, zeros [v] n = List.replicate n v
  | 0 => rfl
  | n + 1 => by simp [zeros, zeros_one v n, List.replicate_succ]
theorem zeros_all {zc : List Value} (h : zc.all oneCellB = true) : ∀ n, (zeros zc n).all oneCellB = true
  | 0 => rfl
  | n + 1 => by simp [zeros, zeros_all h n, h]
theorem made_zeros (zc : List Value) (n : Nat) : (madeCells zc.toArray (n * zc.length)).toList = zeros zc n := by
  apply List.ext_getElem?
  intro i
  have hl : (madeCells zc.toArray (n * zc.length)).toList.length = n * zc.length := by simp [madeCells]
  rcases Nat.lt_or_ge i (n * zc.length) with h | h
  · rw [zeros_get _ _ _ h]
    have hpos : 0 < zc.length := by
      rcases Nat.eq_zero_or_pos zc.length with h0 | h0
      · rw [h0] at h; omega
      · exact h0
    have hm : i % zc.length < zc.length := Nat.mod_lt _ hpos
    simp [madeCells, h, List.getElem?_eq_getElem hm]
  · rw [List.getElem?_eq_none (by omega), List.getElem?_eq_none (by rw [zeros_length]; exact h)]
theorem zeroCells_zeros (zc : List Value) (n : Nat) : (Builtin.zeroCells zc.toArray n).toList = zeros zc n := by
  rw [← made_zeros]
  rfl

section
variable {C : Cx} {τ : Env} {F : Fz} {H : List Ent} {dst : Option Nat} {ty t u : TypeId} {pos : String} {aft : Array Edge} {g : Option (Nat × Bool)} {x y z : Operand}

structure AppZ (P : Program) (t : TypeId) (zc : List Value) (bytes : Nat) : Prop where
  ex : ∃ e i z, P.underlying t = some (.slice e) ∧ P.info? e = some i ∧ i.zero = some z ∧ i.size = zc.length ∧ i.bytes = bytes ∧ z.cells = zc.toArray
  pos : 0 < zc.length

theorem a_make {zc : List Value} {bytes l c : Nat} {kl kc : IntKind} {li ci : Int} (hT : AppZ C.P t zc bytes) (hx : ev τ x = some (.int kl li)) (hy : ev τ y = some (.int kc ci)) (hli : li = l) (hci : ci = c) (hlc : l ≤ c)
    (hb : bytes * c ≤ 281474976710656) (h63 : c ≤ 9223372036854775807) :
    Act1 C ⟨dst, .makeSlice t x y, ty, pos, aft, g⟩ τ F H (fun r H' => ∃ b, r = .slice (some ⟨b, 0, none⟩) l c ∧ H' = .mem b (zeros zc c) (c * zc.length) :: H) := by
  intro a w ha hw
  subst hli hci
  obtain ⟨⟨e, i, z, ht, hi, hz, hsz, hbytes, hzs⟩, hpos⟩ := hT
  subst hbytes
  have hr := run_make (P := C.P) w t e i z ht hi hz kl kc l c (by omega) (by omega) (by rw [← Int.natCast_mul]; omega) (by omega)
  simp only [Int.toNat_natCast] at hr
  rw [hzs, hsz] at hr
  refine ⟨_, .mem w.heap.size (zeros zc c) (c * zc.length) :: H, w.alloc (.cells (madeCells zc.toArray (c * zc.length)) e), ?_, ⟨_, rfl, rfl⟩, hw.new (o := .cells (madeCells zc.toArray (c * zc.length)) e) rfl rfl rfl rfl rfl ?_⟩
  · simp only [execOp, ha.eval hx, ha.eval hy, Sem.run_bind, hr]; rfl
  · refine ⟨[], e, ?_, by simp [zeros_length]⟩
    rw [heap_alloc_new, List.append_nil, ← made_zeros]

theorem a_appendZ (Pre : List Ent) {bf : Bf} {n m bytes : Nat} {zc xs : List Value} {k k' : IntKind} {mi : Int} {H1 : List Ent} (hT : AppZ C.P t zc bytes) (hu : C.P.underlying u = some (.int k')) (hx : ev τ x = some (bf.val n)) (hok : bf.ok n) (hl : xs.length = n * zc.length)
    (hH : H = Pre ++ (bf.ents zc.length xs ++ H1)) (hy : ev τ y = some (.int k mi)) (hmi : mi = m) (h1 : zc.all oneCellB = true) (h63 : n + m ≤ 4611686018427387904) (hby : (n + m) * bytes ≤ 140737488355328) :
    Act1 C ⟨dst, .call { callee := .builtin .append, args := #[x, y], argTypes := #[t, u] }, ty, pos, aft, g⟩ τ F H
      (fun r H' => ∃ bf' : Bf, r = bf'.val (n + m) ∧ bf'.ok (n + m) ∧ H' = Pre ++ (bf'.ents zc.length (xs ++ zeros zc m) ++ H1)) := by
  intro a w ha hw
  obtain ⟨⟨e, i, z, ht, hi, hz, hsz, hbytes, hzs⟩, hpos⟩ := hT
  subst hbytes hmi
  have sw : ∀ E : List Ent, (Pre ++ (E ++ H1)).Perm (E ++ (Pre ++ H1)) := fun E => by
    rw [← List.append_assoc, ← List.append_assoc]
    exact List.Perm.append_right H1 List.perm_append_comm
  have hw : St C.O F (bf.ents zc.length xs ++ (Pre ++ H1)) w := St.perm (sw _) (by rw [← hH]; exact hw)
  suffices hs : ∃ (v : Value) (bf' : Bf) (w' : World), (execOp a.eval ⟨dst, .call { callee := .builtin .append, args := #[x, y], argTypes := #[t, u] }, ty, pos, aft, g⟩).run C.P w = .ok (.value v) w' ∧
      v = bf'.val (n + m) ∧ bf'.ok (n + m) ∧ St C.O F (bf'.ents zc.length (xs ++ zeros zc m) ++ (Pre ++ H1)) w' by
    obtain ⟨v, bf', w', h1, h2, h3, h4⟩ := hs
    exact ⟨v, _, w', h1, ⟨bf', h2, h3, rfl⟩, h4.perm (sw _).symm⟩
  have hops : ∀ (s : Value) (r : Value) (w' : World), (Builtin.append_ #[t, u] ty #[s, .int k m]).run C.P w = .ok r w' → a.eval x = s →
      (execOp a.eval ⟨dst, .call { callee := .builtin .append, args := #[x, y], argTypes := #[t, u] }, ty, pos, aft, g⟩).run C.P w = .ok (.value r) w' := fun s r w' hr hs => by
    rw [execOp_builtin_run (s := Builtin.append_ #[t, u] ty #[a.eval x, a.eval y]) (r := .ok r w') (fun _ => by simp [builtin]) (by rw [hs, ha.eval hy]; exact hr)]
    rfl
  have hsmall : n + m ≤ 9223372036854775807 := by omega
  have hwrap : IntKind.i64.wrap (m : Int) = m := wrap_i64 (by omega) (by omega)
  have hmb : m * i.bytes ≤ 281474976710656 := Nat.le_trans (Nat.mul_le_mul_right _ (by omega)) (Nat.le_trans hby (by decide))
  have hbig : ¬ (281474976710656 < (m : Int) * (i.bytes : Int)) := by rw [← Int.natCast_mul]; omega
  have hneg : ¬ ((m : Int) < 0) := by omega
  have hzl := zeros_length zc m
  have hzero : (if m * zc.length = 0 then (pure #[] : Sem (Array Value)) else (do pure (Builtin.zeroCells zc.toArray m))) = pure (zeros zc m).toArray := by
    split
    · rename_i h0
      have : zeros zc m = [] := List.eq_nil_of_length_eq_zero (by omega)
      rw [this]
    · rw [← zeroCells_zeros]
  have hz0 : Builtin.zeroCells zc.toArray m = (zeros zc m).toArray := by rw [← zeroCells_zeros]
  have grown : ∀ (W : World), St C.O F (bf.ents zc.length xs ++ (Pre ++ H1)) W → ∀ newcap, n + m ≤ newcap → W.heap.size = w.heap.size → St C.O F (Bf.ents zc.length (.at w.heap.size newcap) (xs ++ zeros zc m) ++ (Pre ++ H1))
      (W.alloc (.cells (xs.toArray ++ (zeros zc m).toArray ++ Builtin.zeroCells zc.toArray (newcap - (n + m))) e)) := fun W hW newcap hle hs => by
    have hW1 : St C.O F (Pre ++ H1) W := hW.drop (List.sublist_append_right _ _)
    refine hW1.new (o := .cells (xs.toArray ++ (zeros zc m).toArray ++ Builtin.zeroCells zc.toArray (newcap - (n + m))) e) rfl rfl rfl rfl hs.symm ?_
    refine ⟨zeros zc (newcap - (n + m)), e, ?_, ?_⟩
    · rw [← hs, heap_alloc_new]
      congr 2
      apply Array.ext'
      simp [← zeroCells_zeros]
    · simp only [List.length_append, zeros_length, hl, ← Nat.add_mul]
      congr 1
      omega
  have hev := ha.eval hx
  have hgrow : ∀ (cap : Nat) (a0 : Option Addr), bf.addr = a0 → bf.cp = cap → ¬ (n + m ≤ cap) → (Builtin.firstCells zc.length n (.slice a0 n cap)).run C.P w.drew = .ok xs.toArray w.drew →
      ∃ (v : Value) (bf' : Bf) (w' : World), (execOp a.eval ⟨dst, .call { callee := .builtin .append, args := #[x, y], argTypes := #[t, u] }, ty, pos, aft, g⟩).run C.P w = .ok (.value v) w' ∧
      v = bf'.val (n + m) ∧ bf'.ok (n + m) ∧ St C.O F (bf'.ents zc.length (xs ++ zeros zc m) ++ (Pre ++ H1)) w' := fun cap a0 ha0 hc0 hroom hold => by
    have h63' : ¬ (9223372036854775807 < (n : Int) + (m : Int)) := by omega
    have hfit : ¬ (281474976710656 < Builtin.nextslicecap (n + m) cap * i.bytes) := by
      have := growslice_fits (old := cap) (by omega) hby
      omega
    have hr : (Builtin.append_ #[t, u] ty #[.slice a0 n cap, .int k m]).run C.P w = .ok (.slice (some ⟨w.heap.size, 0, none⟩) (n + m) (grownCap w (n + m) cap e)) (w.drew.alloc (.cells (xs.toArray ++ (zeros zc m).toArray ++ Builtin.zeroCells zc.toArray (grownCap w (n + m) cap e - (n + m))) e)) := by
      by_cases h0 : m * zc.length = 0
      · have hnil : zeros zc m = [] := List.eq_nil_of_length_eq_zero (by omega)
        simp [Builtin.append_, run_underlying ht, run_underlying hu, asInt, asIntOf, hwrap, hneg, hbig, sizeOf, typeInfo, zeroValue, hi, hz, hsz, hzs, h0, hroom, h63', hfit, Question.forced, hold, newRow, grownCap, hnil]
      · simp [Builtin.append_, run_underlying ht, run_underlying hu, asInt, asIntOf, hwrap, hneg, hbig, sizeOf, typeInfo, zeroValue, hi, hz, hsz, hzs, h0, hroom, h63', hfit, Question.forced, hold, newRow, grownCap, hz0]
        congr 2
        apply Array.ext'
        simp
    have hge := grownCap_ge w (n + m) cap e
    refine ⟨_, .at w.heap.size (grownCap w (n + m) cap e), _, hops _ _ _ hr (by rw [hev]; simp only [Bf.val, ha0, hc0]), rfl, hge, grown w.drew (hw.drew _) _ hge rfl⟩
  cases bf with
  | nil =>
    have hn : n = 0 := hok
    subst hn
    have hxs : xs = [] := List.eq_nil_of_length_eq_zero (by simpa using hl)
    subst hxs
    by_cases hm : m = 0
    · subst hm
      refine ⟨.slice none 0 0, .nil, w, hops _ _ _ ?_ hev, rfl, rfl, by simpa [Bf.ents] using hw⟩
      have hneg0 : ¬ ((0 : Int) < 0) := by omega
      simp only [Int.ofNat_eq_natCast, Int.cast_ofNat_Int] at hwrap
      simp [Bf.addr, Bf.cp, Builtin.append_, run_underlying ht, run_underlying hu, asInt, asIntOf, hwrap, sizeOf, typeInfo, hi]
    · exact hgrow 0 none rfl rfl (by omega) (run_firstCells_none w.drew _ _ _ _)
  | «at» b cap =>
    have hle : n ≤ cap := hok
    have hj : (Bf.ents zc.length (.at b cap) xs ++ (Pre ++ H1))[0]? = some (.mem b xs (cap * zc.length)) := rfl
    obtain ⟨rest, e', hb, hlen⟩ := hw.own _ (List.mem_of_getElem? hj)
    by_cases hroom : n + m ≤ cap
    · have hfit : n * zc.length + (zeros zc m).length ≤ cap * zc.length := by rw [zeros_length, ← Nat.add_mul]; exact Nat.mul_le_mul_right _ hroom
      have hst := run_storeCells_at C.P b (n * zc.length) e' (zeros zc m) 0 (xs ++ rest).toArray w hb (by simp only [Nat.add_zero, List.size_toArray, hlen]; exact hfit) (fun u hu => by rw [oneCell_eq]; exact List.all_eq_true.1 (zeros_all h1 m) u hu)
      simp only [Nat.add_zero] at hst
      have e1 : (xs ++ rest).toArray.toList.take (n * zc.length) ++ zeros zc m ++ (xs ++ rest).toArray.toList.drop (n * zc.length + (zeros zc m).length) = (xs ++ zeros zc m) ++ rest.drop (zeros zc m).length := by
        show (xs ++ rest).take (n * zc.length) ++ zeros zc m ++ (xs ++ rest).drop (n * zc.length + (zeros zc m).length) = _
        rw [← hl, List.take_left, List.drop_append]
        have : xs.drop (xs.length + (zeros zc m).length) = [] := List.drop_eq_nil_of_le (by omega)
        rw [this]
        simp
      rw [e1] at hst
      refine ⟨.slice (some ⟨b, 0, none⟩) (n + m) cap, .at b cap, w.setRow b ((xs ++ zeros zc m) ++ rest.drop (zeros zc m).length).toArray, hops _ _ _ ?_ hev, rfl, hroom,
        hw.set (j := 0) hj rfl rfl rfl (fun k hk => setRow_other w b k _ hk) ⟨rest.drop (zeros zc m).length, e', setRow_heap w b _ _ e' _ hb, ?_⟩⟩
      · have hadd : (⟨b, 0, none⟩ : Addr).add (n * zc.length) = ⟨b, n * zc.length, none⟩ := by
          unfold Addr.add
          split
          · rename_i h0; rw [h0]
          · simp
        by_cases h0 : m * zc.length = 0
        · have hnil : zeros zc m = [] := List.eq_nil_of_length_eq_zero (by omega)
          rw [hnil] at hst ⊢
          simp only [List.append_nil, List.length_nil, List.drop_zero] at hst ⊢
          simp [Bf.addr, Bf.cp, Builtin.append_, run_underlying ht, run_underlying hu, asInt, asIntOf, hwrap, hneg, hbig, sizeOf, typeInfo, zeroValue, hi, hz, hsz, hzs, h0, hroom, hadd, hst]
        · simp [Bf.addr, Bf.cp, Builtin.append_, run_underlying ht, run_underlying hu, asInt, asIntOf, hwrap, hneg, hbig, sizeOf, typeInfo, zeroValue, hi, hz, hsz, hzs, h0, hroom, hadd, hz0, hst]
      · have := hlen
        have hrl : (zeros zc m).length ≤ rest.length := by
          have := hlen
          simp only [List.length_append, hl] at this
          omega
        simp only [List.length_append, List.length_drop] at this ⊢
        omega
    · refine hgrow cap (some ⟨b, 0, none⟩) rfl rfl hroom ?_
      refine run_firstCells_some (P := C.P) w.drew zc.length n _ n cap xs hl fun j u hj => ?_
      have hadd : (⟨b, 0, none⟩ : Addr).add j = ⟨b, j, none⟩ := by
        unfold Addr.add
        split
        · rename_i h0; rw [h0]
        · simp
      have hjl : j < xs.length := by
        rcases Nat.lt_or_ge j xs.length with h | h
        · exact h
        · simp [List.getElem?_eq_none h] at hj
      rw [hadd]
      have hb2 : w.drew.heap[b]? = some (.cells (xs ++ rest).toArray e' (0, 0)) := hb
      simp only [World.cell?, hb2]
      simp [List.getElem?_append_left hjl, hj]
end
end Go.SX
