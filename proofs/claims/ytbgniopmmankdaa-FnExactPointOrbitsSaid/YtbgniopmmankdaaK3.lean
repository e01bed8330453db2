/- Operations that make or write memory, calls, loops, the begin and the end of a function. Nothing of the program stands here. -/
import Derived.Test.YtbgniopmmankdaaK2
namespace Go.Proofs.Ytbgniopmmankdaa.K
open Go Go.RowKit
set_option linter.unusedVariables false
set_option linter.unusedSimpArgs false

/-- how a call ends: it returns a value -/
def Ret (R : Value → World → Prop) : Ending → World → Prop := fun e w => ∃ v, e = .returned v ∧ R v w

section
variable {P : Program} {X M0 : List Nat} {w0 w : World} {own : List HL} {φs : List (World → Prop)} {n : Nat} {T : List (Nat × Value)} {a : Act} {o : Oper} {ops : Array Oper} {rest : List Oper} {Q : Exit → Act → World → Prop}

/-! ### new blocks -/

theorem Ms.newBlk (h : Ms X M0 w0 own φs w) (E : Nat) (C : List Value) : Ms X M0 w0 (.blk w.heap.size E C :: own) φs (w.alloc (.cells C.toArray E)) :=
  h.allocObj _ _ (by simp only [HL.holds]; exact heap_alloc_new w _) (.inl rfl)

theorem ev_box {E : Nat} {x : Operand} {v : Value} {C : List Value} (ht : Tm n T a) (ho : o.op = .box E x) (hx : opv T x = some v) (hv : v.cells = C.toArray) :
    (execOp a.eval o).run P w = .ok (.value (.pointer (some ⟨w.heap.size, 0, none⟩))) (w.alloc (.cells C.toArray E)) := by
  unfold execOp
  simp [ho, ht.eval hx, Instr.box, newVar, newRow, hv]

theorem wpl_box {E : Nat} {x : Operand} {v : Value} {C : List Value} (hg : o.guard = none) (hd : dstOk o.dst n = true) (ht : Tm n T a) (hm : Ms X M0 w0 own φs w) (ho : o.op = .box E x) (hx : opv T x = some v) (hv : v.cells = C.toArray)
    (k : ∀ b a', Tm n (putT o.dst (.pointer (some ⟨b, 0, none⟩)) T) a' → ∀ w', Ms X M0 w0 (.blk b E C :: own) φs w' → wpList P ops Q rest a' w') : wpList P ops Q (o :: rest) a w :=
  wpl_new hg hd ht (ev_box ht ho hx hv) fun a' ht' => k _ a' ht' _ (hm.newBlk E C)

/-- the cells of a type's zero value -/
def zeroOf (P : Program) (E : Nat) : Option (List Value) :=
  match P.info? E with
  | some i => i.zero.map fun v => v.cells.toList
  | none => none

theorem run_zeroValue {E : Nat} {C : List Value} (h : zeroOf P E = some C) : ∃ z, (zeroValue E).run P w = .ok z w ∧ z.cells.toList = C := by
  unfold zeroOf at h
  cases hi : P.info? E with
  | none => rw [hi] at h; cases h
  | some i =>
    rw [hi] at h
    cases hz : i.zero with
    | none => simp [hz] at h
    | some z =>
      simp [hz] at h
      exact ⟨z, by simp [zeroValue, typeInfo, hi, hz], h⟩

theorem wpl_alloc {E : Nat} {C : List Value} (hg : o.guard = none) (hd : dstOk o.dst n = true) (ht : Tm n T a) (hm : Ms X M0 w0 own φs w) (ho : o.op = .alloc E) (hz : zeroOf P E = some C)
    (k : ∀ b a', Tm n (putT o.dst (.pointer (some ⟨b, 0, none⟩)) T) a' → ∀ w', Ms X M0 w0 (.blk b E C :: own) φs w' → wpList P ops Q rest a' w') : wpList P ops Q (o :: rest) a w := by
  obtain ⟨z, hr, hc⟩ := run_zeroValue (w := w) hz
  have hv : z.cells = C.toArray := by rw [← hc]
  refine wpl_new (v := .pointer (some ⟨w.heap.size, 0, none⟩)) (w' := w.alloc (.cells C.toArray E)) hg hd ht ?_ fun a' ht' => k _ a' ht' _ (hm.newBlk E C)
  unfold execOp
  simp [ho, Instr.alloc, hr, newVar, newRow, hv]

/-! ### stores -/

theorem heap_setCell_row (w : World) (b E p : Nat) (C : List Value) (v : Value) (h : w.heap[b]? = some (.cells C.toArray E (0, 0))) :
    (w.setCell ⟨b, p, none⟩ v).heap[b]? = some (.cells (C.set p v).toArray E (0, 0)) := by
  rw [heap_setCell_same w b p C.toArray E v h]
  simp

theorem Mod.setCell (w : World) (p : Addr) (v : Value) : Mod [p.block] w (w.setCell p v) :=
  ⟨rfl, rfl, rfl, by simp [World.setCell], fun k _ hn => Below.heap_setCell _ _ _ _ (by simpa using hn)⟩

theorem run_storeVar {t : Nat} {p : Addr} {u v : Value} (hs : (P.info? t).map (·.size) = some 1) (hv : v.oneCell' = true) (hc : w.cell? p = some u) (hf : w.frozen? p = false) :
    (storeVar t p v).run P w = .ok () (w.setCell p v) := by
  have hcells : v.cells = #[v] := by cases v <;> simp [Value.oneCell', Value.cells] at hv ⊢
  cases hi : P.info? t with
  | none => simp [hi] at hs
  | some i =>
    have hsz : i.size = 1 := by simpa [hi] using hs
    have hadd : p.add 0 = p := rfl
    have hst := run_store P w (p.add 0) v .plain hv
    rw [hadd, hc] at hst
    simp only [hf, Bool.false_eq_true, if_false] at hst
    simp [storeVar, hcells, sizeOf, typeInfo, hi, hsz, storeCells, hadd, hst]

theorem wpl_store_blk {t b E p : Nat} {x y : Operand} {u v : Value} {C : List Value} (j : Nat) (hg : o.guard = none) (hd : o.dst = none) (ht : Tm n T a) (hm : Ms X M0 w0 own φs w) (ho : o.op = .store t x y)
    (hx : opv T x = some (.pointer (some ⟨b, p, none⟩))) (hy : opv T y = some v) (hs : (P.info? t).map (·.size) = some 1) (hv : v.oneCell' = true) (hj : own[j]? = some (.blk b E C)) (hc : C[p]? = some u)
    (k : ∀ a', Tm n T a' → ∀ w', Ms X M0 w0 (own.set j (.blk b E (C.set p v))) φs w' → wpList P ops Q rest a' w') : wpList P ops Q (o :: rest) a w := by
  have hh := hm.holds _ (List.mem_of_getElem? hj)
  simp only [HL.holds] at hh
  have hcell := hm.blk_cell j hj hc
  have hfr : w.frozen? ⟨b, p, none⟩ = false := frozen_of_row w b p C.toArray E hh
  refine wpl_skip (w' := w.setCell ⟨b, p, none⟩ v) hg hd ht ?_ fun a' ht' => k a' ht' _ ?_
  · unfold execOp
    simp [ho, ht.eval hx, ht.eval hy, Instr.storeAt, Instr.sureAddr, run_storeVar hs hv hcell hfr]
  · exact hm.turnAt j hj (Mod.setCell w ⟨b, p, none⟩ v) (by simp only [HL.holds]; exact heap_setCell_row w b E p C v hh) (by simp [HL.fp]) (by simp [HL.fp])

theorem vecHolds.set {A : Option Addr} {c E m : Nat} {xs : List Value} (h : vecHolds w A c E 1 m xs) {i : Nat} {u : Value} (v : Value) (hi : xs[i]? = some u) :
    ∃ g, A = some ⟨g, 0, none⟩ ∧ 0 < c ∧ w.cell? ⟨g, i, none⟩ = some u ∧ w.frozen? ⟨g, i, none⟩ = false ∧ vecHolds (w.setCell ⟨g, i, none⟩ v) A c E 1 m (xs.set i v) := by
  obtain ⟨h1, h2⟩ := h
  have hil : i < xs.length := (List.getElem?_eq_some_iff.1 hi).1
  rcases h2 with ⟨hc, hn⟩ | ⟨hc, hx, h2⟩
  · omega
  rcases h2 with ⟨h3, h4⟩ | ⟨g, cap, cur, hv, hg, hh, hnc, hmx, hs, htk⟩
  · injection h3 with e1 e2 e3
    omega
  injection hv with e1 e2 e3
  subst e1; subst e3
  have hcur : cur.toList[i]? = some u := by
    rw [← htk, List.getElem?_take] at hi
    split at hi
    · exact hi
    · cases hi
  have hcell : w.cell? ⟨g, i, none⟩ = some u := by
    rw [cell_of_row w g i cur E (0, 0) hh]; simpa using hcur
  refine ⟨g, rfl, hc, hcell, frozen_of_row w g i cur E hh, by simpa using h1, .inr ⟨hc, by simpa using hx, .inr ⟨g, c, (cur.toList.set i v).toArray, rfl, hg, ?_, hnc, hmx, by simpa using hs, ?_⟩⟩⟩
  · have := heap_setCell_row w g E i cur.toList v (by simpa using hh)
    simpa using this
  · rw [← htk]
    simp [List.take_set]

theorem wpl_store_vec {t c E m i : Nat} {x y : Operand} {A : Option Addr} {u v : Value} {xs : List Value} (j : Nat) (hg : o.guard = none) (hd : o.dst = none) (ht : Tm n T a) (hm : Ms X M0 w0 own φs w) (ho : o.op = .store t x y)
    (hx : opv T x = some (.pointer (some (eaddr A i 1)))) (hy : opv T y = some v) (hs : (P.info? t).map (·.size) = some 1) (hv : v.oneCell' = true) (hj : own[j]? = some (.vec A c E 1 m xs)) (hc : xs[i]? = some u)
    (k : ∀ a', Tm n T a' → ∀ w', Ms X M0 w0 (own.set j (.vec A c E 1 m (xs.set i v))) φs w' → wpList P ops Q rest a' w') : wpList P ops Q (o :: rest) a w := by
  have hh := hm.holds _ (List.mem_of_getElem? hj)
  simp only [HL.holds] at hh
  obtain ⟨g, rfl, hc0, hcell, hfr, hset⟩ := hh.set v hc
  have he : eaddr (some ⟨g, 0, none⟩) i 1 = ⟨g, i, none⟩ := by simp [eaddr, addr_add]
  have hfp : (HL.vec (some ⟨g, 0, none⟩) c E 1 m xs).fp = [g] ∧ ∀ ys, (HL.vec (some ⟨g, 0, none⟩) c E 1 m ys).fp = [g] := by
    obtain ⟨c', rfl⟩ : ∃ q, c = q + 1 := ⟨c - 1, by omega⟩
    exact ⟨rfl, fun _ => rfl⟩
  refine wpl_skip (w' := w.setCell ⟨g, i, none⟩ v) hg hd ht ?_ fun a' ht' => k a' ht' _ ?_
  · unfold execOp
    rw [he] at hx
    simp [ho, ht.eval hx, ht.eval hy, Instr.storeAt, Instr.sureAddr, run_storeVar hs hv hcell hfr]
  · refine hm.turnAt j hj ?_ hset (by rw [hfp.2]; simp) (by rw [hfp.2, hfp.1]; simp)
    rw [hfp.1]
    exact Mod.setCell w ⟨g, i, none⟩ v

/-! ### slices that are made -/

theorem Ms.newVec (h : Ms X M0 w0 own φs w) (E c m : Nat) (C : List Value) (hC : C.length = c) (hm : m ≤ c) (hc : c ≤ maxLen) :
    Ms X M0 w0 (.vec (some ⟨w.heap.size, 0, none⟩) c E 1 m (C.take m) :: own) φs (w.alloc (.cells C.toArray E)) := by
  refine h.allocObj _ _ ?_ ?_
  · simp only [HL.holds]
    refine ⟨by simp [hC]; omega, ?_⟩
    by_cases h0 : c = 0
    · exact .inl ⟨h0, by omega⟩
    · refine .inr ⟨by omega, by simp [hC]; omega, .inr ⟨w.heap.size, c, C.toArray, rfl, Nat.zero_le _, heap_alloc_new w _, hm, hc, by simp [hC], by simp⟩⟩
  · cases c with
    | zero => exact .inr rfl
    | succ c => exact .inl rfl

/-- the values of a composite literal, by place -/
def opvp (T : List (Nat × Value)) : List (Nat × Operand) → Option (List (Nat × Value))
  | [] => some []
  | (i, x) :: r => match opv T x, opvp T r with
    | some v, some vs => some ((i, v) :: vs)
    | _, _ => none

theorem Tm.evalp (ht : Tm n T a) : ∀ (xs : List (Nat × Operand)) (vs : List (Nat × Value)), opvp T xs = some vs → xs.map (fun p => (p.1, a.eval p.2)) = vs := by
  intro xs
  induction xs with
  | nil => intro vs hv; simp [opvp] at hv; simp [hv]
  | cons x r ih =>
    obtain ⟨i, x⟩ := x
    intro vs hv
    unfold opvp at hv
    split at hv
    · rename_i v ws h1 h2
      cases hv
      rw [List.map_cons, ht.eval h1, ih _ h2]
    · cases hv

theorem Tm.evalpa (ht : Tm n T a) {xs : Array (Nat × Operand)} {vs : List (Nat × Value)} (h : opvp T xs.toList = some vs) : xs.map (fun p => (p.1, a.eval p.2)) = vs.toArray := by
  apply Array.ext'
  rw [Array.toList_map, ht.evalp _ _ h]

theorem range_map_zero (m : Nat) (z : Value) (f : Nat → Value) (hf : ∀ i, f i = z) : (Array.range m).map f = Array.replicate m z := by
  apply Array.ext'
  simp only [Array.toList_map, Array.toList_range, Array.toList_replicate]
  apply List.ext_getElem?
  intro i
  by_cases h : i < m
  · simp [h, hf]
  · simp [h]

theorem zeroOf_one {E : Nat} {z : Value} (h : zeroOf P E = some [z]) : ∃ i zv, P.info? E = some i ∧ i.zero = some zv ∧ zv.cells = #[z] := by
  unfold zeroOf at h
  cases hi : P.info? E with
  | none => rw [hi] at h; cases h
  | some i =>
    rw [hi] at h
    cases hz : i.zero with
    | none => simp [hz] at h
    | some zv =>
      simp [hz] at h
      refine ⟨i, zv, rfl, hz, ?_⟩
      apply Array.ext'
      exact h

theorem ev_buildSlice {t E m : Nat} {parts : Array (Nat × Operand)} {ps : List (Nat × Value)} {z : Value} {vs : List Value} (ht : Tm n T a) (ho : o.op = .buildSlice t m parts) (hu : P.underlying t = some (.slice E)) (hz : zeroOf P E = some [z]) (hs : (P.info? E).map (·.size) = some 1)
    (hm : m ≤ 16777216) (hp : opvp T parts.toList = some ps) (hf : Instr.fill (fun i => some (i * 1, 1)) (Array.replicate m z) ps = some vs.toArray) :
    (execOp a.eval o).run P w = .ok (.value (.slice (some ⟨w.heap.size, 0, none⟩) m m)) (w.alloc (.cells vs.toArray E)) := by
  obtain ⟨i, zv, hi, hiz, hzc⟩ := zeroOf_one hz
  have hsz : i.size = 1 := by simpa [hi] using hs
  have hm' : ¬ 2 ^ 24 < m := by omega
  unfold execOp
  have hrep : (Array.range m).map (fun x => ([z][x % 1]?).getD default) = Array.replicate m z :=
    range_map_zero m z _ fun j => by simp [Nat.mod_one]
  simp only [ho, ht.evalpa hp]
  simp only [Nat.mul_one] at hf
  by_cases h0 : m = 0
  · subst h0
    simp at hf
    have hr0 : ∀ f : Nat → Value, (Array.range 0).map f = #[] := fun f => by simp
    simp [Instr.buildSlice, run_underlying hu, sizeOf, typeInfo, hi, hsz, newRow, hr0, hf]
  · simp [Instr.buildSlice, run_underlying hu, sizeOf, typeInfo, zeroValue, hi, hsz, hm', h0, hiz, hzc, newRow, hrep, hf]

theorem wpl_buildSlice {t E m : Nat} {parts : Array (Nat × Operand)} {ps : List (Nat × Value)} {z : Value} {vs : List Value} (hg : o.guard = none) (hd : dstOk o.dst n = true) (ht : Tm n T a) (hM : Ms X M0 w0 own φs w) (ho : o.op = .buildSlice t m parts) (hu : P.underlying t = some (.slice E)) (hz : zeroOf P E = some [z]) (hs : (P.info? E).map (·.size) = some 1)
    (hm : m ≤ 16777216) (hp : opvp T parts.toList = some ps) (hf : Instr.fill (fun i => some (i * 1, 1)) (Array.replicate m z) ps = some vs.toArray) (hl : vs.length = m)
    (k : ∀ A a', Tm n (putT o.dst (.slice A m m) T) a' → ∀ w', Ms X M0 w0 (.vec A m E 1 m vs :: own) φs w' → wpList P ops Q rest a' w') : wpList P ops Q (o :: rest) a w := by
  refine wpl_new hg hd ht (ev_buildSlice ht ho hu hz hs hm hp hf) fun a' ht' => k _ a' ht' _ ?_
  have := hM.newVec E m m vs hl (Nat.le_refl _) (by unfold maxLen; omega)
  rwa [List.take_of_length_le (by omega)] at this

/-! ### make -/

theorem wpl_makeSlice {t E : Nat} {x y : Operand} {i j : Int} {k1 k2 : IntKind} {z : Value} (hg : o.guard = none) (hd : dstOk o.dst n = true) (ht : Tm n T a) (hM : Ms X M0 w0 own φs w) (ho : o.op = .makeSlice t x y) (hu : P.underlying t = some (.slice E)) (hz : zeroOf P E = some [z]) (hs : (P.info? E).map (·.size) = some 1)
    (hb : (P.info? E).map (fun i => decide (i.bytes ≤ 1024)) = some true) (hx : opv T x = some (.int k1 i)) (hy : opv T y = some (.int k2 j)) (h0 : 0 ≤ i) (hij : i ≤ j) (hj : j ≤ 1048576 * 1024)
    (k : ∀ A a', Tm n (putT o.dst (.slice A i.toNat j.toNat) T) a' → ∀ w', Ms X M0 w0 (.vec A j.toNat E 1 i.toNat (List.replicate i.toNat z) :: own) φs w' → wpList P ops Q rest a' w') : wpList P ops Q (o :: rest) a w := by
  obtain ⟨inf, zv, hi, hiz, hzc⟩ := zeroOf_one hz
  have hsz : inf.size = 1 := by simpa [hi] using hs
  have hby : inf.bytes ≤ 1024 := by simpa [hi] using hb
  have hwi : IntKind.i64.wrap i = i := IntWalk.i64_in _ (by omega)
  have hwj : IntKind.i64.wrap j = j := IntWalk.i64_in _ (by omega)
  have hbig : ¬ ((inf.bytes : Int) * j > 2 ^ 48) := by
    have h1 : (inf.bytes : Int) * j ≤ 1024 * j := Int.mul_le_mul_of_nonneg_right (by omega) (by omega)
    omega
  refine wpl_new (v := .slice (some ⟨w.heap.size, 0, none⟩) i.toNat j.toNat) (w' := w.alloc (.cells (List.replicate j.toNat z).toArray E)) hg hd ht ?_ fun a' ht' => k _ a' ht' _ ?_
  · unfold execOp
    have hn1 : ¬ i < 0 := by omega
    have hn2 : ¬ j < 0 := by omega
    have hn3 : ¬ j < i := by omega
    have hrep : (Array.range j.toNat).map (fun x => ([z][x % 1]?).getD default) = Array.replicate j.toNat z :=
      range_map_zero _ z _ fun j => by simp [Nat.mod_one]
    simp only [ho, ht.eval hx, ht.eval hy]
    have hbig' : ¬ (281474976710656 < (inf.bytes : Int) * j) := by omega
    by_cases hj0 : j.toNat = 0
    · have : j = 0 := by omega
      subst this
      have : i = 0 := by omega
      subst this
      have hr0 : ∀ f : Nat → Value, (Array.range 0).map f = #[] := fun f => by simp
      have hw0 : IntKind.i64.wrap 0 = 0 := hwi
      simp [Instr.makeSlice, run_underlying hu, asInt, asIntOf, typeInfo, hi, hw0, sizeOf, newRow, hr0]
    · simp [Instr.makeSlice, run_underlying hu, asInt, asIntOf, typeInfo, hi, hwi, hwj, hn1, hn2, hn3, hbig', sizeOf, zeroValue, hsz, hj0, hiz, hzc, newRow, hrep]
  · have := hM.newVec E j.toNat i.toNat (List.replicate j.toNat z) (by simp) (by omega) (by unfold maxLen; omega)
    rwa [List.take_replicate, Nat.min_eq_left (by omega)] at this

end
end Go.Proofs.Ytbgniopmmankdaa.K
