/- Slices of colourings. Nothing of the program stands here. -/
import Derived.Test.YtbgniopmmankdaaKE
namespace Go.Proofs.Ytbgniopmmankdaa.K
open Go Go.RowKit
set_option linter.unusedVariables false
set_option linter.unusedSimpArgs false

def colsC (l : List Col) : List Value := l.flatMap Col.cells
def ColsAt (A : Option Addr) (c n : Nat) (l : List Col) : World → Prop := RowAt A c n 138 (colsC l)
def getC (l : List Col) (i : Int) : Option Col := if 0 ≤ i then l[i.toNat]? else none
def pushC (l : List Col) (x : Col) : Option (List Col) := if l.length < 1000000 then some (l ++ [x]) else none

theorem length_colsC : ∀ l : List Col, (colsC l).length = l.length * 138
  | [] => rfl
  | x :: l => by
    have := length_colsC l
    unfold colsC at this ⊢
    rw [List.flatMap_cons, List.length_append, this, Col.length_cells, List.length_cons]; omega
theorem colsC_get : ∀ (l : List Col) (i : Nat) (x : Col), l[i]? = some x → ∀ (j : Nat) (v : Value), (Col.cells x)[j]? = some v → (colsC l)[i * 138 + j]? = some v
  | [], i, x, h, j, v, hv => by simp at h
  | y :: l, 0, x, h, j, v, hv => by
    simp at h
    subst h
    unfold colsC
    rw [List.flatMap_cons, Nat.zero_mul, Nat.zero_add, List.getElem?_append_left (List.getElem?_eq_some_iff.1 hv).1]
    exact hv
  | y :: l, i + 1, x, h, j, v, hv => by
    have := colsC_get l i x (by simpa using h) j v hv
    unfold colsC at this ⊢
    rw [List.flatMap_cons, List.getElem?_append_right (by rw [Col.length_cells]; omega), Col.length_cells, show (i + 1) * 138 + j - 138 = i * 138 + j by omega]
    exact this
theorem colsC_one (l : List Col) : ∀ v ∈ colsC l, v.oneCell' = true := by
  intro v hv
  obtain ⟨x, _, h⟩ := List.mem_flatMap.1 hv
  exact Col.cells_one x v h
theorem getC_lo {l : List Col} {i : Int} {x : Col} (h : getC l i = some x) : 0 ≤ i := by
  unfold getC at h; split at h
  · assumption
  · cases h
theorem getC_get {l : List Col} {i : Int} {x : Col} (h : getC l i = some x) : l[i.toNat]? = some x := by
  unfold getC at h; split at h
  · exact h
  · cases h
theorem getC_hi {l : List Col} {i : Int} {x : Col} (h : getC l i = some x) : i < (l.length : Int) := by
  have h1 := getC_lo h
  have h2 := (List.getElem?_eq_some_iff.1 (getC_get h)).1
  omega
theorem RowAt.lenC {A : Option Addr} {c m : Nat} {l : List Col} {w : World} (h : RowAt A c m 138 (colsC l) w) : m = l.length := by
  have := h.1
  rw [length_colsC] at this
  omega
theorem apTyN {P : Program} {t E sz by_ : Nat} (hu : P.underlying t = some (.slice E)) (hi : (P.info? E).map (fun i => (i.zero.map fun z => z.cells.size, i.size, i.bytes)) = some (some sz, sz, by_)) (h0 : 0 < sz) : AppTy P t E sz by_ := by
  refine ⟨hu, ?_, h0⟩
  cases h : P.info? E with
  | none => rw [h] at hi; cases hi
  | some i =>
    rw [h] at hi
    simp at hi
    cases hz : i.zero with
    | none => rw [hz] at hi; simp at hi
    | some z => rw [hz] at hi; simp at hi; exact ⟨i, z, rfl, hz, hi.1, hi.2.1, hi.2.2⟩

section
variable {P : Program} {X M0 : List Nat} {w0 w : World} {own : List HL} {φs : List (World → Prop)} {n : Nat} {T : List (Nat × Value)} {a : Act} {o : Oper} {ops : Array Oper} {rest : List Oper} {Q : Exit → Act → World → Prop}

theorem Ms.newVecN (h : Ms X M0 w0 own φs w) (E sz m : Nat) (C : List Value) (hC : C.length = m * sz) (hc : m ≤ maxLen) :
    Ms X M0 w0 (.vec (some ⟨w.heap.size, 0, none⟩) m E sz m C :: own) φs (w.alloc (.cells C.toArray E)) := by
  refine h.allocObj _ _ ?_ ?_
  · simp only [HL.holds]
    refine ⟨hC, ?_⟩
    by_cases h0 : m = 0
    · exact .inl ⟨h0, h0⟩
    · refine .inr ⟨by omega, hC, .inr ⟨w.heap.size, m, C.toArray, rfl, Nat.zero_le _, heap_alloc_new w _, Nat.le_refl _, hc, by simp [hC], by rw [← hC]; simp⟩⟩
  · cases m with
    | zero => exact .inr rfl
    | succ m => exact .inl rfl

theorem zeroOf_some {E : Nat} {Z : List Value} (h : zeroOf P E = some Z) : ∃ i zv, P.info? E = some i ∧ i.zero = some zv ∧ zv.cells = Z.toArray := by
  unfold zeroOf at h
  cases hi : P.info? E with
  | none => rw [hi] at h; cases h
  | some i =>
    rw [hi] at h
    cases hz : i.zero with
    | none => simp [hz] at h
    | some zv =>
      simp [hz] at h
      refine ⟨i, zv, rfl, hz, ?_⟩
      apply Array.ext'
      rw [h]

/-- no colouring, or one -/
theorem wpl_build_cols0 {t E : Nat} {Z : List Value} (hg : o.guard = none) (hd : dstOk o.dst n = true) (ht : Tm n T a) (hM : Ms X M0 w0 own φs w) (ho : o.op = .buildSlice t 0 #[]) (hu : P.underlying t = some (.slice E)) (hs : (P.info? E).map (·.size) = some 138)
    (k : ∀ A a', Tm n (putT o.dst (.slice A 0 0) T) a' → ∀ w', Ms X M0 w0 (.vec A 0 E 138 0 (colsC []) :: own) φs w' → wpList P ops Q rest a' w') : wpList P ops Q (o :: rest) a w := by
  refine wpl_new (v := .slice (some ⟨w.heap.size, 0, none⟩) 0 0) (w' := w.alloc (.cells ([] : List Value).toArray E)) hg hd ht ?_ fun a' ht' => k _ a' ht' _ (hM.newVecN E 138 0 [] rfl (Nat.zero_le _))
  cases hi : P.info? E with
  | none => rw [hi] at hs; simp at hs
  | some i =>
    have hsz : i.size = 138 := by simpa [hi] using hs
    have hr0 : ∀ f : Nat → Value, (Array.range 0).map f = #[] := fun f => by simp
    unfold execOp
    simp [ho, Instr.buildSlice, run_underlying hu, sizeOf, typeInfo, hi, hsz, newRow, Instr.fill, hr0]

theorem range_map_list (Z : List Value) (hZ : Z.length = 138) : (Array.range 138).map (fun x => (Z[x % Z.length]?).getD default) = Z.toArray := by
  apply Array.ext'
  simp only [Array.toList_map, Array.toList_range]
  apply List.ext_getElem?
  intro i
  rw [List.getElem?_map]
  by_cases h : i < 138
  · rw [List.getElem?_range h]
    have h2 : i % Z.length = i := by rw [hZ]; exact Nat.mod_eq_of_lt h
    simp only [Option.map_some, h2]
    rw [List.getElem?_eq_getElem (by omega)]
    simp
  · rw [List.getElem?_eq_none (by simp; omega), List.getElem?_eq_none (by omega)]; rfl

theorem wpl_build_cols1 {t E : Nat} {x : Operand} {v : Col} (hg : o.guard = none) (hd : dstOk o.dst n = true) (ht : Tm n T a) (hM : Ms X M0 w0 own φs w) (ho : o.op = .buildSlice t 1 #[(0, x)]) (hu : P.underlying t = some (.slice E)) (hz : zeroOf P E = some (Col.cells Col.zero)) (hs : (P.info? E).map (·.size) = some 138)
    (hx : opv T x = some (.agg (Col.cells v).toArray))
    (k : ∀ A a', Tm n (putT o.dst (.slice A 1 1) T) a' → ∀ w', Ms X M0 w0 (.vec A 1 E 138 1 (colsC [v]) :: own) φs w' → wpList P ops Q rest a' w') : wpList P ops Q (o :: rest) a w := by
  have e : colsC [v] = Col.cells v := by simp [colsC]
  refine wpl_new (v := .slice (some ⟨w.heap.size, 0, none⟩) 1 1) (w' := w.alloc (.cells (Col.cells v).toArray E)) hg hd ht ?_ fun a' ht' => k _ a' ht' _ (by rw [e]; exact hM.newVecN E 138 1 (Col.cells v) (by rw [Col.length_cells]) (by unfold maxLen; omega))
  obtain ⟨i, zv, hi, hiz, hzc⟩ := zeroOf_some hz
  have hsz : i.size = 138 := by simpa [hi] using hs
  have hf : Instr.fill (fun j => some (j * 138, 138)) (Col.cells Col.zero).toArray [(0, .agg (Col.cells v).toArray)] = some (Col.cells v).toArray := by
    have := fill_step (place := fun j => some (j * 138, 138)) (A := []) (B := Col.cells Col.zero) (C := []) (B' := Col.cells v) (i := 0) (v := .agg (Col.cells v).toArray) (rest := []) rfl rfl rfl (Col.length_cells _) (Col.length_cells _)
    simp only [List.nil_append, List.append_nil] at this
    rw [this, Instr.fill]
  have hr := range_map_list (Col.cells Col.zero) (Col.length_cells _)
  unfold execOp
  have hev := ht.eval hx
  simp only [ho, List.map_toArray, List.map_cons, List.map_nil, hev]
  simp [Instr.buildSlice, run_underlying hu, sizeOf, zeroValue, typeInfo, hi, hiz, hzc, hsz, hr, hf, newRow]

theorem wpl_push_cols {t E c c1 m : Nat} {x y : Operand} {A B : Option Addr} {l r : List Col} {v : Col} (j i : Nat) (hg : o.guard = none) (hd : dstOk o.dst n = true) (ht : Tm n T a) (hM : Ms X M0 w0 own φs w)
    (ho : o.op = .call { callee := .builtin .append, args := #[x, y], argTypes := #[t, t] }) (hty : AppTy P t E 138 152) (hx : opv T x = some (.slice A m c)) (hy : opv T y = some (.slice B 1 c1))
    (hj : own[j]? = some (.vec A c E 138 m (colsC l))) (hi : own[i]? = some (.vec B c1 E 138 1 (colsC [v]))) (hp : pushC l v = some r)
    (kk : ∀ A' c' m' a', Tm n (putT o.dst (.slice A' m' c') T) a' → ∀ w', Ms X M0 w0 (own.set j (.vec A' c' E 138 m' (colsC r))) φs w' → wpList P ops Q rest a' w') : wpList P ops Q (o :: rest) a w := by
  unfold pushC at hp
  split at hp
  · next hlt =>
    cases hp
    have hm := (hM.vec_row j hj).lenC
    refine wpl_append j hg hd ht hM ho hty hx hy hj (hM.vec_row i hi) (colsC_one _) (by omega) (by unfold maxLen; omega) ?_
    intro A' c' a' ht' w' hm'
    have e1 : colsC l ++ colsC [v] = colsC (l ++ [v]) := by simp [colsC]
    rw [e1] at hm'
    exact kk A' c' _ a' ht' w' hm'
  · cases hp

theorem ev_len_cols {x : Operand} {A : Option Addr} {m c : Nat} {t : TypeId} {e : TypeId} {l : List Col} (ht : Tm n T a) (ho : o.op = .call { callee := .builtin .len, args := #[x], argTypes := #[t] }) (hx : opv T x = some (.slice A m c)) (hu : P.underlying t = some (.slice e)) (hr : RowAt A c m 138 (colsC l) w) :
    (execOp a.eval o).run P w = .ok (.value (.int .i64 (l.length : Int))) w := by
  rw [← hr.lenC]
  exact ev_len ht ho hx hu
theorem ev_index_cols {t : TypeId} {x ix : Operand} {A : Option Addr} {m c : Nat} {k : IntKind} {i : Int} {v : Col} {l : List Col} (ht : Tm n T a) (ho : o.op = .indexAddr t x ix) (hx : opv T x = some (.slice A m c)) (hi : opv T ix = some (.int k i))
    (hf : sliceOf P t = some 138) (hr : RowAt A c m 138 (colsC l) w) (hv : getC l i = some v) : (execOp a.eval o).run P w = .ok (.value (.pointer (some (eaddr A i.toNat 138)))) w :=
  ev_indexAddr_sl ht ho hx hi hf (getC_lo hv) (by rw [hr.lenC]; exact getC_hi hv) hr.base
theorem ev_load_cols {t : Nat} {x : Operand} {A : Option Addr} {m c : Nat} {i : Int} {v : Col} {l : List Col} (ht : Tm n T a) (ho : o.op = .load t x) (hx : opv T x = some (.pointer (some (eaddr A i.toNat 138)))) (hs : aggSize P t = some 138)
    (hr : RowAt A c m 138 (colsC l) w) (hv : getC l i = some v) : (execOp a.eval o).run P w = .ok (.value (.agg (Col.cells v).toArray)) w := by
  have h1 := hr.lenC
  have h2 := getC_hi hv
  rcases hr.2.2 with h | ⟨b, p, rfl, hc⟩
  · have := getC_lo hv; omega
  · have e : eaddr (some ⟨b, p, none⟩) i.toNat 138 = ⟨b, p + i.toNat * 138, none⟩ := by simp [eaddr, addr_add]
    rw [e] at hx
    refine ev_load_agg ht ho hx (by rw [hs, Col.length_cells]) fun j u hu => ?_
    have := hc (i.toNat * 138 + j) u (colsC_get l i.toNat v (getC_get hv) j u hu)
    rw [Nat.add_assoc]
    exact this

end
end Go.Proofs.Ytbgniopmmankdaa.K
