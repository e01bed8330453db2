/- Lists of numbers, colourings as rows of cells, and the words of the pure functions. -/
import Derived.Test.YtbgniopmmankdaaK5
namespace Go.Proofs.Ytbgniopmmankdaa.K
open Go Go.RowKit
set_option linter.unusedVariables false
set_option linter.unusedSimpArgs false

/-! ### words of the pure functions -/

abbrev w64 (x : Int) : Int := IntKind.wrap .i64 x
abbrev wu64 (x : Int) : Int := IntKind.wrap .u64 x
abbrev w8 (x : Int) : Int := IntKind.wrap .u8 x

def guardO (p : Prop) [Decidable p] : Option Unit := if p then some () else none
def getI (l : List Int) (i : Int) : Option Int := if 0 ≤ i then l[i.toNat]? else none
def getB (m : Nat) (e : Nat → Int) (i : Int) : Option Int := if 0 ≤ i ∧ i < m then some (e i.toNat) else none
def push (l : List Int) (x : Int) : Option (List Int) := if l.length < 1099511627776 then some (l ++ [x]) else none
def concat (l r : List Int) : Option (List Int) := if l.length + r.length < 1099511627776 then some (l ++ r) else none
def getR (l : List (List Int)) (i : Int) : Option (List Int) := if 0 ≤ i then l[i.toNat]? else none
def concatR (l r : List (List Int)) : Option (List (List Int)) := if l.length + r.length < 1099511627776 then some (l ++ r) else none
def upd (e : Nat → Int) (i : Nat) (v : Int) : Nat → Int := fun j => if j = i then v else e j

theorem ite_yes {α : Type} {c : Prop} [Decidable c] {x y z : α} (h : c) (H : (if c then x else y) = z) : x = z := by rw [if_pos h] at H; exact H
theorem ite_no {α : Type} {c : Prop} [Decidable c] {x y z : α} (h : ¬ c) (H : (if c then x else y) = z) : y = z := by rw [if_neg h] at H; exact H
theorem bind_get {α β : Type} {o : Option α} {f : α → Option β} {r : β} (H : o.bind f = some r) : ∃ x, o = some x ∧ f x = some r := by
  cases o with
  | none => cases H
  | some x => exact ⟨x, rfl, H⟩

theorem guardO_get {p : Prop} [Decidable p] {u : Unit} (h : guardO p = some u) : p := by
  unfold guardO at h; split at h
  · assumption
  · cases h

theorem getI_lo {l : List Int} {i x : Int} (h : getI l i = some x) : 0 ≤ i := by
  unfold getI at h; split at h
  · assumption
  · cases h

theorem getI_get {l : List Int} {i x : Int} (h : getI l i = some x) : l[i.toNat]? = some x := by
  unfold getI at h; split at h
  · exact h
  · cases h

theorem getI_hi {l : List Int} {i x : Int} (h : getI l i = some x) : i < (l.length : Int) := by
  have h1 := getI_lo h
  have h2 := (List.getElem?_eq_some_iff.1 (getI_get h)).1
  omega

theorem ints_get {l : List Int} {i x : Int} (h : getI l i = some x) : (ints l)[i.toNat]? = some (.int .i64 x) := by
  have := getI_get h
  simp [ints, this]

theorem getB_lo {m : Nat} {e : Nat → Int} {i x : Int} (h : getB m e i = some x) : 0 ≤ i := by
  unfold getB at h; split at h
  · rename_i h'; exact h'.1
  · cases h

theorem getB_hi {m : Nat} {e : Nat → Int} {i x : Int} (h : getB m e i = some x) : i < (m : Int) := by
  unfold getB at h; split at h
  · rename_i h'; exact h'.2
  · cases h

theorem getB_val {m : Nat} {e : Nat → Int} {i x : Int} (h : getB m e i = some x) : e i.toNat = x := by
  unfold getB at h; split at h
  · cases h; rfl
  · cases h

theorem push_get {l r : List Int} {x : Int} (h : push l x = some r) : r = l ++ [x] := by
  unfold push at h; split at h
  · cases h; rfl
  · cases h

theorem push_lt {l r : List Int} {x : Int} (h : push l x = some r) : l.length < 1099511627776 := by
  unfold push at h; split at h
  · assumption
  · cases h

/-! ### bytes, colourings -/

def bytesC (m : Nat) (e : Nat → Int) : List Value := (List.range m).map fun i => .int .u8 (e i)

theorem length_bytesC (m : Nat) (e : Nat → Int) : (bytesC m e).length = m := by simp [bytesC]

theorem bytesC_get {m : Nat} {e : Nat → Int} {i : Nat} (h : i < m) : (bytesC m e)[i]? = some (.int .u8 (e i)) := by
  simp [bytesC, h]

theorem bytesC_set {m : Nat} {e : Nat → Int} {i : Nat} {v : Int} : (bytesC m e).set i (.int .u8 v) = bytesC m (upd e i v) := by
  apply List.ext_getElem?
  intro j
  rw [List.getElem?_set]
  by_cases hj : j < m
  · by_cases h : i = j
    · subst h
      rw [if_pos rfl, length_bytesC, if_pos hj, bytesC_get hj]
      simp [upd]
    · rw [if_neg h, bytesC_get hj, bytesC_get hj]
      simp [upd, Ne.symm h]
  · have h1 : (bytesC m (upd e i v))[j]? = none := by rw [List.getElem?_eq_none]; rw [length_bytesC]; omega
    have h2 : (bytesC m e)[j]? = none := by rw [List.getElem?_eq_none]; rw [length_bytesC]; omega
    rw [h1, h2]
    split
    · rw [length_bytesC]; split
      · omega
      · rfl
    · rfl

structure Col where
  p : Int
  k : Int
  e : Nat → Int

def Col.cells (x : Col) : List Value := .int .i64 x.p :: .int .i64 x.k :: bytesC 136 x.e
def Col.setE (x : Col) (i : Nat) (v : Int) : Col := { x with e := upd x.e i v }
def Col.setEs (x : Col) (e : Nat → Int) : Col := { x with e := e }
def Col.setP (x : Col) (v : Int) : Col := { x with p := v }
def Col.setK (x : Col) (v : Int) : Col := { x with k := v }
def Col.zero : Col := ⟨0, 0, fun _ => 0⟩
/-- Go's '==' -/
def Col.same (x y : Col) : Bool := x.p == y.p && x.k == y.k && (List.range 136).all fun i => x.e i == y.e i

theorem Col.length_cells (x : Col) : x.cells.length = 138 := by simp [Col.cells, length_bytesC]

theorem Col.get {x : Col} {i v : Int} (h : getB 136 x.e i = some v) : x.cells[0 + 2 + i.toNat * 1]? = some (.int .u8 v) := by
  have h1 := getB_hi h
  have h2 := getB_lo h
  have : 0 + 2 + i.toNat * 1 = i.toNat + 1 + 1 := by omega
  rw [this]
  simp only [Col.cells, List.getElem?_cons_succ]
  rw [bytesC_get (by omega), getB_val h]

theorem Col.set_e {x : Col} {i : Int} {v : Int} : x.cells.set (0 + 2 + i.toNat * 1) (.int .u8 v) = (x.setE i.toNat v).cells := by
  have : 0 + 2 + i.toNat * 1 = i.toNat + 1 + 1 := by omega
  rw [this]
  simp only [Col.cells, Col.setE, List.set_cons_succ, bytesC_set]

theorem Col.edges_get {x : Col} {i : Nat} {v : Value} (h : (bytesC 136 x.e)[i]? = some v) : x.cells[0 + 2 + i]? = some v := by
  have : 0 + 2 + i = i + 1 + 1 := by omega
  rw [this]
  simpa [Col.cells] using h

theorem bytes_get {m : Nat} {e : Nat → Int} {i v : Int} (h : getB m e i = some v) : (bytesC m e)[0 + i.toNat * 1]? = some (.int .u8 v) := by
  have h1 := getB_hi h
  have h2 := getB_lo h
  have : 0 + i.toNat * 1 = i.toNat := by omega
  rw [this, bytesC_get (by omega), getB_val h]

section
variable {P : Program} {X M0 : List Nat} {w0 w : World} {own : List HL} {φs : List (World → Prop)} {n : Nat} {T : List (Nat × Value)} {a : Act} {o : Oper} {ops : Array Oper} {rest : List Oper} {Q : Exit → Act → World → Prop}

theorem Ms.blk_all (h : Ms X M0 w0 own φs w) (k : Nat) {b E : Nat} {C : List Value} (hk : own[k]? = some (.blk b E C)) : ∀ i v, C[i]? = some v → w.cell? ⟨b, 0 + i, none⟩ = some v := by
  intro i v hv
  rw [Nat.zero_add]
  exact h.blk_cell k hk hv

theorem Ms.col_edges (h : Ms X M0 w0 own φs w) (k : Nat) {b E : Nat} {x : Col} (hk : own[k]? = some (.blk b E x.cells)) : ∀ i v, (bytesC 136 x.e)[i]? = some v → w.cell? ⟨b, 0 + 2 + i, none⟩ = some v := by
  intro i v hv
  exact h.blk_cell k hk (Col.edges_get hv)

/-- a byte of a colouring's edges is written -/
theorem wpl_store_colE {t b E : Nat} {x y : Operand} {i v u : Int} {C : Col} (j : Nat) (hg : o.guard = none) (hd : o.dst = none) (ht : Tm n T a) (hm : Ms X M0 w0 own φs w) (ho : o.op = .store t x y)
    (hx : opv T x = some (.pointer (some ⟨b, 0 + 2 + i.toNat * 1, none⟩))) (hy : opv T y = some (.int .u8 v)) (hs : (P.info? t).map (·.size) = some 1) (hj : own[j]? = some (.blk b E C.cells)) (hc : getB 136 C.e i = some u)
    (k : ∀ a', Tm n T a' → ∀ w', Ms X M0 w0 (own.set j (.blk b E (C.setE i.toNat v).cells)) φs w' → wpList P ops Q rest a' w') : wpList P ops Q (o :: rest) a w := by
  refine wpl_store_blk j hg hd ht hm ho hx hy hs rfl hj (Col.get hc) ?_
  intro a' ht' w' hm'
  rw [Col.set_e] at hm'
  exact k a' ht' w' hm'

theorem wpl_store_bytes {t b E m : Nat} {x y : Operand} {i v u : Int} {e : Nat → Int} (j : Nat) (hg : o.guard = none) (hd : o.dst = none) (ht : Tm n T a) (hm : Ms X M0 w0 own φs w) (ho : o.op = .store t x y)
    (hx : opv T x = some (.pointer (some ⟨b, 0 + i.toNat * 1, none⟩))) (hy : opv T y = some (.int .u8 v)) (hs : (P.info? t).map (·.size) = some 1) (hj : own[j]? = some (.blk b E (bytesC m e))) (hc : getB m e i = some u)
    (k : ∀ a', Tm n T a' → ∀ w', Ms X M0 w0 (own.set j (.blk b E (bytesC m (upd e i.toNat v)))) φs w' → wpList P ops Q rest a' w') : wpList P ops Q (o :: rest) a w := by
  refine wpl_store_blk j hg hd ht hm ho hx hy hs rfl hj (bytes_get hc) ?_
  intro a' ht' w' hm'
  have : 0 + i.toNat * 1 = i.toNat := by omega
  rw [this, bytesC_set] at hm'
  exact k a' ht' w' hm'

/-- a whole variable is written -/
theorem wpl_store_whole {t b E : Nat} {x y : Operand} {C xs : List Value} (j : Nat) (hg : o.guard = none) (hd : o.dst = none) (ht : Tm n T a) (hm : Ms X M0 w0 own φs w) (ho : o.op = .store t x y)
    (hx : opv T x = some (.pointer (some ⟨b, 0, none⟩))) (hy : opv T y = some (.agg xs.toArray)) (hs : (P.info? t).map (·.size) = some xs.length) (hj : own[j]? = some (.blk b E C)) (hl : C.length = xs.length) (h1 : ∀ v ∈ xs, v.oneCell' = true)
    (k : ∀ a', Tm n T a' → ∀ w', Ms X M0 w0 (own.set j (.blk b E xs)) φs w' → wpList P ops Q rest a' w') : wpList P ops Q (o :: rest) a w := by
  have hh := hm.holds _ (List.mem_of_getElem? hj)
  simp only [HL.holds] at hh
  have hst := run_storeCells_at P b 0 E xs 0 C.toArray w hh (by simp [hl]) h1
  have hrow : (C.toArray.toList.take (0 + 0) ++ xs ++ C.toArray.toList.drop (0 + 0 + xs.length)).toArray = xs.toArray := by
    simp [← hl]
  rw [hrow] at hst
  refine wpl_skip (w' := w.setRow b xs.toArray) hg hd ht ?_ fun a' ht' => k a' ht' _ ?_
  · unfold execOp
    cases hi : P.info? t with
    | none => simp [hi] at hs
    | some inf =>
      have hsz : inf.size = xs.length := by simpa [hi] using hs
      simp [ho, ht.eval hx, ht.eval hy, Instr.storeAt, Instr.sureAddr, storeVar, Value.cells, sizeOf, typeInfo, hi, hsz, hst]
  · refine hm.turnAt j hj ⟨rfl, rfl, rfl, by simp, fun q _ hq => setRow_other w b q _ (fun e => hq (by simp [HL.fp, e]))⟩ ?_ (by simp [HL.fp]) (by simp [HL.fp])
    simp only [HL.holds]
    exact setRow_heap w b C.toArray xs.toArray E _ hh

/-- a part of a variable that is a row of bytes (an array within a struct) is written -/
theorem wpl_store_edges {t b E : Nat} {x y : Operand} {e : Nat → Int} {C : Col} (j : Nat) (hg : o.guard = none) (hd : o.dst = none) (ht : Tm n T a) (hm : Ms X M0 w0 own φs w) (ho : o.op = .store t x y)
    (hx : opv T x = some (.pointer (some ⟨b, 0 + 2, none⟩))) (hy : opv T y = some (.agg (bytesC 136 e).toArray)) (hs : (P.info? t).map (·.size) = some 136) (hj : own[j]? = some (.blk b E C.cells))
    (k : ∀ a', Tm n T a' → ∀ w', Ms X M0 w0 (own.set j (.blk b E (Col.setEs C e).cells)) φs w' → wpList P ops Q rest a' w') : wpList P ops Q (o :: rest) a w := by
  have hh := hm.holds _ (List.mem_of_getElem? hj)
  simp only [HL.holds] at hh
  have h1 : ∀ v ∈ bytesC 136 e, v.oneCell' = true := by
    intro v hv
    simp only [bytesC, List.mem_map] at hv
    obtain ⟨i, _, rfl⟩ := hv
    rfl
  have hst := run_storeCells_at P b (0 + 2) E (bytesC 136 e) 0 C.cells.toArray w hh (by simp [length_bytesC, Col.length_cells]) h1
  have hrow : (C.cells.toArray.toList.take (0 + 2 + 0) ++ bytesC 136 e ++ C.cells.toArray.toList.drop (0 + 2 + 0 + (bytesC 136 e).length)).toArray = (Col.setEs C e).cells.toArray := by
    have hd : C.cells.drop (0 + 2 + 0 + 136) = [] := List.drop_of_length_le (by rw [Col.length_cells]; decide)
    rw [length_bytesC, hd]
    simp [Col.cells, Col.setEs]
  rw [hrow] at hst
  refine wpl_skip (w' := w.setRow b (Col.setEs C e).cells.toArray) hg hd ht ?_ fun a' ht' => k a' ht' _ ?_
  · unfold execOp
    cases hi : P.info? t with
    | none => simp [hi] at hs
    | some inf =>
      have hsz : inf.size = 136 := by simpa [hi] using hs
      simp [ho, ht.eval hx, ht.eval hy, Instr.storeAt, Instr.sureAddr, storeVar, Value.cells, sizeOf, typeInfo, hi, hsz, length_bytesC, hst]
  · refine hm.turnAt j hj ⟨rfl, rfl, rfl, by simp, fun q _ hq => setRow_other w b q _ (fun e => hq (by simp [HL.fp, e]))⟩ ?_ (by simp [HL.fp]) (by simp [HL.fp])
    simp only [HL.holds]
    exact setRow_heap w b C.cells.toArray _ E _ hh

theorem Col.cells_one (x : Col) : ∀ v ∈ x.cells, v.oneCell' = true := by
  intro v hv
  simp only [Col.cells, List.mem_cons, bytesC, List.mem_map] at hv
  rcases hv with rfl | rfl | ⟨i, _, rfl⟩ <;> rfl

theorem bytesC_one (m : Nat) (e : Nat → Int) : ∀ v ∈ bytesC m e, v.oneCell' = true := by
  intro v hv
  simp only [bytesC, List.mem_map] at hv
  obtain ⟨i, _, rfl⟩ := hv
  rfl

theorem not_t {b : Bool} (h : b = true) : (!b) = false := by rw [h]; rfl
theorem not_f {b : Bool} (h : b = false) : (!b) = true := by rw [h]; rfl

theorem wrapU_nonneg (k : IntKind) (x : Int) (h : k.signed = false) : 0 ≤ IntKind.wrap k x := by
  unfold IntKind.wrap
  rw [h]
  simp only [Bool.false_and, Bool.false_eq_true, if_false]
  exact Int.emod_nonneg _ (by cases k <;> simp [IntKind.bits])

/-! ### lists of numbers -/

theorem ints_one (l : List Int) : ∀ v ∈ ints l, v.oneCell' = true := by
  intro v hv
  simp only [ints, List.mem_map] at hv
  obtain ⟨x, _, rfl⟩ := hv
  rfl

theorem RowAt.len {A : Option Addr} {c m : Nat} {l : List Int} (h : RowAt A c m 1 (ints l) w) : m = l.length := by
  have := h.1
  simp [length_ints] at this
  omega

theorem IntsAt.len {A : Option Addr} {c m : Nat} {l : List Int} (h : IntsAt A c m l w) : m = l.length := RowAt.len h

theorem ev_len_of {x : Operand} {A : Option Addr} {m c : Nat} {t : TypeId} {e : TypeId} {l : List Int} (ht : Tm n T a) (ho : o.op = .call { callee := .builtin .len, args := #[x], argTypes := #[t] }) (hx : opv T x = some (.slice A m c)) (hu : P.underlying t = some (.slice e)) (hr : RowAt A c m 1 (ints l) w) :
    (execOp a.eval o).run P w = .ok (.value (.int .i64 (l.length : Int))) w := by
  rw [← hr.len]
  exact ev_len ht ho hx hu

theorem ev_index_ints {t : TypeId} {x ix : Operand} {A : Option Addr} {m c : Nat} {k : IntKind} {i v : Int} {l : List Int} (ht : Tm n T a) (ho : o.op = .indexAddr t x ix) (hx : opv T x = some (.slice A m c)) (hi : opv T ix = some (.int k i))
    (hf : sliceOf P t = some 1) (hr : RowAt A c m 1 (ints l) w) (hv : getI l i = some v) : (execOp a.eval o).run P w = .ok (.value (.pointer (some (eaddr A i.toNat 1)))) w :=
  ev_indexAddr_sl ht ho hx hi hf (getI_lo hv) (by rw [hr.len]; exact getI_hi hv) hr.base

theorem apTy {t E by_ : Nat} (hu : P.underlying t = some (.slice E)) (hi : (P.info? E).map (fun i => (i.zero.map fun z => z.cells.size, i.size, i.bytes)) = some (some 1, 1, by_)) (_ : 0 < 1) : AppTy P t E 1 by_ := by
  refine ⟨hu, ?_, by decide⟩
  cases h : P.info? E with
  | none => rw [h] at hi; cases hi
  | some i =>
    rw [h] at hi
    simp at hi
    cases hz : i.zero with
    | none => rw [hz] at hi; simp at hi
    | some z => rw [hz] at hi; simp at hi; exact ⟨i, z, rfl, hz, hi.1, hi.2.1, hi.2.2⟩

/-- x is pushed onto heaplet j; heaplet i is the one-element slice that holds it -/
theorem wpl_push {t E c c1 m : Nat} {x y : Operand} {A B : Option Addr} {l r : List Int} {v : Int} (j i : Nat) (hg : o.guard = none) (hd : dstOk o.dst n = true) (ht : Tm n T a) (hM : Ms X M0 w0 own φs w)
    (ho : o.op = .call { callee := .builtin .append, args := #[x, y], argTypes := #[t, t] }) (hty : AppTy P t E 1 8) (hx : opv T x = some (.slice A m c)) (hy : opv T y = some (.slice B 1 c1))
    (hj : own[j]? = some (.vec A c E 1 m (ints l))) (hi : own[i]? = some (.vec B c1 E 1 1 (ints [v]))) (hp : push l v = some r)
    (kk : ∀ A' c' m' a', Tm n (putT o.dst (.slice A' m' c') T) a' → ∀ w', Ms X M0 w0 (own.set j (.vec A' c' E 1 m' (ints r))) φs w' → wpList P ops Q rest a' w') : wpList P ops Q (o :: rest) a w := by
  have hlt := push_lt hp
  have hr := push_get hp
  subst hr
  have hm := (hM.vec_row j hj).len
  refine wpl_append j hg hd ht hM ho hty hx hy hj (hM.vec_row i hi) (ints_one _) (by omega) (by unfold maxLen; omega) ?_
  intro A' c' a' ht' w' hm'
  have e1 : ints l ++ ints [v] = ints (l ++ [v]) := by simp [ints]
  rw [e1] at hm'
  exact kk A' c' _ a' ht' w' hm'

/-- a row that can be read is appended onto heaplet j -/
theorem wpl_concat {t E c c1 m m1 : Nat} {x y : Operand} {A B : Option Addr} {l l1 r : List Int} (j : Nat) (hg : o.guard = none) (hd : dstOk o.dst n = true) (ht : Tm n T a) (hM : Ms X M0 w0 own φs w)
    (ho : o.op = .call { callee := .builtin .append, args := #[x, y], argTypes := #[t, t] }) (hty : AppTy P t E 1 8) (hx : opv T x = some (.slice A m c)) (hy : opv T y = some (.slice B m1 c1))
    (hj : own[j]? = some (.vec A c E 1 m (ints l))) (hi : RowAt B c1 m1 1 (ints l1) w) (hp : concat l l1 = some r)
    (kk : ∀ A' c' m' a', Tm n (putT o.dst (.slice A' m' c') T) a' → ∀ w', Ms X M0 w0 (own.set j (.vec A' c' E 1 m' (ints r))) φs w' → wpList P ops Q rest a' w') : wpList P ops Q (o :: rest) a w := by
  unfold concat at hp
  split at hp
  · rename_i hlt
    cases hp
    have hm := (hM.vec_row j hj).len
    have hm1 := hi.len
    refine wpl_append j hg hd ht hM ho hty hx hy hj hi (ints_one _) (by omega) (by unfold maxLen; omega) ?_
    intro A' c' a' ht' w' hm'
    have e1 : ints l ++ ints l1 = ints (l ++ l1) := by simp [ints]
    rw [e1] at hm'
    exact kk A' c' _ a' ht' w' hm'
  · cases hp

/-- an element of a list of numbers of the call's own is written -/
theorem wpl_store_int {t c E m : Nat} {x y : Operand} {A : Option Addr} {u v i : Int} {l : List Int} (j : Nat) (hg : o.guard = none) (hd : o.dst = none) (ht : Tm n T a) (hm : Ms X M0 w0 own φs w) (ho : o.op = .store t x y)
    (hx : opv T x = some (.pointer (some (eaddr A i.toNat 1)))) (hy : opv T y = some (.int .i64 v)) (hs : (P.info? t).map (·.size) = some 1) (hj : own[j]? = some (.vec A c E 1 m (ints l))) (hc : getI l i = some u)
    (k : ∀ a', Tm n T a' → ∀ w', Ms X M0 w0 (own.set j (.vec A c E 1 m (ints (l.set i.toNat v)))) φs w' → wpList P ops Q rest a' w') : wpList P ops Q (o :: rest) a w := by
  refine wpl_store_vec j hg hd ht hm ho hx hy hs rfl hj (ints_get hc) ?_
  intro a' ht' w' hm'
  have : (ints l).set i.toNat (.int .i64 v) = ints (l.set i.toNat v) := by simp [ints, List.map_set]
  rw [this] at hm'
  exact k a' ht' w' hm'

/-- make([]int64, n) -/
theorem wpl_make_ints {t E : Nat} {x y : Operand} {i : Int} {k1 k2 : IntKind} (hg : o.guard = none) (hd : dstOk o.dst n = true) (ht : Tm n T a) (hM : Ms X M0 w0 own φs w) (ho : o.op = .makeSlice t x y) (hu : P.underlying t = some (.slice E)) (hz : zeroOf P E = some [.int .i64 0]) (hs : (P.info? E).map (·.size) = some 1)
    (hb : (P.info? E).map (fun i => decide (i.bytes ≤ 1024)) = some true) (hx : opv T x = some (.int k1 i)) (hy : opv T y = some (.int k2 i)) (h0 : 0 ≤ i ∧ i ≤ 1073741824)
    (k : ∀ A m' c' a', Tm n (putT o.dst (.slice A m' c') T) a' → ∀ w', Ms X M0 w0 (.vec A c' E 1 m' (ints (List.replicate i.toNat 0)) :: own) φs w' → wpList P ops Q rest a' w') : wpList P ops Q (o :: rest) a w := by
  refine wpl_makeSlice hg hd ht hM ho hu hz hs hb hx hy h0.1 (Int.le_refl _) (by omega) ?_
  intro A a' ht' w' hm'
  have e : List.replicate i.toNat (Value.int .i64 0) = ints (List.replicate i.toNat 0) := by simp [ints]
  rw [e] at hm'
  exact k A _ _ a' ht' w' hm'

theorem wpl_build_ints {t E m : Nat} {parts : Array (Nat × Operand)} {ps : List (Nat × Value)} {l : List Int} (hg : o.guard = none) (hd : dstOk o.dst n = true) (ht : Tm n T a) (hM : Ms X M0 w0 own φs w) (ho : o.op = .buildSlice t m parts) (hu : P.underlying t = some (.slice E)) (hz : zeroOf P E = some [.int .i64 0]) (hs : (P.info? E).map (·.size) = some 1)
    (hm : m ≤ 16777216) (hp : opvp T parts.toList = some ps) (hf : Instr.fill (fun i => some (i * 1, 1)) (Array.replicate m (.int .i64 0)) ps = some (ints l).toArray) (hl : l.length = m)
    (k : ∀ A a', Tm n (putT o.dst (.slice A m m) T) a' → ∀ w', Ms X M0 w0 (.vec A m E 1 m (ints l) :: own) φs w' → wpList P ops Q rest a' w') : wpList P ops Q (o :: rest) a w :=
  wpl_buildSlice hg hd ht hM ho hu hz hs hm hp hf (by rw [length_ints]; exact hl) k

/-! ### lists of lists of numbers -/

/-- the values vs are slices that hold the lists ll -/
def AllInts (vs : List Value) (ll : List (List Int)) (w : World) : Prop :=
  vs.length = ll.length ∧ ∀ (i : Nat) (l : List Int), ll[i]? = some l → ∃ B d m, vs[i]? = some (.slice B m d) ∧ IntsAt B d m l w

def RowsAt (A : Option Addr) (c m : Nat) (vs : List Value) (ll : List (List Int)) (w : World) : Prop := RowAt A c m 1 vs w ∧ AllInts vs ll w

theorem RowsAt.len {A : Option Addr} {c m : Nat} {vs : List Value} {ll : List (List Int)} (h : RowsAt A c m vs ll w) : m = ll.length := by
  have h1 := h.1.1
  have h2 := h.2.1
  omega

theorem getR_lo {l : List (List Int)} {i : Int} {x : List Int} (h : getR l i = some x) : 0 ≤ i := by
  unfold getR at h; split at h
  · assumption
  · cases h

theorem getR_get {l : List (List Int)} {i : Int} {x : List Int} (h : getR l i = some x) : l[i.toNat]? = some x := by
  unfold getR at h; split at h
  · exact h
  · cases h

theorem getR_hi {l : List (List Int)} {i : Int} {x : List Int} (h : getR l i = some x) : i < (l.length : Int) := by
  have h1 := getR_lo h
  have h2 := (List.getElem?_eq_some_iff.1 (getR_get h)).1
  omega

theorem ev_len_rows {x : Operand} {A : Option Addr} {m c : Nat} {t : TypeId} {e : TypeId} {vs : List Value} {ll : List (List Int)} (ht : Tm n T a) (ho : o.op = .call { callee := .builtin .len, args := #[x], argTypes := #[t] }) (hx : opv T x = some (.slice A m c)) (hu : P.underlying t = some (.slice e)) (hr : RowsAt A c m vs ll w) :
    (execOp a.eval o).run P w = .ok (.value (.int .i64 (ll.length : Int))) w := by
  rw [← hr.len]
  exact ev_len ht ho hx hu

theorem ev_index_rows {t : TypeId} {x ix : Operand} {A : Option Addr} {m c : Nat} {k : IntKind} {i : Int} {vs : List Value} {ll : List (List Int)} {l : List Int} (ht : Tm n T a) (ho : o.op = .indexAddr t x ix) (hx : opv T x = some (.slice A m c)) (hi : opv T ix = some (.int k i))
    (hf : sliceOf P t = some 1) (hr : RowsAt A c m vs ll w) (hv : getR ll i = some l) : (execOp a.eval o).run P w = .ok (.value (.pointer (some (eaddr A i.toNat 1)))) w :=
  ev_indexAddr_sl ht ho hx hi hf (getR_lo hv) (by rw [hr.len]; exact getR_hi hv) hr.1.base

theorem rowsAt_get {A : Option Addr} {c m : Nat} {vs : List Value} {ll : List (List Int)} {i : Int} {l : List Int} (h : RowsAt A c m vs ll w) (hv : getR ll i = some l) : ∃ B d m', vs[i.toNat]? = some (.slice B m' d) ∧ IntsAt B d m' l w :=
  h.2.2 _ _ (getR_get hv)

theorem allInts_at {vs : List Value} {ll : List (List Int)} {i : Int} {l : List Int} {B : Option Addr} {d m' : Nat} (h : AllInts vs ll w) (hs : vs[i.toNat]? = some (.slice B m' d)) (hv : getR ll i = some l) : IntsAt B d m' l w := by
  obtain ⟨B', d', m'', h1, h2⟩ := h.2 _ _ (getR_get hv)
  rw [hs] at h1
  cases h1
  exact h2

theorem rowsAt_at {A : Option Addr} {c m : Nat} {vs : List Value} {ll : List (List Int)} {i : Int} {l : List Int} {B : Option Addr} {d m' : Nat} (h : RowsAt A c m vs ll w) (hs : vs[i.toNat]? = some (.slice B m' d)) (hv : getR ll i = some l) : IntsAt B d m' l w :=
  allInts_at h.2 hs hv

theorem RowsAt.cell {A : Option Addr} {c m : Nat} {vs : List Value} {ll : List (List Int)} {i : Nat} {v : Value} (h : RowsAt A c m vs ll w) (hs : vs[i]? = some v) : w.cell? (eaddr A i 1) = some v := RowAt.cell h.1 hs rfl

theorem Ms.ro (h : Ms X M0 w0 own φs w) (k : Nat) {φ : World → Prop} (hk : φs[k]? = some φ) : RO (X ++ fps own) w φ := h.ros _ (List.mem_of_getElem? hk)

theorem Ms.rowsOf (h : Ms X M0 w0 own φs w) (j k : Nat) {A : Option Addr} {c E m : Nat} {vs : List Value} {ll : List (List Int)} (hj : own[j]? = some (.vec A c E 1 m vs)) (hk : φs[k]? = some (AllInts vs ll)) : RowsAt A c m vs ll w :=
  ⟨h.vec_row j hj, h.fact k hk⟩

theorem allInts_nil {M : List Nat} : RO M w (AllInts [] []) := ⟨[], by simp, fun _ _ => ⟨rfl, fun i l h => by simp at h⟩⟩

theorem allInts_cons {M : List Nat} {B : Option Addr} {d m : Nat} {l : List Int} {vs : List Value} {ll : List (List Int)} (h1 : RO M w (IntsAt B d m l)) (h2 : RO M w (AllInts vs ll)) : RO M w (AllInts (.slice B m d :: vs) (l :: ll)) := by
  refine (h1.and h2).mono fun w' h => ⟨by simp [h.2.1], fun i l' hl => ?_⟩
  cases i with
  | zero => simp at hl; subst hl; exact ⟨B, d, m, rfl, h.1⟩
  | succ i => simp at hl; simpa using h.2.2 i l' hl

theorem allInts_append {M : List Nat} {vs us : List Value} {ll mm r : List (List Int)} (e : concatR ll mm = some r) (h1 : RO M w (AllInts vs ll)) (h2 : RO M w (AllInts us mm)) : RO M w (AllInts (vs ++ us) r) := by
  unfold concatR at e
  split at e
  · cases e
    refine (h1.and h2).mono fun w' h => ⟨by simp [h.1.1, h.2.1], fun i l' hl => ?_⟩
    rw [List.getElem?_append] at hl
    split at hl
    · rename_i hlt
      obtain ⟨B, d, m, h3, h4⟩ := h.1.2 i l' hl
      refine ⟨B, d, m, ?_, h4⟩
      rw [List.getElem?_append_left (by rw [h.1.1]; exact hlt)]
      exact h3
    · rename_i hlt
      obtain ⟨B, d, m, h3, h4⟩ := h.2.2 _ l' hl
      refine ⟨B, d, m, ?_, h4⟩
      rw [List.getElem?_append_right (by rw [h.1.1]; omega), h.1.1]
      exact h3
  · cases e

theorem AllInts.one {vs : List Value} {ll : List (List Int)} (h : AllInts vs ll w) : ∀ v ∈ vs, v.oneCell' = true := by
  intro v hv
  obtain ⟨i, hi⟩ := List.getElem?_of_mem hv
  have hlt : i < ll.length := by rw [← h.1]; exact (List.getElem?_eq_some_iff.1 hi).1
  obtain ⟨B, d, m, h1, _⟩ := h.2 i ll[i] (by simp [hlt])
  rw [hi] at h1
  cases h1
  rfl

/-- rows are appended onto heaplet j: those of heaplet i -/
theorem wpl_concat_rows {t E c c1 m m1 : Nat} {x y : Operand} {A B : Option Addr} {vs us : List Value} {ll mm r : List (List Int)} (j i kj ki : Nat) (hg : o.guard = none) (hd : dstOk o.dst n = true) (ht : Tm n T a) (hM : Ms X M0 w0 own φs w)
    (ho : o.op = .call { callee := .builtin .append, args := #[x, y], argTypes := #[t, t] }) (hty : AppTy P t E 1 24) (hx : opv T x = some (.slice A m c)) (hy : opv T y = some (.slice B m1 c1))
    (hj : own[j]? = some (.vec A c E 1 m vs)) (hi : own[i]? = some (.vec B c1 E 1 m1 us)) (hkj : φs[kj]? = some (AllInts vs ll)) (hki : φs[ki]? = some (AllInts us mm)) (hp : concatR ll mm = some r)
    (kk : ∀ A' c' m' a', Tm n (putT o.dst (.slice A' m' c') T) a' → ∀ w', Ms X M0 w0 (own.set j (.vec A' c' E 1 m' (vs ++ us))) φs w' → wpList P ops Q rest a' w') : wpList P ops Q (o :: rest) a w := by
  have h1 := hM.rowsOf j kj hj hkj
  have h2 := hM.rowsOf i ki hi hki
  have e1 := h1.len
  have e2 := h2.len
  unfold concatR at hp
  split at hp
  · exact wpl_append j hg hd ht hM ho hty hx hy hj h2.1 h2.2.one (by omega) (by unfold maxLen; omega) fun A' c' a' ht' w' hm' => kk A' c' _ a' ht' w' hm'
  · cases hp

/-! ### heaplets chosen, facts chosen -/

theorem nodup_fps_iff (l : List HL) : (fps l).Nodup ↔ (∀ x ∈ l, x.fp.Nodup) ∧ ∀ (i j : Nat) (x y : HL), i ≠ j → l[i]? = some x → l[j]? = some y → ∀ b ∈ x.fp, b ∉ y.fp := by
  induction l with
  | nil => simp [fps]
  | cons h l ih =>
    rw [fps_cons, List.nodup_append, ih]
    constructor
    · rintro ⟨h1, ⟨h2, h3⟩, h4⟩
      refine ⟨fun x hx => ?_, fun i j x y hij hx hy b hb hb' => ?_⟩
      · rcases List.mem_cons.1 hx with rfl | hx
        · exact h1
        · exact h2 x hx
      · cases i with
        | zero =>
          cases j with
          | zero => exact hij rfl
          | succ j =>
            simp at hx hy
            subst hx
            exact h4 b hb b (mem_fps.2 ⟨y, List.mem_of_getElem? hy, hb'⟩) rfl
        | succ i =>
          cases j with
          | zero =>
            simp at hx hy
            subst hy
            exact h4 b hb' b (mem_fps.2 ⟨x, List.mem_of_getElem? hx, hb⟩) rfl
          | succ j => exact h3 i j x y (by omega) (by simpa using hx) (by simpa using hy) b hb hb'
    · rintro ⟨h1, h2⟩
      refine ⟨h1 h (by simp), ⟨fun x hx => h1 x (by simp [hx]), fun i j x y hij hx hy => h2 (i + 1) (j + 1) x y (by omega) (by simpa using hx) (by simpa using hy)⟩, fun b hb c hc e => ?_⟩
      subst e
      obtain ⟨y, hy, hc⟩ := mem_fps.1 hc
      obtain ⟨j, hj⟩ := List.getElem?_of_mem hy
      exact h2 0 (j + 1) h y (by omega) (by simp) (by simpa using hj) b hb hc

/-- heaplets by their numbers -/
theorem Ms.pick {own' : List HL} (h : Ms X M0 w0 own φs w) (is : List Nat) (hi : is.map (own[·]?) = own'.map some) (hn : is.Nodup) : Ms X M0 w0 own' φs w := by
  have hget : ∀ (j : Nat) (x : HL), own'[j]? = some x → ∃ i : Nat, is[j]? = some i ∧ own[i]? = some x := by
    intro j x hx
    have h1 : (own'.map some)[j]? = some (some x) := by simp [hx]
    rw [← hi, List.getElem?_map] at h1
    cases hq : is[j]? with
    | none => rw [hq] at h1; cases h1
    | some i => rw [hq] at h1; exact ⟨i, rfl, by simpa using h1⟩
  have hmem : ∀ x ∈ own', x ∈ own := by
    intro x hx
    obtain ⟨j, hj⟩ := List.getElem?_of_mem hx
    obtain ⟨i, _, h2⟩ := hget j x hj
    exact List.mem_of_getElem? h2
  have hf : ∀ b ∈ fps own', b ∈ fps own := fun b hb => by
    obtain ⟨x, hx, hb⟩ := mem_fps.1 hb
    exact mem_fps.2 ⟨x, hmem x hx, hb⟩
  obtain ⟨hn1, hn2⟩ := (nodup_fps_iff own).1 h.nodup
  refine ⟨h.mod, fun x hx => h.holds x (hmem x hx), (nodup_fps_iff own').2 ⟨fun x hx => hn1 x (hmem x hx), ?_⟩, fun b hb => h.src b (hf b hb), h.xlt, fun φ hφ => (h.ros φ hφ).sub fun b hb => ?_⟩
  · intro j1 j2 x y hne hx hy
    obtain ⟨i1, hi1, ho1⟩ := hget j1 x hx
    obtain ⟨i2, hi2, ho2⟩ := hget j2 y hy
    refine hn2 i1 i2 x y (fun e => ?_) ho1 ho2
    subst e
    exact hne ((List.getElem?_inj (List.getElem?_eq_some_iff.1 hi1).1 hn).1 (hi1.trans hi2.symm))
  · rcases List.mem_append.1 hb with h1 | h1
    · exact List.mem_append.2 (.inl h1)
    · exact List.mem_append.2 (.inr (hf b h1))

theorem mem_of_pick {φs' : List (World → Prop)} (is : List Nat) (hi : is.map (φs[·]?) = φs'.map some) : ∀ φ ∈ φs', φ ∈ φs := by
  intro φ hφ
  obtain ⟨j, hj⟩ := List.getElem?_of_mem hφ
  have h1 : (φs'.map some)[j]? = some (some φ) := by simp [hj]
  rw [← hi, List.getElem?_map] at h1
  cases hq : is[j]? with
  | none => rw [hq] at h1; cases h1
  | some i => rw [hq] at h1; exact List.mem_of_getElem? (by simpa using h1)

theorem Ms.pickφ {φs' : List (World → Prop)} (h : Ms X M0 w0 own φs w) (is : List Nat) (hi : is.map (φs[·]?) = φs'.map some) : Ms X M0 w0 own φs' w :=
  h.subφ (mem_of_pick is hi)

/-- the callee's share: the heaplets numbered (all of them, in a new order: first the callee's), the facts numbered -/
theorem Ms.give {passed rest : List HL} {φp : List (World → Prop)} (h : Ms X M0 w0 (passed ++ rest) φs w) (is : List Nat) (hi : is.map (φs[·]?) = φp.map some) : Pre (X ++ fps rest) w passed φp :=
  h.pre fun φ hφ => h.ros φ (mem_of_pick is hi φ hφ)

/-- a slice of the call's own becomes one that is only read -/
theorem Ms.shutVec {A : Option Addr} {c E sz m : Nat} {xs : List Value} (h : Ms X M0 w0 own φs w) (j : Nat) (hj : own[j]? = some (.vec A c E sz m xs)) : Ms X M0 w0 (own.eraseIdx j) (RowAt A c m sz xs :: φs) w := by
  obtain ⟨hl, he⟩ := List.getElem?_eq_some_iff.1 hj
  have hrow := h.vec_row j hj
  have hp := perm_eraseIdx own j hl
  have h1 : Ms X M0 w0 (own[j] :: own.eraseIdx j) φs w := h.permute hp
  rw [he] at h1
  have h2 : Ms X M0 w0 (own.eraseIdx j) φs w := h1.perm (rest := [.vec A c E sz m xs]) (List.perm_append_singleton _ _).symm
  refine h2.addφ (hrow.ro fun a ha hm hmem => ?_)
  subst ha
  have hc : 0 < c := by have := hrow.2.1; omega
  obtain ⟨c', rfl⟩ : ∃ q, c = q + 1 := ⟨c - 1, by omega⟩
  have hin : a.block ∈ (HL.vec (some a) (c' + 1) E sz m xs).fp := by simp [HL.fp, vecBlk]
  rcases List.mem_append.1 hmem with h3 | h3
  · rcases h1.src a.block (by rw [fps_cons]; exact List.mem_append.2 (.inl hin)) with h4 | h4
    · exact (h.xlt _ h3).2 h4
    · have := (h.xlt _ h3).1; omega
  · have hnd := h1.nodup
    rw [fps_cons] at hnd
    exact (List.nodup_append.1 hnd).2.2 _ hin _ h3 rfl

theorem Ms.shutRows {A : Option Addr} {c E m : Nat} {vs : List Value} {ll : List (List Int)} (h : Ms X M0 w0 own φs w) (j kf : Nat) (hk : φs[kf]? = some (AllInts vs ll)) (hj : own[j]? = some (.vec A c E 1 m vs)) : Ms X M0 w0 (own.eraseIdx j) (RowsAt A c m vs ll :: φs) w := by
  have h1 := h.shutVec j hj
  have h2 := h1.addφ ((h1.ro 0 rfl).and (h1.ro (kf + 1) hk))
  exact h2.subφ fun φ hφ => by
    rcases List.mem_cons.1 hφ with rfl | hφ
    · exact List.mem_cons.2 (.inl rfl)
    · exact List.mem_cons.2 (.inr (List.mem_cons.2 (.inr hφ)))

/-- nothing is known of a nil slice, and nothing is needed -/
theorem Ms.nilVec (h : Ms X M0 w0 own φs w) (A : Option Addr) (E sz : Nat) : Ms X M0 w0 (.vec A 0 E sz 0 [] :: own) φs w := by
  have hf : fps (HL.vec A 0 E sz 0 [] :: own) = fps own := by rw [fps_cons]; cases A <;> simp [HL.fp, vecBlk]
  refine ⟨h.mod, ?_, by rw [hf]; exact h.nodup, by rw [hf]; exact h.src, h.xlt, by rw [hf]; exact h.ros⟩
  intro x hx
  rcases List.mem_cons.1 hx with rfl | hx
  · exact ⟨by simp, .inl ⟨rfl, rfl⟩⟩
  · exact h.holds x hx

theorem Ms.nilRow (h : Ms X M0 w0 own φs w) (A : Option Addr) (sz : Nat) : Ms X M0 w0 own (RowAt A 0 0 sz [] :: φs) w :=
  h.addφ ⟨[], by simp, fun _ _ => ⟨by simp, Nat.le_refl _, .inl rfl⟩⟩

end
end Go.Proofs.Ytbgniopmmankdaa.K
