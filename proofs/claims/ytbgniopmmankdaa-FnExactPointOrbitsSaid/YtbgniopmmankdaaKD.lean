/- Blocks whose contents are in segments: colourings, single cells, a grid. Nothing of the program stands here. -/
import Derived.Test.YtbgniopmmankdaaKC
namespace Go.Proofs.Ytbgniopmmankdaa.K
open Go Go.RowKit
set_option linter.unusedVariables false
set_option linter.unusedSimpArgs false

theorem seg_get (A l : List Value) (m k : Nat) (h : A.length = m) : (A ++ l)[m + k]? = l[k]? := by
  rw [List.getElem?_append_right (by omega), h]
  congr 1; omega
theorem seg_set (A l : List Value) (m k : Nat) (v : Value) (h : A.length = m) : (A ++ l).set (m + k) v = A ++ l.set k v := by
  rw [List.set_append_right _ _ (by omega), h]
  congr 2; omega
theorem seg_col (x : Col) (l : List Value) (k : Nat) : (Col.cells x ++ l)[138 + k]? = l[k]? := seg_get _ _ _ _ (Col.length_cells x)
theorem seg_colS (x : Col) (l : List Value) (k : Nat) (v : Value) : (Col.cells x ++ l).set (138 + k) v = Col.cells x ++ l.set k v := seg_set _ _ _ _ _ (Col.length_cells x)
theorem foldl_write (off : Nat) : ∀ (B' B A C : List Value) (k : Nat), B.length = B'.length → A.length = off + k →
    (B'.zipIdx k).foldl (fun (cs : Array Value) (p : Value × Nat) => cs.setIfInBounds (off + p.2) p.1) (A ++ B ++ C).toArray = (A ++ B' ++ C).toArray
  | [], B, A, C, k, h, _ => by
    cases B with
    | nil => rfl
    | cons b B => simp at h
  | c :: B', B, A, C, k, h, hA => by
    cases B with
    | nil => simp at h
    | cons b B =>
      rw [List.zipIdx_cons, List.foldl_cons]
      have e : (A ++ b :: B ++ C).toArray.setIfInBounds (off + k) c = ((A ++ [c]) ++ B ++ C).toArray := by
        rw [List.setIfInBounds_toArray, List.append_assoc, List.set_append_right _ _ (by omega), hA, Nat.sub_self]
        simp
      simp only
      rw [e, foldl_write off B' B (A ++ [c]) C (k + 1) (by simpa using h) (by simp; omega)]
      simp
theorem fill_step {place : Nat → Option (Nat × Nat)} {A B C B' : List Value} {i off size : Nat} {v : Value} {rest : List (Nat × Value)} (hp : place i = some (off, size)) (hv : v.cells = B'.toArray) (hA : A.length = off) (hB : B.length = size) (hB' : B'.length = size) :
    Instr.fill place (A ++ B ++ C).toArray ((i, v) :: rest) = Instr.fill place (A ++ B' ++ C).toArray rest := by
  rw [Instr.fill, hp]
  simp only
  have hs : v.cells.size = size := by rw [hv]; simp [hB']
  rw [if_neg (by rw [hs]; simp; omega)]
  congr 1
  rw [hv]
  have := foldl_write off B' B A C 0 (by omega) (by omega)
  simpa using this
/-- two colourings and single cells -/
theorem fill_two (x y : Col) (a b c z1 z2 z3 z4 z5 : Value) (ha : a.cells = #[a]) (hb : b.cells = #[b]) (hc : c.cells = #[c]) :
    Instr.fill (fun (i : Nat) => ([(0, 138), (138, 138), (276, 1), (277, 1), (278, 1), (279, 1), (280, 1)] : List (Nat × Nat))[i]?) (Col.cells Col.zero ++ (Col.cells Col.zero ++ [z1, z2, z3, z4, z5])).toArray [(0, .agg (Col.cells x).toArray), (1, .agg (Col.cells y).toArray), (2, a), (3, b), (4, c)] = some (Col.cells x ++ (Col.cells y ++ [a, b, c, z4, z5])).toArray := by
  have h1 := fill_step (place := fun (i : Nat) => ([(0, 138), (138, 138), (276, 1), (277, 1), (278, 1), (279, 1), (280, 1)] : List (Nat × Nat))[i]?) (A := []) (B := Col.cells Col.zero) (C := Col.cells Col.zero ++ [z1, z2, z3, z4, z5]) (B' := Col.cells x) (i := 0) (v := .agg (Col.cells x).toArray) (rest := [(1, .agg (Col.cells y).toArray), (2, a), (3, b), (4, c)]) rfl rfl rfl (Col.length_cells _) (Col.length_cells _)
  have h2 := fill_step (place := fun (i : Nat) => ([(0, 138), (138, 138), (276, 1), (277, 1), (278, 1), (279, 1), (280, 1)] : List (Nat × Nat))[i]?) (A := Col.cells x) (B := Col.cells Col.zero) (C := [z1, z2, z3, z4, z5]) (B' := Col.cells y) (i := 1) (v := .agg (Col.cells y).toArray) (rest := [(2, a), (3, b), (4, c)]) rfl rfl (Col.length_cells _) (Col.length_cells _) (Col.length_cells _)
  have h3 := fill_step (place := fun (i : Nat) => ([(0, 138), (138, 138), (276, 1), (277, 1), (278, 1), (279, 1), (280, 1)] : List (Nat × Nat))[i]?) (A := Col.cells x ++ Col.cells y) (B := [z1]) (C := [z2, z3, z4, z5]) (B' := [a]) (i := 2) (v := a) (rest := [(3, b), (4, c)]) rfl ha (by rw [List.length_append, Col.length_cells, Col.length_cells]) rfl rfl
  have h4 := fill_step (place := fun (i : Nat) => ([(0, 138), (138, 138), (276, 1), (277, 1), (278, 1), (279, 1), (280, 1)] : List (Nat × Nat))[i]?) (A := Col.cells x ++ Col.cells y ++ [a]) (B := [z2]) (C := [z3, z4, z5]) (B' := [b]) (i := 3) (v := b) (rest := [(4, c)]) rfl hb (by rw [List.length_append, List.length_append, Col.length_cells, Col.length_cells]; rfl) rfl rfl
  have h5 := fill_step (place := fun (i : Nat) => ([(0, 138), (138, 138), (276, 1), (277, 1), (278, 1), (279, 1), (280, 1)] : List (Nat × Nat))[i]?) (A := Col.cells x ++ Col.cells y ++ [a, b]) (B := [z3]) (C := [z4, z5]) (B' := [c]) (i := 4) (v := c) (rest := []) rfl hc (by rw [List.length_append, List.length_append, Col.length_cells, Col.length_cells]; rfl) rfl rfl
  simp only [List.nil_append, List.append_assoc, List.singleton_append, List.cons_append] at h1 h2 h3 h4 h5
  rw [h1, h2, h3, h4, h5, Instr.fill]
/-! ### a grid of bool behind single cells -/
def gridC (n : Nat) (g : Nat → Bool) : List Value := (List.range n).map fun i => Value.bool (g i)
def updG (g : Nat → Bool) (i : Nat) (v : Bool) : Nat → Bool := fun j => if j = i then v else g j
theorem gridC_get {n : Nat} {g : Nat → Bool} {i : Nat} (h : i < n) : (gridC n g)[i]? = some (.bool (g i)) := by simp [gridC, h]
theorem gridC_set {n : Nat} {g : Nat → Bool} {i : Nat} {v : Bool} (h : i < n) : (gridC n g).set i (.bool v) = gridC n (updG g i v) := by
  refine List.ext_getElem (by simp [gridC]) fun k h1 h2 => ?_
  simp only [gridC, List.getElem_set, List.getElem_map, List.getElem_range, updG]
  by_cases e : i = k
  · subst e; simp
  · rw [if_neg e, if_neg fun h => e h.symm]
theorem grid17 {i j : Int} (hi : 0 ≤ i ∧ i < 17) (hj : 0 ≤ j ∧ j < 17) : i.toNat * 17 + j.toNat < 289 := by omega
theorem grid_get {p q s : Value} {g : Nat → Bool} {i j : Int} (hi : 0 ≤ i ∧ i < 17) (hj : 0 ≤ j ∧ j < 17) : ([p, q, s] ++ (gridC 289 g))[0 + 3 + i.toNat * 17 + j.toNat * 1]? = some (.bool (g (i.toNat * 17 + j.toNat))) := by
  rw [show 0 + 3 + i.toNat * 17 + j.toNat * 1 = 3 + (i.toNat * 17 + j.toNat) by omega, seg_get _ _ 3 _ rfl, gridC_get (grid17 hi hj)]
theorem grid_set {p q s : Value} {g : Nat → Bool} {i j : Int} {v : Bool} (hi : 0 ≤ i ∧ i < 17) (hj : 0 ≤ j ∧ j < 17) : ([p, q, s] ++ (gridC 289 g)).set (0 + 3 + i.toNat * 17 + j.toNat * 1) (.bool v) = [p, q, s] ++ (gridC 289 (updG g (i.toNat * 17 + j.toNat) v)) := by
  rw [show 0 + 3 + i.toNat * 17 + j.toNat * 1 = 3 + (i.toNat * 17 + j.toNat) by omega, seg_set _ _ 3 _ _ rfl, gridC_set (grid17 hi hj)]
theorem fill_three (a b c z1 z2 z3 : Value) (G : List Value) (ha : a.cells = #[a]) (hb : b.cells = #[b]) (hc : c.cells = #[c]) :
    Instr.fill (fun (i : Nat) => ([(0, 1), (1, 1), (2, 1), (3, 289)] : List (Nat × Nat))[i]?) ([z1, z2, z3] ++ (G)).toArray [(0, a), (1, b), (2, c)] = some ([a, b, c] ++ (G)).toArray := by
  have h3 := fill_step (place := fun (i : Nat) => ([(0, 1), (1, 1), (2, 1), (3, 289)] : List (Nat × Nat))[i]?) (A := []) (B := [z1]) (C := [z2, z3] ++ G) (B' := [a]) (i := 0) (v := a) (rest := [(1, b), (2, c)]) rfl ha rfl rfl rfl
  have h4 := fill_step (place := fun (i : Nat) => ([(0, 1), (1, 1), (2, 1), (3, 289)] : List (Nat × Nat))[i]?) (A := [a]) (B := [z2]) (C := [z3] ++ G) (B' := [b]) (i := 1) (v := b) (rest := [(2, c)]) rfl hb rfl rfl rfl
  have h5 := fill_step (place := fun (i : Nat) => ([(0, 1), (1, 1), (2, 1), (3, 289)] : List (Nat × Nat))[i]?) (A := [a, b]) (B := [z3]) (C := G) (B' := [c]) (i := 2) (v := c) (rest := []) rfl hc rfl rfl rfl
  simp only [List.nil_append, List.append_assoc, List.singleton_append, List.cons_append] at h3 h4 h5 ⊢
  rw [h3, h4, h5, Instr.fill]
theorem cmp_same_eq (i : Int) : cmp .eql i i = some true := by simp [cmp]
theorem cmp_same_ne (i : Int) : cmp .neq i i = some false := by simp [cmp]
theorem ev_eq_ptr_nil {P : Program} {w : World} {n : Nat} {T : List (Nat × Value)} {a : Act} {o : Oper} {t u e : TypeId} {x y : Operand} {A : Addr} (ht : Tm n T a) (ho : o.op = .binOp .eql t x y u) (hx : opv T x = some (.pointer (some A))) (hy : opv T y = some (.pointer none)) (hu : P.underlying t = some (.pointer e)) :
    (execOp a.eval o).run P w = .ok (.value (.bool false)) w := by
  unfold execOp
  have h : binOp .eql t (.pointer (some A)) (.pointer none) = (do pure (.bool (← Op.equal t (.pointer (some A)) (.pointer none)))) := rfl
  have h2 : Op.equal t (.pointer (some A)) (.pointer none) = Op.equalIn (9999 + 1) t (.pointer (some A)) (.pointer none) := rfl
  simp only [ho, ht.eval hx, ht.eval hy, h, h2]
  unfold Op.equalIn
  simp [eqGuard, run_underlying hu]
section
variable {P : Program} {X M0 : List Nat} {w0 w : World} {own : List HL} {φs : List (World → Prop)} {n : Nat} {T : List (Nat × Value)} {a : Act} {o : Oper} {ops : Array Oper} {rest : List Oper} {Q : Exit → Act → World → Prop}
theorem Ms.seg_col0 (h : Ms X M0 w0 own φs w) (k : Nat) {b E : Nat} {x : Col} {l : List Value} (hk : own[k]? = some (.blk b E (Col.cells x ++ l))) : ∀ i v, (Col.cells x)[i]? = some v → w.cell? ⟨b, 0 + i, none⟩ = some v := by
  intro i v hv
  rw [Nat.zero_add]
  refine h.blk_cell k hk ?_
  rw [List.getElem?_append_left (List.getElem?_eq_some_iff.mp hv).1]; exact hv
theorem Ms.seg_col1 (h : Ms X M0 w0 own φs w) (k : Nat) {b E : Nat} {x y : Col} {l : List Value} (hk : own[k]? = some (.blk b E (Col.cells x ++ (Col.cells y ++ l)))) : ∀ i v, (Col.cells y)[i]? = some v → w.cell? ⟨b, 0 + 138 + i, none⟩ = some v := by
  intro i v hv
  refine h.blk_cell k hk ?_
  rw [Nat.zero_add, seg_col, List.getElem?_append_left (List.getElem?_eq_some_iff.mp hv).1]; exact hv
theorem wpl_store_seg {t b E p : Nat} {x y : Operand} {u v : Value} {C C' : List Value} (j : Nat) (hg : o.guard = none) (hd : o.dst = none) (ht : Tm n T a) (hm : Ms X M0 w0 own φs w) (ho : o.op = .store t x y)
    (hx : opv T x = some (.pointer (some ⟨b, p, none⟩))) (hy : opv T y = some v) (hs : (P.info? t).map (·.size) = some 1) (hv : v.oneCell' = true) (hj : own[j]? = some (.blk b E C)) (hc : C[p]? = some u) (hC : C.set p v = C')
    (k : ∀ a', Tm n T a' → ∀ w', Ms X M0 w0 (own.set j (.blk b E C')) φs w' → wpList P ops Q rest a' w') : wpList P ops Q (o :: rest) a w := by
  refine wpl_store_blk j hg hd ht hm ho hx hy hs hv hj hc ?_
  rw [hC]; exact k
end
end Go.Proofs.Ytbgniopmmankdaa.K
