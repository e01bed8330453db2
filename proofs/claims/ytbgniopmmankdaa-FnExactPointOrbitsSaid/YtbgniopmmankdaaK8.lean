/- '==' of colourings, arrays by value. Nothing of the program stands here. -/
import Derived.Test.YtbgniopmmankdaaK7
namespace Go.Proofs.Ytbgniopmmankdaa.K
open Go Go.RowKit
set_option linter.unusedVariables false
set_option linter.unusedSimpArgs false

section
variable {P : Program} {X M0 : List Nat} {w0 w : World} {own : List HL} {φs : List (World → Prop)} {n : Nat} {T : List (Nat × Value)} {a : Act} {o : Oper} {ops : Array Oper} {rest : List Oper} {Q : Exit → Act → World → Prop}

theorem ev_index_bytes {t m e : Nat} {x ix : Operand} {f : Nat → Int} {k : IntKind} {i v : Int} (ht : Tm n T a) (ho : o.op = .index t x ix) (hx : opv T x = some (.agg (bytesC m f).toArray)) (hi : opv T ix = some (.int k i)) (hu : P.underlying t = some (.array m e)) (hs : isScalar P e = true) (hz : (P.info? e).map (·.size) = some 1) (hv : getB m f i = some v) :
    (execOp a.eval o).run P w = .ok (.value (.int .u8 v)) w := by
  have h0 := getB_lo hv
  have h1 := getB_hi hv
  have hg := bytes_get hv
  simp only [Nat.zero_add, Nat.mul_one] at hg
  unfold execOp
  cases hin : P.info? e with
  | none => rw [hin] at hz; simp at hz
  | some inf =>
    have hsz : inf.size = 1 := by simpa [hin] using hz
    have hagg : (isAgg e).run P w = .ok false w := by
      unfold isScalar at hs
      cases hq : P.underlying e with
      | none => rw [hq] at hs; simp at hs
      | some d => rw [hq] at hs; cases d <;> simp at hs <;> simp [isAgg, run_underlying hq]
    simp [ho, ht.eval hx, ht.eval hi, Instr.index, asIntOf, run_underlying hu, h0, h1, sizeOf, typeInfo, hin, hsz, part, hagg, hg]

/-- where the scalar field f lies -/
def fieldSc (P : Program) (t f : Nat) : Option Nat :=
  match P.underlying t with
  | some (.struct fs) => match fs[f]? with
    | some fd => if isScalar P fd.type then some fd.offset else none
    | none => none
  | _ => none

theorem ev_field {t f i : Nat} {x : Operand} {cs : Array Value} {v : Value} (ht : Tm n T a) (ho : o.op = .field t x f) (hx : opv T x = some (.agg cs)) (hf : fieldSc P t f = some i) (hv : cs[i]? = some v) :
    (execOp a.eval o).run P w = .ok (.value v) w := by
  unfold execOp
  unfold fieldSc at hf
  cases hu : P.underlying t with
  | none => rw [hu] at hf; simp at hf
  | some d =>
    rw [hu] at hf
    cases d <;> simp at hf
    rename_i fs
    cases hfs : fs[f]? with
    | none => rw [hfs] at hf; simp at hf
    | some fd =>
      rw [hfs] at hf
      simp at hf
      obtain ⟨hs, rfl⟩ := hf
      have hagg : (isAgg fd.type).run P w = .ok false w := by
        unfold isScalar at hs
        cases hq : P.underlying fd.type with
        | none => rw [hq] at hs; simp at hs
        | some d => rw [hq] at hs; cases d <;> simp at hs <;> simp [isAgg, run_underlying hq]
      simp [ho, ht.eval hx, Instr.field, run_underlying hu, hfs, part, hagg, hv, asAgg]

/-! ### '==' of colourings -/

/-- what '==' asks of the type -/
def colTy (P : Program) (t : Nat) : Bool :=
  match P.underlying t with
  | some (.struct fs) => !P.stoodInHeld t && !P.eqGuardType P.depth t && match fs.toList with
    | [f0, f1, f2] => f0.name != "_" && f1.name != "_" && f2.name != "_" && f0.offset == 0 && f1.offset == 1 && f2.offset == 2 &&
        (match P.underlying f0.type with | some (.int .i64) => true | _ => false) && (match P.underlying f1.type with | some (.int .i64) => true | _ => false) &&
        (match P.underlying f2.type with
          | some (.array 136 e) => (match P.underlying e with | some (.int .u8) => true | _ => false) && (match P.info? e with | some i => i.size == 1 | none => false)
          | _ => false) && (match P.info? f2.type with | some i => i.size == 136 | none => false)
    | _ => false
  | _ => false

theorem run_equalIn_int {d t : Nat} {k : IntKind} {i j : Int} (hu : P.underlying t = some (.int k)) : (Op.equalIn (d + 1) t (.int k i) (.int k j)).run P w = .ok (i == j) w := by
  unfold Op.equalIn
  simp [run_underlying hu]

theorem run_part_int {e off : Nat} {cs : Array Value} {v : Value} {k : IntKind} (hu : P.underlying e = some (.int k)) (h : cs[off]? = some v) : (part e cs off).run P w = .ok v w := by
  simp [part, isAgg, run_underlying hu, h]

/-- a loop over a list that ends with 'false' at the first element that does not hold -/
theorem run_forIn_all {α : Type} (p : α → Bool) (f : α → Option Bool × Unit → Sem (ForInStep (Option Bool × Unit))) : ∀ (l : List α) (w : World),
    (∀ x ∈ l, ∀ w, (f x (none, ())).run P w = .ok (if p x then ForInStep.yield (none, ()) else ForInStep.done (some false, ())) w) →
    (forIn (m := Sem) l ((none, ()) : Option Bool × Unit) f).run P w = .ok (if l.all p then (none, ()) else (some false, ())) w := by
  intro l
  induction l with
  | nil => intro w _; simp
  | cons x r ih =>
    intro w hf
    rw [List.forIn_cons]
    cases hx : p x with
    | true =>
      rw [Sem.run_bind, hf x (by simp), hx, if_pos rfl, Result.andThen_ok, List.all_cons, hx, Bool.true_and]
      exact ih w fun y hy => hf y (by simp [hy])
    | false =>
      rw [Sem.run_bind, hf x (by simp), hx, if_neg (by simp), Result.andThen_ok, List.all_cons, hx]
      simp

theorem run_equalIn_bytes {d t m e : Nat} {f g : Nat → Int} (hu : P.underlying t = some (.array m e)) (hue : P.underlying e = some (.int .u8)) (hz : (P.info? e).map (·.size) = some 1) :
    (Op.equalIn (d + 1 + 1) t (.agg (bytesC m f).toArray) (.agg (bytesC m g).toArray)).run P w = .ok ((List.range m).all fun i => f i == g i) w := by
  unfold Op.equalIn
  cases hin : P.info? e with
  | none => rw [hin] at hz; simp at hz
  | some inf =>
    have hsz : inf.size = 1 := by simpa [hin] using hz
    simp only [Sem.run_bind, run_underlying hu, Result.andThen_ok, Go.sizeOf, typeInfo, run_program, hin, Sem.run_pure, hsz]
    rw [Std.Legacy.Range.forIn_eq_forIn_range']
    simp only [Std.Legacy.Range.size, Nat.sub_zero, Nat.add_sub_cancel, Nat.div_one]
    rw [← List.range_eq_range', run_forIn_all (fun i => f i == g i)]
    · simp only [Result.andThen_ok]
      cases (List.range m).all fun i => f i == g i <;> rfl
    · intro i hi w
      have him : i < m := List.mem_range.1 hi
      have h1 : (bytesC m f).toArray[i * 1]? = some (.int .u8 (f i)) := by simp [bytesC_get him]
      have h2 : (bytesC m g).toArray[i * 1]? = some (.int .u8 (g i)) := by simp [bytesC_get him]
      simp only [Sem.run_bind, run_part_int hue h1, run_part_int hue h2, run_equalIn_int hue, Result.andThen_ok, Sem.run_ite, Sem.run_pure]
      cases f i == g i <;> rfl

theorem run_part_bytes {t m e : Nat} {x : Col} (hu : P.underlying t = some (.array m e)) (hz : (P.info? t).map (·.size) = some 136) : (part t x.cells.toArray 2).run P w = .ok (.agg (bytesC 136 x.e).toArray) w := by
  cases hin : P.info? t with
  | none => rw [hin] at hz; simp at hz
  | some inf =>
    have hsz : inf.size = 136 := by simpa [hin] using hz
    have he' : List.take 136 (List.drop 2 x.cells) = bytesC 136 x.e := by
      simp [Col.cells, List.take_of_length_le, length_bytesC]
    simp [part, isAgg, run_underlying hu, sizeOf, typeInfo, hin, hsz, he']

theorem run_equal_col {t : Nat} {x y : Col} (h : colTy P t = true) : (Op.equal t (.agg x.cells.toArray) (.agg y.cells.toArray)).run P w = .ok (Col.same x y) w := by
  have h0 : Op.equal t (.agg x.cells.toArray) (.agg y.cells.toArray) = Op.equalIn (9996 + 1 + 1 + 1 + 1) t (.agg x.cells.toArray) (.agg y.cells.toArray) := rfl
  rw [h0]
  unfold colTy at h
  split at h
  · rename_i fs hu
    simp only [Bool.and_eq_true, Bool.not_eq_true'] at h
    obtain ⟨⟨hst, heq⟩, h⟩ := h
    split at h
    · rename_i f0 f1 f2 hfs
      simp only [Bool.and_eq_true, bne_iff_ne, beq_iff_eq] at h
      obtain ⟨⟨⟨⟨⟨⟨⟨⟨⟨hn0, hn1⟩, hn2⟩, ho0⟩, ho1⟩, ho2⟩, ht0⟩, ht1⟩, ht2⟩, hz2⟩ := h
      have hu0 : P.underlying f0.type = some (.int .i64) := by split at ht0 <;> simp_all
      have hu1 : P.underlying f1.type = some (.int .i64) := by split at ht1 <;> simp_all
      have hz2' : (P.info? f2.type).map (·.size) = some 136 := by
        split at hz2
        · rename_i i hi; rw [hi]; simpa using hz2
        · cases hz2
      split at ht2
      · rename_i e hu2
        simp only [Bool.and_eq_true] at ht2
        have hue : P.underlying e = some (.int .u8) := by have := ht2.1; split at this <;> simp_all
        have hze : (P.info? e).map (·.size) = some 1 := by
          have := ht2.2
          split at this
          · rename_i i hi; rw [hi]; simpa using this
          · cases this
        have hfs' : fs = #[f0, f1, f2] := by apply Array.ext'; exact hfs
        subst hfs'
        unfold Op.equalIn
        simp only [Sem.run_bind, run_underlying hu, Result.andThen_ok, run_program, hst, Bool.false_eq_true, if_false]
        have hc0 : x.cells.toArray[0]? = some (.int .i64 x.p) := rfl
        have hc1 : x.cells.toArray[1]? = some (.int .i64 x.k) := rfl
        have hd0 : y.cells.toArray[0]? = some (.int .i64 y.p) := rfl
        have hd1 : y.cells.toArray[1]? = some (.int .i64 y.k) := rfl
        rw [← Array.forIn_toList]
        simp only [List.forIn_cons, List.forIn_nil, Sem.run_bind, Sem.run_ite, hn0, hn1, hn2, ne_eq, not_false_eq_true, if_true, ho0, ho1, ho2,
          run_part_int hu0 hc0, run_part_int hu0 hd0, run_part_int hu1 hc1, run_part_int hu1 hd1, run_part_bytes hu2 hz2', run_equalIn_int hu0, run_equalIn_int hu1, run_equalIn_bytes hu2 hue hze, Result.andThen_ok, Sem.run_pure]
        unfold Col.same
        cases hp : x.p == y.p <;> cases hk : x.k == y.k <;> cases he : ((List.range 136).all fun i => x.e i == y.e i) <;>
          simp [hn1, hn2, ho1, ho2, run_part_int hu1 hc1, run_part_int hu1 hd1, run_part_bytes hu2 hz2', run_equalIn_int hu1, run_equalIn_bytes hu2 hue hze] <;>
          simp_all
      · cases ht2
    · cases h
  · cases h

theorem colTy_guard {t : Nat} (h : colTy P t = true) : P.eqGuardType P.depth t = false := by
  unfold colTy at h
  split at h
  · simp only [Bool.and_eq_true, Bool.not_eq_true'] at h
    exact h.1.2
  · cases h

theorem ev_eq_col {t u : TypeId} {x y : Operand} {i j : Col} (ht : Tm n T a) (ho : o.op = .binOp .eql t x y u) (hx : opv T x = some (.agg i.cells.toArray)) (hy : opv T y = some (.agg j.cells.toArray)) (hu : colTy P t = true) :
    (execOp a.eval o).run P w = .ok (.value (.bool (Col.same i j))) w := by
  unfold execOp
  have h : binOp .eql t (.agg i.cells.toArray) (.agg j.cells.toArray) = (do pure (.bool (← Op.equal t (.agg i.cells.toArray) (.agg j.cells.toArray)))) := rfl
  simp only [ho, ht.eval hx, ht.eval hy, h]
  simp [eqGuard, colTy_guard hu, run_equal_col hu]

theorem ev_ne_col {t u : TypeId} {x y : Operand} {i j : Col} (ht : Tm n T a) (ho : o.op = .binOp .neq t x y u) (hx : opv T x = some (.agg i.cells.toArray)) (hy : opv T y = some (.agg j.cells.toArray)) (hu : colTy P t = true) :
    (execOp a.eval o).run P w = .ok (.value (.bool (!(Col.same i j)))) w := by
  unfold execOp
  have h : binOp .neq t (.agg i.cells.toArray) (.agg j.cells.toArray) = (do pure (.bool (!(← Op.equal t (.agg i.cells.toArray) (.agg j.cells.toArray))))) := rfl
  simp only [ho, ht.eval hx, ht.eval hy, h]
  simp [eqGuard, colTy_guard hu, run_equal_col hu]

end
end Go.Proofs.Ytbgniopmmankdaa.K
