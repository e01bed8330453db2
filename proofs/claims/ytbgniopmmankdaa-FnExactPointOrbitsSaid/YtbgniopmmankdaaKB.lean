/- Maps whose keys are texts, numbers or pairs of numbers, and whose elements are numbers; texts; rows that are written. Nothing of the program stands here. -/
import Derived.Test.YtbgniopmmankdaaKA
import Derived.Carry
import Derived.MapKept
namespace Go.Proofs.Ytbgniopmmankdaa.K
open Go Go.RowKit
set_option linter.unusedVariables false
set_option linter.unusedSimpArgs false

/-! ### the words -/

def kvGet {K : Type} [BEq K] : List (K × Int) → K → Option Int
  | [], _ => none
  | e :: r, k => if (k == e.1) = true then some e.2 else kvGet r k
def kvPut {K : Type} [BEq K] : List (K × Int) → K → Int → List (K × Int)
  | [], k, v => [(k, v)]
  | e :: r, k, v => if (k == e.1) = true then (k, v) :: r else e :: kvPut r k v
def kvI (m : List (Int × Int)) : List (Value × Value) := m.map fun e => (.int .i64 e.1, .int .i64 e.2)
def kvS (m : List (ByteArray × Int)) : List (Value × Value) := m.map fun e => (.string e.1, .int .i64 e.2)
def kvP (m : List ((Int × Int) × Int)) : List (Value × Value) := m.map fun e => (.agg #[.int .i64 e.1.1, .int .i64 e.1.2], .int .i64 e.2)

section
variable {P : Program} {X M0 : List Nat} {w0 w : World} {own : List HL} {φs : List (World → Prop)} {n : Nat} {T : List (Nat × Value)} {a : Act} {o : Oper} {ops : Array Oper} {rest : List Oper} {Q : Exit → Act → World → Prop}

/-- which entry has the key -/
def kvIdx {K : Type} [BEq K] : List (K × Int) → K → Option (Nat × Int)
  | [], _ => none
  | e :: r, k => if (k == e.1) = true then some (0, e.2) else (kvIdx r k).map fun p => (p.1 + 1, p.2)
theorem kvGet_idx {K : Type} [BEq K] (m : List (K × Int)) (k : K) : kvGet m k = (kvIdx m k).map (·.2) := by
  induction m with
  | nil => rfl
  | cons e r ih =>
    unfold kvGet kvIdx
    split
    · rfl
    · rw [ih]; cases kvIdx r k <;> rfl

/-- the model's search comes to the same: f says how a key is spelled -/
structure KeyTy (P : Program) (kt : TypeId) {K : Type} [BEq K] (f : K → Value) : Prop where
  check : ∀ (b : Bool) (k : K) (w : World), (Instr.checkKey b 10000 kt (f k)).run P w = .ok () w
  find : ∀ (es : List MapEntry) (m : List (K × Int)) (k : K) (w : World), es.map (fun e => (e.key, e.val)) = m.map (fun e => (f e.1, Value.int .i64 e.2)) →
    (Instr.findKey kt (f k) es).run P w = .ok ((kvIdx m k).map fun p => (p.1, Value.int .i64 p.2)) w
  same : ∀ (k k' : K), (k == k') = true → k = k'
  bits : ∀ (k : K), Instr.sameBits 10000 (f k) (f k) = true

theorem findNow_kv {K : Type} [BEq K] {d : TypeDesc} {f : K → Value} (hs : ∀ k k', Instr.sameNow d (f k) (f k') = some (k == k')) : ∀ (es : List MapEntry) (m : List (K × Int)) (k : K) (i : Nat), es.map (fun e => (e.key, e.val)) = m.map (fun e => (f e.1, Value.int .i64 e.2)) →
    Instr.findNow d (f k) es i = some ((kvIdx m k).map fun p => (i + p.1, Value.int .i64 p.2))
  | [], m, k, i, h => by
    cases m with
    | nil => rfl
    | cons e r => simp at h
  | e :: es, m, k, i, h => by
    cases m with
    | nil => simp at h
    | cons q r =>
      simp only [List.map_cons, List.cons.injEq, Prod.mk.injEq] at h
      obtain ⟨⟨h1, h2⟩, h3⟩ := h
      unfold Instr.findNow kvIdx
      rw [h1, hs]
      cases hq : (k == q.1) with
      | true => simp [h2]
      | false =>
        simp only [Bool.false_eq_true, if_false]
        rw [findNow_kv hs es r k (i + 1) h3]
        cases kvIdx r k with
        | none => rfl
        | some p => simp; omega

theorem keyTy_now {kt : TypeId} {K : Type} [BEq K] {f : K → Value} {d : TypeDesc} (hu : P.underlying kt = some d) (hs : ∀ k k', Instr.sameNow d (f k) (f k') = some (k == k')) (hc : ∀ (b : Bool) (k : K) (w : World), (Instr.checkKey b 10000 kt (f k)).run P w = .ok () w)
    (hsame : ∀ (k k' : K), (k == k') = true → k = k') (hb : ∀ (k : K), Instr.sameBits 10000 (f k) (f k) = true) : KeyTy P kt f := by
  refine ⟨hc, fun es m k w h => ?_, hsame, hb⟩
  have := findNow_kv hs es m k 0 h
  unfold Instr.findKey
  rw [Sem.run_bind, run_underlying hu, Result.andThen_ok, this]
  simp only [Sem.run_pure, Nat.zero_add]

theorem keyI {kt : TypeId} (hu : P.underlying kt = some (.int .i64)) : KeyTy P kt (fun k : Int => Value.int .i64 k) := by
  refine keyTy_now hu (fun k k' => rfl) (fun b k w => ?_) (fun k k' h => eq_of_beq h) (fun k => by simp [Instr.sameBits])
  show (Instr.checkKey b (9999 + 1) kt (.int .i64 k)).run P w = _
  unfold Instr.checkKey
  simp [run_underlying hu]
theorem keyS {kt : TypeId} (hu : P.underlying kt = some .string) : KeyTy P kt (fun k : ByteArray => Value.string k) := by
  refine keyTy_now hu (fun k k' => rfl) (fun b k w => ?_) (fun k k' h => (MapKept.bytes_beq k k').1 h) (fun k => by simp [Instr.sameBits, (MapKept.bytes_beq k k).2 rfl])
  show (Instr.checkKey b (9999 + 1) kt (.string k)).run P w = _
  unfold Instr.checkKey
  simp [run_underlying hu]

/-! ### the operations -/

theorem wpl_makeMap {t : TypeId} (hg : o.guard = none) (hd : dstOk o.dst n = true) (ht : Tm n T a) (hm : Ms X M0 w0 own φs w) (ho : o.op = .makeMap t none)
    (k : ∀ b a', Tm n (putT o.dst (.map (some b)) T) a' → ∀ w', Ms X M0 w0 (.kv b [] :: own) φs w' → wpList P ops Q rest a' w') : wpList P ops Q (o :: rest) a w := by
  refine wpl_new (v := .map (some w.heap.size)) (w' := w.alloc (.map #[] 0)) hg hd ht ?_ fun a' ht' => k _ a' ht' _ ?_
  · unfold execOp
    simp [ho, run_makeMap]
  · refine hm.allocObj _ _ ?_ (.inl rfl)
    simp only [HL.holds]
    exact ⟨#[], 0, heap_alloc_new w _, rfl⟩

theorem Ms.kv_at (h : Ms X M0 w0 own φs w) (j : Nat) {b : Nat} {m : List (Value × Value)} (hj : own[j]? = some (.kv b m)) : ∃ es clock, w.heap[b]? = some (.map es clock) ∧ es.toList.map (fun e => (e.key, e.val)) = m :=
  h.holds _ (List.mem_of_getElem? hj)

/-- 'v, ok := m[k]' -/
theorem ev_lookup {t kt et b : Nat} {K : Type} [BEq K] {f : K → Value} {x y : Operand} {m : List (K × Int)} {k : K} (j : Nat) (ht : Tm n T a) (hm : Ms X M0 w0 own φs w) (ho : o.op = .lookup t x y true) (hx : opv T x = some (.map (some b))) (hy : opv T y = some (f k))
    (hu : P.underlying t = some (.map kt et)) (hk : KeyTy P kt f) (hz : (P.info? et).map (·.zero) = some (some (.int .i64 0))) (hj : own[j]? = some (.kv b (m.map fun e => (f e.1, Value.int .i64 e.2)))) :
    (execOp a.eval o).run P w = .ok (.value (.tuple [.int .i64 ((kvGet m k).getD 0), .bool (kvGet m k).isSome].toArray)) w := by
  obtain ⟨es, clock, h1, h2⟩ := hm.kv_at j hj
  have hf := hk.find es.toList m k w h2
  have hgo : (getObj b).run P w = .ok (.map es clock) w := MapKept.run_getObj_map h1
  unfold execOp
  simp only [ho, ht.eval hx, ht.eval hy, Instr.lookup, Sem.run_bind, run_underlying hu, Result.andThen_ok, hgo, Sem.run_pure, hk.check, hf, kvGet_idx]
  cases kvIdx m k with
  | none =>
    cases hi : P.info? et with
    | none => rw [hi] at hz; cases hz
    | some i =>
      rw [hi] at hz
      have hz2 : i.zero = some (.int .i64 0) := by simpa using hz
      simp [zeroValue, typeInfo, hi, hz2]
  | some p => simp

theorem kvPut_none {K : Type} [BEq K] : ∀ (m : List (K × Int)) (k : K) (v : Int), kvIdx m k = none → kvPut m k v = m ++ [(k, v)]
  | [], k, v, _ => rfl
  | e :: r, k, v, h => by
    unfold kvIdx at h
    unfold kvPut
    split at h
    · cases h
    · next hq =>
      rw [if_neg hq, kvPut_none r k v (by cases hr : kvIdx r k with
        | none => rfl
        | some p => rw [hr] at h; cases h)]
      rfl
theorem kvPut_some {K : Type} [BEq K] (hs : ∀ (k k' : K), (k == k') = true → k = k') : ∀ (m : List (K × Int)) (k : K) (v : Int) (i : Nat) (u : Int), kvIdx m k = some (i, u) → m[i]? = some (k, u) ∧ kvPut m k v = m.set i (k, v)
  | [], k, v, i, u, h => by cases h
  | e :: r, k, v, i, u, h => by
    unfold kvIdx at h
    unfold kvPut
    split at h
    · next hq =>
      cases h
      rw [if_pos hq]
      have := hs _ _ hq
      refine ⟨?_, rfl⟩
      simp [this]
    · next hq =>
      rw [if_neg hq]
      cases hr : kvIdx r k with
      | none => rw [hr] at h; cases h
      | some p =>
        rw [hr] at h
        cases h
        obtain ⟨h1, h2⟩ := kvPut_some hs r k v p.1 p.2 hr
        exact ⟨by simpa using h1, by rw [h2]; rfl⟩

/-- 'm[k] = v' -/
theorem wpl_mapUpdate {t kt et b : Nat} {K : Type} [BEq K] {f : K → Value} {x y z : Operand} {m : List (K × Int)} {k : K} {v : Int} (j : Nat) (hg : o.guard = none) (hd : o.dst = none) (ht : Tm n T a) (hm : Ms X M0 w0 own φs w) (ho : o.op = .mapUpdate t x y z)
    (hx : opv T x = some (.map (some b))) (hy : opv T y = some (f k)) (hz : opv T z = some (.int .i64 v)) (hu : P.underlying t = some (.map kt et)) (hk : KeyTy P kt f) (hj : own[j]? = some (.kv b (m.map fun e => (f e.1, Value.int .i64 e.2))))
    (kk : ∀ a', Tm n T a' → ∀ w', Ms X M0 w0 (own.set j (.kv b ((kvPut m k v).map fun e => (f e.1, Value.int .i64 e.2)))) φs w' → wpList P ops Q rest a' w') : wpList P ops Q (o :: rest) a w := by
  obtain ⟨es, clock, h1, h2⟩ := hm.kv_at j hj
  have hf := hk.find es.toList m k w h2
  have hgo : (getObj b).run P w = .ok (.map es clock) w := MapKept.run_getObj_map h1
  have hlt : b < w.heap.size := (Array.getElem?_eq_some_iff.1 h1).1
  have hso : ∀ q, (setObj b q).run P w = .ok () { w with heap := w.heap.setIfInBounds b q } := fun q => MapKept.run_setObj_map q h1
  have done : ∀ es' clock', es'.toList.map (fun e => (e.key, e.val)) = (kvPut m k v).map (fun e => (f e.1, Value.int .i64 e.2)) →
      Ms X M0 w0 (own.set j (.kv b ((kvPut m k v).map fun e => (f e.1, Value.int .i64 e.2)))) φs { w with heap := w.heap.setIfInBounds b (.map es' clock') } := by
    intro es' clock' he
    refine hm.turnAt j hj ⟨rfl, rfl, rfl, by simp, fun q hq hn => ?_⟩ ?_ (by simp [HL.fp]) (by simp [HL.fp])
    · have : b ≠ q := fun e => hn (by simp [HL.fp, e])
      simp [Array.getElem?_setIfInBounds_ne this]
    · simp only [HL.holds]
      exact ⟨es', clock', by simp [hlt], he⟩
  cases hq : kvIdx m k with
  | none =>
    rw [hq] at hf
    refine wpl_skip (w' := { w with heap := w.heap.setIfInBounds b (.map (es.push { key := f k, val := .int .i64 v, born := clock }) (clock + 1)) }) hg hd ht ?_ fun a' ht' => kk a' ht' _ (done _ _ ?_)
    · unfold execOp
      simp only [ho, ht.eval hx, ht.eval hy, ht.eval hz, Instr.mapUpdate, Sem.run_bind, run_underlying hu, Result.andThen_ok, hgo, hk.check, hf, Option.map_none]
      simp [hso]
    · rw [kvPut_none m k v hq]; simp [h2]
  | some p =>
    obtain ⟨i, u⟩ := p
    rw [hq] at hf
    obtain ⟨h3, h4⟩ := kvPut_some hk.same m k v i u hq
    have hlen : es.toList.length = m.length := by have := congrArg List.length h2; simpa using this
    have him : i < m.length := (List.getElem?_eq_some_iff.1 h3).1
    have hie : i < es.size := by simpa using (by rw [hlen]; exact him : i < es.toList.length)
    have hkey : es[i].key = f k := by
      have h5 : (es.toList.map (fun e => (e.key, e.val)))[i]? = some (f k, Value.int .i64 u) := by rw [h2, List.getElem?_map, h3]; rfl
      rw [List.getElem?_map] at h5
      simp [hie] at h5
      exact h5.1
    have hstay : (Instr.keyThatStays (f k) (f k)).run P w = .ok (f k) w := by simp [Instr.keyThatStays, hk.bits]
    refine wpl_skip (w' := { w with heap := w.heap.setIfInBounds b (.map (es.modify i fun e => { e with key := f k, val := .int .i64 v }) clock) }) hg hd ht ?_ fun a' ht' => kk a' ht' _ (done _ _ ?_)
    · unfold execOp
      simp only [ho, ht.eval hx, ht.eval hy, ht.eval hz, Instr.mapUpdate, Sem.run_bind, run_underlying hu, Result.andThen_ok, hgo, hk.check, hf, Option.map_some]
      have he : ((es[i]?).map (·.key)).getD (f k) = f k := by simp [hie, hkey]
      simp only [he, hstay, Result.andThen_ok]
      simp [hso]
    · rw [h4]
      apply List.ext_getElem?
      intro q
      rw [List.getElem?_map, List.getElem?_map, List.getElem?_set]
      have h6 : (es.toList.map (fun e => (e.key, e.val)))[q]? = (m.map (fun e => (f e.1, Value.int .i64 e.2)))[q]? := by rw [h2]
      rw [List.getElem?_map, List.getElem?_map] at h6
      by_cases hqi : i = q
      · subst hqi
        simp [Array.getElem?_modify, hie, him]
      · rw [if_neg hqi, ← h6]
        simp [Array.getElem?_modify, hqi]

end
end Go.Proofs.Ytbgniopmmankdaa.K
