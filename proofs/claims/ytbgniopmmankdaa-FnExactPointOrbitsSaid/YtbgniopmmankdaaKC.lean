/- Bytes, texts, keys that are pairs, rows that are written. Nothing of the program stands here. -/
import Derived.Test.YtbgniopmmankdaaKB
namespace Go.Proofs.Ytbgniopmmankdaa.K
open Go Go.RowKit
set_option linter.unusedVariables false
set_option linter.unusedSimpArgs false

def ints8 (l : List Int) : List Value := l.map (Value.int .u8)
/-- the text of some bytes -/
def strOf (l : List Int) : ByteArray := l.foldl (fun s v => s.push (UInt8.ofNat v.toNat)) ByteArray.empty

section
variable {P : Program} {X M0 : List Nat} {w0 w : World} {own : List HL} {φs : List (World → Prop)} {n : Nat} {T : List (Nat × Value)} {a : Act} {o : Oper} {ops : Array Oper} {rest : List Oper} {Q : Exit → Act → World → Prop}

theorem ints8_one (l : List Int) : ∀ v ∈ ints8 l, v.oneCell' = true := by
  intro v hv
  simp only [ints8, List.mem_map] at hv
  obtain ⟨x, _, rfl⟩ := hv
  rfl

theorem RowAt.len8 {A : Option Addr} {c m : Nat} {l : List Int} (h : RowAt A c m 1 (ints8 l) w) : m = l.length := by
  have := h.1
  simp [ints8] at this
  omega

theorem wpl_push8 {t E c c1 m : Nat} {x y : Operand} {A B : Option Addr} {l r : List Int} {v : Int} (j i : Nat) (hg : o.guard = none) (hd : dstOk o.dst n = true) (ht : Tm n T a) (hM : Ms X M0 w0 own φs w)
    (ho : o.op = .call { callee := .builtin .append, args := #[x, y], argTypes := #[t, t] }) (hty : AppTy P t E 1 1) (hx : opv T x = some (.slice A m c)) (hy : opv T y = some (.slice B 1 c1))
    (hj : own[j]? = some (.vec A c E 1 m (ints8 l))) (hi : own[i]? = some (.vec B c1 E 1 1 (ints8 [v]))) (hp : push l v = some r)
    (kk : ∀ A' c' m' a', Tm n (putT o.dst (.slice A' m' c') T) a' → ∀ w', Ms X M0 w0 (own.set j (.vec A' c' E 1 m' (ints8 r))) φs w' → wpList P ops Q rest a' w') : wpList P ops Q (o :: rest) a w := by
  have hlt := push_lt hp
  have hr := push_get hp
  subst hr
  have hm := (hM.vec_row j hj).len8
  refine wpl_append j hg hd ht hM ho hty hx hy hj (hM.vec_row i hi) (ints8_one _) (by omega) (by unfold maxLen; omega) ?_
  intro A' c' a' ht' w' hm'
  have e1 : ints8 l ++ ints8 [v] = ints8 (l ++ [v]) := by simp [ints8]
  rw [e1] at hm'
  exact kk A' c' _ a' ht' w' hm'

theorem run_forIn_bytes (f : Value → ByteArray → Sem (ForInStep ByteArray)) (hf : ∀ (v : Int) (s : ByteArray) (w : World), (f (.int .u8 v) s).run P w = .ok (ForInStep.yield (s.push (UInt8.ofNat v.toNat))) w) : ∀ (l : List Int) (s : ByteArray) (w : World), (forIn (m := Sem) (ints8 l) s f).run P w = .ok (l.foldl (fun s v => s.push (UInt8.ofNat v.toNat)) s) w
  | [], s, w => by simp [ints8]
  | v :: l, s, w => by
    have := run_forIn_bytes f hf l (s.push (UInt8.ofNat v.toNat)) w
    simp only [ints8, List.map_cons, List.forIn_cons, Sem.run_bind, hf, Result.andThen_ok, List.foldl_cons] at this ⊢
    exact this

theorem run_bytesToString {A : Option Addr} {c m : Nat} {l : List Int} (h : RowAt A c m 1 (ints8 l) w) : (Conv.bytesToString (.slice A m c)).run P w = .ok (.string (strOf l)) w := by
  have hm := h.len8
  cases A with
  | none =>
    have : m = 0 := by
      rcases h.2.2 with h | ⟨b, o, h, _⟩
      · exact h
      · cases h
    have hl : l = [] := List.length_eq_zero_iff.1 (by omega)
    subst hl
    simp [Conv.bytesToString, strOf]
  | some p =>
    have hc : (loadCells p m).run P w = .ok (ints8 l).toArray w := by
      have hlen : m = (ints8 l).length := by simp [ints8, hm]
      rw [hlen]
      refine run_loadCells_list (P := P) w p (ints8 l) fun j v hv => ?_
      rcases h.2.2 with h2 | ⟨b, o, h2, h3⟩
      · have : (ints8 l).length = 0 := by omega
        have := (List.getElem?_eq_some_iff.1 hv).1
        omega
      · cases h2
        rw [addr_add]
        exact h3 j v hv
    simp only [Conv.bytesToString, Sem.run_bind, hc, Result.andThen_ok]
    rw [← Array.forIn_toList]
    simp only []
    rw [run_forIn_bytes _ (fun v s w => by simp)]
    rfl

theorem ev_convert_text {src dst e : TypeId} {x : Operand} {A : Option Addr} {c m : Nat} {l : List Int} (ht : Tm n T a) (ho : o.op = .convert src dst x) (hx : opv T x = some (.slice A m c)) (hs : P.underlying src = some (.slice e)) (he : P.underlying e = some (.int .u8)) (hu : P.underlying dst = some .string) (hr : RowAt A c m 1 (ints8 l) w) :
    (execOp a.eval o).run P w = .ok (.value (.string (strOf l))) w := by
  unfold execOp
  simp only [ho, ht.eval hx, convert, Sem.run_bind, run_underlying hs, run_underlying hu, run_underlying he, Result.andThen_ok]
  simp [run_bytesToString hr]

/-- a byte of a text -/
theorem ev_index_text {t : TypeId} {x ix : Operand} {s : ByteArray} {l : List Int} {k : IntKind} {i v : Int} (ht : Tm n T a) (ho : o.op = .index t x ix) (hx : opv T x = some (.string s)) (hi : opv T ix = some (.int k i)) (hu : P.underlying t = some .string)
    (hs : s.data.toList.map (fun b => (b.toNat : Int)) = l) (hv : getI l i = some v) : (execOp a.eval o).run P w = .ok (.value (.int .u8 v)) w := by
  have h0 := getI_lo hv
  have h1 := getI_get hv
  rw [← hs, List.getElem?_map] at h1
  have hb : ∃ b, s.data.toList[i.toNat]? = some b ∧ (b.toNat : Int) = v := by
    cases hq : s.data.toList[i.toNat]? with
    | none => rw [hq] at h1; cases h1
    | some b => rw [hq] at h1; exact ⟨b, rfl, by simpa using h1⟩
  obtain ⟨b, hb, rfl⟩ := hb
  have hb2 : s[i.toNat]? = some b := by
    have hlt : i.toNat < s.data.size := by simpa using (List.getElem?_eq_some_iff.1 hb).1
    have he : s.data[i.toNat] = b := by
      have : s.data[i.toNat]? = some b := by simpa using hb
      rw [Array.getElem?_eq_getElem hlt] at this
      exact Option.some.inj this
    have hlt' : i.toNat < s.size := hlt
    exact (getElem?_pos s i.toNat hlt').trans (congrArg some he)
  unfold execOp
  simp [ho, ht.eval hx, ht.eval hi, Instr.index, asIntOf, run_underlying hu, h0, hb2]

/-! ### keys that are pairs -/
def pairV (k : Int × Int) : Value := .agg #[.int .i64 k.1, .int .i64 k.2]

theorem run_equal_pair {t e : TypeId} {i j k l : Int} (hu : P.underlying t = some (.array 2 e)) (hue : P.underlying e = some (.int .i64)) (hz : (P.info? e).map (·.size) = some 1) :
    (Op.equal t (pairV (i, j)) (pairV (k, l))).run P w = .ok ((i, j) == (k, l)) w := by
  have h0 : Op.equal t (pairV (i, j)) (pairV (k, l)) = Op.equalIn (9998 + 1 + 1) t (pairV (i, j)) (pairV (k, l)) := rfl
  rw [h0]
  unfold Op.equalIn pairV
  cases hin : P.info? e with
  | none => rw [hin] at hz; simp at hz
  | some inf =>
    have hsz : inf.size = 1 := by simpa [hin] using hz
    have p1 : ∀ (x y : Int), (part e #[.int .i64 x, .int .i64 y] 0).run P w = .ok (.int .i64 x) w := fun x y => run_part_int hue rfl
    have p2 : ∀ (x y : Int), (part e #[.int .i64 x, .int .i64 y] 1).run P w = .ok (.int .i64 y) w := fun x y => run_part_int hue rfl
    simp only [Sem.run_bind, run_underlying hu, Result.andThen_ok, Go.sizeOf, typeInfo, run_program, hin, Sem.run_pure, hsz]
    rw [Std.Legacy.Range.forIn_eq_forIn_range']
    simp only [Std.Legacy.Range.size, Nat.sub_zero, Nat.add_sub_cancel, Nat.div_one]
    have hr : List.range' 0 2 1 = [0, 1] := rfl
    rw [hr]
    simp only [List.forIn_cons, List.forIn_nil, Sem.run_bind, Nat.zero_mul, Nat.one_mul, p1, p2, run_equalIn_int hue, Result.andThen_ok, Sem.run_ite, Sem.run_pure]
    have hbeq : ((i, j) == (k, l)) = (i == k && j == l) := rfl
    rw [hbeq]
    cases h1 : i == k <;> cases h2 : j == l <;> simp [p1, p2, run_equalIn_int hue, h1, h2]

theorem findAsking_kv {kt : TypeId} {f : Int × Int → Value} (he : ∀ k k' (w : World), (Op.equal kt (f k) (f k')).run P w = .ok (k == k') w) : ∀ (es : List MapEntry) (m : List ((Int × Int) × Int)) (k : Int × Int) (i : Nat) (w : World), es.map (fun e => (e.key, e.val)) = m.map (fun e => (f e.1, Value.int .i64 e.2)) →
    (Instr.findAsking kt (f k) es i).run P w = .ok ((kvIdx m k).map fun p => (i + p.1, Value.int .i64 p.2)) w
  | [], m, k, i, w, h => by
    cases m with
    | nil => simp [Instr.findAsking, kvIdx]
    | cons e r => simp at h
  | e :: es, m, k, i, w, h => by
    cases m with
    | nil => simp at h
    | cons q r =>
      simp only [List.map_cons, List.cons.injEq, Prod.mk.injEq] at h
      obtain ⟨⟨h1, h2⟩, h3⟩ := h
      unfold Instr.findAsking kvIdx
      rw [Sem.run_bind, h1, he, Result.andThen_ok]
      cases hq : (k == q.1) with
      | true => simp [h2]
      | false =>
        simp only [Bool.false_eq_true, if_false]
        rw [findAsking_kv he es r k (i + 1) w h3]
        cases kvIdx r k with
        | none => rfl
        | some p => simp; omega

theorem keyP {kt e : TypeId} (hu : P.underlying kt = some (.array 2 e)) (hue : P.underlying e = some (.int .i64)) (hz : (P.info? e).map (·.size) = some 1) : KeyTy P kt pairV := by
  cases hin : P.info? e with
  | none => rw [hin] at hz; simp at hz
  | some inf =>
    have hsz : inf.size = 1 := by simpa [hin] using hz
    refine ⟨fun b k w => ?_, fun es m k w h => ?_, fun k k' h => eq_of_beq h, fun k => ?_⟩
    · show (Instr.checkKey b (9998 + 1 + 1) kt (pairV k)).run P w = _
      have p1 : ∀ (x y : Int) (i : Nat), i < 2 → (part e #[.int .i64 x, .int .i64 y] i).run P w = .ok (if i = 0 then .int .i64 x else .int .i64 y) w := fun x y i hi => by
        have : i = 0 ∨ i = 1 := by omega
        rcases this with rfl | rfl
        · exact run_part_int hue rfl
        · exact run_part_int hue rfl
      have hc : ∀ x : Int, (Instr.checkKey b (9998 + 1) e (.int .i64 x)).run P w = .ok () w := fun x => by
        unfold Instr.checkKey
        simp [run_underlying hue]
      unfold Instr.checkKey pairV
      simp only [Sem.run_bind, run_underlying hu, Result.andThen_ok, Go.sizeOf, typeInfo, run_program, hin, Sem.run_pure, hsz]
      rw [Std.Legacy.Range.forIn_eq_forIn_range']
      simp only [Std.Legacy.Range.size, Nat.sub_zero, Nat.add_sub_cancel, Nat.div_one]
      have hr : List.range' 0 2 1 = [0, 1] := rfl
      rw [hr]
      simp [List.forIn_cons, p1, hc, hin, hsz]
    · unfold Instr.findKey
      rw [Sem.run_bind, run_underlying hu, Result.andThen_ok]
      cases es with
      | nil =>
        cases m with
        | nil => simp [Instr.findNow, kvIdx]
        | cons q r => simp at h
      | cons e' es =>
        have hn : Instr.findNow (.array 2 e) (pairV k) (e' :: es) 0 = none := by simp [Instr.findNow, Instr.sameNow]
        rw [hn]
        have := findAsking_kv (f := pairV) (fun k k' w => run_equal_pair (i := k.1) (j := k.2) (k := k'.1) (l := k'.2) hu hue hz) (e' :: es) m k 0 w h
        simpa using this
    · simp [Instr.sameBits, pairV]

/-! ### a row is stored -/
theorem allInts_set {M : List Nat} {B : Option Addr} {d m : Nat} {l : List Int} {vs : List Value} {ll : List (List Int)} (i : Nat) (h1 : RO M w (AllInts vs ll)) (h2 : RO M w (IntsAt B d m l)) : RO M w (AllInts (vs.set i (.slice B m d)) (ll.set i l)) := by
  refine (h1.and h2).mono fun w' h => ⟨by simp [h.1.1], fun k l' hk => ?_⟩
  rw [List.getElem?_set] at hk
  split at hk
  · next e =>
    subst e
    split at hk
    · next hlt =>
      cases hk
      refine ⟨B, d, m, ?_, h.2⟩
      rw [List.getElem?_set_self (by rw [h.1.1]; exact hlt)]
    · cases hk
  · next e =>
    obtain ⟨B', d', m', h3, h4⟩ := h.1.2 k l' hk
    exact ⟨B', d', m', by rw [List.getElem?_set_ne e]; exact h3, h4⟩

theorem wpl_store_row {t c E m : Nat} {x y : Operand} {A B : Option Addr} {d q : Nat} {i : Int} {vs : List Value} {ll : List (List Int)} {u : List Int} (j : Nat) (hg : o.guard = none) (hd : o.dst = none) (ht : Tm n T a) (hm : Ms X M0 w0 own φs w) (ho : o.op = .store t x y)
    (hx : opv T x = some (.pointer (some (eaddr A i.toNat 1)))) (hy : opv T y = some (.slice B q d)) (hs : (P.info? t).map (·.size) = some 1) (hj : own[j]? = some (.vec A c E 1 m vs)) (hr : RowsAt A c m vs ll w) (hc : getR ll i = some u)
    (k : ∀ a', Tm n T a' → ∀ w', Ms X M0 w0 (own.set j (.vec A c E 1 m (vs.set i.toNat (.slice B q d)))) φs w' → wpList P ops Q rest a' w') : wpList P ops Q (o :: rest) a w := by
  obtain ⟨B', d', m', hv, _⟩ := rowsAt_get hr hc
  exact wpl_store_vec j hg hd ht hm ho hx hy hs rfl hj hv k

def Bytes8At (A : Option Addr) (c n : Nat) (l : List Int) : World → Prop := RowAt A c n 1 (ints8 l)
/-- the bytes of a colouring, as a list -/
def colL (x : Col) : List Int := (List.range 136).map x.e
theorem ints8_colL (x : Col) : ints8 (colL x) = bytesC 136 x.e := by unfold ints8 colL bytesC; rw [List.map_map]; rfl
theorem ints8_get {l : List Int} {i x : Int} (h : getI l i = some x) : (ints8 l)[i.toNat]? = some (.int .u8 x) := by
  have := getI_get h
  simp [ints8, this]
theorem ev_index_ints8 {P : Program} {w : World} {n : Nat} {T : List (Nat × Value)} {a : Act} {o : Oper} {t : TypeId} {x ix : Operand} {A : Option Addr} {m c : Nat} {k : IntKind} {i v : Int} {l : List Int} (ht : Tm n T a) (ho : o.op = .indexAddr t x ix) (hx : opv T x = some (.slice A m c)) (hi : opv T ix = some (.int k i))
    (hf : sliceOf P t = some 1) (hr : RowAt A c m 1 (ints8 l) w) (hv : getI l i = some v) : (execOp a.eval o).run P w = .ok (.value (.pointer (some (eaddr A i.toNat 1)))) w :=
  ev_indexAddr_sl ht ho hx hi hf (getI_lo hv) (by rw [hr.len8]; exact getI_hi hv) hr.base
theorem ev_len_of8 {P : Program} {w : World} {n : Nat} {T : List (Nat × Value)} {a : Act} {o : Oper} {x : Operand} {A : Option Addr} {m c : Nat} {t : TypeId} {e : TypeId} {l : List Int} (ht : Tm n T a) (ho : o.op = .call { callee := .builtin .len, args := #[x], argTypes := #[t] }) (hx : opv T x = some (.slice A m c)) (hu : P.underlying t = some (.slice e)) (hr : RowAt A c m 1 (ints8 l) w) :
    (execOp a.eval o).run P w = .ok (.value (.int .i64 (l.length : Int))) w := by
  rw [← hr.len8]
  exact ev_len ht ho hx hu
theorem ev_slice_arr {P : Program} {w : World} {n : Nat} {T : List (Nat × Value)} {a : Act} {o : Oper} {t e : TypeId} {x : Operand} {b q m : Nat} (ht : Tm n T a) (ho : o.op = .slice t x none none none) (hx : opv T x = some (.pointer (some ⟨b, q, none⟩))) (hu : P.underlying t = some (.array m e)) (hs : (P.info? e).map (·.size) = some 1) :
    (execOp a.eval o).run P w = .ok (.value (.slice (some ⟨b, q, none⟩) m m)) w := by
  cases hi : P.info? e with
  | none => rw [hi] at hs; simp at hs
  | some i =>
    have hsz : i.size = 1 := by simpa [hi] using hs
    unfold execOp
    simp [ho, ht.eval hx, Instr.sliceAt, run_underlying hu, Instr.sliceBounds, Instr.sureAddr, asAddr, sizeOf, typeInfo, hi, Addr.add]
theorem Ms.lendCol {X M0 : List Nat} {w0 w : World} {φs : List (World → Prop)} {passed rest : List HL} {b E : Nat} {x : Col} (h : Ms X M0 w0 (passed ++ rest) φs w) (j : Nat) (hj : rest[j]? = some (.blk b E (Col.cells x))) : RO (fps passed) w (Bytes8At (some ⟨b, 2, none⟩) 136 136 (colL x)) := by
  have hmem : HL.blk b E (Col.cells x) ∈ rest := List.mem_of_getElem? hj
  have hh : w.heap[b]? = some (.cells (Col.cells x).toArray E (0, 0)) := h.holds _ (List.mem_append.2 (.inr hmem))
  have hrow : Bytes8At (some ⟨b, 2, none⟩) 136 136 (colL x) w := by
    refine ⟨by rw [ints8_colL, length_bytesC], Nat.le_refl _, .inr ⟨b, 2, rfl, fun i v hv => ?_⟩⟩
    rw [ints8_colL] at hv
    simp only [World.cell?, hh]
    rw [List.getElem?_toArray, Col.cells, show 2 + i = i + 2 by omega]
    exact hv
  refine hrow.ro fun a ha hm hin => ?_
  cases ha
  have hnd := h.nodup
  rw [fps_append] at hnd
  exact (List.nodup_append.1 hnd).2.2 _ hin _ (mem_fps.2 ⟨_, hmem, by simp [HL.fp]⟩) rfl
theorem ev_build_arr {P : Program} {w : World} {n : Nat} {T : List (Nat × Value)} {a : Act} {o : Oper} {t : TypeId} {c : Nat} {E : TypeId} {parts : Array (Nat × Operand)} {ps : List (Nat × Value)} {zs vs : List Value} (ht : Tm n T a) (ho : o.op = .build t parts) (hu : P.underlying t = some (.array c E)) (hz : zeroOf P t = some zs) (hs : (P.info? E).map (·.size) = some 1) (hp : opvp T parts.toList = some ps)
    (hf : Instr.fill (fun (i : Nat) => some (i * 1, 1)) zs.toArray ps = some vs.toArray) : (execOp a.eval o).run P w = .ok (.value (.agg vs.toArray)) w := by
  obtain ⟨zv, hr, hc⟩ := run_zeroValue (w := w) hz
  have hzc : zv.cells = zs.toArray := by rw [← hc]
  cases hi : P.info? E with
  | none => rw [hi] at hs; cases hs
  | some i =>
    have hsz : i.size = 1 := by simpa [hi] using hs
    unfold execOp
    simp only [ho, ht.evalpa hp, Instr.build, Sem.run_bind, hr, Result.andThen_ok, run_underlying hu]
    simp [sizeOf, typeInfo, hi, hsz, hzc]
    simp only [Nat.mul_one] at hf
    rw [hf]
    simp
/-! ### a callee that hands its own list back, longer, or nil -/
def onOpt {α R : Type} (t : Option α) (x : Option R) (f : α → Option R) : Option R := match t with | none => x | some y => f y
theorem onOpt_none {α R : Type} {x : Option R} {f : α → Option R} {r : R} (h : onOpt none x f = some r) : x = some r := h
theorem onOpt_some {α R : Type} {y : α} {x : Option R} {f : α → Option R} {r : R} (h : onOpt (some y) x f = some r) : f y = some r := h
def aliasV (A : Option Addr) (k c : Nat) (t : Option (List Int)) : Value := match t with | none => .slice none 0 0 | some _ => .slice A k c
def aliasN (m k : Nat) (t : Option (List Int)) : Nat := match t with | none => m | some _ => k
theorem vecSome {A : Option Addr} {c E m : Nat} {xs : List Value} {X M0 : List Nat} {w0 w : World} {own : List HL} {φs : List (World → Prop)} (h : Ms X M0 w0 own φs w) (j : Nat) (hj : own[j]? = some (.vec A c E 1 m xs)) (hc : 0 < c) : A.isNone = false := by
  have hh := h.holds _ (List.mem_of_getElem? hj)
  simp only [HL.holds] at hh
  obtain ⟨_, h2⟩ := hh
  rcases h2 with ⟨h2, _⟩ | ⟨_, _, h2⟩
  · omega
  · rcases h2 with ⟨h3, h4⟩ | ⟨g, cap, cur, hv, _⟩
    · injection h3 with e1 e2 e3
      omega
    · injection hv with e1 e2 e3
      subst e1; rfl
theorem ev_eq_nil_cap {P : Program} {w : World} {n : Nat} {T : List (Nat × Value)} {a : Act} {o : Oper} {t u e : TypeId} {x y : Operand} {A : Option Addr} {m c : Nat} (ht : Tm n T a) (ho : o.op = .binOp .eql t x y u) (hx : opv T x = some (.slice A m c)) (hy : opv T y = some (.slice none 0 0)) (hu : P.underlying t = some (.slice e)) (hA : A.isNone = false) :
    (execOp a.eval o).run P w = .ok (.value (.bool false)) w := by rw [← hA]; exact ev_eq_nil ht ho hx hy hu
theorem ev_ne_nil_cap {P : Program} {w : World} {n : Nat} {T : List (Nat × Value)} {a : Act} {o : Oper} {t u e : TypeId} {x y : Operand} {A : Option Addr} {m c : Nat} (ht : Tm n T a) (ho : o.op = .binOp .neq t x y u) (hx : opv T x = some (.slice A m c)) (hy : opv T y = some (.slice none 0 0)) (hu : P.underlying t = some (.slice e)) (hA : A.isNone = false) :
    (execOp a.eval o).run P w = .ok (.value (.bool true)) w := by
  have h : A.isSome = true := by cases A <;> simp_all
  rw [← h]; exact ev_ne_nil ht ho hx hy hu
theorem ev_ne_nil_none {P : Program} {w : World} {n : Nat} {T : List (Nat × Value)} {a : Act} {o : Oper} {t u e : TypeId} {x y : Operand} {m c : Nat} (ht : Tm n T a) (ho : o.op = .binOp .neq t x y u) (hx : opv T x = some (.slice none m c)) (hy : opv T y = some (.slice none 0 0)) (hu : P.underlying t = some (.slice e)) :
    (execOp a.eval o).run P w = .ok (.value (.bool false)) w := ev_ne_nil ht ho hx hy hu
/-! ### slices of bool -/
def bools (l : List Bool) : List Value := l.map Value.bool
def getT (l : List Bool) (i : Int) : Option Bool := if 0 ≤ i then l[i.toNat]? else none
theorem getT_lo {l : List Bool} {i : Int} {x : Bool} (h : getT l i = some x) : 0 ≤ i := by
  unfold getT at h; split at h
  · assumption
  · cases h
theorem getT_get {l : List Bool} {i : Int} {x : Bool} (h : getT l i = some x) : l[i.toNat]? = some x := by
  unfold getT at h; split at h
  · exact h
  · cases h
theorem getT_hi {l : List Bool} {i : Int} {x : Bool} (h : getT l i = some x) : i < l.length := by
  have h0 := getT_lo h
  have h1 := getT_get h
  obtain ⟨h2, _⟩ := List.getElem?_eq_some_iff.mp h1
  omega
theorem bools_get {l : List Bool} {i : Int} {x : Bool} (h : getT l i = some x) : (bools l)[i.toNat]? = some (.bool x) := by
  have := getT_get h
  simp [bools, this]
theorem RowAt.lenB {A : Option Addr} {c m : Nat} {l : List Bool} {w : World} (h : RowAt A c m 1 (bools l) w) : m = l.length := by
  have := h.1
  simp [bools] at this
  omega
theorem ev_index_bools {P : Program} {w : World} {n : Nat} {T : List (Nat × Value)} {a : Act} {o : Oper} {t : TypeId} {x ix : Operand} {A : Option Addr} {m c : Nat} {k : IntKind} {i : Int} {v : Bool} {l : List Bool} (ht : Tm n T a) (ho : o.op = .indexAddr t x ix) (hx : opv T x = some (.slice A m c)) (hi : opv T ix = some (.int k i))
    (hf : sliceOf P t = some 1) (hr : RowAt A c m 1 (bools l) w) (hv : getT l i = some v) : (execOp a.eval o).run P w = .ok (.value (.pointer (some (eaddr A i.toNat 1)))) w :=
  ev_indexAddr_sl ht ho hx hi hf (getT_lo hv) (by rw [hr.lenB]; exact getT_hi hv) hr.base
section
variable {P : Program} {X M0 : List Nat} {w0 w : World} {own : List HL} {φs : List (World → Prop)} {n : Nat} {T : List (Nat × Value)} {a : Act} {o : Oper} {ops : Array Oper} {rest : List Oper} {Q : Exit → Act → World → Prop}
theorem wpl_make_bools {t E : Nat} {x y : Operand} {i : Int} {k1 k2 : IntKind} (hg : o.guard = none) (hd : dstOk o.dst n = true) (ht : Tm n T a) (hM : Ms X M0 w0 own φs w) (ho : o.op = .makeSlice t x y) (hu : P.underlying t = some (.slice E)) (hz : zeroOf P E = some [.bool false]) (hs : (P.info? E).map (·.size) = some 1)
    (hb : (P.info? E).map (fun i => decide (i.bytes ≤ 1024)) = some true) (hx : opv T x = some (.int k1 i)) (hy : opv T y = some (.int k2 i)) (h0 : 0 ≤ i ∧ i ≤ 1073741824)
    (k : ∀ A m' c' a', Tm n (putT o.dst (.slice A m' c') T) a' → ∀ w', Ms X M0 w0 (.vec A c' E 1 m' (bools (List.replicate i.toNat false)) :: own) φs w' → wpList P ops Q rest a' w') : wpList P ops Q (o :: rest) a w := by
  refine wpl_makeSlice hg hd ht hM ho hu hz hs hb hx hy h0.1 (Int.le_refl _) (by omega) ?_
  intro A a' ht' w' hm'
  have e : List.replicate i.toNat (Value.bool false) = bools (List.replicate i.toNat false) := by simp [bools]
  rw [e] at hm'
  exact k A _ _ a' ht' w' hm'
theorem wpl_store_bool {t c E m : Nat} {x y : Operand} {A : Option Addr} {i : Int} {u v : Bool} {l : List Bool} (j : Nat) (hg : o.guard = none) (hd : o.dst = none) (ht : Tm n T a) (hm : Ms X M0 w0 own φs w) (ho : o.op = .store t x y)
    (hx : opv T x = some (.pointer (some (eaddr A i.toNat 1)))) (hy : opv T y = some (.bool v)) (hs : (P.info? t).map (·.size) = some 1) (hj : own[j]? = some (.vec A c E 1 m (bools l))) (hc : getT l i = some u)
    (k : ∀ a', Tm n T a' → ∀ w', Ms X M0 w0 (own.set j (.vec A c E 1 m (bools (l.set i.toNat v)))) φs w' → wpList P ops Q rest a' w') : wpList P ops Q (o :: rest) a w := by
  refine wpl_store_vec j hg hd ht hm ho hx hy hs rfl hj (bools_get hc) ?_
  have e : (bools l).set i.toNat (.bool v) = bools (l.set i.toNat v) := by simp [bools, List.map_set]
  rw [e]
  exact k
end
/-- what two orders agree on -/
def agreeO {R : Type} [DecidableEq R] (a b : Option R) : Option R := a.bind fun x => if b = some x then some x else none
theorem agreeO_l {R : Type} [DecidableEq R] {a b : Option R} {r : R} (h : agreeO a b = some r) : a = some r := by
  cases a with
  | none => cases h
  | some x =>
    unfold agreeO at h
    rw [Option.bind_some] at h
    split at h
    · exact h
    · cases h
theorem agreeO_r {R : Type} [DecidableEq R] {a b : Option R} {r : R} (h : agreeO a b = some r) : b = some r := by
  cases a with
  | none => cases h
  | some x =>
    unfold agreeO at h
    rw [Option.bind_some] at h
    split at h
    · next e => cases h; exact e
    · cases h
theorem agreeO_same {R : Type} [DecidableEq R] {a b : Option R} {r : R} (h1 : a = some r) (h2 : b = some r) : agreeO a b = some r := by rw [h1, h2, agreeO, Option.bind_some, if_pos rfl]
end
end Go.Proofs.Ytbgniopmmankdaa.K
