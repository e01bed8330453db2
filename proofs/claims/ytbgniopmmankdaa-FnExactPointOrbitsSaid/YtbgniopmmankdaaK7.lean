/- Regions that draw their order: what yields in every world that meets S is taken first; what makes or writes memory comes as the edges let it. Nothing of the program stands here. -/
import Derived.Test.YtbgniopmmankdaaK6
import Derived.OrdersHeld
namespace Go.Proofs.Ytbgniopmmankdaa.K
open Go Go.RowKit
set_option linter.unusedVariables false
set_option linter.unusedSimpArgs false

section
variable {P : Program} {X M0 : List Nat} {w0 w : World} {own : List HL} {φs : List (World → Prop)} {n : Nat} {T : List (Nat × Value)} {a : Act} {o : Oper} {ops : Array Oper} {rest : List Oper} {Q : Exit → Act → World → Prop} {S : World → Prop}

/-- K behind a normal end, Q else -/
def QN (K : Act → World → Prop) (Q : Exit → Act → World → Prop) : Exit → Act → World → Prop
  | .normal, a, w => K a w
  | e, a, w => Q e a w

theorem qn {K : Act → World → Prop} (h : K a w) : QN K Q .normal a w := h

theorem wph_step {i : Nat} {K : Act → World → Prop} (hi : ops[i]? = some o) (h : wpList P ops (QN K Q) [o] a w) : wpOp P ops Q i K a w := by
  unfold wpOp
  simp only [hi]
  unfold wpList at h
  split
  · rename_i hw
    rw [if_pos hw] at h
    rcases h with h | ⟨h1, h2⟩
    · refine .inl ?_
      unfold Oper.wp at *
      generalize (execOp a.eval o).run P w = r at *
      cases r with
      | ok n w' =>
        cases n <;> simp only [Oper.upon] at h ⊢
        case value u => exact h
        case skip => exact h
        case defer d => exact h
        case enter f args =>
          refine Calls.mono h fun e w'' he => ?_
          cases e with
          | returned u => exact he
          | panicked c => exact he
          | outgrown => exact he
        case row row args => exact Rows.mono h fun u w'' he => he
      | halt x w' =>
        cases x <;> simp only [Oper.upon] at h ⊢
        case panic u => exact h
    · exact .inr ⟨h1, h2⟩
  · rename_i hw
    rw [if_neg hw] at h
    exact h

theorem wph_begin {id : Nat} {l : List Oper} (S : World → Prop) (hm : P.follows .mixedOrders = true) (h : wpAnyH P .any l.toArray Q S l.length (Array.replicate l.length false) a w.drew) : (Code.region id l.toArray true).wp P Q a w :=
  wp_region_held hm (by simpa using h)

theorem wph_take {i : Nat} {v : Value} {fuel : Nat} {listed : Array Bool} {md : Region.Mode} (hi : ops[i]? = some o)
    (hs : Region.noSelect ops = true) (hf : Region.free md ops listed i = true) (hr : (Region.ready md ops listed).contains i = true)
    (hQ : ∀ c (a : Act) w, Q (.panic c) (a.put o.dst v) w → Q (.panic c) a w) (hd : dstOk o.dst n = true) (ht : Tm n T a) (hS : S w)
    (hw : Region.wanted o (yielded ops a.tmps) = true) (hv : ∀ w, S w → (execOp a.eval o).run P w = .ok (.value v) w)
    (k : ∀ a', Tm n (putT o.dst v T) a' → wpAnyH P md ops Q S fuel (listed.setIfInBounds i true) a' w) : wpAnyH P md ops Q S (fuel + 1) listed a w :=
  wpAnyH_take hi hs hf hr hQ (.inl ⟨hw, hv⟩) hS (k _ (ht.put _ _ hd))

theorem wph_pass {i : Nat} {fuel : Nat} {listed : Array Bool} {md : Region.Mode} (hi : ops[i]? = some o)
    (hs : Region.noSelect ops = true) (hf : Region.free md ops listed i = true) (hr : (Region.ready md ops listed).contains i = true)
    (hQ : ∀ c (a : Act) w, Q (.panic c) (a.put o.dst undef) w → Q (.panic c) a w) (hd : dstOk o.dst n = true) (ht : Tm n T a) (hS : S w)
    (hw : Region.wanted o (yielded ops a.tmps) = false)
    (k : ∀ a', Tm n (putT o.dst undef T) a' → wpAnyH P md ops Q S fuel (listed.setIfInBounds i true) a' w) : wpAnyH P md ops Q S (fuel + 1) listed a w :=
  wpAnyH_take hi hs hf hr hQ (.inr ⟨hw, rfl⟩) hS (k _ (ht.put _ _ hd))

theorem wph_one {i : Nat} {fuel : Nat} {listed : Array Bool} {md : Region.Mode} (hr : Region.ready md ops listed = [i])
    (h : wpOp P ops Q i (fun a' w' => S w' ∧ wpAnyH P md ops Q S fuel (listed.setIfInBounds i true) a' w') a w) : wpAnyH P md ops Q S (fuel + 1) listed a w :=
  wpAnyH_all hr (by simp) fun j hj => by
    simp only [List.mem_singleton] at hj
    subst hj
    exact h

theorem wph_two {i j : Nat} {fuel : Nat} {listed : Array Bool} {md : Region.Mode} (hr : Region.ready md ops listed = [i, j])
    (h : wpOp P ops Q i (fun a' w' => S w' ∧ wpAnyH P md ops Q S fuel (listed.setIfInBounds i true) a' w') a w)
    (h' : wpOp P ops Q j (fun a' w' => S w' ∧ wpAnyH P md ops Q S fuel (listed.setIfInBounds j true) a' w') a w) : wpAnyH P md ops Q S (fuel + 1) listed a w :=
  wpAnyH_all hr (by simp) fun k hk => by
    simp only [List.mem_cons, List.not_mem_nil, or_false] at hk
    rcases hk with rfl | rfl
    · exact h
    · exact h'

theorem wph_three {i j l : Nat} {fuel : Nat} {listed : Array Bool} {md : Region.Mode} (hr : Region.ready md ops listed = [i, j, l])
    (h : wpOp P ops Q i (fun a' w' => S w' ∧ wpAnyH P md ops Q S fuel (listed.setIfInBounds i true) a' w') a w)
    (h' : wpOp P ops Q j (fun a' w' => S w' ∧ wpAnyH P md ops Q S fuel (listed.setIfInBounds j true) a' w') a w)
    (h'' : wpOp P ops Q l (fun a' w' => S w' ∧ wpAnyH P md ops Q S fuel (listed.setIfInBounds l true) a' w') a w) : wpAnyH P md ops Q S (fuel + 1) listed a w :=
  wpAnyH_all hr (by simp) fun k hk => by
    simp only [List.mem_cons, List.not_mem_nil, or_false] at hk
    rcases hk with rfl | rfl | rfl
    · exact h
    · exact h'
    · exact h''

theorem wph_done {fuel : Nat} {listed : Array Bool} {md : Region.Mode} (hr : Region.ready md ops listed = []) (h : Q .normal a w) : wpAnyH P md ops Q S fuel listed a w := wpAnyH_done hr h fuel

theorem wanted_plain (hg : o.guard = none) : Region.wanted o (yielded ops a.tmps) = true := by simp [Region.wanted, hg]

theorem wanted_yes {j : Nat} {b c : Bool} (hg : o.guard = some (j, b)) (ht : Tm n T a) (hv : guardVal ops T j = some c) (hc : c = b) : Region.wanted o (yielded ops a.tmps) = true := by
  subst hc
  simp [Region.wanted, hg, yielded_of ht hv]

theorem wanted_no {j : Nat} {b c : Bool} (hg : o.guard = some (j, b)) (ht : Tm n T a) (hv : guardVal ops T j = some c) (hc : c ≠ b) : Region.wanted o (yielded ops a.tmps) = false := by
  simp only [Region.wanted, hg, yielded_of ht hv]
  simpa using hc

theorem wanted_none {j : Nat} {b : Bool} (hg : o.guard = some (j, b)) (ht : Tm n T a) (hv : guardNone ops T j = true) : Region.wanted o (yielded ops a.tmps) = false := by
  simp [Region.wanted, hg, yielded_none ht hv]

/-! ### struct values -/

def placesOf (P : Program) : List Field → Option (List (Nat × Nat))
  | [] => some []
  | f :: r => match P.info? f.type, placesOf P r with
    | some i, some l => some ((f.offset, i.size) :: l)
    | _, _ => none

def buildInfo (P : Program) (t : Nat) : Option (List Value × List (Nat × Nat)) :=
  match P.underlying t with
  | some (.struct fs) => match zeroOf P t, placesOf P fs.toList with
    | some z, some l => some (z, l)
    | _, _ => none
  | _ => none

theorem run_places : ∀ (fs : List Field) (l : List (Nat × Nat)), placesOf P fs = some l → (fs.mapM fun f => do pure (f.offset, ← sizeOf f.type) : Sem (List (Nat × Nat))).run P w = .ok l w := by
  intro fs
  induction fs with
  | nil => intro l h; cases h; simp
  | cons f r ih =>
    intro l h
    unfold placesOf at h
    split at h
    · rename_i i l' hi hl
      cases h
      have h1 : (do pure (f.offset, ← sizeOf f.type) : Sem (Nat × Nat)).run P w = .ok (f.offset, i.size) w := by simp [sizeOf, typeInfo, hi]
      rw [List.mapM_cons, Sem.run_bind, h1, Result.andThen_ok, Sem.run_bind, ih l' hl]
      simp
    · cases h

theorem ev_build {t : TypeId} {parts : Array (Nat × Operand)} {ps : List (Nat × Value)} {zs vs : List Value} {pl : List (Nat × Nat)} (ht : Tm n T a) (ho : o.op = .build t parts) (hb : buildInfo P t = some (zs, pl)) (hp : opvp T parts.toList = some ps)
    (hf : Instr.fill (fun (i : Nat) => pl[i]?) zs.toArray ps = some vs.toArray) : (execOp a.eval o).run P w = .ok (.value (.agg vs.toArray)) w := by
  unfold buildInfo at hb
  split at hb
  · rename_i fs hu
    split at hb
    · rename_i z l hz hl
      cases hb
      obtain ⟨zv, hr, hc⟩ := run_zeroValue (w := w) hz
      have hpl := run_places (w := w) fs.toList pl hl
      have hm : (fs.mapM fun f => do pure (f.offset, ← sizeOf f.type) : Sem (Array (Nat × Nat))).run P w = .ok pl.toArray w := by
        rw [← Array.toArray_toList (xs := fs), List.mapM_toArray]
        simp only [Sem.run_map, hpl, Result.andThen_ok]
      have hzc : zv.cells = zs.toArray := by rw [← hc]
      unfold execOp
      simp only [ho, ht.evalpa hp, Instr.build, Sem.run_bind, hr, Result.andThen_ok, run_underlying hu, hm]
      have hf' : Instr.fill (fun (i : Nat) => pl.toArray[i]?) zv.cells ps = some vs.toArray := by
        rw [hzc]
        have : (fun (i : Nat) => pl.toArray[i]?) = (fun (i : Nat) => pl[i]?) := by funext i; simp
        rw [this]; exact hf
      simp only [hf', Sem.run_pure, Result.andThen_ok]
    · cases hb
  · cases hb

theorem fill_col (p k : Int) : Instr.fill (fun (i : Nat) => ([(0, 1), (1, 1), (2, 136)] : List (Nat × Nat))[i]?) Col.zero.cells.toArray [(0, .int .i64 p), (1, .int .i64 k)] = some (Col.mk p k (fun _ => 0)).cells.toArray := by
  simp [Instr.fill, Col.cells, Value.cells, Col.zero, List.zipIdx, length_bytesC]

theorem Tm.res {w : World} {rs : List ResultVar} {vs : List Value} (_ : Tm n T a) (h : ResIs P T w rs vs) : ResIs P T w rs vs := h

theorem enterM {f : FuncId} {fn : Func} {c : Code} {args : List Value} {R : Ending → World → Prop} (hp : Pre X w0 own φs) (hf : P.funcs[f]? = some fn) (hb : fn.body = some c) (hn : fn.ntmps = n) (hl : args.length ≤ n)
    (h : ∀ a w, Tm n (idx 0 args) a → Ms X (fps own) w0 own φs w → c.wp P (bodyPost P fn R) a w) : Calls P f args.toArray w0 R :=
  enter hf hb hn hl fun a ht => h a w0 ht hp.ms

/-! ### a callee that hands no fact back may read what the caller owns -/

theorem allRO_nil {M : List Nat} {w : World} : ∀ ψ ∈ ([] : List (World → Prop)), RO M w ψ := by simp
theorem allRO_cons {M : List Nat} {w : World} {φ : World → Prop} {l : List (World → Prop)} (h : RO M w φ) (k : ∀ ψ ∈ l, RO M w ψ) : ∀ ψ ∈ φ :: l, RO M w ψ := by
  intro ψ hψ
  rcases List.mem_cons.1 hψ with rfl | hψ
  · exact h
  · exact k ψ hψ

theorem Ms.lend {passed rest : List HL} {φp : List (World → Prop)} (h : Ms X M0 w0 (passed ++ rest) φs w) (hφ : ∀ φ ∈ φp, RO (fps passed) w φ) : Pre [] w passed φp := by
  have hnd := h.nodup
  rw [fps_append] at hnd
  exact ⟨fun x hx => h.holds x (List.mem_append.2 (.inl hx)), (List.nodup_append.1 hnd).1, by simp, by simpa using hφ⟩

theorem Ms.lendFact {passed rest : List HL} {φ : World → Prop} (h : Ms X M0 w0 (passed ++ rest) φs w) (k : Nat) (hk : φs[k]? = some φ) : RO (fps passed) w φ :=
  (h.ros φ (List.mem_of_getElem? hk)).sub fun b hb => by rw [fps_append]; simp [hb]

theorem Ms.lendVec {passed rest : List HL} {A : Option Addr} {c E sz m : Nat} {xs : List Value} (h : Ms X M0 w0 (passed ++ rest) φs w) (j : Nat) (hj : rest[j]? = some (.vec A c E sz m xs)) : RO (fps passed) w (RowAt A c m sz xs) := by
  have hmem : HL.vec A c E sz m xs ∈ rest := List.mem_of_getElem? hj
  have hrow : RowAt A c m sz xs w := by
    have hh := h.holds _ (List.mem_append.2 (.inr hmem))
    exact vecHolds.row hh
  refine hrow.ro fun a ha hm hin => ?_
  subst ha
  have hc : 0 < c := by have := hrow.2.1; omega
  obtain ⟨c', rfl⟩ : ∃ q, c = q + 1 := ⟨c - 1, by omega⟩
  have hb : a.block ∈ (HL.vec (some a) (c' + 1) E sz m xs).fp := by simp [HL.fp, vecBlk]
  have hnd := h.nodup
  rw [fps_append] at hnd
  exact (List.nodup_append.1 hnd).2.2 _ hin _ (mem_fps.2 ⟨_, hmem, hb⟩) rfl

theorem Ms.lendRows {passed rest : List HL} {A : Option Addr} {c E m : Nat} {vs : List Value} {ll : List (List Int)} (h : Ms X M0 w0 (passed ++ rest) φs w) (j k : Nat) (hj : rest[j]? = some (.vec A c E 1 m vs)) (hk : φs[k]? = some (AllInts vs ll)) : RO (fps passed) w (RowsAt A c m vs ll) :=
  (h.lendVec j hj).and (h.lendFact k hk)

theorem Ms.backL {passed rest own' : List HL} {w' : World} {Y : List Nat} (h : Ms X M0 w0 (passed ++ rest) φs w) (hp : Post Y (fps passed) w own' [] w') : Ms X M0 w0 (own' ++ rest) φs w' :=
  h.back (φs' := []) ⟨hp.mod, hp.holds, hp.nodup, hp.src, by simp⟩

/-! ### slices of slices -/

theorem ev_slice_none {t e : TypeId} {x : Operand} {A : Option Addr} {m c : Nat} {k k' : IntKind} (ht : Tm n T a) (ho : o.op = .slice t x none (some (.const (.int k 0))) (some (.const (.int k' 0)))) (hx : opv T x = some (.slice A m c)) (hu : P.underlying t = some (.slice e)) (hs : (P.info? e).map (·.size) = some 1) :
    (execOp a.eval o).run P w = .ok (.value (.slice A 0 0)) w := by
  cases hi : P.info? e with
  | none => rw [hi] at hs; simp at hs
  | some i =>
    have hsz : i.size = 1 := by simpa [hi] using hs
    have e1 : a.eval (.const (.int k 0)) = .int k 0 := rfl
    have e2 : a.eval (.const (.int k' 0)) = .int k' 0 := rfl
    unfold execOp
    simp [ho, ht.eval hx, e1, e2, Instr.sliceAt, Instr.slice, run_underlying hu, Instr.sliceBounds, Instr.sliceBound, asIntOf, sizeOf, typeInfo, hi]

/-- where a slice of a slice begins -/
def sliceA (A : Option Addr) (lo c : Nat) : Option Addr := if c = lo then A else A.map (·.add (lo * 1))

theorem ev_slice {t e : TypeId} {x : Operand} {lo hi : Option Operand} {A : Option Addr} {m c : Nat} {k k' : IntKind} {i j : Int} (ht : Tm n T a) (ho : o.op = .slice t x lo hi none) (hx : opv T x = some (.slice A m c)) (hu : P.underlying t = some (.slice e)) (hs : (P.info? e).map (·.size) = some 1)
    (hlo : (lo = none ∧ i = 0) ∨ ∃ l, lo = some l ∧ opv T l = some (.int k i)) (hhi : (hi = none ∧ j = m) ∨ ∃ h, hi = some h ∧ opv T h = some (.int k' j)) (h0 : 0 ≤ i) (h1 : i ≤ j) (h2 : j ≤ m) (hmc : m ≤ c) :
    (execOp a.eval o).run P w = .ok (.value (.slice (sliceA A i.toNat c) (j.toNat - i.toNat) (c - i.toNat))) w := by
  cases hin : P.info? e with
  | none => rw [hin] at hs; simp at hs
  | some inf =>
    have hsz : inf.size = 1 := by simpa [hin] using hs
    have hjc : j ≤ (c : Int) := by omega
    have h0j : 0 ≤ j := by omega
    have hij : i ≤ ((j.toNat : Nat) : Int) := by omega
    have him : i ≤ (m : Int) := by omega
    unfold execOp
    rcases hlo with ⟨rfl, rfl⟩ | ⟨l, rfl, hl⟩ <;> rcases hhi with ⟨rfl, rfl⟩ | ⟨h, rfl, hh⟩
    · simp [ho, ht.eval hx, Instr.sliceAt, Instr.slice, run_underlying hu, Instr.sliceBounds, sizeOf, typeInfo, hin, hsz, sliceA]
    · simp [ho, ht.eval hx, ht.eval hh, Instr.sliceAt, Instr.slice, run_underlying hu, Instr.sliceBounds, Instr.sliceBound, asIntOf, h0j, hjc, sizeOf, typeInfo, hin, hsz, sliceA]
    · simp [ho, ht.eval hx, ht.eval hl, Instr.sliceAt, Instr.slice, run_underlying hu, Instr.sliceBounds, Instr.sliceBound, asIntOf, h0, him, sizeOf, typeInfo, hin, hsz, sliceA]
    · simp [ho, ht.eval hx, ht.eval hl, ht.eval hh, Instr.sliceAt, Instr.slice, run_underlying hu, Instr.sliceBounds, Instr.sliceBound, asIntOf, h0, h0j, hjc, hij, sizeOf, typeInfo, hin, hsz, sliceA]
      intro hlt
      omega

theorem RowAt.slice {A : Option Addr} {c m : Nat} {xs : List Value} {i j : Nat} (h : RowAt A c m 1 xs w) (hij : i ≤ j) (hj : j ≤ m) : RowAt (sliceA A i c) (c - i) (j - i) 1 ((xs.take j).drop i) w := by
  obtain ⟨h1, h2, h3⟩ := h
  refine ⟨by simp; omega, by omega, ?_⟩
  by_cases hz : j - i = 0
  · exact .inl hz
  · rcases h3 with h3 | ⟨b, o, rfl, hc⟩
    · omega
    · refine .inr ⟨b, o + i, ?_, fun q v hv => ?_⟩
      · have : ¬ c = i := by omega
        simp [sliceA, this, addr_add]
      · rw [List.getElem?_drop, List.getElem?_take] at hv
        split at hv
        · have := hc (i + q) v hv
          rw [Nat.add_assoc]; exact this
        · cases hv

theorem IntsAt.none {c m : Nat} {l : List Int} (h : IntsAt none c m l w) : l = [] := by
  have h1 := IntsAt.len h
  rcases h.2.2 with h2 | ⟨b, o, h2, _⟩
  · subst h2
    exact List.eq_nil_of_length_eq_zero h1.symm
  · cases h2

theorem clone_nil {r : List Int} (h : (concat [] []).bind (fun x => some x) = some r) : r = [] := by
  simp [concat] at h
  exact h

theorem ev_slice_ints {t e : TypeId} {x : Operand} {lo hi : Option Operand} {A : Option Addr} {m c : Nat} {k k' : IntKind} {i j : Int} {l : List Int} (ht : Tm n T a) (ho : o.op = .slice t x lo hi none) (hx : opv T x = some (.slice A m c)) (hu : P.underlying t = some (.slice e)) (hs : (P.info? e).map (·.size) = some 1)
    (hr : RowAt A c m 1 (ints l) w) (hlo : (lo = none ∧ i = 0) ∨ ∃ l, lo = some l ∧ opv T l = some (.int k i)) (hhi : (hi = none ∧ j = (l.length : Int)) ∨ ∃ h, hi = some h ∧ opv T h = some (.int k' j)) (h : 0 ≤ i ∧ i ≤ j ∧ j ≤ (l.length : Int)) :
    (execOp a.eval o).run P w = .ok (.value (.slice (sliceA A i.toNat c) (j.toNat - i.toNat) (c - i.toNat))) w := by
  have hl := hr.len
  refine ev_slice ht ho hx hu hs hlo (hhi.imp (fun hh => ⟨hh.1, by rw [hh.2, hl]⟩) id) h.1 h.2.1 (by rw [hl]; exact h.2.2) hr.2.1

theorem IntsAt.slice {A : Option Addr} {m c : Nat} {i j : Int} {l : List Int} (hr : IntsAt A c m l w) (h : 0 ≤ i ∧ i ≤ j ∧ j ≤ (l.length : Int)) : IntsAt (sliceA A i.toNat c) (c - i.toNat) (j.toNat - i.toNat) ((l.take j.toNat).drop i.toNat) w := by
  have hl := RowAt.len hr
  have := RowAt.slice (i := i.toNat) (j := j.toNat) hr (by omega) (by omega)
  unfold IntsAt
  have e : ints ((l.take j.toNat).drop i.toNat) = ((ints l).take j.toNat).drop i.toNat := by simp [ints]
  rw [e]
  exact this

theorem run_equal_nil {t e : TypeId} {A : Option Addr} {m c : Nat} (hu : P.underlying t = some (.slice e)) : (Op.equal t (.slice A m c) (.slice none 0 0)).run P w = .ok A.isNone w := by
  have h : Op.equal t (.slice A m c) (.slice none 0 0) = Op.equalIn (9999 + 1) t (.slice A m c) (.slice none 0 0) := rfl
  rw [h]
  unfold Op.equalIn
  cases A <;> simp [run_underlying hu]

theorem ev_eq_nil {t u e : TypeId} {x y : Operand} {A : Option Addr} {m c : Nat} (ht : Tm n T a) (ho : o.op = .binOp .eql t x y u) (hx : opv T x = some (.slice A m c)) (hy : opv T y = some (.slice none 0 0)) (hu : P.underlying t = some (.slice e)) :
    (execOp a.eval o).run P w = .ok (.value (.bool A.isNone)) w := by
  unfold execOp
  have h : binOp .eql t (.slice A m c) (.slice none 0 0) = (do pure (.bool (← Op.equal t (.slice A m c) (.slice none 0 0)))) := rfl
  simp only [ho, ht.eval hx, ht.eval hy, h]
  simp [eqGuard, run_equal_nil hu]

theorem ev_ne_nil {t u e : TypeId} {x y : Operand} {A : Option Addr} {m c : Nat} (ht : Tm n T a) (ho : o.op = .binOp .neq t x y u) (hx : opv T x = some (.slice A m c)) (hy : opv T y = some (.slice none 0 0)) (hu : P.underlying t = some (.slice e)) :
    (execOp a.eval o).run P w = .ok (.value (.bool A.isSome)) w := by
  unfold execOp
  have h : binOp .neq t (.slice A m c) (.slice none 0 0) = (do pure (.bool (!(← Op.equal t (.slice A m c) (.slice none 0 0))))) := rfl
  simp only [ho, ht.eval hx, ht.eval hy, h]
  cases A <;> simp [eqGuard, run_equal_nil hu]

/-- the slice is nil if it holds nothing -/
def NilE (A : Option Addr) (l : List Int) : World → Prop := fun _ => l = [] → A = none
theorem NilE.ro {M : List Nat} {w : World} {A : Option Addr} {l : List Int} (h : l = [] → A = none) : RO M w (NilE A l) := ⟨[], by simp, fun _ _ => h⟩
theorem NilE.isNone {A : Option Addr} {c m : Nat} {l : List Int} (hn : NilE A l w) (hr : RowAt A c m 1 (ints l) w) : A.isNone = decide (l = []) := by
  by_cases h : l = []
  · rw [hn h, decide_eq_true h]; rfl
  · rw [decide_eq_false h]
    cases A with
    | some a => rfl
    | none =>
      exfalso; apply h
      obtain ⟨h1, _, h3⟩ := hr
      rcases h3 with h3 | ⟨b, o, h3, _⟩
      · rw [length_ints] at h1
        exact List.length_eq_zero_iff.mp (by omega)
      · cases h3
theorem NilE.isSome {A : Option Addr} {c m : Nat} {l : List Int} (hn : NilE A l w) (hr : RowAt A c m 1 (ints l) w) : A.isSome = !decide (l = []) := by
  rw [← hn.isNone hr]; cases A <;> rfl

theorem ev_eq_nilE {t u e : TypeId} {x y : Operand} {A : Option Addr} {m c : Nat} {l : List Int} (ht : Tm n T a) (ho : o.op = .binOp .eql t x y u) (hx : opv T x = some (.slice A m c)) (hy : opv T y = some (.slice none 0 0)) (hu : P.underlying t = some (.slice e)) (hr : RowAt A c m 1 (ints l) w) (hn : NilE A l w) :
    (execOp a.eval o).run P w = .ok (.value (.bool (decide (l = [])))) w := by rw [← hn.isNone hr]; exact ev_eq_nil ht ho hx hy hu
theorem ev_ne_nilE {t u e : TypeId} {x y : Operand} {A : Option Addr} {m c : Nat} {l : List Int} (ht : Tm n T a) (ho : o.op = .binOp .neq t x y u) (hx : opv T x = some (.slice A m c)) (hy : opv T y = some (.slice none 0 0)) (hu : P.underlying t = some (.slice e)) (hr : RowAt A c m 1 (ints l) w) (hn : NilE A l w) :
    (execOp a.eval o).run P w = .ok (.value (.bool (!decide (l = [])))) w := by rw [← hn.isSome hr]; exact ev_ne_nil ht ho hx hy hu

theorem ev_eq_nil_none {t u e : TypeId} {x y : Operand} {m c : Nat} (ht : Tm n T a) (ho : o.op = .binOp .eql t x y u) (hx : opv T x = some (.slice none m c)) (hy : opv T y = some (.slice none 0 0)) (hu : P.underlying t = some (.slice e)) :
    (execOp a.eval o).run P w = .ok (.value (.bool true)) w := ev_eq_nil ht ho hx hy hu

theorem ev_eq_nil_some {t u e : TypeId} {x y : Operand} {A : Addr} {m c : Nat} (ht : Tm n T a) (ho : o.op = .binOp .eql t x y u) (hx : opv T x = some (.slice (some A) m c)) (hy : opv T y = some (.slice none 0 0)) (hu : P.underlying t = some (.slice e)) :
    (execOp a.eval o).run P w = .ok (.value (.bool false)) w := ev_eq_nil ht ho hx hy hu

end
end Go.Proofs.Ytbgniopmmankdaa.K
