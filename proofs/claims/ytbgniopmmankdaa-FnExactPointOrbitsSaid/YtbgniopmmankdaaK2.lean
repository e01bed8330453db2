/- One lemma an operation: what it yields, given what is known of the frame ('Tm') and of memory ('Ms'). Nothing of the program stands here. -/
import Derived.Test.YtbgniopmmankdaaK1
import Derived.Deep.Quiet
namespace Go.Proofs.Ytbgniopmmankdaa.K
open Go Go.RowKit
set_option linter.unusedVariables false
set_option linter.unusedSimpArgs false

theorem addr_add (b o i : Nat) : (⟨b, o, none⟩ : Addr).add i = ⟨b, o + i, none⟩ := by
  unfold Addr.add
  split
  · rename_i h; subst h; rfl
  · rfl

/-! ### rows that are read -/

/-- a slice of n elements whose cells are xs -/
def RowAt (A : Option Addr) (c n sz : Nat) (xs : List Value) (w : World) : Prop :=
  xs.length = n * sz ∧ n ≤ c ∧ (n = 0 ∨ ∃ b o, A = some ⟨b, o, none⟩ ∧ ∀ i v, xs[i]? = some v → w.cell? ⟨b, o + i, none⟩ = some v)

def ints (l : List Int) : List Value := l.map (Value.int .i64)
def IntsAt (A : Option Addr) (c n : Nat) (l : List Int) : World → Prop := RowAt A c n 1 (ints l)

theorem length_ints (l : List Int) : (ints l).length = l.length := by simp [ints]

theorem RowAt.ro {M : List Nat} {w : World} {A : Option Addr} {c n sz : Nat} {xs : List Value} (h : RowAt A c n sz xs w) (hA : ∀ a, A = some a → n ≠ 0 → a.block ∉ M) : RO M w (RowAt A c n sz xs) := by
  obtain ⟨h1, h2, h3⟩ := h
  by_cases hn : n = 0
  · exact ⟨[], by simp, fun w' _ => ⟨h1, h2, .inl hn⟩⟩
  · rcases h3 with h3 | ⟨b, o, rfl, hc⟩
    · exact absurd h3 hn
    · by_cases hx : xs = []
      · exact ⟨[], by simp, fun w' _ => ⟨h1, h2, .inr ⟨b, o, rfl, by simp [hx]⟩⟩⟩
      · refine ⟨[b], ?_, fun w' hw => ⟨h1, h2, .inr ⟨b, o, rfl, fun i v hv => ?_⟩⟩⟩
        · intro b' hb'
          simp only [List.mem_singleton] at hb'
          subst hb'
          refine ⟨?_, hA _ rfl hn⟩
          obtain ⟨v, l, rfl⟩ : ∃ v l, xs = v :: l := by cases xs with
            | nil => exact absurd rfl hx
            | cons v l => exact ⟨v, l, rfl⟩
          exact block_lt_of_cell (hc 0 v rfl)
        · rw [World.cell?_of_block (w := w) (a := ⟨b, o + i, none⟩) (hw b (by simp))]
          exact hc i v hv

theorem vecHolds.row {w : World} {A : Option Addr} {c E sz n : Nat} {xs : List Value} (h : vecHolds w A c E sz n xs) : RowAt A c n sz xs w := by
  obtain ⟨h1, h2⟩ := h
  rcases h2 with ⟨hc, hn⟩ | ⟨hc, hx, h2⟩
  · exact ⟨h1, by omega, .inl hn⟩
  · rcases h2 with ⟨h3, h4⟩ | ⟨g, cap, cur, hv, hg, hh, hnc, hm, hs, ht⟩
    · injection h3 with e1 e2 e3
      omega
    · injection hv with e1 e2 e3
      subst e1; subst e3
      refine ⟨h1, hnc, .inr ⟨g, 0, rfl, fun i v hv => ?_⟩⟩
      rw [cell_of_row w g (0 + i) cur E (0, 0) hh]
      subst ht
      rw [List.getElem?_take] at hv
      split at hv
      · simpa using hv
      · cases hv

section
variable {P : Program} {X M0 : List Nat} {w0 w : World} {own : List HL} {φs : List (World → Prop)} {n : Nat} {T : List (Nat × Value)} {a : Act} {o : Oper} {ops : Array Oper} {rest : List Oper} {Q : Exit → Act → World → Prop}

/-! ### steps of a list of operations -/

theorem wpl {v : Value} (hg : o.guard = none) (hd : dstOk o.dst n = true) (ht : Tm n T a) (hev : (execOp a.eval o).run P w = .ok (.value v) w)
    (k : ∀ a', Tm n (putT o.dst v T) a' → wpList P ops Q rest a' w) : wpList P ops Q (o :: rest) a w := by
  refine wpList_plain hg fun K hK => ?_
  unfold Oper.wp
  rw [hev]
  exact hK _ _ (k _ (ht.put _ _ hd))

/-- an operation that turns memory -/
theorem wpl_new {v : Value} {w' : World} (hg : o.guard = none) (hd : dstOk o.dst n = true) (ht : Tm n T a) (hev : (execOp a.eval o).run P w = .ok (.value v) w')
    (k : ∀ a', Tm n (putT o.dst v T) a' → wpList P ops Q rest a' w') : wpList P ops Q (o :: rest) a w := by
  refine wpList_plain hg fun K hK => ?_
  unfold Oper.wp
  rw [hev]
  exact hK _ _ (k _ (ht.put _ _ hd))

theorem wpl_skip {w' : World} (hg : o.guard = none) (hd : o.dst = none) (ht : Tm n T a) (hev : (execOp a.eval o).run P w = .ok .skip w')
    (k : ∀ a', Tm n T a' → wpList P ops Q rest a' w') : wpList P ops Q (o :: rest) a w := by
  refine wpList_plain hg fun K hK => ?_
  unfold Oper.wp
  rw [hev]
  refine hK _ _ (k _ ?_)
  rw [hd]; exact ht

/-- what a guard asks -/
def guardVal (ops : Array Oper) (T : List (Nat × Value)) (j : Nat) : Option Bool :=
  match (ops[j]?).bind (·.dst) with
  | some d => match look T d with
    | some (.bool b) => some b
    | _ => none
  | none => none

theorem yielded_of {j : Nat} {b : Bool} (ht : Tm n T a) (h : guardVal ops T j = some b) : yielded ops a.tmps j = some b := by
  unfold guardVal at h
  split at h
  · rename_i d hd
    split at h
    · rename_i b' hb
      cases h
      have := ht.get d _ hb
      unfold yielded
      rw [hd]
      simp only [Option.bind_some]
      rw [Array.getD_eq_getD_getElem?] at this
      cases hq : a.tmps[d]? with
      | none => rw [hq] at this; cases this
      | some q => rw [hq] at this; simp at this; subst this; rfl
    · cases h
  · cases h

theorem wpl_yes {j : Nat} {b c : Bool} (hg : o.guard = some (j, b)) (ht : Tm n T a) (hv : guardVal ops T j = some c) (hc : c = b)
    (k : wpList P ops Q ({ o with guard := none } :: rest) a w) : wpList P ops Q (o :: rest) a w := by
  subst hc
  unfold wpList at k ⊢
  have hw : Region.wanted o (yielded ops a.tmps) = true := by simp [Region.wanted, hg, yielded_of ht hv]
  rw [if_pos hw]
  rw [if_pos (by simp [Region.wanted])] at k
  exact k

theorem wpl_no {j : Nat} {b c : Bool} (hg : o.guard = some (j, b)) (hd : dstOk o.dst n = true) (ht : Tm n T a) (hv : guardVal ops T j = some c) (hc : c ≠ b)
    (k : ∀ a', Tm n (putT o.dst undef T) a' → wpList P ops Q rest a' w) : wpList P ops Q (o :: rest) a w := by
  unfold wpList
  have hw : Region.wanted o (yielded ops a.tmps) = false := by
    simp only [Region.wanted, hg, yielded_of ht hv]
    simpa using hc
  rw [if_neg (by simp [hw])]
  exact k _ (ht.put _ _ hd)

/-- the operation that is asked was itself passed over -/
def guardNone (ops : Array Oper) (T : List (Nat × Value)) (j : Nat) : Bool :=
  match (ops[j]?).bind (·.dst) with
  | some d => match look T d with
    | some (.bool _) => false
    | some _ => true
    | none => false
  | none => false

theorem yielded_none {j : Nat} (ht : Tm n T a) (h : guardNone ops T j = true) : yielded ops a.tmps j = none := by
  unfold guardNone at h
  split at h
  · rename_i d hd
    split at h
    · cases h
    · rename_i v hne hb
      have := ht.get d _ hb
      unfold yielded
      rw [hd]
      simp only [Option.bind_some]
      rw [Array.getD_eq_getD_getElem?] at this
      cases hq : a.tmps[d]? with
      | none => rfl
      | some q =>
        rw [hq] at this
        simp at this
        subst this
        cases q <;> first | rfl | exact absurd rfl (hne _)
    · cases h
  · cases h

theorem wpl_none {j : Nat} {b : Bool} (hg : o.guard = some (j, b)) (hd : dstOk o.dst n = true) (ht : Tm n T a) (hv : guardNone ops T j = true)
    (k : ∀ a', Tm n (putT o.dst undef T) a' → wpList P ops Q rest a' w) : wpList P ops Q (o :: rest) a w := by
  unfold wpList
  have hw : Region.wanted o (yielded ops a.tmps) = false := by simp [Region.wanted, hg, yielded_none ht hv]
  rw [if_neg (by simp [hw])]
  exact k _ (ht.put _ _ hd)

theorem wpq_none {C : World → Prop} {Q : Act → Prop} {j : Nat} {b : Bool} (hg : o.guard = some (j, b)) (hd : dstOk o.dst n = true) (ht : Tm n T a) (hv : guardNone ops T j = true)
    (k : ∀ a', Tm n (putT o.dst undef T) a' → wpQuiet P ops C Q rest a') : wpQuiet P ops C Q (o :: rest) a := by
  unfold wpQuiet
  have hw : Region.wanted o (yielded ops a.tmps) = false := by simp [Region.wanted, hg, yielded_none ht hv]
  rw [if_neg (by simp [hw])]
  exact k _ (ht.put _ _ hd)

/-! ### the same in a region that draws its order -/

theorem wpq {C : World → Prop} {Q : Act → Prop} {v : Value} (hg : o.guard = none) (hd : dstOk o.dst n = true) (ht : Tm n T a) (hev : ∀ w, C w → (execOp a.eval o).run P w = .ok (.value v) w)
    (k : ∀ a', Tm n (putT o.dst v T) a' → wpQuiet P ops C Q rest a') : wpQuiet P ops C Q (o :: rest) a := by
  unfold wpQuiet
  rw [if_pos (by simp [Region.wanted, hg])]
  refine ⟨v, fun w hw => ?_, k _ (ht.put _ _ hd)⟩
  unfold Oper.quietAt
  rw [hev w hw]
  exact ⟨rfl, rfl⟩

theorem wpq_call {C : World → Prop} {Q : Act → Prop} {v : Value} {f : FuncId} {args : Array Value} (hg : o.guard = none) (hd : dstOk o.dst n = true) (ht : Tm n T a) (hev : ∀ w, C w → (execOp a.eval o).run P w = .ok (.enter f args) w)
    (hcall : ∀ w, C w → Calls P f args w fun e w' => e = .returned v ∧ C w')
    (k : ∀ a', Tm n (putT o.dst v T) a' → wpQuiet P ops C Q rest a') : wpQuiet P ops C Q (o :: rest) a := by
  unfold wpQuiet
  rw [if_pos (by simp [Region.wanted, hg])]
  refine ⟨v, fun w hw => ?_, k _ (ht.put _ _ hd)⟩
  unfold Oper.quietAt
  rw [hev w hw]
  exact ⟨rfl, hcall w hw⟩

theorem wpq_yes {C : World → Prop} {Q : Act → Prop} {j : Nat} {b c : Bool} (hg : o.guard = some (j, b)) (ht : Tm n T a) (hv : guardVal ops T j = some c) (hc : c = b)
    (k : wpQuiet P ops C Q ({ o with guard := none } :: rest) a) : wpQuiet P ops C Q (o :: rest) a := by
  subst hc
  unfold wpQuiet at k ⊢
  have hw : Region.wanted o (yielded ops a.tmps) = true := by simp [Region.wanted, hg, yielded_of ht hv]
  rw [if_pos hw]
  rw [if_pos (by simp [Region.wanted])] at k
  exact k

theorem wpq_no {C : World → Prop} {Q : Act → Prop} {j : Nat} {b c : Bool} (hg : o.guard = some (j, b)) (hd : dstOk o.dst n = true) (ht : Tm n T a) (hv : guardVal ops T j = some c) (hc : c ≠ b)
    (k : ∀ a', Tm n (putT o.dst undef T) a' → wpQuiet P ops C Q rest a') : wpQuiet P ops C Q (o :: rest) a := by
  unfold wpQuiet
  have hw : Region.wanted o (yielded ops a.tmps) = false := by
    simp only [Region.wanted, hg, yielded_of ht hv]
    simpa using hc
  rw [if_neg (by simp [hw])]
  exact k _ (ht.put _ _ hd)

/-! ### operations that only compute -/

theorem ev_move {x : Operand} {v : Value} (ht : Tm n T a) (ho : o.op = .move x) (hx : opv T x = some v) : (execOp a.eval o).run P w = .ok (.value v) w := by
  unfold execOp; simp only [ho, ht.eval hx, Sem.run_pure]

theorem ev_assign {x : Operand} {v : Value} (ht : Tm n T a) (ho : o.op = .assign x) (hx : opv T x = some v) : (execOp a.eval o).run P w = .ok (.value v) w := by
  unfold execOp; simp only [ho, ht.eval hx, Sem.run_pure]

theorem ev_pick {c x y : Operand} {b : Bool} {v : Value} (ht : Tm n T a) (ho : o.op = .pick c x y) (hc : opv T c = some (.bool b)) (hx : opv T (bif b then x else y) = some v) : (execOp a.eval o).run P w = .ok (.value v) w := by
  unfold execOp
  simp only [ho, ht.eval hc, asBool, Sem.run_bind, Sem.run_pure, Result.andThen_ok]
  cases b
  · rw [← ht.eval hx]; rfl
  · rw [← ht.eval hx]; rfl

theorem ev_pick_yes {c x y : Operand} {b : Bool} {v : Value} (ht : Tm n T a) (ho : o.op = .pick c x y) (hc : opv T c = some (.bool b)) (hb : b = true) (hx : opv T x = some v) : (execOp a.eval o).run P w = .ok (.value v) w := by
  subst hb; exact ev_pick ht ho hc hx

theorem ev_pick_no {c x y : Operand} {b : Bool} {v : Value} (ht : Tm n T a) (ho : o.op = .pick c x y) (hc : opv T c = some (.bool b)) (hb : b = false) (hx : opv T y = some v) : (execOp a.eval o).run P w = .ok (.value v) w := by
  subst hb; exact ev_pick ht ho hc hx

theorem ev_nilCheck {x : Operand} {p : Addr} (ht : Tm n T a) (ho : o.op = .nilCheck x) (hx : opv T x = some (.pointer (some p))) : (execOp a.eval o).run P w = .ok (.value (.pointer (some p))) w := by
  unfold execOp; simp only [ho, ht.eval hx, Sem.run_pure]

theorem ev_nilCheck_func {x : Operand} {f : FuncId} {fst cap : Array Value} (ht : Tm n T a) (ho : o.op = .nilCheck x) (hx : opv T x = some (.func (.func f) fst cap)) : (execOp a.eval o).run P w = .ok (.value (.func (.func f) fst cap)) w := by
  unfold execOp; simp only [ho, ht.eval hx, Sem.run_pure]

/-- + - * -/
def arith (op : BinOp) (x y : Int) : Option Int :=
  match op with
  | .add => some (x + y)
  | .sub => some (x - y)
  | .mul => some (x * y)
  | _ => none

theorem ev_arith {op : BinOp} {t u : TypeId} {x y : Operand} {k : IntKind} {i j r : Int} (ht : Tm n T a) (ho : o.op = .binOp op t x y u) (hx : opv T x = some (.int k i)) (hy : opv T y = some (.int k j))
    (hr : arith op i j = some r) : (execOp a.eval o).run P w = .ok (.value (.int k (k.wrap r))) w := by
  unfold execOp
  simp only [ho, ht.eval hx, ht.eval hy]
  unfold arith at hr
  split at hr <;> simp_all [eqGuard, binOp, Op.intArith]

theorem ev_quo {t u : TypeId} {x y : Operand} {k : IntKind} {i j : Int} (ht : Tm n T a) (ho : o.op = .binOp .quo t x y u) (hx : opv T x = some (.int k i)) (hy : opv T y = some (.int k j)) (hj : j ≠ 0) :
    (execOp a.eval o).run P w = .ok (.value (.int k (k.wrap (i.tdiv j)))) w := by
  unfold execOp
  simp [ho, ht.eval hx, ht.eval hy, eqGuard, binOp, Op.intDiv, hj]

theorem ev_rem {t u : TypeId} {x y : Operand} {k : IntKind} {i j : Int} (ht : Tm n T a) (ho : o.op = .binOp .rem t x y u) (hx : opv T x = some (.int k i)) (hy : opv T y = some (.int k j)) (hj : j ≠ 0) :
    (execOp a.eval o).run P w = .ok (.value (.int k (i.tmod j))) w := by
  unfold execOp
  simp [ho, ht.eval hx, ht.eval hy, eqGuard, binOp, Op.intDiv, hj]

/-- & | ^ &^ of 64 bits and of 8 -/
def bitop (op : BinOp) (k : IntKind) (x y : Int) : Int :=
  match op with
  | .and => k.wrap (BitVec.ofInt k.bits x &&& BitVec.ofInt k.bits y).toNat
  | .or => k.wrap (BitVec.ofInt k.bits x ||| BitVec.ofInt k.bits y).toNat
  | .xor => k.wrap (BitVec.ofInt k.bits x ^^^ BitVec.ofInt k.bits y).toNat
  | _ => k.wrap (BitVec.ofInt k.bits x &&& ~~~ BitVec.ofInt k.bits y).toNat

def isBit : BinOp → Bool
  | .and | .or | .xor | .andNot => true
  | _ => false

theorem ev_bit {op : BinOp} {t u : TypeId} {x y : Operand} {k : IntKind} {i j : Int} (ht : Tm n T a) (ho : o.op = .binOp op t x y u) (hb : isBit op = true) (hx : opv T x = some (.int k i)) (hy : opv T y = some (.int k j)) :
    (execOp a.eval o).run P w = .ok (.value (.int k (bitop op k i j))) w := by
  unfold execOp
  simp only [ho, ht.eval hx, ht.eval hy]
  unfold isBit at hb
  split at hb <;> simp_all [eqGuard, binOp, Op.intBits, bitop]

def shlI (k : IntKind) (x y : Int) : Int := k.wrap (x * 2 ^ (min y.toNat k.bits))
def shrI (k : IntKind) (x y : Int) : Int := x.fdiv (2 ^ (min y.toNat k.bits))

theorem ev_shl {t u : TypeId} {x y : Operand} {k k' : IntKind} {i j : Int} (ht : Tm n T a) (ho : o.op = .binOp .shl t x y u) (hx : opv T x = some (.int k i)) (hy : opv T y = some (.int k' j)) (hj : 0 ≤ j) :
    (execOp a.eval o).run P w = .ok (.value (.int k (shlI k i j))) w := by
  unfold execOp
  have : ¬ j < 0 := by omega
  simp [ho, ht.eval hx, ht.eval hy, eqGuard, binOp, Op.shift, this, shlI]

theorem ev_shr {t u : TypeId} {x y : Operand} {k k' : IntKind} {i j : Int} (ht : Tm n T a) (ho : o.op = .binOp .shr t x y u) (hx : opv T x = some (.int k i)) (hy : opv T y = some (.int k' j)) (hj : 0 ≤ j) :
    (execOp a.eval o).run P w = .ok (.value (.int k (shrI k i j))) w := by
  unfold execOp
  have : ¬ j < 0 := by omega
  simp [ho, ht.eval hx, ht.eval hy, eqGuard, binOp, Op.shift, this, shrI]

/-- comparisons -/
def cmp (op : BinOp) (x y : Int) : Option Bool :=
  match op with
  | .eql => some (decide (x = y))
  | .neq => some (decide (x ≠ y))
  | .lss => some (decide (x < y))
  | .leq => some (decide (x ≤ y))
  | .gtr => some (decide (x > y))
  | .geq => some (decide (x ≥ y))
  | _ => none

theorem ev_cmp {op : BinOp} {t u : TypeId} {x y : Operand} {k : IntKind} {i j : Int} {r : Bool} (ht : Tm n T a) (ho : o.op = .binOp op t x y u) (hx : opv T x = some (.int k i)) (hy : opv T y = some (.int k j))
    (hr : cmp op i j = some r) : (execOp a.eval o).run P w = .ok (.value (.bool r)) w := by
  unfold execOp
  simp only [ho, ht.eval hx, ht.eval hy]
  unfold cmp at hr
  split at hr <;> (try cases hr) <;> simp [eqGuard, binOp, Op.intCmp]
  · by_cases h : i = j <;> simp [h]
  · by_cases h : i = j <;> simp [h]

theorem run_equal_bool {t : TypeId} {i j : Bool} (hu : P.underlying t = some .bool) : (Op.equal t (.bool i) (.bool j)).run P w = .ok (i == j) w := by
  have h : Op.equal t (.bool i) (.bool j) = Op.equalIn (9999 + 1) t (.bool i) (.bool j) := rfl
  rw [h]
  unfold Op.equalIn
  simp [run_underlying hu]

theorem ev_eq_bool {t u : TypeId} {x y : Operand} {i j : Bool} (ht : Tm n T a) (ho : o.op = .binOp .eql t x y u) (hx : opv T x = some (.bool i)) (hy : opv T y = some (.bool j)) (hu : P.underlying t = some .bool) :
    (execOp a.eval o).run P w = .ok (.value (.bool (i == j))) w := by
  unfold execOp
  have h : binOp .eql t (.bool i) (.bool j) = (do pure (.bool (← Op.equal t (.bool i) (.bool j)))) := rfl
  simp [ho, ht.eval hx, ht.eval hy, eqGuard, h, run_equal_bool hu]

theorem ev_ne_bool {t u : TypeId} {x y : Operand} {i j : Bool} (ht : Tm n T a) (ho : o.op = .binOp .neq t x y u) (hx : opv T x = some (.bool i)) (hy : opv T y = some (.bool j)) (hu : P.underlying t = some .bool) :
    (execOp a.eval o).run P w = .ok (.value (.bool (i != j))) w := by
  unfold execOp
  have h : binOp .neq t (.bool i) (.bool j) = (do pure (.bool (!(← Op.equal t (.bool i) (.bool j))))) := rfl
  simp only [ho, ht.eval hx, ht.eval hy, h]
  simp [eqGuard, run_equal_bool hu]
  cases i <;> cases j <;> rfl

theorem ev_not {t : TypeId} {x : Operand} {b : Bool} (ht : Tm n T a) (ho : o.op = .unOp .not t x) (hx : opv T x = some (.bool b)) : (execOp a.eval o).run P w = .ok (.value (.bool (!b))) w := by
  unfold execOp; simp [ho, ht.eval hx, Op.unary]

theorem ev_neg {t : TypeId} {x : Operand} {k : IntKind} {i : Int} (ht : Tm n T a) (ho : o.op = .unOp .neg t x) (hx : opv T x = some (.int k i)) : (execOp a.eval o).run P w = .ok (.value (.int k (k.wrap (0 - i)))) w := by
  unfold execOp; simp [ho, ht.eval hx, Op.unary, Op.intArith]

theorem ev_convert {src dst : TypeId} {x : Operand} {k k' : IntKind} {i : Int} {d : TypeDesc} (ht : Tm n T a) (ho : o.op = .convert src dst x) (hx : opv T x = some (.int k i)) (hs : P.underlying src = some d) (hu : P.underlying dst = some (.int k')) :
    (execOp a.eval o).run P w = .ok (.value (.int k' (k'.wrap i))) w := by
  unfold execOp
  simp only [ho, ht.eval hx, convert, Sem.run_bind, run_underlying hs, run_underlying hu, Result.andThen_ok]
  cases d <;> simp [Conv.intToInt]

theorem ev_makeFunc {fn : Fn} {fst cap : Array Operand} {vs us : List Value} (ht : Tm n T a) (ho : o.op = .makeFunc fn fst cap) (h1 : opvs T fst.toList = some vs) (h2 : opvs T cap.toList = some us) :
    (execOp a.eval o).run P w = .ok (.value (.func fn vs.toArray us.toArray)) w := by
  unfold execOp
  have e1 : fst.map a.eval = vs.toArray := by apply Array.ext'; rw [Array.toList_map, ht.evals _ _ h1]
  have e2 : cap.map a.eval = us.toArray := by apply Array.ext'; rw [Array.toList_map, ht.evals _ _ h2]
  simp [ho, Instr.makeFunc, e1, e2]

theorem ev_extract {x : Operand} {vs : Array Value} {i : Nat} {v : Value} (ht : Tm n T a) (ho : o.op = .extract x i) (hx : opv T x = some (.tuple vs)) (hv : vs[i]? = some v) :
    (execOp a.eval o).run P w = .ok (.value v) w := by
  unfold execOp
  simp [ho, ht.eval hx, Instr.extract, hv]

theorem ev_len {x : Operand} {A : Option Addr} {m c : Nat} {t : TypeId} {e : TypeId} (ht : Tm n T a) (ho : o.op = .call { callee := .builtin .len, args := #[x], argTypes := #[t] }) (hx : opv T x = some (.slice A m c)) (hu : P.underlying t = some (.slice e)) :
    (execOp a.eval o).run P w = .ok (.value (.int .i64 m)) w := by
  unfold execOp
  simp [ho, ht.eval hx, resolve, invoke, builtin, Builtin.len_, run_underlying hu, goInt]

theorem ev_len_array {x : Operand} {v : Value} {t : TypeId} {m e : Nat} (ht : Tm n T a) (ho : o.op = .call { callee := .builtin .len, args := #[x], argTypes := #[t] }) (hx : opv T x = some v) (hv : (match v with | .agg _ => true | _ => false) = true) (hu : P.underlying t = some (.array m e)) :
    (execOp a.eval o).run P w = .ok (.value (.int .i64 m)) w := by
  unfold execOp
  cases v <;> simp at hv
  simp [ho, ht.eval hx, resolve, invoke, builtin, Builtin.len_, run_underlying hu, goInt]

theorem ev_max {x y : Operand} {k k' : IntKind} {i j : Int} {t u : TypeId} (ht : Tm n T a) (ho : o.op = .call { callee := .builtin .max, args := #[x, y], argTypes := #[t, u] }) (hx : opv T x = some (.int k i)) (hy : opv T y = some (.int k' j)) :
    (execOp a.eval o).run P w = .ok (.value (.int k (max i j))) w := by
  unfold execOp
  have : (if j > i then j else i) = max i j := by omega
  simp [ho, ht.eval hx, ht.eval hy, resolve, invoke, builtin, Builtin.max_, Builtin.max2, this]

theorem ev_min {x y : Operand} {k k' : IntKind} {i j : Int} {t u : TypeId} (ht : Tm n T a) (ho : o.op = .call { callee := .builtin .min, args := #[x, y], argTypes := #[t, u] }) (hx : opv T x = some (.int k i)) (hy : opv T y = some (.int k' j)) :
    (execOp a.eval o).run P w = .ok (.value (.int k (min i j))) w := by
  unfold execOp
  have : (if j < i then j else i) = min i j := by omega
  simp [ho, ht.eval hx, ht.eval hy, resolve, invoke, builtin, Builtin.min_, Builtin.min2, this]

/-! ### addresses -/

/-- where a field lies, for a struct type -/
def fieldOff (P : Program) (s f : Nat) : Option Nat :=
  match P.underlying s with
  | some (.struct fs) => match fs[f]? with
    | some fd => match P.info? fd.type with
      | some i => if i.size = 0 then none else some fd.offset
      | none => none
    | none => none
  | _ => none

theorem ev_fieldAddr {s f : Nat} {x : Operand} {b p q : Nat} (ht : Tm n T a) (ho : o.op = .fieldAddr s x f) (hx : opv T x = some (.pointer (some ⟨b, p, none⟩))) (hf : fieldOff P s f = some q) :
    (execOp a.eval o).run P w = .ok (.value (.pointer (some ⟨b, p + q, none⟩))) w := by
  unfold execOp
  unfold fieldOff at hf
  split at hf
  · rename_i fs hfs
    split at hf
    · rename_i fd hfd
      split at hf
      · rename_i i hi
        split at hf
        · cases hf
        · rename_i hz
          cases hf
          simp [ho, ht.eval hx, Instr.fieldAt, run_underlying hfs, hfd, Instr.sureAddr, fieldPlace, sizeOf, typeInfo, hi, hz, addr_add]
      · cases hf
    · cases hf
  · cases hf

/-- an array's length and its elements' size -/
def arrOf (P : Program) (t : Nat) : Option (Nat × Nat) :=
  match P.underlying t with
  | some (.array m e) => match P.info? e with
    | some i => some (m, i.size)
    | none => none
  | _ => none

def sliceOf (P : Program) (t : Nat) : Option Nat :=
  match P.underlying t with
  | some (.slice e) => match P.info? e with
    | some i => some i.size
    | none => none
  | _ => none

theorem ev_indexAddr_arr {t m sz : Nat} {x ix : Operand} {b p : Nat} {k : IntKind} {i : Int} (ht : Tm n T a) (ho : o.op = .indexAddr t x ix) (hx : opv T x = some (.pointer (some ⟨b, p, none⟩))) (hi : opv T ix = some (.int k i))
    (hf : arrOf P t = some (m, sz)) (h0 : 0 ≤ i) (h1 : i < m) :
    (execOp a.eval o).run P w = .ok (.value (.pointer (some ⟨b, p + i.toNat * sz, none⟩))) w := by
  unfold execOp
  unfold arrOf at hf
  split at hf
  · rename_i m' e hu
    split at hf
    · rename_i inf hinf
      cases hf
      simp [ho, ht.eval hx, ht.eval hi, Instr.indexAt, asIntOf, run_underlying hu, Instr.sureAddr, h0, h1, sizeOf, typeInfo, hinf, addr_add]
    · cases hf
  · cases hf

/-- where element i of a slice lies -/
def eaddr (A : Option Addr) (i sz : Nat) : Addr :=
  match A with
  | some a => a.add (i * sz)
  | none => default

theorem ev_indexAddr_sl {t sz : Nat} {x ix : Operand} {A : Option Addr} {m c : Nat} {k : IntKind} {i : Int} (ht : Tm n T a) (ho : o.op = .indexAddr t x ix) (hx : opv T x = some (.slice A m c)) (hi : opv T ix = some (.int k i))
    (hf : sliceOf P t = some sz) (h0 : 0 ≤ i) (h1 : i < (m : Int)) (hA : m = 0 ∨ ∃ b p, A = some ⟨b, p, none⟩) :
    (execOp a.eval o).run P w = .ok (.value (.pointer (some (eaddr A i.toNat sz)))) w := by
  unfold execOp
  unfold sliceOf at hf
  rcases hA with hA | ⟨b, p, rfl⟩
  · subst hA; omega
  split at hf
  · rename_i e hu
    split at hf
    · rename_i inf hinf
      cases hf
      simp [ho, ht.eval hx, ht.eval hi, Instr.indexAt, asIntOf, run_underlying hu, h0, h1, sizeOf, typeInfo, hinf, eaddr]
    · cases hf
  · cases hf

theorem RowAt.base {A : Option Addr} {c m sz : Nat} {xs : List Value} (h : RowAt A c m sz xs w) : m = 0 ∨ ∃ b p, A = some ⟨b, p, none⟩ := by
  rcases h.2.2 with h | ⟨b, p, h, _⟩
  · exact .inl h
  · exact .inr ⟨b, p, h⟩

/-! ### loads -/

def isScalar (P : Program) (t : Nat) : Bool :=
  match P.underlying t with
  | some (.struct _) | some (.array _ _) | none => false
  | _ => true

theorem run_loadVar_cell {t : Nat} {p : Addr} {v : Value} (hs : isScalar P t = true) (hc : w.cell? p = some v) : (loadVar t p).run P w = .ok v w := by
  unfold isScalar at hs
  cases hu : P.underlying t with
  | none => rw [hu] at hs; simp at hs
  | some d =>
    rw [hu] at hs
    cases d <;> simp at hs <;> simp [loadVar, isAgg, run_underlying hu, run_load, hc]

theorem ev_load {t : Nat} {x : Operand} {p : Addr} {v : Value} (ht : Tm n T a) (ho : o.op = .load t x) (hx : opv T x = some (.pointer (some p))) (hs : isScalar P t = true) (hc : w.cell? p = some v) :
    (execOp a.eval o).run P w = .ok (.value v) w := by
  unfold execOp
  simp [ho, ht.eval hx, Instr.loadAt, Instr.sureAddr, run_loadVar_cell hs hc]

theorem Ms.blk_cell (h : Ms X M0 w0 own φs w) (k : Nat) {b E p : Nat} {C : List Value} {v : Value} (hk : own[k]? = some (.blk b E C)) (hv : C[p]? = some v) : w.cell? ⟨b, p, none⟩ = some v := by
  have hh := h.holds _ (List.mem_of_getElem? hk)
  simp only [HL.holds] at hh
  rw [cell_of_row w b p C.toArray E (0, 0) hh]
  simpa using hv

theorem Ms.fact (h : Ms X M0 w0 own φs w) (k : Nat) {φ : World → Prop} (hk : φs[k]? = some φ) : φ w := (h.ros _ (List.mem_of_getElem? hk)).now

theorem RowAt.cell {A : Option Addr} {c m sz : Nat} {xs : List Value} (h : RowAt A c m sz xs w) {i : Nat} {v : Value} (hv : xs[i]? = some v) (hsz : sz = 1) : w.cell? (eaddr A i sz) = some v := by
  obtain ⟨h1, h2, h3⟩ := h
  subst hsz
  rcases h3 with h3 | ⟨b, p, rfl, hc⟩
  · have : i < xs.length := (List.getElem?_eq_some_iff.1 hv).1
    omega
  · simp only [eaddr, addr_add]
    have := hc i v hv
    simpa using this

theorem Ms.vec_row (h : Ms X M0 w0 own φs w) (k : Nat) {A : Option Addr} {c E sz m : Nat} {xs : List Value} (hk : own[k]? = some (.vec A c E sz m xs)) : RowAt A c m sz xs w := by
  have hh := h.holds _ (List.mem_of_getElem? hk)
  simp only [HL.holds] at hh
  exact hh.row

/-- a whole variable: a struct or an array -/
def aggSize (P : Program) (t : Nat) : Option Nat :=
  match P.underlying t with
  | some (.struct _) | some (.array _ _) => (P.info? t).map (·.size)
  | _ => none

theorem run_loadVar_agg {t b p : Nat} {xs : List Value} (hs : aggSize P t = some xs.length) (hc : ∀ i v, xs[i]? = some v → w.cell? ⟨b, p + i, none⟩ = some v) :
    (loadVar t ⟨b, p, none⟩).run P w = .ok (.agg xs.toArray) w := by
  have hl : (loadCells ⟨b, p, none⟩ xs.length).run P w = .ok xs.toArray w :=
    run_loadCells_list (P := P) w ⟨b, p, none⟩ xs (fun j v hv => by rw [addr_add]; exact hc j v hv)
  unfold aggSize at hs
  cases hi : P.info? t with
  | none => simp [hi] at hs; split at hs <;> simp at hs
  | some inf =>
    have hsz : inf.size = xs.length := by
      rw [hi] at hs; split at hs <;> simp at hs <;> exact hs
    have hagg : (isAgg t).run P w = .ok true w := by
      cases hu : P.underlying t with
      | none => rw [hu] at hs; simp at hs
      | some d =>
        rw [hu] at hs
        cases d <;> simp at hs <;> simp [isAgg, run_underlying hu]
    simp [loadVar, Sem.run_bind, hagg, sizeOf, typeInfo, hi, hsz, hl]

theorem ev_load_agg {t : Nat} {x : Operand} {b p : Nat} {xs : List Value} (ht : Tm n T a) (ho : o.op = .load t x) (hx : opv T x = some (.pointer (some ⟨b, p, none⟩))) (hs : aggSize P t = some xs.length)
    (hc : ∀ i v, xs[i]? = some v → w.cell? ⟨b, p + i, none⟩ = some v) : (execOp a.eval o).run P w = .ok (.value (.agg xs.toArray)) w := by
  unfold execOp
  simp [ho, ht.eval hx, Instr.loadAt, Instr.sureAddr, run_loadVar_agg hs hc]

end
end Go.Proofs.Ytbgniopmmankdaa.K
