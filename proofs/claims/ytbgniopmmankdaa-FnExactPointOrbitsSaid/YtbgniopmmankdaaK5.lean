/- Calls, control, loops, the begin and the end of a function. Nothing of the program stands here. -/
import Derived.Test.YtbgniopmmankdaaK4
namespace Go.Proofs.Ytbgniopmmankdaa.K
open Go Go.RowKit
set_option linter.unusedVariables false
set_option linter.unusedSimpArgs false

section
variable {P : Program} {X M0 : List Nat} {w0 w : World} {own : List HL} {φs : List (World → Prop)} {n : Nat} {T : List (Nat × Value)} {a : Act} {o : Oper} {ops : Array Oper} {rest : List Oper} {Q : Exit → Act → World → Prop}

/-! ### calls -/

def canCall (P : Program) (f : FuncId) : Bool :=
  match P.funcs[f]? with
  | some fn => fn.body.isSome && !(fn.name == "runtime.NumGoroutine")
  | none => false

theorem run_callFunc {f : FuncId} {args : Array Value} (h : canCall P f = true) : (callFunc f args).run P w = .ok (.enter f args) w := by
  unfold canCall at h
  split at h
  · rename_i fn hf
    simp at h
    have h1 : fn.body ≠ none := by
      intro hb
      rw [hb] at h
      simp at h
    simp [callFunc, hf, h.2, h1]
  · cases h

theorem ev_call {c : Operand} {as : Array Operand} {tys : Array TypeId} {f : FuncId} {fst cap : Array Value} {vs args : List Value} (ht : Tm n T a) (ho : o.op = .call { callee := .value c, args := as, argTypes := tys })
    (hc : opv T c = some (.func (.func f) fst cap)) (has : opvs T as.toList = some vs) (hargs : fst.toList ++ vs ++ cap.toList = args) (hcan : canCall P f = true) :
    (execOp a.eval o).run P w = .ok (.enter f args.toArray) w := by
  have e1 : as.map a.eval = vs.toArray := by apply Array.ext'; rw [Array.toList_map, ht.evals _ _ has]
  have e2 : fst ++ vs.toArray ++ cap = args.toArray := by
    subst hargs
    apply Array.ext'
    simp
  unfold execOp
  simp only [ho, resolve, ht.eval hc, Deferred.ofValue, e1, Sem.run_bind, Sem.run_pure, Result.andThen_ok, invoke, e2]
  exact run_callFunc hcan

theorem wpl_call {c : Operand} {as : Array Operand} {tys : Array TypeId} {f : FuncId} {fst cap : Array Value} {vs : List Value} (args : List Value) {R : Value → World → Prop} (hg : o.guard = none) (hd : dstOk o.dst n = true) (ht : Tm n T a)
    (ho : o.op = .call { callee := .value c, args := as, argTypes := tys }) (hc : opv T c = some (.func (.func f) fst cap)) (has : opvs T as.toList = some vs) (hargs : fst.toList ++ vs ++ cap.toList = args) (hcan : canCall P f = true)
    (hcall : Calls P f args.toArray w (Ret R)) (k : ∀ v w', R v w' → ∀ a', Tm n (putT o.dst v T) a' → wpList P ops Q rest a' w') : wpList P ops Q (o :: rest) a w := by
  refine wpList_plain hg fun K hK => ?_
  unfold Oper.wp
  rw [ev_call ht ho hc has hargs hcan]
  refine hcall.mono fun e w' h => ?_
  obtain ⟨v, rfl, hR⟩ := h
  exact hK _ _ (k v w' hR _ (ht.put _ _ hd))

/-- a call in a region that draws its order: it only makes memory -/
theorem wpq_callv {C : World → Prop} {Q : Act → Prop} {v : Value} {c : Operand} {as : Array Operand} {tys : Array TypeId} {f : FuncId} {fst cap : Array Value} {vs : List Value} (args : List Value) {R : Value → World → Prop} (hg : o.guard = none) (hd : dstOk o.dst n = true) (ht : Tm n T a)
    (ho : o.op = .call { callee := .value c, args := as, argTypes := tys }) (hc : opv T c = some (.func (.func f) fst cap)) (has : opvs T as.toList = some vs) (hargs : fst.toList ++ vs ++ cap.toList = args) (hcan : canCall P f = true)
    (hcall : ∀ w, C w → Calls P f args.toArray w (Ret R)) (hR : ∀ u w w', C w → R u w' → u = v ∧ C w')
    (k : ∀ a', Tm n (putT o.dst v T) a' → wpQuiet P ops C Q rest a') : wpQuiet P ops C Q (o :: rest) a := by
  refine wpq_call hg hd ht (fun w _ => ev_call ht ho hc has hargs hcan) (fun w hw => (hcall w hw).mono fun e w' h => ?_) k
  obtain ⟨u, rfl, hu⟩ := h
  obtain ⟨rfl, h2⟩ := hR u w w' hw hu
  exact ⟨rfl, h2⟩

/-! ### control -/

theorem then_normal {next : Act → World → Prop} (h : next a w) : Exit.then next Q .normal a w := h
theorem then_exit {next : Act → World → Prop} {id : Nat} (h : Q (.exit id) a w) : Exit.then next Q (.exit id) a w := h
theorem then_ret {next : Act → World → Prop} (h : Q .ret a w) : Exit.then next Q .ret a w := h
theorem blk_normal {id : Nat} (h : Q .normal a w) : Exit.inBlock id Q .normal a w := h
theorem blk_ret {id : Nat} (h : Q .ret a w) : Exit.inBlock id Q .ret a w := h
theorem blk_hit {id : Nat} (h : Q .normal a w) : Exit.inBlock id Q (.exit id) a w := by unfold Exit.inBlock; simp [h]
theorem blk_miss {id id' : Nat} (hne : id' ≠ id) (h : Q (.exit id') a w) : Exit.inBlock id Q (.exit id') a w := by unfold Exit.inBlock; simp [hne, h]

theorem wpc_yes {c : Operand} {x y : Code} {b : Bool} (ht : Tm n T a) (hc : opv T c = some (.bool b)) (hb : b = true) (k : x.wp P Q a w) : (Code.cond c x y).wp P Q a w := by
  subst hb; exact wp_cond_true (ht.eval hc) k

theorem wpc_no {c : Operand} {x y : Code} {b : Bool} (ht : Tm n T a) (hc : opv T c = some (.bool b)) (hb : b = false) (k : y.wp P Q a w) : (Code.cond c x y).wp P Q a w := by
  subst hb; exact wp_cond_false (ht.eval hc) k

/-- a region in the order of its text -/
theorem wpr {id : Nat} {l : List Oper} (h : wpList P l.toArray Q l a w) : (Code.region id l.toArray false).wp P Q a w := wp_region_lit h

/-- a region that draws its order -/
theorem wprq {id : Nat} {l : List Oper} (hm : P.follows .mixedOrders = true) (hB : Region.lexB .any l.toArray = true) (hM : Ms X M0 w0 own φs w)
    (h : wpQuiet P l.toArray (Ms X M0 w0 own φs) (fun a' => ∀ w', Ms X M0 w0 own φs w' → Q .normal a' w') l a) : (Code.region id l.toArray true).wp P Q a w :=
  wp_region_quiet (C := Ms X M0 w0 own φs) hm hB hM.drew (by simpa using h)

/-- a loop, by the rounds that are left -/
theorem wpLoop {c : Code} (J : Nat → Act → World → Prop) {k0 : Nat} (h0 : J k0 a w)
    (round : ∀ k a w, J k a w → c.wp P (Exit.then (fun a' w' => ∃ k', k' < k ∧ J k' a' w') Q) a w) : (Code.loop c).wp P Q a w := by
  classical
  have hex : ∀ a w, (∃ k, J k a w) → ∃ k, J k a w ∧ ∀ j, J j a w → k ≤ j := by
    intro a w ⟨k, hk⟩
    induction k using Nat.strongRecOn with
    | _ k ih =>
      by_cases h : ∃ j, j < k ∧ J j a w
      · obtain ⟨j, hj, hJ⟩ := h
        exact ih j hj hJ
      · refine ⟨k, hk, fun j hj => ?_⟩
        rcases Nat.lt_or_ge j k with h1 | h1
        · exact absurd ⟨j, h1, hj⟩ h
        · exact h1
  refine wp_loop (fun a w => ∃ k, J k a w) (fun a w => if h : ∃ k, J k a w then Classical.choose (hex a w h) else 0) ⟨k0, h0⟩ ?_
  intro a w hI
  have hs := Classical.choose_spec (hex a w hI)
  have hmu : (if h : ∃ k, J k a w then Classical.choose (hex a w h) else 0) = Classical.choose (hex a w hI) := by rw [dif_pos hI]
  refine Code.wp_mono ?_ (round _ a w hs.1)
  intro e a' w' q
  cases e with
  | normal =>
    obtain ⟨k', hk', hJ⟩ := q
    refine ⟨⟨k', hJ⟩, ?_⟩
    have hI' : ∃ k, J k a' w' := ⟨k', hJ⟩
    have hs' := Classical.choose_spec (hex a' w' hI')
    show (if h : ∃ k, J k a' w' then Classical.choose (hex a' w' h) else 0) < (if h : ∃ k, J k a w then Classical.choose (hex a w h) else 0)
    rw [hmu, dif_pos hI']
    exact Nat.lt_of_le_of_lt (hs'.2 k' hJ) hk'
  | exit id => exact q
  | goto l => exact q
  | ret => exact q
  | panic ch => exact q
  | outgrown => exact q

/-- what stands in the middle -/
theorem wpCut {x y : Code} (J : Act → World → Prop) (h1 : x.wp P (Exit.then J (fun e a w => Exit.then (y.wp P Q) Q e a w)) a w) (h2 : ∀ a w, J a w → y.wp P Q a w) : (Code.seq x y).wp P Q a w := by
  refine wp_seq (Code.wp_mono ?_ h1)
  intro e a w q
  cases e with
  | normal => exact h2 a w q
  | exit id => exact q
  | goto l => exact q
  | ret => exact q
  | panic ch => exact q
  | outgrown => exact q

/-! ### the begin -/

def idx : Nat → List Value → List (Nat × Value)
  | _, [] => []
  | k, v :: r => (k, v) :: idx (k + 1) r

theorem look_idx (l : List Value) : ∀ (k t : Nat) (v : Value), look (idx k l) t = some v → k ≤ t ∧ l[t - k]? = some v := by
  induction l with
  | nil => intro k t v h; cases h
  | cons u r ih =>
    intro k t v h
    simp only [idx, look] at h
    cases hb : Nat.beq k t with
    | true =>
      have e : k = t := Nat.eq_of_beq_eq_true hb
      subst e
      rw [hb] at h
      simp at h
      subst h
      exact ⟨Nat.le_refl _, by simp⟩
    | false =>
      rw [hb] at h
      obtain ⟨h1, h2⟩ := ih (k + 1) t v h
      refine ⟨by omega, ?_⟩
      have : t - k = (t - (k + 1)) + 1 := by omega
      rw [this]
      exact h2

theorem Tm.enter (args : List Value) (n : Nat) (h : args.length ≤ n) : Tm n (idx 0 args) { tmps := args.toArray ++ Array.replicate (n - args.length) undef, defers := [] } := by
  refine ⟨by simp; omega, rfl, ?_⟩
  intro t v hv
  obtain ⟨_, h2⟩ := look_idx args 0 t v hv
  simp only [Nat.sub_zero] at h2
  have hlt : t < args.length := (List.getElem?_eq_some_iff.1 h2).1
  rw [Array.getD_eq_getD_getElem?, Array.getElem?_append_left (by simpa using hlt)]
  simp [h2]

/-- a function's body, from its arguments on -/
theorem enter {f : FuncId} {fn : Func} {c : Code} {args : List Value} {R : Ending → World → Prop} (hf : P.funcs[f]? = some fn) (hb : fn.body = some c) (hn : fn.ntmps = n) (hl : args.length ≤ n)
    (h : ∀ a, Tm n (idx 0 args) a → c.wp P (bodyPost P fn R) a w) : Calls P f args.toArray w R := by
  refine calls_of_wp hf hb ?_
  subst hn
  have := h _ (Tm.enter args fn.ntmps hl)
  simpa using this

/-! ### the end -/

/-- the results: temporaries, or variables in memory -/
inductive ResIs (P : Program) (T : List (Nat × Value)) (w : World) : List ResultVar → List Value → Prop
  | nil : ResIs P T w [] []
  | tmp {t : Nat} {v : Value} {r : List ResultVar} {vs : List Value} (h : look T t = some v) (k : ResIs P T w r vs) : ResIs P T w (.tmp t :: r) (v :: vs)
  | one {t ty : Nat} {p : Addr} {v : Value} {r : List ResultVar} {vs : List Value} (h : look T t = some (.pointer (some p))) (hs : isScalar P ty = true) (hc : w.cell? p = some v) (k : ResIs P T w r vs) : ResIs P T w (.cell t ty :: r) (v :: vs)
  | agg {t ty b p : Nat} {xs : List Value} {r : List ResultVar} {vs : List Value} (h : look T t = some (.pointer (some ⟨b, p, none⟩))) (hs : aggSize P ty = some xs.length) (hc : ∀ i v, xs[i]? = some v → w.cell? ⟨b, p + i, none⟩ = some v) (k : ResIs P T w r vs) :
      ResIs P T w (.cell t ty :: r) (.agg xs.toArray :: vs)

def resF (tmps : Array Value) : ResultVar → Sem Value
  | .tmp t => Pure.pure (tmps.getD t undef)
  | .cell b t => do loadVar t (← asAddr (tmps.getD b undef))

theorem run_mapM_results (ht : Tm n T a) {rs : List ResultVar} {vs : List Value} (h : ResIs P T w rs vs) : (rs.mapM (resF a.tmps)).run P w = Result.ok vs w := by
  induction h with
  | nil => simp
  | tmp h k ih =>
    simp only [List.mapM_cons, Sem.run_bind, Sem.run_pure, Result.andThen_ok, resF, ih, ht.get _ _ h]
  | one h hs hc k ih =>
    simp only [List.mapM_cons, Sem.run_bind, Sem.run_pure, Result.andThen_ok, resF, ih, ht.get _ _ h, asAddr, run_loadVar_cell hs hc]
  | agg h hs hc k ih =>
    simp only [List.mapM_cons, Sem.run_bind, Sem.run_pure, Result.andThen_ok, resF, ih, ht.get _ _ h, asAddr, run_loadVar_agg hs hc]

def resVal (vs : List Value) : Value :=
  match vs with
  | [v] => v
  | vs => .tuple vs.toArray

theorem run_results {fn : Func} (ht : Tm n T a) {vs : List Value} {rs : List ResultVar} (hr : fn.results = rs.toArray) (h : ResIs P T w rs vs) : (results fn a.tmps).run P w = .ok (resVal vs) w := by
  have hm := run_mapM_results ht h
  have hd : results fn a.tmps = (do let vs ← fn.results.mapM (resF a.tmps); pure (if h : vs.size = 1 then vs[0] else .tuple vs)) := rfl
  rw [hd, hr, List.mapM_toArray]
  simp only [Sem.run_bind, Sem.run_map, hm, Result.andThen_ok, Sem.run_pure]
  congr 1
  match vs with
  | [] => rfl
  | [v] => rfl
  | v :: u :: r => simp [resVal]

theorem leave {fn : Func} {R : Value → World → Prop} {vs : List Value} {rs : List ResultVar} (ht : Tm n T a) (hr : fn.results = rs.toArray) (h : ResIs P T w rs vs) (hR : R (resVal vs) w) : bodyPost P fn (Ret R) .ret a w :=
  ⟨ht.defers, _, run_results ht hr h, _, rfl, hR⟩

theorem leave_end {fn : Func} {R : Value → World → Prop} {vs : List Value} {rs : List ResultVar} (ht : Tm n T a) (hr : fn.results = rs.toArray) (h : ResIs P T w rs vs) (hR : R (resVal vs) w) : bodyPost P fn (Ret R) .normal a w :=
  ⟨ht.defers, _, run_results ht hr h, _, rfl, hR⟩

end
end Go.Proofs.Ytbgniopmmankdaa.K
