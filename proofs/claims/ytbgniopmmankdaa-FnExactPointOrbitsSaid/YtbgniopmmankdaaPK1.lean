/- What a fuelled function comes to once its fuel is enough: `Run`, its rules, and the words of the pure functions inside their ranges. -/
import Derived.Test.YtbgniopmmankdaaKC
namespace Go.Proofs.Ytbgniopmmankdaa.P
open Go Go.RowKit Go.Proofs.Ytbgniopmmankdaa.K
set_option linter.unusedVariables false
set_option linter.unusedSimpArgs false

/-- with fuel enough, g answers r with Q r -/
def Run {R : Type} (g : Nat → Option R) (Q : R → Prop) : Prop := ∃ r, Q r ∧ ∃ K, ∀ k, K ≤ k → g k = some r

theorem Run.ret {R : Type} {Q : R → Prop} {r : R} (h : Q r) : Run (fun _ => some r) Q := ⟨r, h, 0, fun _ _ => rfl⟩
theorem Run.bind {A R : Type} {g : Nat → Option A} {h : A → Nat → Option R} {Q : A → Prop} {Q' : R → Prop} (hg : Run g Q) (hh : ∀ a, Q a → Run (h a) Q') : Run (fun k => (g k).bind fun a => h a k) Q' := by
  obtain ⟨a, qa, K, hK⟩ := hg
  obtain ⟨r, qr, K', hK'⟩ := hh a qa
  refine ⟨r, qr, max K K', fun k hk => ?_⟩
  show (g k).bind (fun a => h a k) = some r
  rw [hK k (by omega)]; exact hK' k (by omega)
theorem Run.ite {R : Type} {c : Prop} [Decidable c] {g h : Nat → Option R} {Q : R → Prop} (hy : c → Run g Q) (hn : ¬ c → Run h Q) : Run (fun k => if c then g k else h k) Q := by
  by_cases h1 : c
  · simp only [if_pos h1]; exact hy h1
  · simp only [if_neg h1]; exact hn h1
/-- the branch that is left first -/
theorem Run.itn {R : Type} {c : Prop} [Decidable c] {g h : Nat → Option R} {Q : R → Prop} (hn : ¬ c → Run h Q) (hy : c → Run g Q) : Run (fun k => if c then g k else h k) Q := Run.ite hy hn
theorem Run.yes {R : Type} {c : Prop} [Decidable c] {g h : Nat → Option R} {Q : R → Prop} (h1 : c) (hy : Run g Q) : Run (fun k => if c then g k else h k) Q := Run.ite (fun _ => hy) (fun h => absurd h1 h)
theorem Run.no {R : Type} {c : Prop} [Decidable c] {g h : Nat → Option R} {Q : R → Prop} (h1 : ¬ c) (hy : Run h Q) : Run (fun k => if c then g k else h k) Q := Run.ite (fun h => absurd h h1) (fun _ => hy)
theorem Run.step {R : Type} {g : Nat → Option R} {Q : R → Prop} (h : Run (fun k => g (k + 1)) Q) : Run g Q := by
  obtain ⟨r, qr, K, hK⟩ := h
  refine ⟨r, qr, K + 1, fun k hk => ?_⟩
  obtain ⟨j, rfl⟩ : ∃ j, k = j + 1 := ⟨k - 1, by omega⟩
  exact hK j (by omega)
theorem Run.mono {R : Type} {g : Nat → Option R} {Q Q' : R → Prop} (h : Run g Q) (hq : ∀ r, Q r → Q' r) : Run g Q' := by
  obtain ⟨r, qr, K⟩ := h
  exact ⟨r, hq r qr, K⟩
theorem Run.eq {R : Type} {g : Nat → Option R} {Q : R → Prop} {r : R} (h : Run g (· = r)) (hq : Q r) : Run g Q := h.mono fun _ e => e ▸ hq
theorem Run.get {R : Type} {g : Nat → Option R} {r : R} (h : Run g (· = r)) : ∃ k, g k = some r := by
  obtain ⟨_, rfl, K, hK⟩ := h
  exact ⟨K, hK K (Nat.le_refl _)⟩
theorem Run.const {R : Type} {o : Option R} {Q : R → Prop} {r : R} (h : o = some r) (hq : Q r) : Run (fun _ => o) Q := ⟨r, hq, 0, fun _ _ => h⟩
/-- a loop -/
theorem Run.loop {S R : Type} {L : Nat → S → Option R} {Q : R → Prop} (m : S → Nat) (I : S → Prop) (step : ∀ s, I s → (∀ s', I s' → m s' < m s → Run (fun q => L q s') Q) → Run (fun q => L (q + 1) s) Q) : ∀ s, I s → Run (fun q => L q s) Q := by
  intro s
  have : ∀ n s, m s = n → I s → Run (fun q => L q s) Q := by
    intro n
    induction n using Nat.strongRecOn with
    | ind n ih =>
      intro s hs hI
      refine Run.step (step s hI fun s' hI' hlt => ih (m s') (by omega) s' rfl hI')
  exact this _ s rfl

/-! ### the words -/

theorem w64_id {x : Int} (h : -9223372036854775808 ≤ x ∧ x < 9223372036854775808) : w64 x = x := by
  simp only [w64, IntKind.wrap, IntKind.bits, IntKind.signed]
  try simp
  try omega
theorem wu64_id {x : Int} (h : 0 ≤ x ∧ x < 18446744073709551616) : wu64 x = x := by
  simp only [wu64, IntKind.wrap, IntKind.bits, IntKind.signed]
  try simp
  try omega
theorem w8_id {x : Int} (h : 0 ≤ x ∧ x < 256) : w8 x = x := by
  simp only [w8, IntKind.wrap, IntKind.bits, IntKind.signed]
  try simp
  try omega

theorem Run.getI {l : List Int} {i : Int} {Q : Int → Prop} (h0 : 0 ≤ i) (h : i < l.length) (hq : Q (l[i.toNat]'(by omega))) : Run (fun _ => getI l i) Q :=
  Run.const (r := l[i.toNat]'(by omega)) (by rw [K.getI, if_pos h0]; exact List.getElem?_eq_getElem (by omega)) hq
theorem Run.getR {l : List (List Int)} {i : Int} {Q : List Int → Prop} (h0 : 0 ≤ i) (h : i < l.length) (hq : Q (l[i.toNat]'(by omega))) : Run (fun _ => getR l i) Q :=
  Run.const (r := l[i.toNat]'(by omega)) (by rw [K.getR, if_pos h0]; exact List.getElem?_eq_getElem (by omega)) hq
theorem Run.getB {m : Nat} {e : Nat → Int} {i : Int} {Q : Int → Prop} (h0 : 0 ≤ i) (h : i < m) (hq : Q (e i.toNat)) : Run (fun _ => getB m e i) Q :=
  Run.const (r := e i.toNat) (by rw [K.getB, if_pos ⟨h0, h⟩]) hq
theorem Run.push {l : List Int} {x : Int} {Q : List Int → Prop} (h : l.length < 1099511627776) (hq : Q (l ++ [x])) : Run (fun _ => push l x) Q := Run.const (by rw [K.push, if_pos h]) hq
theorem Run.concat {l r : List Int} {Q : List Int → Prop} (h : l.length + r.length < 1099511627776) (hq : Q (l ++ r)) : Run (fun _ => concat l r) Q := Run.const (by rw [K.concat, if_pos h]) hq
theorem Run.concatR {l r : List (List Int)} {Q : List (List Int) → Prop} (h : l.length + r.length < 1099511627776) (hq : Q (l ++ r)) : Run (fun _ => concatR l r) Q := Run.const (by rw [K.concatR, if_pos h]) hq
theorem Run.guard {p : Prop} [Decidable p] {Q : Unit → Prop} (h : p) (hq : Q ()) : Run (fun _ => guardO p) Q := Run.const (by rw [guardO, if_pos h]) hq

theorem Run.getI' {l : List Int} {i : Int} (h0 : 0 ≤ i) (h : i < l.length) : Run (fun _ => K.getI l i) (· = l[i.toNat]'(by omega)) := Run.getI h0 h rfl
theorem Run.getR' {l : List (List Int)} {i : Int} (h0 : 0 ≤ i) (h : i < l.length) : Run (fun _ => K.getR l i) (· = l[i.toNat]'(by omega)) := Run.getR h0 h rfl
theorem Run.getB' {m : Nat} {e : Nat → Int} {i : Int} (h0 : 0 ≤ i) (h : i < m) : Run (fun _ => K.getB m e i) (· = e i.toNat) := Run.getB h0 h rfl
theorem Run.push' {l : List Int} {x : Int} (h : l.length < 1099511627776) : Run (fun _ => K.push l x) (· = l ++ [x]) := Run.push h rfl
theorem Run.concat' {l r : List Int} (h : l.length + r.length < 1099511627776) : Run (fun _ => K.concat l r) (· = l ++ r) := Run.concat h rfl
theorem Run.concatR' {l r : List (List Int)} (h : l.length + r.length < 1099511627776) : Run (fun _ => K.concatR l r) (· = l ++ r) := Run.concatR h rfl
theorem Run.agree {R : Type} [DecidableEq R] {g h : Nat → Option R} {r : R} (hg : Run g (· = r)) (hh : Run h (· = r)) : Run (fun k => agreeO (g k) (h k)) (· = r) := by
  obtain ⟨_, rfl, K, hK⟩ := hg
  obtain ⟨_, rfl, K', hK'⟩ := hh
  exact ⟨_, rfl, max K K', fun k hk => agreeO_same (hK k (by omega)) (hK' k (by omega))⟩
/-- a step whose answer is known -/
theorem Run.bindE {A R : Type} {g : Nat → Option A} {a : A} {h : A → Nat → Option R} {Q' : R → Prop} (hg : Run g (· = a)) (hh : Run (h a) Q') : Run (fun k => (g k).bind fun a => h a k) Q' := Run.bind hg fun _ e => e ▸ hh
theorem Run.retE {R : Type} {r s : R} (h : r = s) : Run (fun _ => some r) (· = s) := Run.ret h

theorem upd_at {e : Nat → Int} {i : Nat} {v : Int} (j : Nat) : upd e i v j = if j = i then v else e j := rfl
theorem upd_same {e : Nat → Int} {i : Nat} {v : Int} : upd e i v i = v := by rw [upd_at, if_pos rfl]
theorem upd_other {e : Nat → Int} {i j : Nat} {v : Int} (h : j ≠ i) : upd e i v j = e j := by rw [upd_at, if_neg h]

theorem set_append {α : Type} {l r : List α} {x y : α} {n : Nat} (h : l.length = n) : (l ++ x :: r).set n y = l ++ y :: r := by
  subst h; simp

/-! ### what comes in -/
def I64 (n : Int) : Prop := -9223372036854775808 ≤ n ∧ n < 9223372036854775808
def Big (l : List Int) : Prop := ∀ n ∈ l, I64 n
def ByteC (x : Col) : Prop := ∀ i, 0 ≤ x.e i ∧ x.e i < 256
end Go.Proofs.Ytbgniopmmankdaa.P
