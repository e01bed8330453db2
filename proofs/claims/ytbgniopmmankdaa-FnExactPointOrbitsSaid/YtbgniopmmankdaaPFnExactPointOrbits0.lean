/- Plain facts: numbers of edges, sets as bits of a number, chosen lists, colourings. -/
import Derived.Test.YtbgniopmmankdaaPK1
namespace Go.Proofs.Ytbgniopmmankdaa.P
open Go Go.RowKit Go.Proofs.Ytbgniopmmankdaa.K
set_option linter.unusedVariables false
set_option linter.unusedSimpArgs false

/-! ### edges -/
def tri (n : Nat) : Nat := n * (n - 1) / 2
theorem mul_pred (n : Nat) : ((n * (n - 1) : Nat) : Int) = (n : Int) * ((n : Int) - 1) := by
  cases n with
  | zero => simp
  | succ n => simp
theorem tri_int {n : Nat} (h : n ≤ 1000000) : w64 (Int.tdiv (w64 ((n : Int) * (w64 ((n : Int) - 1)))) 2) = (tri n : Int) := by
  have h1 : n * (n - 1) ≤ 1000000 * 1000000 := Nat.mul_le_mul h (by omega)
  have e1 := mul_pred n
  have h2 : n * (n - 1) / 2 ≤ 1000000 * 1000000 := Nat.le_trans (Nat.div_le_self _ _) h1
  rw [w64_id (x := (n : Int) - 1) (by omega), ← e1, w64_id (x := ((n * (n - 1) : Nat) : Int)) (by omega)]
  have e2 : Int.tdiv ((n * (n - 1) : Nat) : Int) 2 = ((n * (n - 1) / 2 : Nat) : Int) := rfl
  rw [e2, w64_id (by omega)]
  rfl
def edg (i j : Nat) : Nat := if i > j then tri i + j else tri j + i
theorem edg_comm (i j : Nat) : edg i j = edg j i := by
  unfold edg
  by_cases h : i > j
  · rw [if_pos h, if_neg (by omega)]
  · by_cases h2 : j > i
    · rw [if_neg h, if_pos h2]
    · have : i = j := by omega
      subst this; rfl
theorem tri_succ (n : Nat) : tri (n + 1) = tri n + n := by
  unfold tri
  have : (n + 1) * (n + 1 - 1) = n * (n - 1) + 2 * n := by
    cases n with
    | zero => rfl
    | succ n => simp only [Nat.add_sub_cancel]; simp only [Nat.add_mul, Nat.mul_add]; omega
  rw [this]; omega
theorem tri_mono {m n : Nat} (h : m ≤ n) : tri m ≤ tri n := by
  induction n with
  | zero => have : m = 0 := by omega
            subst this; exact Nat.le_refl _
  | succ n ih =>
    rw [tri_succ]
    by_cases h1 : m ≤ n
    · have := ih h1; omega
    · have : m = n + 1 := by omega
      subst this; rw [tri_succ]; exact Nat.le_refl _
theorem edg_lt {i j p : Nat} (hi : i < p) (hj : j < p) (hn : i ≠ j) : edg i j < tri p := by
  unfold edg
  by_cases h : i > j
  · rw [if_pos h]
    have := tri_mono (m := i + 1) (n := p) hi
    rw [tri_succ] at this; omega
  · rw [if_neg h]
    have := tri_mono (m := j + 1) (n := p) hj
    rw [tri_succ] at this; omega
theorem tri17 : tri 17 = 136 := rfl
theorem edg_lt136 {i j p : Nat} (hp : p ≤ 17) (hi : i < p) (hj : j < p) (hn : i ≠ j) : edg i j < 136 := by
  have := edg_lt hi hj hn
  have := tri_mono hp
  have := tri17
  omega

/-! ### sets as bits -/
def mask (f : Nat → Bool) : Nat → Nat
  | 0 => 0
  | n + 1 => if f n then mask f n ||| 2 ^ n else mask f n
theorem mask_lt (f : Nat → Bool) (n : Nat) : mask f n < 2 ^ n := by
  induction n with
  | zero => simp [mask]
  | succ n ih =>
    unfold mask
    have h : (2 : Nat) ^ (n + 1) = 2 ^ n * 2 := Nat.pow_succ ..
    split
    · exact Nat.or_lt_two_pow (by omega) (Nat.pow_lt_pow_right (by omega) (by omega))
    · omega
theorem testBit_mask (f : Nat → Bool) (n j : Nat) : (mask f n).testBit j = (decide (j < n) && f j) := by
  induction n with
  | zero => simp [mask]
  | succ n ih =>
    unfold mask
    split
    · next h =>
      rw [Nat.testBit_or, ih, Nat.testBit_two_pow]
      by_cases e : n = j
      · subst e; simp [h]
      · have : decide (j < n + 1) = decide (j < n) := by
          apply decide_eq_decide.mpr; omega
        simp [e, this]
    · next h =>
      rw [ih]
      by_cases e : j = n
      · subst e; simp [h]
      · have : decide (j < n + 1) = decide (j < n) := by
          apply decide_eq_decide.mpr; omega
        rw [this]
theorem mask_congr {f g : Nat → Bool} {n : Nat} (h : ∀ j, j < n → f j = g j) : mask f n = mask g n := by
  induction n with
  | zero => rfl
  | succ n ih => unfold mask; rw [h n (by omega), ih fun j hj => h j (by omega)]

theorem or64 {a b : Nat} (ha : a < 2 ^ 63) (hb : b < 2 ^ 63) : bitop .or .i64 a b = ((a ||| b : Nat) : Int) := by
  have h := Nat.or_lt_two_pow ha hb
  have e : (BitVec.ofInt 64 (a : Int) ||| BitVec.ofInt 64 (b : Int)).toNat = a ||| b := by
    rw [BitVec.toNat_or]; simp only [BitVec.toNat_ofInt]
    have h1 : ((a : Int) % ((2 ^ 64 : Nat) : Int)).toNat = a := by omega
    have h2 : ((b : Int) % ((2 ^ 64 : Nat) : Int)).toNat = b := by omega
    rw [h1, h2]
  show IntKind.wrap .i64 (((BitVec.ofInt 64 (a : Int) ||| BitVec.ofInt 64 (b : Int)).toNat : Nat) : Int) = _
  rw [e]
  exact w64_id (by omega)
theorem and64 {a b : Nat} (ha : a < 2 ^ 63) (hb : b < 2 ^ 63) : bitop .and .i64 a b = ((a &&& b : Nat) : Int) := by
  have h := Nat.and_lt_two_pow a hb
  have e : (BitVec.ofInt 64 (a : Int) &&& BitVec.ofInt 64 (b : Int)).toNat = a &&& b := by
    rw [BitVec.toNat_and]; simp only [BitVec.toNat_ofInt]
    have h1 : ((a : Int) % ((2 ^ 64 : Nat) : Int)).toNat = a := by omega
    have h2 : ((b : Int) % ((2 ^ 64 : Nat) : Int)).toNat = b := by omega
    rw [h1, h2]
  show IntKind.wrap .i64 (((BitVec.ofInt 64 (a : Int) &&& BitVec.ofInt 64 (b : Int)).toNat : Nat) : Int) = _
  rw [e]
  exact w64_id (by omega)
theorem shl64 {n : Nat} (h : n < 63) : shlI .i64 1 (n : Int) = ((2 ^ n : Nat) : Int) := by
  have h1 : (2 : Nat) ^ n < 2 ^ 63 := Nat.pow_lt_pow_right (by omega) h
  have e : min (n : Int).toNat 64 = n := by omega
  show IntKind.wrap .i64 (1 * 2 ^ (min (n : Int).toNat 64)) = _
  rw [e, Int.one_mul]
  have e2 : (2 : Int) ^ n = ((2 ^ n : Nat) : Int) := by simp
  rw [e2]
  exact w64_id (by generalize 2 ^ n = z at h1 ⊢; omega)
theorem shr64 {a n : Nat} (h : n < 64) : shrI .i64 (a : Int) (n : Int) = ((a >>> n : Nat) : Int) := by
  have e : min (n : Int).toNat 64 = n := by omega
  show Int.fdiv (a : Int) (2 ^ (min (n : Int).toNat 64)) = _
  rw [e, Nat.shiftRight_eq_div_pow]
  have e2 : (2 : Int) ^ n = ((2 ^ n : Nat) : Int) := by simp
  rw [e2]
  rw [Int.fdiv_eq_ediv_of_nonneg _ (Int.natCast_nonneg _)]
  rfl
theorem bit64 {a n : Nat} (ha : a < 2 ^ 63) (h : n < 64) : (bitop .and .i64 (shrI .i64 (a : Int) (n : Int)) 1 = 1) ↔ a.testBit n = true := by
  rw [shr64 h]
  have h1 : a >>> n < 2 ^ 63 := Nat.lt_of_le_of_lt (by rw [Nat.shiftRight_eq_div_pow]; exact Nat.div_le_self _ _) ha
  have := and64 (a := a >>> n) (b := 1) h1 (by omega)
  rw [show ((1 : Nat) : Int) = 1 from rfl] at this
  rw [this, Nat.testBit, Nat.and_comm]
  have h2 : (1 &&& a >>> n) < 2 ^ 1 := by rw [Nat.and_comm]; exact Nat.and_lt_two_pow _ (by omega)
  constructor
  · intro h; have h' : (1 &&& a >>> n) = 1 := by omega
    rw [h']; rfl
  · intro h
    have h' : (1 &&& a >>> n) ≠ 0 := by simpa using h
    omega

/-! ### chosen lists -/
def sel (f : Nat → Bool) (n : Nat) : List Int := ((List.range n).filter f).map Int.ofNat
theorem sel_zero (f : Nat → Bool) : sel f 0 = [] := rfl
theorem sel_succ (f : Nat → Bool) (n : Nat) : sel f (n + 1) = sel f n ++ if f n then [(n : Int)] else [] := by
  unfold sel
  rw [List.range_succ, List.filter_append, List.map_append]
  cases h : f n <;> simp [h, List.filter]
theorem sel_yes {f : Nat → Bool} {n : Nat} (h : f n = true) : sel f (n + 1) = sel f n ++ [(n : Int)] := by rw [sel_succ, if_pos h]
theorem sel_no {f : Nat → Bool} {n : Nat} (h : ¬ f n = true) : sel f (n + 1) = sel f n := by rw [sel_succ, if_neg h, List.append_nil]
theorem sel_length (f : Nat → Bool) (n : Nat) : (sel f n).length ≤ n := by
  induction n with
  | zero => exact Nat.le_refl _
  | succ n ih => rw [sel_succ]; simp only [List.length_append]; split <;> simp <;> omega
theorem sel_congr {f g : Nat → Bool} {n : Nat} (h : ∀ j, j < n → f j = g j) : sel f n = sel g n := by
  induction n with
  | zero => rfl
  | succ n ih => rw [sel_succ, sel_succ, h n (by omega), ih fun j hj => h j (by omega)]
theorem sel_more {f : Nat → Bool} {m n : Nat} (h : m ≤ n) (hf : ∀ j, m ≤ j → f j = false) : sel f n = sel f m := by
  induction n with
  | zero => have : m = 0 := by omega
            subst this; rfl
  | succ n ih =>
    by_cases h1 : m ≤ n
    · rw [sel_no (by rw [hf n h1]; simp), ih h1]
    · have : m = n + 1 := by omega
      subst this; rfl
theorem sel_mask {f : Nat → Bool} {n m : Nat} (h : n ≤ m) : sel (mask f n).testBit m = sel f n := by
  rw [sel_more (m := n) h fun j hj => by rw [testBit_mask]; simp; omega]
  exact sel_congr fun j hj => by rw [testBit_mask]; simp [hj]

theorem mask_and (f g : Nat → Bool) (n : Nat) : mask f n &&& mask g n = mask (fun j => f j && g j) n := by
  apply Nat.eq_of_testBit_eq
  intro j
  rw [Nat.testBit_and, testBit_mask, testBit_mask, testBit_mask]
  cases decide (j < n) <;> simp
/-- how many are chosen -/
def cnt (f : Nat → Bool) (n : Nat) : Nat := (sel f n).length
theorem cnt_le (f : Nat → Bool) (n : Nat) : cnt f n ≤ n := sel_length f n
theorem cnt_low (f : Nat → Bool) (n : Nat) : cnt f (n + 1) = (if f 0 then 1 else 0) + cnt (fun j => f (j + 1)) n := by
  induction n with
  | zero => unfold cnt; rw [sel_succ]; cases h : f 0 <;> simp [sel]
  | succ n ih =>
    have a : cnt f (n + 1 + 1) = cnt f (n + 1) + if f (n + 1) then 1 else 0 := by
      unfold cnt; rw [sel_succ, List.length_append]; split <;> rfl
    have b : cnt (fun j => f (j + 1)) (n + 1) = cnt (fun j => f (j + 1)) n + if f (n + 1) then 1 else 0 := by
      unfold cnt; rw [sel_succ, List.length_append]; split <;> rfl
    omega
theorem cnt_mask {f : Nat → Bool} {n m : Nat} (h : n ≤ m) : cnt (mask f n).testBit m = cnt f n := by unfold cnt; rw [sel_mask h]
theorem cnt_half (v n : Nat) : cnt v.testBit (n + 1) = v % 2 + cnt (v / 2).testBit n := by
  rw [cnt_low, Nat.testBit_zero]
  have : (fun j => v.testBit (j + 1)) = (v / 2).testBit := by funext j; rw [Nat.testBit_succ]
  rw [this]
  by_cases h : v % 2 = 1
  · simp [h]
  · have : v % 2 = 0 := by omega
    simp [this]

/-! ### colourings -/
/-- the edges' cells alone -/
def cut (e : Nat → Int) : Nat → Int := fun i => if i < 136 then e i else 0
def cutC (x : Col) : Col := ⟨x.p, x.k, cut x.e⟩
theorem cutC_bytes {x : Col} (h : ByteC x) : ByteC (cutC x) := fun i => by
  show 0 ≤ cut x.e i ∧ cut x.e i < 256
  unfold cut; split
  · exact h i
  · omega
/-- a colouring as the text means it -/
def IsCol (x : Col) : Prop := (1 ≤ x.p ∧ x.p ≤ 17) ∧ (1 ≤ x.k ∧ x.k ≤ 4) ∧ ∀ i, i < 136 → (if i < tri x.p.toNat then x.e i < x.k else x.e i = 0)
instance (x : Col) : Decidable (IsCol x) := inferInstanceAs (Decidable (_ ∧ _ ∧ ∀ i, i < 136 → _))
def isB (x : Col) : Bool := decide (IsCol x)
/-- the colour of the edge of two points -/
def colr (x : Col) (i j : Nat) : Int := x.e (edg i j)
theorem isB_spec {x : Col} (h : isB x = true) : IsCol x := of_decide_eq_true h
/-- j is another point, and the edge of i and j has the colour c -/
def joinsB (x : Col) (i : Nat) (c : Int) (j : Nat) : Bool := decide (i ≠ j) && decide (colr x i j = c)
/-- the codes: 1 no colouring, 2 an argument outside -/
def given (is ok : Bool) : Int := if is = true then (if ok = true then 0 else 2) else 1
def allIn (l : List Int) (lo hi : Int) : Bool := l.all fun v => decide (lo ≤ v ∧ v ≤ hi)
theorem allIn_cons {v : Int} {l : List Int} {lo hi : Int} : allIn (v :: l) lo hi = (decide (lo ≤ v ∧ v ≤ hi) && allIn l lo hi) := rfl
theorem given_zero {is ok : Bool} (h : given is ok = 0) : is = true ∧ ok = true := by
  unfold given at h
  split at h
  · split at h
    · exact ⟨by assumption, by assumption⟩
    · omega
  · omega
/-- the neighbours of i in the colour c, and the code -/
def neighM (x : Col) (i c : Int) : List Int × Int :=
  if given (isB x) (decide (0 ≤ c ∧ c ≤ x.k - 1) && decide (0 ≤ i ∧ i ≤ x.p - 1)) = 0 then (sel (joinsB x i.toNat c) x.p.toNat, 0) else ([], given (isB x) (decide (0 ≤ c ∧ c ≤ x.k - 1) && decide (0 ≤ i ∧ i ≤ x.p - 1)))
/-- the first of the greatest of d 0, d 1, ..: where, and how great -/
def starM (d : Nat → Int) : Nat → Int × Int
  | 0 => (0, -1)
  | n + 1 => if d n > (starM d n).2 then ((n : Int), d n) else starM d n
/-- the cells behind the writes of the values f 0 j, .. f (i - 1) j at the edges to j -/
def rowE (f : Nat → Nat → Int) (j : Nat) (e : Nat → Int) : Nat → Nat → Int
  | 0 => e
  | i + 1 => upd (rowE f j e i) (tri j + i) (w8 (f i j))
def madeE (f : Nat → Nat → Int) : Nat → Nat → Int
  | 0 => fun _ => 0
  | j + 1 => rowE f j (madeE f j) j
theorem edg_low {i j : Nat} (h : i < j) : edg i j = tri j + i := by rw [edg, if_neg (by omega)]
theorem edg_high {i j : Nat} (h : i < j) : edg j i = tri j + i := by rw [edg, if_pos (by omega)]
theorem low136 {i j : Nat} (h : i < j) (hj : j < 17) : tri j + i < 136 := by
  have := tri_mono (m := j + 1) (n := 17) (by omega)
  rw [tri_succ, tri17] at this; omega
def commonM (x : Col) (i j c : Int) : List Int × Int :=
  if given (isB x) (decide (0 ≤ i ∧ i ≤ x.p - 1) && decide (0 ≤ j ∧ j ≤ x.p - 1) && decide (i ≠ j) && decide (0 ≤ c ∧ c ≤ x.k - 1)) = 0 then (sel (fun t => joinsB x i.toNat c t && joinsB x j.toNat c t) x.p.toNat, 0) else ([], given (isB x) (decide (0 ≤ i ∧ i ≤ x.p - 1) && decide (0 ≤ j ∧ j ≤ x.p - 1) && decide (i ≠ j) && decide (0 ≤ c ∧ c ≤ x.k - 1)))
def degreesM (x : Col) (c : Int) : List Int × Int :=
  if given (isB x) (decide (0 ≤ c ∧ c ≤ x.k - 1)) = 0 then ((List.range x.p.toNat).map (fun j => (cnt (joinsB x j c) x.p.toNat : Int)), 0) else ([], given (isB x) (decide (0 ≤ c ∧ c ≤ x.k - 1)))
def putM (x : Col) (l : List Int) : Col × Int :=
  if given (isB x) (decide ((l.length : Int) = x.p) && allIn l 0 (x.k - 1)) = 0 then (if x.p = 17 then (Col.zero, 3) else (⟨x.p + 1, x.k, rowE (fun i _ => l.getD i 0) x.p.toNat x.e l.length⟩, 0)) else (Col.zero, given (isB x) (decide ((l.length : Int) = x.p) && allIn l 0 (x.k - 1)))
/-- the neighbours in the list rise -/
def adjB (l : List Int) : Bool := decide (∀ j, j < l.length - 1 → l.getD j 0 < l.getD (j + 1) 0)
/-- a rising list of points -/
def Points (x : Col) (l : List Int) : Prop := x.p ≤ 17 ∧ List.Pairwise (· < ·) l ∧ ∀ v ∈ l, 0 ≤ v ∧ v < x.p
theorem pairwise_length {l : List Int} {a m : Int} (h : List.Pairwise (· < ·) l) (hl : ∀ v ∈ l, a ≤ v ∧ v < m) : (l.length : Int) ≤ max 0 (m - a) := by
  induction l generalizing a with
  | nil => simp; omega
  | cons v l ih =>
    obtain ⟨h1, h2⟩ := List.pairwise_cons.mp h
    have hv := hl v (List.mem_cons_self ..)
    have := ih (a := v + 1) h2 fun u hu => ⟨by have := h1 u hu; omega, (hl u (List.mem_cons_of_mem _ hu)).2⟩
    simp only [List.length_cons]
    omega
theorem Points.length {x : Col} {l : List Int} (h : Points x l) : l.length ≤ 17 := by
  have := pairwise_length h.2.1 (a := 0) (m := x.p) h.2.2
  have := h.1
  omega
theorem Points.at {x : Col} {l : List Int} (h : Points x l) (i : Nat) (hi : i < l.length) : ∃ a : Nat, l[i] = (a : Int) ∧ (a : Int) < x.p := by
  have hm := h.2.2 _ (List.getElem_mem hi)
  obtain ⟨a, ha⟩ := Int.eq_ofNat_of_zero_le hm.1
  exact ⟨a, ha, by omega⟩
theorem Points.ne {x : Col} {l : List Int} (h : Points x l) (i j : Nat) (hij : i < j) (hj : j < l.length) (a b : Nat) (ea : l[i]'(by omega) = (a : Int)) (eb : l[j] = (b : Int)) : a ≠ b := by
  have := List.pairwise_iff_getElem.mp h.2.1 i j (by omega) hj hij
  omega
theorem getD_of {l : List Int} {i : Nat} {h : i < l.length} {v : Int} (e : l[i] = v) : l.getD i 0 = v := by
  rw [List.getD_eq_getElem?_getD, List.getElem?_eq_getElem h, e]; rfl
theorem adj_pairwise {l : List Int} (h : adjB l = true) : List.Pairwise (· < ·) l := by
  have hj := of_decide_eq_true h
  have step : ∀ (n i : Nat), i + n + 1 < l.length → l.getD i 0 < l.getD (i + n + 1) 0 := by
    intro n
    induction n with
    | zero => intro i hi; exact hj i (by omega)
    | succ n ih =>
      intro i hi
      have h1 := ih i (by omega)
      have h2 := hj (i + n + 1) (by omega)
      rw [show i + (n + 1) + 1 = i + n + 1 + 1 by omega]; omega
  refine List.pairwise_iff_getElem.mpr fun i j hi hjl hij => ?_
  have := step (j - i - 1) i (by omega)
  rw [show i + (j - i - 1) + 1 = j by omega, List.getD_eq_getElem?_getD, List.getElem?_eq_getElem hi, List.getD_eq_getElem?_getD, List.getElem?_eq_getElem hjl] at this
  exact this
theorem allIn_mem {l : List Int} {lo hi : Int} (h : allIn l lo hi = true) : ∀ v ∈ l, lo ≤ v ∧ v ≤ hi := fun v hv => of_decide_eq_true (List.all_eq_true.mp h v hv)
theorem points_of {x : Col} {l : List Int} (hc : IsCol x) (h1 : allIn l 0 (x.p - 1) = true) (h2 : adjB l = true) : Points x l :=
  ⟨hc.1.2, adj_pairwise h2, fun v hv => by have := allIn_mem h1 v hv; omega⟩
def partM (x : Col) (l : List Int) : Col × Int :=
  if given (isB x) (allIn l 0 (x.p - 1) && adjB l && decide ((l.length : Int) > 0)) = 0 then (⟨l.length, x.k, madeE (fun i j => colr x (l.getD i 0).toNat (l.getD j 0).toNat) l.length⟩, 0) else (Col.zero, given (isB x) (allIn l 0 (x.p - 1) && adjB l && decide ((l.length : Int) > 0)))
theorem mem_sel {f : Nat → Bool} {n : Nat} {v : Int} (h : v ∈ sel f n) : 0 ≤ v ∧ v < n := by
  unfold sel at h
  obtain ⟨j, hj, rfl⟩ := List.mem_map.mp h
  have := List.mem_range.mp (List.mem_filter.mp hj).1
  show 0 ≤ (j : Int) ∧ (j : Int) < n
  omega
theorem sel_rise (f : Nat → Bool) (n : Nat) : List.Pairwise (· < ·) (sel f n) := by
  induction n with
  | zero => exact List.Pairwise.nil
  | succ n ih =>
    rw [sel_succ]
    split
    · exact List.pairwise_append.mpr ⟨ih, List.pairwise_singleton .., fun a ha b hb => by have := mem_sel ha; simp at hb; omega⟩
    · rw [List.append_nil]; exact ih
theorem points_sel {x : Col} {n : Nat} (hp : x.p ≤ 17) (f : Nat → Bool) (hn : (n : Int) ≤ x.p) : Points x (sel f n) := ⟨hp, sel_rise f n, fun v hv => by have := mem_sel hv; omega⟩
def partC (x : Col) (l : List Int) : Col := ⟨l.length, x.k, madeE (fun i j => colr x (l.getD i 0).toNat (l.getD j 0).toNat) l.length⟩
def takeM (x : Col) (p : Int) : Col × Int :=
  if given (isB x) (decide (0 ≤ p ∧ p ≤ x.p - 1)) = 0 then (if x.p = 1 then (Col.zero, 5) else (partC x (sel (fun t => decide ((t : Int) ≠ p)) x.p.toNat), 0)) else (Col.zero, given (isB x) (decide (0 ≤ p ∧ p ≤ x.p - 1)))
/-- the list of a circular colouring, and whether it is one -/
def cList (x : Col) : List Int := (List.range (x.p.toNat / 2)).map fun d => colr x 0 (d + 1)
def circM (x : Col) : List Int × Bool :=
  if x.p < 2 then ([], false) else (cList x, Col.same ⟨x.p, x.k, madeE (fun i j => (cList x).getD (min (j - i) (x.p.toNat - (j - i)) - 1) 0) x.p.toNat⟩ x)
def listM (x : Col) : List Int × Int := if isB x = true then (if (circM x).2 = true then ((circM x).1, 0) else ([], 5)) else ([], 1)
theorem circM_yes {x : Col} (h : (circM x).2 = true) : 2 ≤ x.p ∧ (circM x).1 = cList x := by
  unfold circM at h ⊢
  split at h
  · cases h
  · next hn => rw [if_neg hn]; exact ⟨by omega, rfl⟩
theorem listM_yes {x : Col} (h : (listM x).2 = 0) : isB x = true ∧ (circM x).2 = true ∧ (listM x).1 = (circM x).1 := by
  unfold listM at h ⊢
  split at h
  · next h1 =>
    split at h
    · next h2 => exact ⟨h1, h2, by rw [if_pos h1, if_pos h2]⟩
    · exact absurd h (by decide)
  · exact absurd h (by decide)
/-- m times 1, .. d keep the list -/
def multTo (L : List Int) (p m : Nat) : Nat → Bool
  | 0 => decide (Nat.gcd m p = 1)
  | d + 1 => multTo L p m d && decide (L.getD d 0 = L.getD (min (m * (d + 1) % p) (p - m * (d + 1) % p) - 1) 0)
def multB (L : List Int) (p m : Nat) : Bool := multTo L p m (p / 2)
theorem multB_eq {L : List Int} {p m : Nat} : multB L p m = multTo L p m (p / 2) := rfl
theorem multTo_zero {L : List Int} {p m : Nat} : multTo L p m 0 = decide (Nat.gcd m p = 1) := rfl
theorem multTo_succ {L : List Int} {p m d : Nat} : multTo L p m (d + 1) = (multTo L p m d && decide (L.getD d 0 = L.getD (min (m * (d + 1) % p) (p - m * (d + 1) % p) - 1) 0)) := rfl
theorem multTo_gcd {L : List Int} {p m d : Nat} (h : multTo L p m d = true) : Nat.gcd m p = 1 := by
  induction d with
  | zero => exact of_decide_eq_true h
  | succ d ih => exact ih ((Bool.and_eq_true _ _).mp h).1
theorem multTo_mono {L : List Int} {p m d e : Nat} (h : multTo L p m (d + e) = true) : multTo L p m d = true := by
  induction e with
  | zero => exact h
  | succ e ih => exact ih ((Bool.and_eq_true _ _).mp h).1
theorem multTo_of {L : List Int} {p m d : Nat} (h : multB L p m = true) (hd : d ≤ p / 2) : multTo L p m d = true := by
  refine multTo_mono (e := p / 2 - d) ?_
  rw [show d + (p / 2 - d) = p / 2 by omega]; exact h
theorem multB_zero {L : List Int} {p : Nat} (hp : 2 ≤ p) : ¬ multB L p 0 = true := fun h => by
  have := multTo_gcd h
  rw [Nat.gcd_zero_left] at this; omega
theorem mult_r {m p d : Nat} (h : Nat.gcd m p = 1) (h0 : 0 < d) (hd : d < p) : 0 < m * d % p ∧ m * d % p < p := by
  refine ⟨?_, Nat.mod_lt _ (by omega)⟩
  rcases Nat.eq_zero_or_pos (m * d % p) with hz | hz
  · have hdvd : p ∣ m * d := Nat.dvd_of_mod_eq_zero hz
    have hc : Nat.Coprime p m := by rw [Nat.Coprime, Nat.gcd_comm]; exact h
    have := Nat.le_of_dvd h0 (hc.dvd_of_dvd_mul_left hdvd)
    omega
  · exact hz
theorem getD_at {l : List Int} {i : Nat} (h : i < l.length) : l.getD i 0 = l[i] := by rw [List.getD_eq_getElem?_getD, List.getElem?_eq_getElem h]; rfl
def multM (x : Col) : List Int × Int := if (listM x).2 = 0 then (sel (multB (cList x) x.p.toNat) x.p.toNat, 0) else ([], (listM x).2)
/-- the neighbours in the colour c of 0, .. n - 1, as bits -/
def rowsM (x : Col) (c : Int) (n : Nat) : List Int := (List.range n).map fun i => (mask (joinsB x i c) x.p.toNat : Int)
theorem rowsM_length (x : Col) (c : Int) (n : Nat) : (rowsM x c n).length = n := by simp [rowsM]
theorem rowsM_succ (x : Col) (c : Int) (n : Nat) : rowsM x c n ++ [(mask (joinsB x n c) x.p.toNat : Int)] = rowsM x c (n + 1) := by unfold rowsM; rw [List.range_succ, List.map_append]; rfl
theorem rowsM_at {x : Col} {c : Int} {n i : Nat} (h : ((i : Int)).toNat < (rowsM x c n).length) : (rowsM x c n)[((i : Int)).toNat] = (mask (joinsB x i c) x.p.toNat : Int) := by simp [rowsM]
/-- how many points are joined with both -/
def cm (x : Col) (c : Int) (i j : Nat) : Nat := cnt (fun t => joinsB x i c t && joinsB x j c t) x.p.toNat
def dOk (x : Col) (c : Int) (book : Bool) (i j : Nat) : Bool := !book || joinsB x i c j
def dStep (x : Col) (c : Int) (book : Bool) (s : List Int × Int) (i j : Nat) : List Int × Int := if dOk x c book i j = true ∧ (cm x c i j : Int) > s.2 then ([(i : Int), (j : Int)], (cm x c i j : Int)) else s
def dRow (x : Col) (c : Int) (book : Bool) (i : Nat) (s : List Int × Int) : Nat → List Int × Int
  | 0 => s
  | d + 1 => dStep x c book (dRow x c book i s d) i (i + 1 + d)
def dAll (x : Col) (c : Int) (book : Bool) : Nat → List Int × Int
  | 0 => ([], -1)
  | i + 1 => dRow x c book i (dAll x c book i) (x.p.toNat - (i + 1))
def dSign (s : List Int × Int) : Prop := (s.1 = [] ∧ s.2 < 0) ∨ (s.1 ≠ [] ∧ 0 ≤ s.2 ∧ s.1.length = 2)
theorem dRow_sign (x : Col) (c : Int) (book : Bool) (i : Nat) (s : List Int × Int) (hs : dSign s) : ∀ d, dSign (dRow x c book i s d)
  | 0 => hs
  | d + 1 => by
    rw [dRow, dStep]
    split
    · exact .inr ⟨by simp, by show 0 ≤ (cm x c i _ : Int); omega, rfl⟩
    · exact dRow_sign x c book i s hs d
theorem dAll_sign (x : Col) (c : Int) (book : Bool) : ∀ n, dSign (dAll x c book n)
  | 0 => .inl ⟨rfl, by show (-1 : Int) < 0; omega⟩
  | n + 1 => dRow_sign x c book n _ (dAll_sign x c book n) _
def doubleM (x : Col) (c : Int) (book : Bool) : List Int × Int × Int :=
  if given (isB x) (decide (0 ≤ c ∧ c ≤ x.k - 1)) = 0 then (if (dAll x c book x.p.toNat).1 = [] then ([], 0, 4) else ((dAll x c book x.p.toNat).1, (dAll x c book x.p.toNat).2, 0)) else ([], 0, given (isB x) (decide (0 ≤ c ∧ c ≤ x.k - 1)))
theorem doubleM_short (x : Col) (c : Int) (book : Bool) : (doubleM x c book).1.length ≤ 1000 := by
  unfold doubleM
  split
  · split
    · simp
    · rcases dAll_sign x c book x.p.toNat with h | h
      · next hn => exact absurd h.1 hn
      · show (dAll x c book x.p.toNat).1.length ≤ 1000; omega
  · simp
/-! ### cliques -/
/-- how many cliques of m points lie in the rising list F -/
def sufs (h : Nat → List Nat → Nat) : List Nat → Nat
  | [] => 0
  | p :: F => h p F + sufs h F
def cnumM (G : Nat → Nat → Bool) : Nat → List Nat → Nat
  | 0, _ => 1
  | m + 1, F => sufs (fun p F => cnumM G m (F.filter (G p))) F
def cnum (G : Nat → Nat → Bool) (F : List Nat) (m : Nat) : Nat := cnumM G m F
theorem cnum_zero (G : Nat → Nat → Bool) (F : List Nat) : cnum G F 0 = 1 := rfl
theorem cnum_nil (G : Nat → Nat → Bool) (m : Nat) : cnum G [] (m + 1) = 0 := rfl
theorem cnum_cons (G : Nat → Nat → Bool) (p : Nat) (F : List Nat) (m : Nat) : cnum G (p :: F) (m + 1) = cnum G (F.filter (G p)) m + cnum G F (m + 1) := rfl
theorem cnum_short (G : Nat → Nat → Bool) : ∀ (n : Nat) (F : List Nat) (m : Nat), F.length ≤ n → F.length < m → cnum G F m = 0
  | n, F, 0, _, h => by omega
  | n, [], m + 1, _, _ => cnum_nil G m
  | 0, p :: F, m + 1, hn, _ => by simp at hn
  | n + 1, p :: F, m + 1, hn, h => by
    simp only [List.length_cons] at hn h
    have hf := List.length_filter_le (G p) F
    rw [cnum_cons, cnum_short G n _ m (by omega) (by omega), cnum_short G n F (m + 1) (by omega) (by omega)]
theorem cnum_le (G : Nat → Nat → Bool) : ∀ (n : Nat) (F : List Nat) (m : Nat), F.length ≤ n → cnum G F m ≤ 2 ^ n
  | n, F, 0, _ => by rw [cnum_zero]; exact Nat.one_le_two_pow
  | n, [], m + 1, _ => by rw [cnum_nil]; exact Nat.zero_le _
  | 0, p :: F, m + 1, hn => by simp at hn
  | n + 1, p :: F, m + 1, hn => by
    simp only [List.length_cons] at hn
    have hf := List.length_filter_le (G p) F
    have h1 := cnum_le G n (F.filter (G p)) m (by omega)
    have h2 := cnum_le G n F (m + 1) (by omega)
    rw [cnum_cons, Nat.pow_succ]; omega
/-- p, .. n - 1 with f -/
def upF (f : Nat → Bool) (p n : Nat) : List Nat := (List.range' p (n - p)).filter f
theorem upF_end (f : Nat → Bool) {p n : Nat} (h : n ≤ p) : upF f p n = [] := by unfold upF; rw [show n - p = 0 by omega]; rfl
theorem upF_yes {f : Nat → Bool} {p n : Nat} (h : p < n) (hf : f p = true) : upF f p n = p :: upF f (p + 1) n := by
  unfold upF
  rw [show n - p = (n - (p + 1)) + 1 by omega, List.range'_succ, List.filter_cons, if_pos hf]
theorem upF_no {f : Nat → Bool} {p n : Nat} (h : p < n) (hf : ¬ f p = true) : upF f p n = upF f (p + 1) n := by
  unfold upF
  rw [show n - p = (n - (p + 1)) + 1 by omega, List.range'_succ, List.filter_cons, if_neg hf]
theorem upF_length (f : Nat → Bool) (p n : Nat) : (upF f p n).length ≤ n - p := by
  unfold upF
  exact Nat.le_trans (List.length_filter_le _ _) (by simp)
theorem upF_filter (f g : Nat → Bool) (p n : Nat) : (upF f p n).filter g = upF (fun j => f j && g j) p n := by
  unfold upF
  rw [List.filter_filter]
  congr 1
  funext j
  exact Bool.and_comm _ _
theorem upF_congr {f g : Nat → Bool} {p n : Nat} (h : ∀ j, p ≤ j → j < n → f j = g j) : upF f p n = upF g p n := by
  unfold upF
  apply List.filter_congr
  intro j hj
  have := List.mem_range'_1.mp hj
  exact h j this.1 (by omega)
theorem upF_skip {f : Nat → Bool} {p q n : Nat} (hpq : p ≤ q) (hqn : q ≤ n) (h : ∀ j, p ≤ j → j < q → f j = false) : upF f p n = upF f q n := by
  have : ∀ d, q - p = d → upF f p n = upF f q n := by
    intro d
    induction d generalizing p with
    | zero => intro hd; rw [show p = q by omega]
    | succ d ih =>
      intro hd
      rw [upF_no (by omega) (by rw [h p (Nat.le_refl _) (by omega)]; simp)]
      exact ih (by omega) (fun j h1 h2 => h j (by omega) h2) (by omega)
  exact this _ rfl
theorem cnt_upF (f : Nat → Bool) (n : Nat) : cnt f n = (upF f 0 n).length := by
  unfold cnt sel upF
  rw [List.length_map, List.range_eq_range']; rfl
/-- the list's points all go with p -/
def withB (x : Col) (c : Int) (L : List Nat) (p : Nat) : Bool := L.all fun i => joinsB x i c p
def nextP (L : List Nat) : Nat := match L.getLast? with | none => 0 | some q => q + 1
theorem nextP_snoc (L : List Nat) (p : Nat) : nextP (L ++ [p]) = p + 1 := by simp [nextP]
theorem withB_snoc (x : Col) (c : Int) (L : List Nat) (p : Nat) : withB x c (L ++ [p]) = fun j => withB x c L j && joinsB x p c j := by
  funext j
  simp [withB, List.all_append]
/-- some m points are a clique of the colour c -/
def hasClique (x : Col) (c : Int) (m : Nat) : Bool := !decide (cnum (fun i j => joinsB x i c j) (upF (withB x c []) 0 x.p.toNat) m = 0)
theorem mask_yes {f : Nat → Bool} {n : Nat} (h : f n = true) : mask f (n + 1) = mask f n + 2 ^ n := by
  rw [mask, if_pos h]
  have hl := mask_lt f n
  rw [Nat.or_comm, ← Nat.mul_one (2 ^ n), ← Nat.two_pow_add_eq_or_of_lt hl]; omega
theorem mask_no {f : Nat → Bool} {n : Nat} (h : ¬ f n = true) : mask f (n + 1) = mask f n := by rw [mask, if_neg h]
theorem mask_without {f : Nat → Bool} {n i : Nat} (hi : i < n) (h : f i = true) : mask f n = mask (fun j => f j && decide (j ≠ i)) n + 2 ^ i := by
  induction n with
  | zero => omega
  | succ n ih =>
    by_cases hn : i = n
    · subst hn
      rw [mask_yes h, mask_no (f := fun j => f j && decide (j ≠ i)) (by simp)]
      rw [mask_congr (f := f) (g := fun j => f j && decide (j ≠ i)) fun j hj => by simp; intro _; omega]
    · have := ih (by omega)
      by_cases hf : f n = true
      · rw [mask_yes hf, mask_yes (f := fun j => f j && decide (j ≠ i)) (by simp [hf]; omega), this]; omega
      · rw [mask_no hf, mask_no (f := fun j => f j && decide (j ≠ i)) (by simp [hf]), this]
theorem bit64z {a n : Nat} (ha : a < 2 ^ 63) (h : n < 64) : (bitop .and .i64 (shrI .i64 (a : Int) (n : Int)) 1 = 0) ↔ a.testBit n = false := by
  rw [shr64 h]
  have h1 : a >>> n < 2 ^ 63 := Nat.lt_of_le_of_lt (by rw [Nat.shiftRight_eq_div_pow]; exact Nat.div_le_self _ _) ha
  have := and64 (a := a >>> n) (b := 1) h1 (by omega)
  rw [show ((1 : Nat) : Int) = 1 from rfl] at this
  rw [this, Nat.testBit, Nat.and_comm]
  constructor
  · intro h; have h' : (1 &&& a >>> n) = 0 := by omega
    rw [h']; rfl
  · intro h
    have h' : (1 &&& a >>> n) = 0 := by simpa using h
    omega
theorem upF_from {f : Nat → Bool} {p n : Nat} (hp : p ≤ n) : upF (fun j => f j && decide (p ≤ j)) 0 n = upF f p n := by
  rw [upF_skip (q := p) (Nat.zero_le _) hp fun j _ hj => by simp; intro _; omega]
  exact upF_congr fun j hj _ => by simp [hj]
theorem cnt_mask_upF {f : Nat → Bool} {n : Nat} (hn : n ≤ 62) : cnt (mask f n).testBit 62 = (upF f 0 n).length := by rw [cnt_mask hn, cnt_upF]
/-- no colour has a clique of its size -/
def avoidsB (x : Col) (l : List Int) : Bool := decide (∀ j : Nat, j < l.length → hasClique x j (l.getD j 0).toNat = false)
theorem w8_range (v : Int) : 0 ≤ w8 v ∧ w8 v < 256 := by
  simp only [w8, IntKind.wrap, IntKind.bits, IntKind.signed]
  simp
  omega
theorem rowE_bytes {x : Col} {f : Nat → Nat → Int} {j n : Nat} {p k : Int} (hx : ByteC x) : ByteC ⟨p, k, rowE f j x.e n⟩ := by
  induction n with
  | zero => exact hx
  | succ n ih =>
    intro i
    show 0 ≤ rowE f j x.e (n + 1) i ∧ rowE f j x.e (n + 1) i < 256
    rw [rowE, upd_at]
    split
    · exact w8_range _
    · exact ih i
def extCode (x : Col) (l o : List Int) : Int :=
  if given (isB x) ((decide ((l.length : Int) = x.k) && allIn l 1 17) && (decide ((o.length : Int) = x.p) && allIn o 0 (x.k - 1))) = 0 then (if avoidsB x l = true then (if x.p = 17 then 3 else 0) else 5) else given (isB x) ((decide ((l.length : Int) = x.k) && allIn l 1 17) && (decide ((o.length : Int) = x.p) && allIn o 0 (x.k - 1)))
theorem extCode_zero {x : Col} {l o : List Int} (h : extCode x l o = 0) : given (isB x) ((decide ((l.length : Int) = x.k) && allIn l 1 17) && (decide ((o.length : Int) = x.p) && allIn o 0 (x.k - 1))) = 0 ∧ x.p ≠ 17 := by
  unfold extCode at h
  split at h
  · split at h
    · split at h
      · omega
      · exact ⟨by assumption, by assumption⟩
    · omega
  · exact absurd h (by assumption)
def extM (x : Col) (l o : List Int) : Bool × Int :=
  if extCode x l o = 0 then (avoidsB ⟨x.p + 1, x.k, rowE (fun i _ => o.getD i 0) x.p.toNat x.e o.length⟩ l, 0) else (false, extCode x l o)
/-! ### positions -/
def shapeB (n : Int) (l : List Int) : Bool := decide (1 ≤ n ∧ n ≤ 5) && (decide ((l.length : Int) = (tri n.toNat : Int)) && allIn l (-1) 1)
def hasE (l : List Int) (who : Int) (j : Nat) : Bool := decide (l.getD j 0 = who)
theorem hasE_yes {l : List Int} {who : Int} {j : Nat} (h : l.getD j 0 = who) : hasE l who j = true := decide_eq_true h
theorem hasE_no {l : List Int} {who : Int} {j : Nat} (h : ¬ l.getD j 0 = who) : hasE l who j = false := decide_eq_false h
theorem cnt_succ (f : Nat → Bool) (n : Nat) : cnt f (n + 1) = cnt f n + if f n = true then 1 else 0 := by
  unfold cnt; rw [sel_succ, List.length_append]; split <;> rfl
def manyN (l : List Int) (who : Int) : Nat := cnt (hasE l who) l.length
def moverN (l : List Int) : Int := (manyN l 0 : Int) - (manyN l 1 : Int)
/-- the three edges of a, b, c belong to who -/
def monoB (l : List Int) (who : Int) (a b c : Nat) : Bool := hasE l who (edg a b) && (hasE l who (edg a c) && hasE l who (edg b c))
def trA (l : List Int) (who : Int) (b c : Nat) : Nat → List (List Int)
  | 0 => []
  | a + 1 => trA l who b c a ++ if monoB l who a b c = true then [[(edg a b : Int), (edg a c : Int), (edg b c : Int)]] else []
def trB (l : List Int) (who : Int) (c : Nat) : Nat → List (List Int)
  | 0 => []
  | b + 1 => trB l who c b ++ trA l who b c b
def trC (l : List Int) (who : Int) : Nat → List (List Int)
  | 0 => []
  | c + 1 => trC l who c ++ trB l who c c
theorem trA_length (l : List Int) (who : Int) (b c a : Nat) : (trA l who b c a).length ≤ a := by
  induction a with
  | zero => exact Nat.le_refl _
  | succ a ih => rw [trA, List.length_append]; split <;> simp <;> omega
theorem trB_length (l : List Int) (who : Int) (c b : Nat) : (trB l who c b).length ≤ b * b := by
  induction b with
  | zero => exact Nat.le_refl _
  | succ b ih =>
    rw [trB, List.length_append]
    have := trA_length l who b c b
    have h2 : (b + 1) * (b + 1) = b * b + 2 * b + 1 := by simp only [Nat.add_mul, Nat.mul_add]; omega
    omega
theorem trC_length (l : List Int) (who : Int) (c : Nat) : (trC l who c).length ≤ c * (c * c) := by
  induction c with
  | zero => exact Nat.le_refl _
  | succ c ih =>
    rw [trC, List.length_append]
    have := trB_length l who c c
    have h2 : c * (c * c) + c * c ≤ (c + 1) * ((c + 1) * (c + 1)) := by
      have a1 : c * (c * c) + c * c = (c + 1) * (c * c) := by rw [Nat.add_mul, Nat.one_mul]
      rw [a1]
      exact Nat.mul_le_mul (Nat.le_refl _) (Nat.mul_le_mul (by omega) (by omega))
    omega
theorem mask_true (n : Nat) : mask (fun _ => true) n + 1 = 2 ^ n := by
  induction n with
  | zero => rfl
  | succ n ih =>
    rw [mask, if_pos rfl, Nat.pow_succ]
    have h := mask_lt (fun _ => true) n
    have : mask (fun _ => true) n ||| 2 ^ n = mask (fun _ => true) n + 2 ^ n := by
      rw [Nat.or_comm, ← Nat.mul_one (2 ^ n), ← Nat.two_pow_add_eq_or_of_lt h]; omega
    omega
/-- the edges below n that all of T hold, as bits -/
def comm (n : Nat) (T : List (List Int)) : Nat := mask (fun e => T.all fun t => t.contains (e : Int)) n
theorem comm_snoc {n a b c : Nat} {T : List (List Int)} (ha : a < n) (hb : b < n) (hc : c < n) : comm n T &&& (2 ^ a ||| 2 ^ b ||| 2 ^ c) = comm n (T ++ [[(a : Int), (b : Int), (c : Int)]]) := by
  apply Nat.eq_of_testBit_eq
  intro j
  unfold comm
  rw [Nat.testBit_and, Nat.testBit_or, Nat.testBit_or, Nat.testBit_two_pow, Nat.testBit_two_pow, Nat.testBit_two_pow, testBit_mask, testBit_mask, List.all_append]
  by_cases hj : j < n
  · have e : [[(a : Int), (b : Int), (c : Int)]].all (fun t => t.contains (j : Int)) = (decide (a = j) || decide (b = j) || decide (c = j)) := by
      have q : ∀ u v : Nat, decide ((u : Int) = (v : Int)) = decide (v = u) := fun u v => decide_eq_decide.mpr (by omega)
      simp [List.contains_cons, q, Bool.or_assoc]
    rw [e, Bool.and_assoc]
  · simp [hj]
theorem moverN_range (l : List Int) (hl : l.length < 1000) : -1000 ≤ moverN l ∧ moverN l ≤ 1000 := by
  have c0 := cnt_le (hasE l 0) l.length
  have c1 := cnt_le (hasE l 1) l.length
  unfold moverN manyN; omega
theorem isEmpty_yes {α : Type} {l : List α} (h : l.length = 0) : l.isEmpty = true := by cases l with | nil => rfl | cons => cases h
theorem isEmpty_no {α : Type} {l : List α} (h : l.length ≠ 0) : l.isEmpty = false := by cases l with | nil => exact absurd rfl h | cons => rfl
def posB (n : Nat) (l : List Int) : Bool :=
  decide (0 ≤ moverN l ∧ moverN l ≤ 1) && ((trC l (moverN l) n).isEmpty && ((trC l (1 - moverN l) n).isEmpty || decide (comm l.length (trC l (1 - moverN l) n) ≠ 0)))
theorem shape_of {n : Int} {l : List Int} (h : shapeB n l = true) : n.toNat ≤ 5 ∧ l.length = tri n.toNat ∧ ((n.toNat : Nat) : Int) = n ∧ allIn l (-1) 1 = true := by
  unfold shapeB at h
  simp only [Bool.and_eq_true, decide_eq_true_eq] at h
  exact ⟨by omega, by omega, by omega, h.2.2⟩
theorem trA_three {l : List Int} {who : Int} {b c : Nat} : ∀ a, ∀ t ∈ trA l who b c a, t.length = 3
  | 0, t, ht => by cases ht
  | a + 1, t, ht => by
    rw [trA] at ht
    rcases List.mem_append.mp ht with h | h
    · exact trA_three a t h
    · split at h
      · rw [List.mem_singleton.mp h]; rfl
      · cases h
theorem trB_three {l : List Int} {who : Int} {c : Nat} : ∀ b, ∀ t ∈ trB l who c b, t.length = 3
  | 0, t, ht => by cases ht
  | b + 1, t, ht => by
    rw [trB] at ht
    rcases List.mem_append.mp ht with h | h
    · exact trB_three b t h
    · exact trA_three b t h
theorem trC_three {l : List Int} {who : Int} : ∀ {c}, ∀ t ∈ trC l who c, t.length = 3
  | 0, t, ht => by cases ht
  | c + 1, t, ht => by
    rw [trC] at ht
    rcases List.mem_append.mp ht with h | h
    · exact trC_three t h
    · exact trB_three c t h
def posCode (n : Int) (l : List Int) : Int := if shapeB n l = true then (if posB n.toNat l = true then 0 else 1) else 2
theorem posCode_zero {n : Int} {l : List Int} (h : posCode n l = 0) : shapeB n l = true ∧ posB n.toNat l = true := by
  unfold posCode at h
  split at h
  · split at h
    · exact ⟨by assumption, by assumption⟩
    · omega
  · omega
def freeE (l : List Int) (j : Nat) : Bool := decide (l.getD j 0 < 0)
theorem free_many {l : List Int} (h : allIn l (-1) 1 = true) : (sel (freeE l) l.length).length = manyN l (-1) := by
  unfold manyN cnt
  rw [sel_congr (f := freeE l) (g := hasE l (-1)) fun j hj => ?_]
  have := allIn_mem h _ (List.getElem_mem hj)
  rw [← getD_at hj] at this
  exact decide_eq_decide.mpr (by omega)
/-- -1: goes on; 0, 1: who has won; 2: drawn -/
def resM (n : Int) (l : List Int) : Int := if (trC l (1 - moverN l) n.toNat).length > 0 then moverN l else (if (sel (freeE l) l.length).length = 0 then 2 else -1)
def movesM (n : Int) (l : List Int) : List Int := if resM n l ≥ 0 then [] else sel (freeE l) l.length
theorem MovesOf_short (n : Int) (l : List Int) : (if posCode n l = 0 then (movesM n l, 0) else (([] : List Int), posCode n l)).1.length ≤ 1000 := by
  split
  · next h =>
    obtain ⟨h1, h2, h3, h4⟩ := shape_of (posCode_zero h).1
    have hN : tri n.toNat ≤ 10 := tri_mono (n := 5) (by omega)
    have := sel_length (freeE l) l.length
    show (movesM n l).length ≤ 1000
    unfold movesM
    split
    · exact Nat.zero_le _
    · omega
  · exact Nat.zero_le _
/-- the move e makes no triangle -/
def safeB (n : Int) (l : List Int) (e : Nat) : Bool := decide ((trC (l.set e (moverN l)) (moverN l) n.toNat).length = 0)
def safeM (n : Int) (l : List Int) : List Int := (movesM n l).filter fun v => safeB n l v.toNat
theorem sel_filter (f g : Nat → Bool) (n : Nat) : ((sel f n).filter fun v => g v.toNat) = sel (fun j => f j && g j) n := by
  induction n with
  | zero => rfl
  | succ n ih =>
    rw [sel_succ, sel_succ, List.filter_append, ih]
    cases hf : f n <;> cases hg : g n <;> simp [hf, hg]
theorem SafeMoves_short (n : Int) (l : List Int) : (if posCode n l = 0 then (safeM n l, 0) else (([] : List Int), posCode n l)).1.length ≤ 1000 := by
  have := MovesOf_short n l
  split
  · next h =>
    rw [if_pos h] at this
    exact Nat.le_trans (List.length_filter_le _ _) this
  · exact Nat.zero_le _
def makeM (n : Int) (l : List Int) (e : Int) : List Int × Int :=
  if shapeB n l = true then (if 0 ≤ e ∧ e ≤ (l.length : Int) - 1 then (if posCode n l = 0 then (if resM n l ≥ 0 ∨ l.getD e.toNat 0 ≥ 0 then ([], 5) else (l.set e.toNat (moverN l), 0)) else ([], posCode n l)) else ([], 2)) else ([], 2)
theorem MakeMove_short (n : Int) (l : List Int) (e : Int) (hl : ¬ (l.length : Int) > 1048576) : (makeM n l e).1.length ≤ 1048576 := by
  unfold makeM
  split
  · split
    · split
      · split
        · exact Nat.zero_le _
        · show (l.set _ _).length ≤ _
          rw [List.length_set]; omega
      · exact Nat.zero_le _
    · exact Nat.zero_le _
  · exact Nat.zero_le _
/-! ### orders of points -/
/-- the writes of a renumbering, one by one: the pairs i < j, by j -/
def opB (p l : List Int) (j : Nat) : Nat → List (Nat × Int)
  | 0 => []
  | i + 1 => opB p l j i ++ [(edg (p.getD i 0).toNat (p.getD j 0).toNat, l.getD (edg i j) 0)]
def opC (p l : List Int) : Nat → List (Nat × Int)
  | 0 => []
  | j + 1 => opC p l j ++ opB p l j j
def sets (s : List Int) (o : List (Nat × Int)) : List Int := o.foldl (fun s q => s.set q.1 q.2) s
theorem sets_length (s : List Int) (o : List (Nat × Int)) : (sets s o).length = s.length := by
  induction o generalizing s with
  | nil => rfl
  | cons q o ih => show (sets (s.set q.1 q.2) o).length = _; rw [ih, List.length_set]
theorem sets_snoc (s : List Int) (o : List (Nat × Int)) (q : Nat × Int) : sets s (o ++ [q]) = (sets s o).set q.1 q.2 := by unfold sets; rw [List.foldl_append]; rfl
theorem sets_append (s : List Int) (o o' : List (Nat × Int)) : sets s (o ++ o') = sets (sets s o) o' := by unfold sets; rw [List.foldl_append]
theorem sets_same {s t : List Int} (hl : s.length = t.length) (o : List (Nat × Int)) (e : Nat) (h : s[e]? = t[e]? ∨ e ∈ o.map (·.1)) : (sets s o)[e]? = (sets t o)[e]? := by
  induction o generalizing s t with
  | nil =>
    rcases h with h | h
    · exact h
    · cases h
  | cons q o ih =>
    show (sets (s.set q.1 q.2) o)[e]? = (sets (t.set q.1 q.2) o)[e]?
    refine ih (by simpa using hl) ?_
    by_cases hq : q.1 = e
    · left
      rw [hq, List.getElem?_set_self', List.getElem?_set_self']
      by_cases hs : e < s.length
      · rw [List.getElem?_eq_getElem hs, List.getElem?_eq_getElem (by omega)]; rfl
      · rw [List.getElem?_eq_none (by omega), List.getElem?_eq_none (by omega)]
    · rcases h with h | h
      · left; rw [List.getElem?_set_ne hq, List.getElem?_set_ne hq]; exact h
      · right
        rw [List.map_cons] at h
        rcases List.mem_cons.mp h with h | h
        · exact absurd h.symm hq
        · exact h
def goodP (n : Nat) (p : List Int) : Bool :=
  decide (p.length = n) && (List.range n).all fun j => decide (0 ≤ p.getD j 0 ∧ p.getD j 0 < n) && (List.range j).all fun i => decide (p.getD i 0 ≠ p.getD j 0)
def coverP (n : Nat) (p : List Int) : Bool :=
  (List.range (tri n)).all fun e => (List.range n).any fun j => (List.range j).any fun i => decide (edg (p.getD i 0).toNat (p.getD j 0).toNat = e)
def ords (n : Nat) : Nat → List Int → List (List Int)
  | 0, b => [b]
  | d + 1, b => (List.range n).flatMap fun (i : Nat) => if b.contains (i : Int) = true then [] else ords n d (b ++ [(i : Int)])
theorem ords_good : ∀ n, n ≤ 5 → ((ords n n []).all fun p => goodP n p && coverP n p) = true
  | 0, _ => by decide +kernel
  | 1, _ => by decide +kernel
  | 2, _ => by decide +kernel
  | 3, _ => by decide +kernel
  | 4, _ => by decide +kernel
  | 5, _ => by decide +kernel
  | n + 6, h => by omega
theorem ords_length (n d : Nat) (hn : n ≤ 5) : ∀ b, (ords n d b).length ≤ 5 ^ d := by
  induction d with
  | zero => intro b; exact Nat.le_refl _
  | succ d ih =>
    intro b
    have : ∀ m, ((List.range m).flatMap fun (i : Nat) => if b.contains (i : Int) = true then [] else ords n d (b ++ [(i : Int)])).length ≤ m * 5 ^ d := by
      intro m
      induction m with
      | zero => simp
      | succ m ihm =>
        rw [List.range_succ, List.flatMap_append, List.length_append, Nat.succ_mul]
        refine Nat.add_le_add ihm ?_
        simp only [List.flatMap_cons, List.flatMap_nil, List.append_nil]
        split
        · exact Nat.zero_le _
        · exact ih _
    refine Nat.le_trans (this n) ?_
    rw [Nat.pow_succ, Nat.mul_comm]
    exact Nat.mul_le_mul (Nat.le_refl _) hn
/-- the first list comes ahead -/
def ltL : List Int → List Int → Bool
  | a :: s, b :: t => if a ≠ b then decide (a < b) else ltL s t
  | _, _ => false
def renumP (l p : List Int) (n : Nat) : List Int := sets l (opC p l n)
def stepP (l : List Int) (n : Nat) (best p : List Int) : List Int := if ltL (renumP l p n) best = true then renumP l p n else best
theorem goodP_at {n : Nat} {p : List Int} (h : goodP n p = true) : p.length = n ∧ (∀ j, j < n → ∃ a : Nat, p.getD j 0 = (a : Int) ∧ a < n) ∧ ∀ i j, i < j → j < n → p.getD i 0 ≠ p.getD j 0 := by
  unfold goodP at h
  simp only [Bool.and_eq_true, decide_eq_true_eq, List.all_eq_true, List.mem_range] at h
  refine ⟨h.1, fun j hj => ?_, fun i j hij hj => (h.2 j hj).2 i hij⟩
  obtain ⟨a, ha⟩ := Int.eq_ofNat_of_zero_le (h.2 j hj).1.1
  exact ⟨a, ha, by have := (h.2 j hj).1.2; omega⟩
theorem opC_mem {p l : List Int} {n i j : Nat} (hij : i < j) (hj : j < n) : edg (p.getD i 0).toNat (p.getD j 0).toNat ∈ (opC p l n).map (·.1) := by
  have hB : ∀ m, i < m → edg (p.getD i 0).toNat (p.getD j 0).toNat ∈ (opB p l j m).map (·.1) := by
    intro m
    induction m with
    | zero => intro h; omega
    | succ m ih =>
      intro h
      rw [opB, List.map_append]
      by_cases hm : i = m
      · subst hm; exact List.mem_append_right _ (by simp)
      · exact List.mem_append_left _ (ih (by omega))
  induction n with
  | zero => omega
  | succ n ih =>
    rw [opC, List.map_append]
    by_cases hn : j = n
    · subst hn; exact List.mem_append_right _ (hB j hij)
    · exact List.mem_append_left _ (ih (by omega))
theorem renum_zero {n : Nat} {l p s : List Int} (hl : l.length = tri n) (hs : s.length = l.length) (hc : coverP n p = true) : sets s (opC p l n) = renumP l p n := by
  apply List.ext_getElem?
  intro e
  unfold renumP
  refine sets_same hs _ e ?_
  by_cases he : e < tri n
  · right
    unfold coverP at hc
    simp only [List.all_eq_true, List.any_eq_true, List.mem_range, decide_eq_true_eq] at hc
    obtain ⟨j, hj, i, hi, hq⟩ := hc e he
    rw [← hq]
    exact opC_mem hi hj
  · left; rw [List.getElem?_eq_none (by omega), List.getElem?_eq_none (by omega)]
def leastM (n : Int) (l : List Int) : List Int := (ords n.toNat n.toNat []).foldl (stepP l n.toNat) l
theorem shape_one {n : Int} {l : List Int} (h : shapeB n l = true) : 1 ≤ n.toNat := by
  unfold shapeB at h
  simp only [Bool.and_eq_true, decide_eq_true_eq] at h
  omega
theorem LeastPosition_short (n : Int) (l : List Int) : (if posCode n l = 0 then (leastM n l, 0) else (([] : List Int), posCode n l)).1.length ≤ 1000 := by
  split
  · next h =>
    obtain ⟨h1, h2, h3, h4⟩ := shape_of (posCode_zero h).1
    have hN : tri n.toNat ≤ 10 := tri_mono (n := 5) (by omega)
    have hlen : ∀ (T : List (List Int)) (best : List Int), best.length = l.length → (T.foldl (stepP l n.toNat) best).length = l.length := by
      intro T
      induction T with
      | nil => intro best h; exact h
      | cons p T ih =>
        intro best h
        refine ih _ ?_
        unfold stepP; split
        · unfold renumP; rw [sets_length]
        · exact h
    show (leastM n l).length ≤ 1000
    unfold leastM
    rw [hlen _ _ rfl]; omega
  · exact Nat.zero_le _
/-- k0, k0 + 1, .. -/
def seqI (k0 : Int) (n : Nat) : List Int := (List.range n).map fun (j : Nat) => k0 + (j : Int)
end Go.Proofs.Ytbgniopmmankdaa.P
