/- What the pure functions come to, one by one (part 4). -/
import Derived.Test.YtbgniopmmankdaaPFnExactLeastForm3
import Derived.Test.YtbgniopmmankdaaGFnExactLeastForm7
namespace Go.Proofs.Ytbgniopmmankdaa.P
open Go Go.RowKit Go.Proofs.Ytbgniopmmankdaa.K Go.Proofs.Ytbgniopmmankdaa.G
set_option linter.unusedVariables false
set_option linter.unusedSimpArgs false

theorem impl_number_run (i j : Nat) (hi : i ≤ 1000) (hj : j ≤ 1000) : Run (fun _ => impl_number.f i j) (· = (edg i j : Int)) := by
  unfold impl_number.f
  have hm : (max i j) ≤ 1000 := by omega
  have ti := tri_mono hm
  have tt : tri 1000 = 499500 := rfl
  rw [show max (i : Int) (j : Int) = ((max i j : Nat) : Int) by omega, show min (i : Int) (j : Int) = ((min i j : Nat) : Int) by omega]
  refine Run.ret ?_
  rw [tri_int (by omega), w64_id (by omega), edg]
  split
  · rw [show max i j = i by omega, show min i j = j by omega]; rfl
  · rw [show max i j = j by omega, show min i j = i by omega]; rfl

theorem impl_Colouring_at_run (x : Col) (hx : ByteC x) (hp : 0 ≤ x.p ∧ x.p ≤ 17) (i j : Nat) (hi : (i : Int) < x.p) (hj : (j : Int) < x.p) (hn : i ≠ j) : Run (fun _ => impl_Colouring_at.f x i j) (· = colr x i j) := by
  unfold impl_Colouring_at.f
  refine Run.bindE (impl_number_run i j (by omega) (by omega)) ?_
  have := edg_lt136 (i := i) (j := j) (p := x.p.toNat) (by omega) (by omega) (by omega) hn
  refine Run.bindE (Run.getB' (by omega) (by omega)) ?_
  have hb := hx ((edg i j : Nat) : Int).toNat
  exact Run.ret (w64_id (by omega))

theorem impl_Colouring_put_run (x : Col) (i j : Nat) (c : Int) (hi : i < j) (hj : j < 17) : Run (fun _ => impl_Colouring_put.f x i j c) (· = ⟨x.p, x.k, upd x.e (tri j + i) (w8 c)⟩) := by
  unfold impl_Colouring_put.f
  refine Run.bindE (impl_number_run i j (by omega) (by omega)) ?_
  have := low136 hi hj
  rw [edg_low hi]
  refine Run.bindE (Run.getB' (by omega) (by omega)) ?_
  exact Run.ret rfl

theorem impl_Colouring_put_any (x : Col) (i j : Nat) (c : Int) (n : Nat) (hn : n ≤ 17) (hi : i < n) (hj : j < n) (hij : i ≠ j) : Run (fun _ => impl_Colouring_put.f x i j c) (· = Col.setE x (edg i j) (w8 c)) := by
  unfold impl_Colouring_put.f
  refine Run.bindE (impl_number_run i j (by omega) (by omega)) ?_
  have := edg_lt136 hn hi hj hij
  refine Run.bindE (Run.getB' (by omega) (by omega)) ?_
  exact Run.ret rfl
theorem impl_Colouring_renumbered_run (x : Col) (hx : ByteC x) (hp : 1 ≤ x.p ∧ x.p ≤ 17) (p : List Int) (hP : Perm x.p.toNat p) : Run (fun k => impl_Colouring_renumbered.f k x p) (· = renM x p) := by
  unfold impl_Colouring_renumbered.f
  have hl := hP.len
  refine Run.loop (L := fun q (z : Col × Int) => impl_Colouring_renumbered.l0 q x p z.1 z.2) (fun z => (x.p - z.2).toNat) (fun z => 0 ≤ z.2 ∧ z.2 ≤ x.p ∧ z.1 = renAll x p z.2.toNat) ?_ (_, 0) ⟨by simp only; omega, by simp only; omega, rfl⟩
  rintro ⟨y, j⟩ ⟨j0, j1, hy⟩ ih
  simp only at j0 j1 hy
  obtain ⟨j, rfl⟩ := Int.eq_ofNat_of_zero_le j0
  simp only [Int.toNat_natCast] at ih hy ⊢
  simp only [impl_Colouring_renumbered.l0]
  refine Run.ite (fun hj => ?_) (fun hj => Run.ret (by rw [hy, show j = x.p.toNat by omega]; rfl))
  refine Run.loop (L := fun q (z : Col × Int) => impl_Colouring_renumbered.l1 q x p (j : Int) z.1 z.2) (fun z => (j - z.2).toNat) (fun z => 0 ≤ z.2 ∧ z.2 ≤ j ∧ z.1 = renRow x p j z.2.toNat (renAll x p j)) ?_ (y, 0) ⟨by simp only; omega, by simp only; omega, hy⟩
  rintro ⟨u, i⟩ ⟨i0, i1, hu⟩ ih2
  simp only at i0 i1 hu
  obtain ⟨i, rfl⟩ := Int.eq_ofNat_of_zero_le i0
  simp only [Int.toNat_natCast] at ih2 hu ⊢
  simp only [impl_Colouring_renumbered.l1]
  refine Run.ite (fun hi => ?_) (fun hi => ?_)
  · have hij : i < j := by omega
    have hjn : j < x.p.toNat := by omega
    obtain ⟨a, ha, han⟩ := hP.val i (by omega)
    obtain ⟨b, hb, hbn⟩ := hP.val j hjn
    have hab : a ≠ b := fun e => hP.inj i j hij hjn (by rw [ha, hb, e])
    have ea : p[((i : Nat) : Int).toNat]'(by omega) = (a : Int) := by rw [← ha]; exact (getD_at (by omega)).symm
    have eb : p[((j : Nat) : Int).toNat]'(by omega) = (b : Int) := by rw [← hb]; exact (getD_at (by omega)).symm
    refine Run.bindE (Run.getI' (by omega) (by omega)) ?_
    refine Run.bindE (Run.getI' (by omega) (by omega)) ?_
    rw [ea, eb]
    refine Run.bindE (impl_Colouring_at_run x hx (by omega) i j (by omega) (by omega) (by omega)) ?_
    refine Run.bindE (impl_Colouring_put_any u a b _ x.p.toNat (by omega) han hbn hab) ?_
    rw [w64_id (x := (i : Int) + 1) (by omega)]
    refine ih2 (_, (i : Int) + 1) ⟨by simp only; omega, by simp only; omega, ?_⟩ (by simp only; omega)
    simp only
    rw [show ((i : Int) + 1).toNat = i + 1 by omega, renRow, ha, hb, hu]; rfl
  · rw [w64_id (x := (j : Int) + 1) (by omega)]
    refine ih (u, (j : Int) + 1) ⟨by simp only; omega, by simp only; omega, ?_⟩ (by simp only; omega)
    simp only
    rw [show ((j : Int) + 1).toNat = j + 1 by omega, renAll, hu, show i = j by omega]

theorem cmp_isNaN_byte_run (x : Int) : Run (fun _ => cmp_isNaN_byte.f x) (· = false) := by
  unfold cmp_isNaN_byte.f
  exact Run.ret (decide_eq_false fun h => h rfl)

theorem cmp_Compare_byte_run (x y : Int) : Run (fun _ => cmp_Compare_byte.f x y) (· = if x < y then -1 else if x > y then 1 else 0) := by
  unfold cmp_Compare_byte.f
  refine Run.bindE (cmp_isNaN_byte_run x) ?_
  refine Run.bindE (cmp_isNaN_byte_run y) ?_
  refine Run.no (by decide) (Run.no (by decide) ?_)
  refine Run.ite (fun h => Run.ret (by rw [if_pos h])) (fun h => ?_)
  rw [if_neg h]
  exact Run.ite (fun h => Run.ret (by rw [if_pos h])) (fun h => Run.ret (by rw [if_neg h]))

theorem slices_Compare_byte_byte_run (x y : Col) : Run (fun k => slices_Compare_byte_byte.f k (colL x) (colL y)) (fun v => decide (v < 0) = lexC x y 136 0) := by
  unfold slices_Compare_byte_byte.f
  refine Run.loop (L := fun q (z : Int) => slices_Compare_byte_byte.l0 q (colL x) (colL y) z) (fun z => (136 - z).toNat) (fun z => 0 ≤ z ∧ z ≤ 136 ∧ lexC x y (136 - z.toNat) z.toNat = lexC x y 136 0) ?_ 0 ⟨by omega, by omega, rfl⟩
  rintro i ⟨i0, i1, hi⟩ ih
  obtain ⟨i, rfl⟩ := Int.eq_ofNat_of_zero_le i0
  simp only [Int.toNat_natCast] at ih hi ⊢
  simp only [slices_Compare_byte_byte.l0, colL_len]
  refine Run.ite (fun h => ?_) (fun h => ?_)
  · refine Run.bindE (Run.getI' (by omega) (by rw [colL_len]; omega)) ?_
    refine Run.no (by omega) ?_
    refine Run.bindE (Run.getI' (by omega) (by rw [colL_len]; omega)) ?_
    rw [colL_at, colL_at]
    refine Run.bindE (cmp_Compare_byte_run _ _) ?_
    rw [show 136 - i = (136 - (i + 1)) + 1 by omega, lexC] at hi
    rw [w64_id (x := (i : Int) + 1) (by omega)]
    by_cases h1 : x.e i < y.e i
    · rw [if_pos h1]
      rw [if_pos (by omega), decide_eq_true h1] at hi
      refine Run.yes (by decide) (Run.ret ?_)
      rw [← hi]; rfl
    · rw [if_neg h1]
      by_cases h2 : x.e i > y.e i
      · rw [if_pos h2]
        rw [if_pos (by omega), decide_eq_false h1] at hi
        refine Run.yes (by decide) (Run.ret ?_)
        rw [← hi]; rfl
      · rw [if_neg h2]
        rw [if_neg (by omega)] at hi
        refine Run.no (by decide) ?_
        refine ih ((i : Int) + 1) ⟨by omega, by omega, ?_⟩ (by omega)
        rw [show ((i : Int) + 1).toNat = i + 1 by omega]
        exact hi
  · refine Run.no (by omega) (Run.ret ?_)
    rw [← hi, show 136 - i = 0 by omega]; rfl

theorem impl_LeastForm_run (x : Col) (hx : ByteC x) : Run (fun k => impl_LeastForm.f k x) (· = lfM x) := by
  unfold impl_LeastForm.f lfM
  refine Run.bindE (impl_Colouring_code__always_run x hx) ?_
  by_cases h : isB x = true
  rotate_left
  · have : given (isB x) true = 1 := by rw [given, if_neg h]
    rw [this, if_neg h]
    exact Run.no (by decide) (Run.ret rfl)
  have : given (isB x) true = 0 := by rw [given, if_pos h]; rfl
  rw [this, if_pos h]
  refine Run.yes rfl ?_
  have h17 := (isB_spec h).1
  refine Run.ite (fun h6 => Run.ret (by rw [if_pos h6])) (fun h6 => ?_)
  rw [if_neg h6]
  have ho := impl_orders_run6 x.p.toNat (by omega) x.p.toNat [] (by simp)
  rw [show ((x.p.toNat : Nat) : Int) = x.p by omega] at ho
  refine Run.bindE ho ?_
  have hperm := ords_perm x.p.toNat x.p.toNat [] (by simp) (fun i h => by simp at h) (fun i j _ h => by simp at h)
  have hlen := ords_len6 x.p.toNat x.p.toNat (by omega) []
  have h6d : 6 ^ x.p.toNat ≤ 6 ^ 6 := Nat.pow_le_pow_right (by omega) (by omega)
  generalize ords x.p.toNat x.p.toNat [] = T at hperm hlen
  refine Run.loop (L := fun q (z : Col × Int) => impl_LeastForm.l0 q x T z.1 z.2) (fun z => (T.length - z.2).toNat) (fun z => 0 ≤ z.2 ∧ z.2 ≤ T.length ∧ (T.drop z.2.toNat).foldl (formS x) z.1 = T.foldl (formS x) x) ?_ (x, 0) ⟨by simp only; omega, by simp only; omega, rfl⟩
  rintro ⟨b, i⟩ ⟨i0, i1, hb⟩ ih
  simp only at i0 i1 hb
  obtain ⟨i, rfl⟩ := Int.eq_ofNat_of_zero_le i0
  simp only [Int.toNat_natCast] at ih hb ⊢
  simp only [impl_LeastForm.l0]
  refine Run.ite (fun hi => ?_) (fun hi => ?_)
  · have hiT : i < T.length := by omega
    rw [show T.drop i = T[i]'hiT :: T.drop (i + 1) from List.drop_eq_getElem_cons hiT, List.foldl_cons] at hb
    have hP := hperm _ (List.getElem_mem hiT)
    refine Run.bindE (Run.getR' (by omega) hi) ?_
    simp only [Int.toNat_natCast]
    refine Run.bindE (impl_Colouring_renumbered_run x hx (by omega) _ hP) ?_
    refine Run.bind (slices_Compare_byte_byte_run _ _) fun v hv => ?_
    rw [w64_id (x := (i : Int) + 1) (by omega)]
    unfold formS at hb
    rw [← hv] at hb
    refine Run.ite (fun h1 => ?_) (fun h1 => ?_)
    · rw [if_pos (decide_eq_true h1)] at hb
      refine ih (_, (i : Int) + 1) ⟨by simp only; omega, by simp only; omega, ?_⟩ (by simp only; omega)
      simp only
      rw [show ((i : Int) + 1).toNat = i + 1 by omega]
      exact hb
    · rw [if_neg (fun h => h1 (of_decide_eq_true h))] at hb
      refine ih (_, (i : Int) + 1) ⟨by simp only; omega, by simp only; omega, ?_⟩ (by simp only; omega)
      simp only
      rw [show ((i : Int) + 1).toNat = i + 1 by omega]
      exact hb
  · rw [List.drop_eq_nil_of_le (by omega)] at hb
    refine Run.ret ?_
    rw [← hb]; rfl

theorem laws_eqByteA136_run (e : Nat → Int) : Run (fun k => laws_eqByteA136.f k e e) (· = true) := by
  unfold laws_eqByteA136.f
  refine Run.loop (L := fun q (i : Int) => laws_eqByteA136.l0 q e e i) (fun i => (136 - i).toNat) (fun i => 0 ≤ i ∧ i ≤ 136) ?_ 0 ⟨by omega, by omega⟩
  rintro i ⟨h0, h3⟩ ih
  simp only [laws_eqByteA136.l0]
  refine Run.ite (fun h => ?_) (fun h => ?_)
  · refine Run.bindE (Run.getB' h0 h) ?_
    refine Run.bindE (Run.getB' h0 h) ?_
    refine Run.no (fun hn => hn rfl) ?_
    rw [w64_id (by omega)]
    exact ih (i + 1) ⟨by omega, by omega⟩ (by omega)
  · exact Run.ret rfl

theorem laws_eqColouring_run (a : Col) : Run (fun k => laws_eqColouring.f k a a) (· = true) := by
  unfold laws_eqColouring.f
  refine Run.no (fun h => h rfl) (Run.no (fun h => h rfl) ?_)
  refine Run.bindE (laws_eqByteA136_run a.e) ?_
  exact Run.yes rfl (Run.ret rfl)

theorem laws_FnExactLeastForm_run (x : Col) (hx : ByteC x) : Run (fun k => laws_FnExactLeastForm.f k x) (· = true) := by
  unfold laws_FnExactLeastForm.f
  have hx' := cutC_bytes hx
  refine Run.bindE (laws_toColouring_run x) ?_
  refine Run.bindE (spec_LeastForm_run _ hx') ?_
  refine Run.bindE (laws_toColouring_run x) ?_
  refine Run.bindE (impl_LeastForm_run _ hx') ?_
  refine Run.bindE (laws_eqColouring_run _) ?_
  exact Run.yes rfl (Run.no (fun h => h rfl) (Run.ret rfl))
end Go.Proofs.Ytbgniopmmankdaa.P
