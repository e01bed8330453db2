/- What the pure functions come to, one by one (part 2). -/
import Derived.Test.YtfhbamlpnicomaaPFnExactListOfCircular1
import Derived.Test.YtfhbamlpnicomaaGFnExactListOfCircular4
namespace Go.Proofs.Ytfhbamlpnicomaa.P
open Go Go.RowKit Go.Proofs.Ytfhbamlpnicomaa.K Go.Proofs.Ytfhbamlpnicomaa.G
set_option linter.unusedVariables false
set_option linter.unusedSimpArgs false

theorem impl_Colouring_isColouring_run (x : Col) (hx : ByteC x) : Run (fun k => impl_Colouring_isColouring.f k x) (· = isB x) := by
  unfold impl_Colouring_isColouring.f
  refine Run.bindE (impl_in_run _ _ _) ?_
  refine Run.itn (fun h1 => ?_) (fun h1 => ?_)
  · exact Run.ret (decide_eq_false fun h => h1 (decide_eq_true h.1)).symm
  refine Run.bindE (impl_in_run _ _ _) ?_
  refine Run.itn (fun h2 => ?_) (fun h2 => ?_)
  · exact Run.ret (decide_eq_false fun h => h2 (decide_eq_true h.2.1)).symm
  have hp := of_decide_eq_true h1
  have hk := of_decide_eq_true h2
  refine Run.loop (L := fun q (i : Int) => impl_Colouring_isColouring.l0 q x i) (fun i => (136 - i).toNat) (fun i => 0 ≤ i ∧ i ≤ 136 ∧ ∀ j : Nat, (j : Int) < i → (if j < tri x.p.toNat then x.e j < x.k else x.e j = 0)) ?_ 0 ⟨by omega, by omega, fun j hj => by omega⟩
  rintro i ⟨h0, h3, hJ⟩ ih
  simp only [impl_Colouring_isColouring.l0]
  refine Run.ite (fun h => ?_) (fun h => ?_)
  · refine Run.bindE (Run.getB' h0 h) ?_
    have hb := hx i.toNat
    rw [w64_id (x := x.e i.toNat) (by omega)]
    refine Run.ite (fun h5 => ?_) (fun h5 => ?_)
    · refine Run.ret (decide_eq_false fun hc => ?_).symm
      have := hc.2.2 i.toNat (by omega)
      by_cases h6 : i.toNat < tri x.p.toNat
      · rw [if_pos h6] at this; omega
      · rw [if_neg h6] at this; omega
    · refine Run.bindE (impl_Colouring_edges_run x (by omega)) ?_
      rw [w64_id (x := i + 1) (by omega)]
      refine Run.ite (fun h4 => ?_) (fun h4 => ?_)
      · refine Run.ite (fun h7 => ?_) (fun h7 => ?_)
        · refine Run.ret (decide_eq_false fun hc => ?_).symm
          have := hc.2.2 i.toNat (by omega)
          rw [if_neg (by omega)] at this; omega
        · refine ih (i + 1) ⟨by omega, by omega, fun j hj => ?_⟩ (by omega)
          by_cases ej : (j : Int) < i
          · exact hJ j ej
          · obtain rfl : j = i.toNat := by omega
            rw [if_neg (by omega)]; omega
      · refine ih (i + 1) ⟨by omega, by omega, fun j hj => ?_⟩ (by omega)
        by_cases ej : (j : Int) < i
        · exact hJ j ej
        · obtain rfl : j = i.toNat := by omega
          rw [if_pos (by omega)]; omega
  · refine Run.ret (decide_eq_true ⟨hp, hk, fun j hj => hJ j (by omega)⟩).symm

theorem impl_always_run : Run (fun _ => impl_always.f) (· = true) := by
  unfold impl_always.f
  exact Run.ret rfl

theorem impl_Colouring_code__always_run (x : Col) (hx : ByteC x) : Run (fun k => impl_Colouring_code__always.f k x) (· = given (isB x) true) := by
  unfold impl_Colouring_code__always.f
  refine Run.bindE (impl_Colouring_isColouring_run x hx) ?_
  refine Run.itn (fun h1 => ?_) (fun h1 => ?_)
  · exact Run.ret (by rw [given, if_neg h1])
  rw [given, if_pos h1]
  refine Run.bindE (impl_always_run) ?_
  exact Run.ite (fun h3 => Run.ret (by rw [if_pos h3])) (fun h3 => Run.ret (by rw [if_neg h3]))

theorem impl_number_run (i j : Nat) (hi : i ≤ 1000) (hj : j ≤ 1000) : Run (fun _ => impl_number.f i j) (· = (edg i j : Int)) := by
  unfold impl_number.f
  have hm : (max i j) ≤ 1000 := by omega
  have ti := tri_mono hm
  have tt : tri 1000 = 499500 := rfl
  rw [show max (i : Int) (j : Int) = ((max i j : Nat) : Int) by omega, show min (i : Int) (j : Int) = ((min i j : Nat) : Int) by omega]
  refine Run.ret ?_
  rw [tri_int (by omega), w64_id (by omega), edg]
  split
  · rw [show max i j = i by omega, show min i j = j by omega]; rfl
  · rw [show max i j = j by omega, show min i j = i by omega]; rfl

theorem impl_Colouring_at_run (x : Col) (hx : ByteC x) (hp : 0 ≤ x.p ∧ x.p ≤ 17) (i j : Nat) (hi : (i : Int) < x.p) (hj : (j : Int) < x.p) (hn : i ≠ j) : Run (fun _ => impl_Colouring_at.f x i j) (· = colr x i j) := by
  unfold impl_Colouring_at.f
  refine Run.bindE (impl_number_run i j (by omega) (by omega)) ?_
  have := edg_lt136 (i := i) (j := j) (p := x.p.toNat) (by omega) (by omega) (by omega) hn
  refine Run.bindE (Run.getB' (by omega) (by omega)) ?_
  have hb := hx ((edg i j : Nat) : Int).toNat
  exact Run.ret (w64_id (by omega))

theorem impl_distance_run (i j n : Nat) (hij : i ≤ j) (hj : j ≤ n) (hn : n ≤ 1000) : Run (fun _ => impl_distance.f n i j) (· = (min (j - i) (n - (j - i)) : Nat)) := by
  unfold impl_distance.f
  refine Run.ret ?_
  rw [show max (i : Int) (j : Int) = j by omega, show min (i : Int) (j : Int) = i by omega, w64_id (x := (j : Int) - i) (by omega), w64_id (x := (n : Int) - ((j : Int) - i)) (by omega)]
  omega

theorem impl_circularOf_1_run (i j n : Nat) (l : List Int) (hij : i < j) (hj : j < n) (hn : n ≤ 17) (hl : l.length = n / 2) : Run (fun _ => impl_circularOf_1.f i j l n) (· = l.getD (min (j - i) (n - (j - i)) - 1) 0) := by
  unfold impl_circularOf_1.f
  refine Run.bindE (impl_distance_run i j n (by omega) (by omega) (by omega)) ?_
  rw [w64_id (by omega)]
  refine Run.bindE (Run.getI' (by omega) (by omega)) ?_
  refine Run.ret ?_
  rw [List.getD_eq_getElem?_getD, List.getElem?_eq_getElem (by omega), Option.getD_some]
  congr 1
  omega

theorem impl_Colouring_put_run (x : Col) (i j : Nat) (c : Int) (hi : i < j) (hj : j < 17) : Run (fun _ => impl_Colouring_put.f x i j c) (· = ⟨x.p, x.k, upd x.e (tri j + i) (w8 c)⟩) := by
  unfold impl_Colouring_put.f
  refine Run.bindE (impl_number_run i j (by omega) (by omega)) ?_
  have := low136 hi hj
  rw [edg_low hi]
  refine Run.bindE (Run.getB' (by omega) (by omega)) ?_
  exact Run.ret rfl

theorem impl_made__circularOf_1_run (l : List Int) (K : Int) (n : Nat) (hn : n ≤ 17) (hl : l.length = n / 2) : Run (fun k => impl_made__circularOf_1.f k n K l n) (· = ⟨n, K, madeE (fun i j => (l).getD (min (j - i) (n - (j - i)) - 1) 0) n⟩) := by
  unfold impl_made__circularOf_1.f
  refine Run.loop (L := fun q (z : Col × Int) => impl_made__circularOf_1.l0 q n l n z.1 z.2) (fun z => (n - z.2).toNat) (fun z => 0 ≤ z.2 ∧ z.2 ≤ n ∧ z.1 = ⟨n, K, madeE (fun i j => (l).getD (min (j - i) (n - (j - i)) - 1) 0) z.2.toNat⟩) ?_ (_, 0) ⟨by simp only; omega, by simp only; omega, rfl⟩
  rintro ⟨y, j⟩ ⟨h0, h3, hy⟩ ih
  simp only at h0 h3 hy
  subst hy
  simp only [impl_made__circularOf_1.l0]
  obtain ⟨j, rfl⟩ := Int.eq_ofNat_of_zero_le h0
  simp only [Int.toNat_natCast] at ih ⊢
  refine Run.ite (fun h => ?_) (fun h => ?_)
  · refine Run.loop (L := fun q (z : Col × Int) => impl_made__circularOf_1.l1 q n l n j z.1 z.2) (fun z => (j - z.2).toNat) (fun z => 0 ≤ z.2 ∧ z.2 ≤ j ∧ z.1 = ⟨n, K, rowE (fun i j => (l).getD (min (j - i) (n - (j - i)) - 1) 0) j (madeE (fun i j => (l).getD (min (j - i) (n - (j - i)) - 1) 0) j) z.2.toNat⟩) ?_ (_, 0) ⟨by simp only; omega, by simp only; omega, rfl⟩
    rintro ⟨y, i⟩ ⟨g0, g3, hy⟩ ih2
    simp only at g0 g3 hy
    subst hy
    simp only [impl_made__circularOf_1.l1]
    obtain ⟨i, rfl⟩ := Int.eq_ofNat_of_zero_le g0
    simp only [Int.toNat_natCast] at ih2 ⊢
    refine Run.ite (fun h' => ?_) (fun h' => ?_)
    · refine Run.bindE (impl_circularOf_1_run i j n l (by omega) (by omega) hn hl) ?_
      refine Run.bindE (impl_Colouring_put_run _ i j _ (by omega) (by omega)) ?_
      rw [w64_id (x := (i : Int) + 1) (by omega)]
      refine ih2 (_, (i : Int) + 1) ⟨by simp only; omega, by simp only; omega, ?_⟩ (by simp only; omega)
      simp only
      rw [show ((i : Int) + 1).toNat = i + 1 by omega, rowE]
    · rw [w64_id (x := (j : Int) + 1) (by omega)]
      refine ih (_, (j : Int) + 1) ⟨by simp only; omega, by simp only; omega, ?_⟩ (by simp only; omega)
      simp only
      rw [show ((j : Int) + 1).toNat = j + 1 by omega, madeE, show i = j by omega]
  · refine Run.ret ?_
    rw [show j = n by omega]

theorem impl_circularOf_run (n : Nat) (K : Int) (l : List Int) (hn : n ≤ 17) (hl : l.length = n / 2) : Run (fun k => impl_circularOf.f k n K l) (· = ⟨n, K, madeE (fun i j => (l).getD (min (j - i) (n - (j - i)) - 1) 0) n⟩) := by
  unfold impl_circularOf.f
  refine Run.bindE (impl_made__circularOf_1_run l K n hn hl) ?_
  exact Run.ret rfl

theorem impl_Colouring_listOfCircular_run (x : Col) (hx : ByteC x) (hp : 0 ≤ x.p ∧ x.p ≤ 17) : Run (fun k => impl_Colouring_listOfCircular.f k x) (· = circM x) := by
  unfold impl_Colouring_listOfCircular.f
  rw [circM]
  refine Run.ite (fun h => Run.ret (by rw [if_pos h])) (fun h => ?_)
  rw [if_neg h]
  have et : w64 (Int.tdiv x.p 2) = ((x.p.toNat / 2 : Nat) : Int) := by
    have e0 : x.p = ((x.p.toNat : Nat) : Int) := by omega
    have e1 : Int.tdiv ((x.p.toNat : Nat) : Int) 2 = ((x.p.toNat / 2 : Nat) : Int) := rfl
    rw [e0, e1, Int.toNat_natCast, w64_id (by omega)]
  refine Run.loop (L := fun q (z : List Int × Int) => impl_Colouring_listOfCircular.l0 q x z.1 z.2) (fun z => (x.p - z.2).toNat) (fun z => 1 ≤ z.2 ∧ z.2 ≤ (x.p.toNat / 2 : Nat) + 1 ∧ z.1 = (List.range (z.2.toNat - 1)).map fun d => colr x 0 (d + 1)) ?_ ([], 1) ⟨by simp only; omega, by simp only; omega, rfl⟩
  rintro ⟨l, j⟩ ⟨h0, h3, hl⟩ ih
  simp only at h0 h3 hl
  subst hl
  simp only [impl_Colouring_listOfCircular.l0]
  rw [et]
  obtain ⟨j, rfl⟩ := Int.eq_ofNat_of_zero_le (show 0 ≤ j by omega)
  simp only [Int.toNat_natCast] at ih ⊢
  refine Run.ite (fun h => ?_) (fun h => ?_)
  · refine Run.bindE (impl_Colouring_at_run x hx hp 0 j (by omega) (by omega) (by omega)) ?_
    refine Run.bindE (Run.push' (by simp; omega)) ?_
    rw [w64_id (x := (j : Int) + 1) (by omega)]
    refine ih (_, (j : Int) + 1) ⟨by simp only; omega, by simp only; omega, ?_⟩ (by simp only; omega)
    simp only
    rw [show ((j : Int) + 1).toNat - 1 = (j - 1) + 1 by omega, List.range_succ, List.map_append, List.map_cons, List.map_nil, show j - 1 + 1 = j by omega]
  · rw [show j - 1 = x.p.toNat / 2 by omega]
    have hcirc := fun (n : Nat) (K : Int) (l : List Int) (hn : n ≤ 17) (h1 : 1 ≤ n) (hl : l.length = n / 2) => impl_circularOf_run n K l hn hl
    have := hcirc x.p.toNat x.k ((List.range (x.p.toNat / 2)).map fun d => colr x 0 (d + 1)) (by omega) (by omega) (by simp)
    rw [show ((x.p.toNat : Nat) : Int) = x.p by omega] at this
    refine Run.bindE this ?_
    exact Run.ret rfl

theorem impl_ListOfCircular_run (x : Col) (hx : ByteC x) : Run (fun k => impl_ListOfCircular.f k x) (· = listM x) := by
  unfold impl_ListOfCircular.f
  rw [listM]
  refine Run.bindE (impl_Colouring_code__always_run x hx) ?_
  by_cases h : isB x = true
  · rw [given, if_pos h, if_pos rfl, if_pos h]
    refine Run.no (fun h => h rfl) ?_
    have hp := (isB_spec h).1
    refine Run.bindE (impl_Colouring_listOfCircular_run x hx (by omega)) ?_
    exact Run.ite (fun h => Run.ret (by rw [if_pos h])) (fun h => Run.ret (by rw [if_neg h]))
  · rw [given, if_neg h, if_neg h]
    exact Run.yes (by decide) (Run.ret rfl)

theorem laws_eqInt64S_run (a b : List Int) (ha : a.length < 4611686018427387904) : Run (fun k => laws_eqInt64S.f k a b) (· = decide (a = b)) := by
  unfold laws_eqInt64S.f
  refine Run.ite (fun h => ?_) (fun h => ?_)
  · exact Run.ret (decide_eq_false fun e => h (by rw [e])).symm
  have hl : a.length = b.length := by omega
  refine Run.loop (L := fun q (i : Int) => laws_eqInt64S.l0 q a b i) (fun i => (a.length - i).toNat) (fun i => 0 ≤ i ∧ i ≤ a.length ∧ ∀ (j : Nat) (h : j < a.length), (j : Int) < i → a[j] = b[j]'(by omega)) ?_ 0 ⟨by omega, by omega, fun j _ hj => by omega⟩
  rintro i ⟨h0, h3, hJ⟩ ih
  simp only [laws_eqInt64S.l0]
  refine Run.ite (fun h => ?_) (fun h => ?_)
  · refine Run.bindE (Run.getI' h0 h) ?_
    refine Run.bindE (Run.getI' h0 (by omega)) ?_
    refine Run.ite (fun h5 => ?_) (fun h5 => ?_)
    · exact Run.ret (decide_eq_false fun e => h5 (by simp only [e])).symm
    · rw [w64_id (by omega)]
      refine ih (i + 1) ⟨by omega, by omega, fun j hj hji => ?_⟩ (by omega)
      by_cases ej : (j : Int) < i
      · exact hJ j hj ej
      · obtain rfl : j = i.toNat := by omega
        exact Decidable.not_not.mp h5
  · exact Run.ret (decide_eq_true (List.ext_getElem hl fun j h1 h2 => hJ j h1 (by omega))).symm
end Go.Proofs.Ytfhbamlpnicomaa.P
