/- What the pure functions come to, one by one (part 2). -/
import Derived.Test.YtfhbamlpnicomaaPFnExactCommonNeighbours1
import Derived.Test.YtfhbamlpnicomaaGFnExactCommonNeighbours5
namespace Go.Proofs.Ytfhbamlpnicomaa.P
open Go Go.RowKit Go.Proofs.Ytfhbamlpnicomaa.K Go.Proofs.Ytfhbamlpnicomaa.G
set_option linter.unusedVariables false
set_option linter.unusedSimpArgs false

theorem spec_CommonNeighbours_run (x : Col) (hx : ByteC x) (i j c : Int) : Run (fun k => spec_CommonNeighbours.f k x i j c) (· = commonM x i j c) := by
  unfold spec_CommonNeighbours.f
  refine Run.bindE (spec_l01Given_run x hx c [i, j] (by simp)) ?_
  have eo : (decide (0 ≤ c ∧ c ≤ x.k - 1) && allIn [i, j] 0 (x.p - 1)) = (decide (0 ≤ c ∧ c ≤ x.k - 1) && (decide (0 ≤ i ∧ i ≤ x.p - 1) && decide (0 ≤ j ∧ j ≤ x.p - 1))) := by simp [allIn]
  rw [eo, commonM]
  refine Run.itn (fun h => ?_) (fun h => ?_)
  · have hn : ¬ given (isB x) (decide (0 ≤ i ∧ i ≤ x.p - 1) && decide (0 ≤ j ∧ j ≤ x.p - 1) && decide (i ≠ j) && decide (0 ≤ c ∧ c ≤ x.k - 1)) = 0 := by
      intro hg; apply h
      obtain ⟨g1, g2⟩ := given_zero hg
      simp only [Bool.and_eq_true] at g2
      rw [given, if_pos g1, if_pos (by simp only [Bool.and_eq_true]; exact ⟨g2.2, g2.1.1⟩)]
    refine Run.ret ?_
    rw [if_neg hn]
    by_cases hb : isB x = true
    · rw [given, given, if_pos hb, if_pos hb, if_neg, if_neg]
      · intro hq; apply hn; rw [given, if_pos hb, if_pos hq]
      · intro hq; apply h; rw [given, if_pos hb, if_pos hq]
    · rw [given, given, if_neg hb, if_neg hb]
  obtain ⟨h1, h2⟩ := given_zero h
  refine Run.ite (fun he => ?_) (fun he => ?_)
  · have hn : given (isB x) (decide (0 ≤ i ∧ i ≤ x.p - 1) && decide (0 ≤ j ∧ j ≤ x.p - 1) && decide (i ≠ j) && decide (0 ≤ c ∧ c ≤ x.k - 1)) = 2 := by rw [given, if_pos h1, if_neg (by simp [he])]
    exact Run.ret (by rw [hn]; rfl)
  have hn : given (isB x) (decide (0 ≤ i ∧ i ≤ x.p - 1) && decide (0 ≤ j ∧ j ≤ x.p - 1) && decide (i ≠ j) && decide (0 ≤ c ∧ c ≤ x.k - 1)) = 0 := by
    rw [given, if_pos h1, if_pos]
    simp only [Bool.and_eq_true] at h2 ⊢
    exact ⟨⟨h2.2, decide_eq_true he⟩, h2.1⟩
  rw [if_pos hn]
  have hc := isB_spec h1
  simp only [Bool.and_eq_true, decide_eq_true_eq] at h2
  obtain ⟨i, rfl⟩ := Int.eq_ofNat_of_zero_le h2.2.1.1
  obtain ⟨j, rfl⟩ := Int.eq_ofNat_of_zero_le h2.2.2.1
  have h17 := hc.1
  refine Run.bindE (spec_l01Around_run x hx (by omega) i c (by omega)) ?_
  refine Run.bindE (spec_l01Around_run x hx (by omega) j c (by omega)) ?_
  have hm := mask_lt (joinsB x i c) x.p.toNat
  have hm' := mask_lt (joinsB x j c) x.p.toNat
  have hm'' := mask_lt (fun t => joinsB x i c t && joinsB x j c t) x.p.toNat
  have hm2 : (2 : Nat) ^ x.p.toNat ≤ 2 ^ 17 := Nat.pow_le_pow_right (by omega) (by omega)
  rw [and64 (by omega) (by omega), mask_and]
  refine Run.bindE (spec_l01Points_run _ (by omega)) ?_
  rw [sel_mask (by omega)]
  exact Run.ret rfl

theorem impl_in_run (n low high : Int) : Run (fun _ => impl_in.f n low high) (· = decide (low ≤ n ∧ n ≤ high)) := by
  unfold impl_in.f
  refine Run.ite (fun h => ?_) (fun h => ?_)
  · refine Run.ret (decide_eq_decide.mpr ?_); omega
  · refine Run.ret ((decide_eq_false ?_).symm); omega

theorem impl_Colouring_edges_run (x : Col) (hp : 0 ≤ x.p ∧ x.p ≤ 1000) : Run (fun _ => impl_Colouring_edges.f x) (· = (tri x.p.toNat : Int)) := by
  unfold impl_Colouring_edges.f
  have := tri_int (n := x.p.toNat) (by omega)
  rw [show ((x.p.toNat : Nat) : Int) = x.p by omega] at this
  exact Run.ret this

theorem impl_Colouring_isColouring_run (x : Col) (hx : ByteC x) : Run (fun k => impl_Colouring_isColouring.f k x) (· = isB x) := by
  unfold impl_Colouring_isColouring.f
  refine Run.bindE (impl_in_run _ _ _) ?_
  refine Run.itn (fun h1 => ?_) (fun h1 => ?_)
  · exact Run.ret (decide_eq_false fun h => h1 (decide_eq_true h.1)).symm
  refine Run.bindE (impl_in_run _ _ _) ?_
  refine Run.itn (fun h2 => ?_) (fun h2 => ?_)
  · exact Run.ret (decide_eq_false fun h => h2 (decide_eq_true h.2.1)).symm
  have hp := of_decide_eq_true h1
  have hk := of_decide_eq_true h2
  refine Run.loop (L := fun q (i : Int) => impl_Colouring_isColouring.l0 q x i) (fun i => (136 - i).toNat) (fun i => 0 ≤ i ∧ i ≤ 136 ∧ ∀ j : Nat, (j : Int) < i → (if j < tri x.p.toNat then x.e j < x.k else x.e j = 0)) ?_ 0 ⟨by omega, by omega, fun j hj => by omega⟩
  rintro i ⟨h0, h3, hJ⟩ ih
  simp only [impl_Colouring_isColouring.l0]
  refine Run.ite (fun h => ?_) (fun h => ?_)
  · refine Run.bindE (Run.getB' h0 h) ?_
    have hb := hx i.toNat
    rw [w64_id (x := x.e i.toNat) (by omega)]
    refine Run.ite (fun h5 => ?_) (fun h5 => ?_)
    · refine Run.ret (decide_eq_false fun hc => ?_).symm
      have := hc.2.2 i.toNat (by omega)
      by_cases h6 : i.toNat < tri x.p.toNat
      · rw [if_pos h6] at this; omega
      · rw [if_neg h6] at this; omega
    · refine Run.bindE (impl_Colouring_edges_run x (by omega)) ?_
      rw [w64_id (x := i + 1) (by omega)]
      refine Run.ite (fun h4 => ?_) (fun h4 => ?_)
      · refine Run.ite (fun h7 => ?_) (fun h7 => ?_)
        · refine Run.ret (decide_eq_false fun hc => ?_).symm
          have := hc.2.2 i.toNat (by omega)
          rw [if_neg (by omega)] at this; omega
        · refine ih (i + 1) ⟨by omega, by omega, fun j hj => ?_⟩ (by omega)
          by_cases ej : (j : Int) < i
          · exact hJ j ej
          · obtain rfl : j = i.toNat := by omega
            rw [if_neg (by omega)]; omega
      · refine ih (i + 1) ⟨by omega, by omega, fun j hj => ?_⟩ (by omega)
        by_cases ej : (j : Int) < i
        · exact hJ j ej
        · obtain rfl : j = i.toNat := by omega
          rw [if_pos (by omega)]; omega
  · refine Run.ret (decide_eq_true ⟨hp, hk, fun j hj => hJ j (by omega)⟩).symm

theorem impl_Colouring_has_run (x : Col) (hp : 1 ≤ x.p ∧ x.p ≤ 1000) (i : Int) : Run (fun _ => impl_Colouring_has.f x i) (· = decide (0 ≤ i ∧ i ≤ x.p - 1)) := by
  unfold impl_Colouring_has.f
  rw [w64_id (x := x.p - 1) (by omega)]
  refine Run.bindE (impl_in_run _ _ _) ?_
  exact Run.ret rfl

theorem impl_Colouring_hasTwo_run (x : Col) (hc : IsCol x) (i j : Int) : Run (fun _ => impl_Colouring_hasTwo.f x i j) (· = (decide (0 ≤ i ∧ i ≤ x.p - 1) && decide (0 ≤ j ∧ j ≤ x.p - 1) && decide (i ≠ j))) := by
  unfold impl_Colouring_hasTwo.f
  have h1 := hc.1
  refine Run.bindE (impl_Colouring_has_run x (by omega) i) ?_
  refine Run.ite (fun h => ?_) (fun h => ?_)
  · refine Run.bindE (impl_Colouring_has_run x (by omega) j) ?_
    refine Run.ite (fun h' => ?_) (fun h' => ?_)
    · exact Run.ret (by rw [h, h', Bool.true_and, Bool.true_and])
    · exact Run.ret (by rw [Bool.eq_false_iff.mpr h', Bool.and_false, Bool.false_and])
  · exact Run.ret (by rw [Bool.eq_false_iff.mpr h, Bool.false_and, Bool.false_and])

theorem impl_Colouring_hasColour_run (x : Col) (hp : 1 ≤ x.k ∧ x.k ≤ 1000) (c : Int) : Run (fun _ => impl_Colouring_hasColour.f x c) (· = decide (0 ≤ c ∧ c ≤ x.k - 1)) := by
  unfold impl_Colouring_hasColour.f
  rw [w64_id (x := x.k - 1) (by omega)]
  refine Run.bindE (impl_in_run _ _ _) ?_
  exact Run.ret rfl

theorem impl_CommonNeighbours_1_run (x : Col) (hc : IsCol x) (i j c : Int) : Run (fun _ => impl_CommonNeighbours_1.f x i j c) (· = (decide (0 ≤ i ∧ i ≤ x.p - 1) && decide (0 ≤ j ∧ j ≤ x.p - 1) && decide (i ≠ j) && decide (0 ≤ c ∧ c ≤ x.k - 1))) := by
  unfold impl_CommonNeighbours_1.f
  have h2 := hc.2.1
  refine Run.bindE (impl_Colouring_hasTwo_run x hc i j) ?_
  refine Run.ite (fun h => ?_) (fun h => ?_)
  · refine Run.bindE (impl_Colouring_hasColour_run x (by omega) c) ?_
    exact Run.ret (by rw [h, Bool.true_and])
  · exact Run.ret (by rw [Bool.eq_false_iff.mpr h, Bool.false_and])

theorem impl_Colouring_code__CommonNeighbours_1_run (x : Col) (hx : ByteC x) (i j c : Int) : Run (fun k => impl_Colouring_code__CommonNeighbours_1.f k x i j c) (· = given (isB x) (decide (0 ≤ i ∧ i ≤ x.p - 1) && decide (0 ≤ j ∧ j ≤ x.p - 1) && decide (i ≠ j) && decide (0 ≤ c ∧ c ≤ x.k - 1))) := by
  unfold impl_Colouring_code__CommonNeighbours_1.f
  refine Run.bindE (impl_Colouring_isColouring_run x hx) ?_
  refine Run.itn (fun h1 => ?_) (fun h1 => ?_)
  · exact Run.ret (by rw [given, if_neg h1])
  rw [given, if_pos h1]
  refine Run.bindE (impl_CommonNeighbours_1_run x (isB_spec h1) i j c) ?_
  exact Run.ite (fun h3 => Run.ret (by rw [if_pos h3])) (fun h3 => Run.ret (by rw [if_neg h3]))

theorem impl_number_run (i j : Nat) (hi : i ≤ 1000) (hj : j ≤ 1000) : Run (fun _ => impl_number.f i j) (· = (edg i j : Int)) := by
  unfold impl_number.f
  have hm : (max i j) ≤ 1000 := by omega
  have ti := tri_mono hm
  have tt : tri 1000 = 499500 := rfl
  rw [show max (i : Int) (j : Int) = ((max i j : Nat) : Int) by omega, show min (i : Int) (j : Int) = ((min i j : Nat) : Int) by omega]
  refine Run.ret ?_
  rw [tri_int (by omega), w64_id (by omega), edg]
  split
  · rw [show max i j = i by omega, show min i j = j by omega]; rfl
  · rw [show max i j = j by omega, show min i j = i by omega]; rfl

theorem impl_Colouring_at_run (x : Col) (hx : ByteC x) (hp : 0 ≤ x.p ∧ x.p ≤ 17) (i j : Nat) (hi : (i : Int) < x.p) (hj : (j : Int) < x.p) (hn : i ≠ j) : Run (fun _ => impl_Colouring_at.f x i j) (· = colr x i j) := by
  unfold impl_Colouring_at.f
  refine Run.bindE (impl_number_run i j (by omega) (by omega)) ?_
  have := edg_lt136 (i := i) (j := j) (p := x.p.toNat) (by omega) (by omega) (by omega) hn
  refine Run.bindE (Run.getB' (by omega) (by omega)) ?_
  have hb := hx ((edg i j : Nat) : Int).toNat
  exact Run.ret (w64_id (by omega))

theorem impl_Colouring_joins_run (x : Col) (hx : ByteC x) (hp : 0 ≤ x.p ∧ x.p ≤ 17) (i j : Nat) (c : Int) (hi : (i : Int) < x.p) (hj : (j : Int) < x.p) : Run (fun _ => impl_Colouring_joins.f x i j c) (· = joinsB x i c j) := by
  unfold impl_Colouring_joins.f
  refine Run.ite (fun h => ?_) (fun h => ?_)
  · refine Run.bindE (impl_Colouring_at_run x hx hp i j hi hj (by omega)) ?_
    refine Run.ret ?_
    rw [joinsB, decide_eq_true (p := i ≠ j) (by omega), Bool.true_and]
  · refine Run.ret ?_
    rw [joinsB, decide_eq_false (p := i ≠ j) (by omega), Bool.false_and]

theorem impl_CommonNeighbours_2_run (x : Col) (hx : ByteC x) (hp : 0 ≤ x.p ∧ x.p ≤ 17) (t i j : Nat) (c : Int) (hi : (i : Int) < x.p) (hj : (j : Int) < x.p) (ht : (t : Int) < x.p) : Run (fun _ => impl_CommonNeighbours_2.f t x i c j) (· = (joinsB x i c t && joinsB x j c t)) := by
  unfold impl_CommonNeighbours_2.f
  refine Run.bindE (impl_Colouring_joins_run x hx hp i t c hi ht) ?_
  refine Run.ite (fun h => ?_) (fun h => ?_)
  · refine Run.bindE (impl_Colouring_joins_run x hx hp j t c hj ht) ?_
    exact Run.ret (by rw [h, Bool.true_and])
  · exact Run.ret (by rw [Bool.eq_false_iff.mpr h, Bool.false_and])

theorem impl_Colouring_that__CommonNeighbours_2_run (x : Col) (hx : ByteC x) (hp : 0 ≤ x.p ∧ x.p ≤ 17) (i j : Nat) (c : Int) (hi : (i : Int) < x.p) (hj : (j : Int) < x.p) : Run (fun k => impl_Colouring_that__CommonNeighbours_2.f k x i c j) (· = sel (fun t => joinsB x i c t && joinsB x j c t) x.p.toNat) := by
  unfold impl_Colouring_that__CommonNeighbours_2.f
  refine Run.loop (L := fun q (z : List Int × Int) => impl_Colouring_that__CommonNeighbours_2.l0 q x i c j z.1 z.2) (fun z => (x.p - z.2).toNat) (fun z => 0 ≤ z.2 ∧ z.2 ≤ x.p ∧ z.1 = sel (fun t => joinsB x i c t && joinsB x j c t) z.2.toNat) ?_ ([], 0) ⟨by simp only; omega, by simp only; omega, rfl⟩
  rintro ⟨l, t⟩ ⟨h0, h3, hl⟩ ih
  simp only at h0 h3 hl
  simp only [impl_Colouring_that__CommonNeighbours_2.l0]
  obtain ⟨t, rfl⟩ := Int.eq_ofNat_of_zero_le h0
  simp only [Int.toNat_natCast] at hl
  refine Run.ite (fun h => ?_) (fun h => ?_)
  · rw [w64_id (x := (t : Int) + 1) (by omega)]
    refine Run.bindE (impl_CommonNeighbours_2_run x hx hp t i j c hi hj h) ?_
    refine Run.ite (fun h1 => ?_) (fun h1 => ?_)
    · have hlen := sel_length (fun t => joinsB x i c t && joinsB x j c t) t
      refine Run.bindE (Run.push' (by rw [hl]; omega)) ?_
      refine ih (_, (t : Int) + 1) ⟨by simp only; omega, by simp only; omega, ?_⟩ (by simp only; omega)
      simp only
      rw [show ((t : Int) + 1).toNat = t + 1 by omega, sel_yes h1, hl]
    · refine ih (_, (t : Int) + 1) ⟨by simp only; omega, by simp only; omega, ?_⟩ (by simp only; omega)
      simp only
      rw [show ((t : Int) + 1).toNat = t + 1 by omega, sel_no h1, hl]
  · refine Run.ret ?_
    rw [hl, show x.p.toNat = t by omega]
end Go.Proofs.Ytfhbamlpnicomaa.P
