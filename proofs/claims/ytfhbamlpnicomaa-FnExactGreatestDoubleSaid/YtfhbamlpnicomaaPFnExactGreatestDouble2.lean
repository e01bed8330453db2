/- What the pure functions come to, one by one (part 2). -/
import Derived.Test.YtfhbamlpnicomaaPFnExactGreatestDouble1
import Derived.Test.YtfhbamlpnicomaaGFnExactGreatestDouble6
namespace Go.Proofs.Ytfhbamlpnicomaa.P
open Go Go.RowKit Go.Proofs.Ytfhbamlpnicomaa.K Go.Proofs.Ytfhbamlpnicomaa.G
set_option linter.unusedVariables false
set_option linter.unusedSimpArgs false

theorem spec_l04Double_run (x : Col) (hx : ByteC x) (hp : 0 ≤ x.p ∧ x.p ≤ 17) (c : Int) (book : Bool) : Run (fun k => spec_l04Double.f k x c book) (· = dAll x c book x.p.toNat) := by
  unfold spec_l04Double.f
  refine Run.bindE (spec_l02Rows_run x hx hp c) ?_
  have hlen := rowsM_length x c x.p.toNat
  refine Run.loop (L := fun q (z : List Int × Int × Int) => spec_l04Double.l0 q x book (rowsM x c x.p.toNat) z.1 z.2.1 z.2.2) (fun z => (x.p - z.2.2).toNat) (fun z => 0 ≤ z.2.2 ∧ z.2.2 ≤ x.p ∧ (z.1, z.2.1) = dAll x c book z.2.2.toNat) ?_ ([], -1, 0) ⟨by simp only; omega, by simp only; omega, rfl⟩
  rintro ⟨b, m, i⟩ ⟨h0, h3, hs⟩ ih
  simp only at h0 h3 hs
  simp only [spec_l04Double.l0]
  obtain ⟨i, rfl⟩ := Int.eq_ofNat_of_zero_le h0
  simp only [Int.toNat_natCast] at ih hs ⊢
  refine Run.ite (fun h => ?_) (fun h => ?_)
  · rw [w64_id (x := (i : Int) + 1) (by omega)]
    refine Run.loop (L := fun q (z : List Int × Int × Int) => spec_l04Double.l1 q x book (rowsM x c x.p.toNat) i z.1 z.2.1 z.2.2) (fun z => (x.p - z.2.2).toNat) (fun z => (i : Int) + 1 ≤ z.2.2 ∧ z.2.2 ≤ x.p ∧ (z.1, z.2.1) = dRow x c book i (dAll x c book i) (z.2.2.toNat - (i + 1))) ?_ (b, m, (i : Int) + 1) ⟨by simp only; omega, by simp only; omega, by simp only; rw [show ((i : Int) + 1).toNat - (i + 1) = 0 by omega]; exact hs⟩
    rintro ⟨b, m, j⟩ ⟨g0, g3, hs⟩ ih2
    simp only at g0 g3 hs
    simp only [spec_l04Double.l1]
    obtain ⟨j, rfl⟩ := Int.eq_ofNat_of_zero_le (show 0 ≤ j by omega)
    simp only [Int.toNat_natCast] at ih2 hs ⊢
    refine Run.ite (fun h' => ?_) (fun h' => ?_)
    · have hsucc : ((j : Int) + 1).toNat - (i + 1) = (j - (i + 1)) + 1 := by omega
      have hj : i + 1 + (j - (i + 1)) = j := by omega
      rw [w64_id (x := (j : Int) + 1) (by omega)]
      have ei : (rowsM x c x.p.toNat)[((i : Int)).toNat]'(by omega) = (mask (joinsB x i c) x.p.toNat : Int) := rowsM_at _
      have ej : (rowsM x c x.p.toNat)[((j : Int)).toNat]'(by omega) = (mask (joinsB x j c) x.p.toNat : Int) := rowsM_at _
      have hm := mask_lt (joinsB x i c) x.p.toNat
      have hm' := mask_lt (joinsB x j c) x.p.toNat
      have hm'' := mask_lt (fun t => joinsB x i c t && joinsB x j c t) x.p.toNat
      have hm2 : (2 : Nat) ^ x.p.toNat ≤ 2 ^ 17 := Nat.pow_le_pow_right (by omega) (by omega)
      have yes : dOk x c book i j = true → (cm x c i j : Int) > m → Run (fun q => spec_l04Double.l1 q x book (rowsM x c x.p.toNat) i [(i : Int), (j : Int)] (cm x c i j : Int) ((j : Int) + 1)) (· = dAll x c book x.p.toNat) := fun h1 h2 => by
        refine ih2 (_, _, (j : Int) + 1) ⟨by simp only; omega, by simp only; omega, ?_⟩ (by simp only; omega)
        simp only
        rw [hsucc, dRow, ← hs, hj, dStep, if_pos ⟨h1, h2⟩]
      have no : ¬ (dOk x c book i j = true ∧ (cm x c i j : Int) > m) → Run (fun q => spec_l04Double.l1 q x book (rowsM x c x.p.toNat) i b m ((j : Int) + 1)) (· = dAll x c book x.p.toNat) := fun hq => by
        refine ih2 (_, _, (j : Int) + 1) ⟨by simp only; omega, by simp only; omega, ?_⟩ (by simp only; omega)
        simp only
        rw [hsucc, dRow, ← hs, hj, dStep, if_neg hq]
      refine Run.bindE (Run.getI' (by omega) (by omega)) ?_
      refine Run.bindE (Run.getI' (by omega) (by omega)) ?_
      rw [ei, ej, and64 (by omega) (by omega), mask_and]
      refine Run.bindE (spec_l01Ones_run _ (by omega)) ?_
      rw [cnt_mask (by omega)]
      refine Run.ite (fun h1 => ?_) (fun h1 => no (fun hq => h1 hq.2))
      refine Run.ite (fun h2 => ?_) (fun h2 => yes (by rw [dOk, Bool.eq_false_iff.mpr h2]; rfl) h1)
      refine Run.bindE (Run.getI' (by omega) (by omega)) ?_
      rw [ei, wu64_id (by omega)]
      have hb := bit64 (a := mask (joinsB x i c) x.p.toNat) (n := j) (by omega) (by omega)
      rw [testBit_mask, decide_eq_true (show j < x.p.toNat by omega), Bool.true_and] at hb
      refine Run.ite (fun h3 => yes (by rw [dOk, hb.mp h3, Bool.or_true]) h1) (fun h3 => no (fun hq => h3 (hb.mpr ?_)))
      have := hq.1
      rw [dOk, h2] at this
      simpa using this
    · rw [w64_id (x := (i : Int) + 1) (by omega)]
      refine ih (_, _, (i : Int) + 1) ⟨by simp only; omega, by simp only; omega, ?_⟩ (by simp only; omega)
      simp only
      rw [show ((i : Int) + 1).toNat = i + 1 by omega, dAll, hs, show j - (i + 1) = x.p.toNat - (i + 1) by omega]
  · refine Run.ret ?_
    rw [hs, show x.p.toNat = i by omega]

theorem spec_GreatestDouble_run (x : Col) (hx : ByteC x) (c : Int) : Run (fun k => spec_GreatestDouble.f k x c) (· = doubleM x c false) := by
  unfold spec_GreatestDouble.f
  refine Run.bindE (spec_l01Given_run x hx c [] (by simp)) ?_
  have eo : ((decide (0 ≤ c ∧ c ≤ x.k - 1)) && allIn [] 0 (x.p - 1)) = (decide (0 ≤ c ∧ c ≤ x.k - 1)) := by simp [allIn]
  rw [eo, doubleM]
  refine Run.ite (fun h => Run.ret (by rw [if_neg h])) (fun h => ?_)
  have hz := Decidable.not_not.mp h
  have h17 := (isB_spec (given_zero hz).1).1
  rw [if_pos hz]
  refine Run.bindE (spec_l04Double_run x hx (by omega) c false) ?_
  have hd := dAll_sign x c false x.p.toNat
  refine Run.ite (fun h => Run.ret ?_) (fun h => Run.ret ?_)
  · rw [if_pos]; rcases hd with hd | hd
    · exact hd.1
    · omega
  · rw [if_neg]; rcases hd with hd | hd
    · omega
    · exact hd.1

theorem impl_in_run (n low high : Int) : Run (fun _ => impl_in.f n low high) (· = decide (low ≤ n ∧ n ≤ high)) := by
  unfold impl_in.f
  refine Run.ite (fun h => ?_) (fun h => ?_)
  · refine Run.ret (decide_eq_decide.mpr ?_); omega
  · refine Run.ret ((decide_eq_false ?_).symm); omega

theorem impl_Colouring_edges_run (x : Col) (hp : 0 ≤ x.p ∧ x.p ≤ 1000) : Run (fun _ => impl_Colouring_edges.f x) (· = (tri x.p.toNat : Int)) := by
  unfold impl_Colouring_edges.f
  have := tri_int (n := x.p.toNat) (by omega)
  rw [show ((x.p.toNat : Nat) : Int) = x.p by omega] at this
  exact Run.ret this

theorem impl_Colouring_isColouring_run (x : Col) (hx : ByteC x) : Run (fun k => impl_Colouring_isColouring.f k x) (· = isB x) := by
  unfold impl_Colouring_isColouring.f
  refine Run.bindE (impl_in_run _ _ _) ?_
  refine Run.itn (fun h1 => ?_) (fun h1 => ?_)
  · exact Run.ret (decide_eq_false fun h => h1 (decide_eq_true h.1)).symm
  refine Run.bindE (impl_in_run _ _ _) ?_
  refine Run.itn (fun h2 => ?_) (fun h2 => ?_)
  · exact Run.ret (decide_eq_false fun h => h2 (decide_eq_true h.2.1)).symm
  have hp := of_decide_eq_true h1
  have hk := of_decide_eq_true h2
  refine Run.loop (L := fun q (i : Int) => impl_Colouring_isColouring.l0 q x i) (fun i => (136 - i).toNat) (fun i => 0 ≤ i ∧ i ≤ 136 ∧ ∀ j : Nat, (j : Int) < i → (if j < tri x.p.toNat then x.e j < x.k else x.e j = 0)) ?_ 0 ⟨by omega, by omega, fun j hj => by omega⟩
  rintro i ⟨h0, h3, hJ⟩ ih
  simp only [impl_Colouring_isColouring.l0]
  refine Run.ite (fun h => ?_) (fun h => ?_)
  · refine Run.bindE (Run.getB' h0 h) ?_
    have hb := hx i.toNat
    rw [w64_id (x := x.e i.toNat) (by omega)]
    refine Run.ite (fun h5 => ?_) (fun h5 => ?_)
    · refine Run.ret (decide_eq_false fun hc => ?_).symm
      have := hc.2.2 i.toNat (by omega)
      by_cases h6 : i.toNat < tri x.p.toNat
      · rw [if_pos h6] at this; omega
      · rw [if_neg h6] at this; omega
    · refine Run.bindE (impl_Colouring_edges_run x (by omega)) ?_
      rw [w64_id (x := i + 1) (by omega)]
      refine Run.ite (fun h4 => ?_) (fun h4 => ?_)
      · refine Run.ite (fun h7 => ?_) (fun h7 => ?_)
        · refine Run.ret (decide_eq_false fun hc => ?_).symm
          have := hc.2.2 i.toNat (by omega)
          rw [if_neg (by omega)] at this; omega
        · refine ih (i + 1) ⟨by omega, by omega, fun j hj => ?_⟩ (by omega)
          by_cases ej : (j : Int) < i
          · exact hJ j ej
          · obtain rfl : j = i.toNat := by omega
            rw [if_neg (by omega)]; omega
      · refine ih (i + 1) ⟨by omega, by omega, fun j hj => ?_⟩ (by omega)
        by_cases ej : (j : Int) < i
        · exact hJ j ej
        · obtain rfl : j = i.toNat := by omega
          rw [if_pos (by omega)]; omega
  · refine Run.ret (decide_eq_true ⟨hp, hk, fun j hj => hJ j (by omega)⟩).symm

theorem impl_Colouring_hasColour_run (x : Col) (hp : 1 ≤ x.k ∧ x.k ≤ 1000) (c : Int) : Run (fun _ => impl_Colouring_hasColour.f x c) (· = decide (0 ≤ c ∧ c ≤ x.k - 1)) := by
  unfold impl_Colouring_hasColour.f
  rw [w64_id (x := x.k - 1) (by omega)]
  refine Run.bindE (impl_in_run _ _ _) ?_
  exact Run.ret rfl

theorem impl_Colouring_colourCode_1_run (x : Col) (hc : IsCol x) (c : Int) (b : Bool) : Run (fun _ => impl_Colouring_colourCode_1.f x c b) (· = (decide (0 ≤ c ∧ c ≤ x.k - 1) && b)) := by
  unfold impl_Colouring_colourCode_1.f
  have h2 := hc.2.1
  refine Run.bindE (impl_Colouring_hasColour_run x (by omega) c) ?_
  refine Run.ite (fun h => ?_) (fun h => ?_)
  · exact Run.ret (by rw [h, Bool.true_and])
  · exact Run.ret (by rw [Bool.eq_false_iff.mpr h, Bool.false_and])

theorem impl_Colouring_code__Colouring_colourCode_1_run (x : Col) (hx : ByteC x) (c : Int) (b : Bool) : Run (fun k => impl_Colouring_code__Colouring_colourCode_1.f k x c b) (· = given (isB x) (decide (0 ≤ c ∧ c ≤ x.k - 1) && b)) := by
  unfold impl_Colouring_code__Colouring_colourCode_1.f
  refine Run.bindE (impl_Colouring_isColouring_run x hx) ?_
  refine Run.itn (fun h1 => ?_) (fun h1 => ?_)
  · exact Run.ret (by rw [given, if_neg h1])
  rw [given, if_pos h1]
  refine Run.bindE (impl_Colouring_colourCode_1_run x (isB_spec h1) c b) ?_
  exact Run.ite (fun h3 => Run.ret (by rw [if_pos h3])) (fun h3 => Run.ret (by rw [if_neg h3]))

theorem impl_Colouring_colourCode_run (x : Col) (hx : ByteC x) (c : Int) (b : Bool) : Run (fun k => impl_Colouring_colourCode.f k x c b) (· = given (isB x) (decide (0 ≤ c ∧ c ≤ x.k - 1) && b)) := by
  unfold impl_Colouring_colourCode.f
  refine Run.bindE (impl_Colouring_code__Colouring_colourCode_1_run x hx c b) ?_
  exact Run.ret rfl

theorem impl_number_run (i j : Nat) (hi : i ≤ 1000) (hj : j ≤ 1000) : Run (fun _ => impl_number.f i j) (· = (edg i j : Int)) := by
  unfold impl_number.f
  have hm : (max i j) ≤ 1000 := by omega
  have ti := tri_mono hm
  have tt : tri 1000 = 499500 := rfl
  rw [show max (i : Int) (j : Int) = ((max i j : Nat) : Int) by omega, show min (i : Int) (j : Int) = ((min i j : Nat) : Int) by omega]
  refine Run.ret ?_
  rw [tri_int (by omega), w64_id (by omega), edg]
  split
  · rw [show max i j = i by omega, show min i j = j by omega]; rfl
  · rw [show max i j = j by omega, show min i j = i by omega]; rfl

theorem impl_Colouring_at_run (x : Col) (hx : ByteC x) (hp : 0 ≤ x.p ∧ x.p ≤ 17) (i j : Nat) (hi : (i : Int) < x.p) (hj : (j : Int) < x.p) (hn : i ≠ j) : Run (fun _ => impl_Colouring_at.f x i j) (· = colr x i j) := by
  unfold impl_Colouring_at.f
  refine Run.bindE (impl_number_run i j (by omega) (by omega)) ?_
  have := edg_lt136 (i := i) (j := j) (p := x.p.toNat) (by omega) (by omega) (by omega) hn
  refine Run.bindE (Run.getB' (by omega) (by omega)) ?_
  have hb := hx ((edg i j : Nat) : Int).toNat
  exact Run.ret (w64_id (by omega))

theorem impl_Colouring_joins_run (x : Col) (hx : ByteC x) (hp : 0 ≤ x.p ∧ x.p ≤ 17) (i j : Nat) (c : Int) (hi : (i : Int) < x.p) (hj : (j : Int) < x.p) : Run (fun _ => impl_Colouring_joins.f x i j c) (· = joinsB x i c j) := by
  unfold impl_Colouring_joins.f
  refine Run.ite (fun h => ?_) (fun h => ?_)
  · refine Run.bindE (impl_Colouring_at_run x hx hp i j hi hj (by omega)) ?_
    refine Run.ret ?_
    rw [joinsB, decide_eq_true (p := i ≠ j) (by omega), Bool.true_and]
  · refine Run.ret ?_
    rw [joinsB, decide_eq_false (p := i ≠ j) (by omega), Bool.false_and]
end Go.Proofs.Ytfhbamlpnicomaa.P
