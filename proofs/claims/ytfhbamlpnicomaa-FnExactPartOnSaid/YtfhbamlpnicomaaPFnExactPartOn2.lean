/- What the pure functions come to, one by one (part 2). -/
import Derived.Test.YtfhbamlpnicomaaPFnExactPartOn1
import Derived.Test.YtfhbamlpnicomaaGFnExactPartOn5
namespace Go.Proofs.Ytfhbamlpnicomaa.P
open Go Go.RowKit Go.Proofs.Ytfhbamlpnicomaa.K Go.Proofs.Ytfhbamlpnicomaa.G
set_option linter.unusedVariables false
set_option linter.unusedSimpArgs false

theorem spec_l01Part_run (x : Col) (hx : ByteC x) (hp : 0 ≤ x.p ∧ x.p ≤ 17) (l : List Int) (hg : Points x l) : Run (fun k => spec_l01Part.f k x l) (· = ⟨l.length, x.k, madeE (fun i j => colr x (l.getD i 0).toNat (l.getD j 0).toNat) l.length⟩) := by
  unfold spec_l01Part.f
  have hl17 := hg.length
  by_cases hl0 : l.length = 0
  · refine Run.step ?_
    simp only [spec_l01Part.l0]
    refine Run.no (by omega) (Run.ret (by rw [hl0]; rfl))
  refine Run.loop (L := fun q (z : Col × Int) => spec_l01Part.l0 q x l z.1 z.2) (fun z => (l.length - z.2).toNat) (fun z => 1 ≤ z.2 ∧ z.2 ≤ l.length ∧ z.1 = ⟨l.length, x.k, madeE (fun i j => colr x (l.getD i 0).toNat (l.getD j 0).toNat) z.2.toNat⟩) ?_ (_, 1) ⟨by simp only; omega, by simp only; omega, rfl⟩
  rintro ⟨y, j⟩ ⟨h0, h3, hy⟩ ih
  simp only at h0 h3 hy
  subst hy
  simp only [spec_l01Part.l0]
  obtain ⟨j, rfl⟩ := Int.eq_ofNat_of_zero_le (show 0 ≤ j by omega)
  simp only [Int.toNat_natCast] at ih ⊢
  refine Run.ite (fun h => ?_) (fun h => ?_)
  · refine Run.loop (L := fun q (z : Col × Int) => spec_l01Part.l1 q x l j z.1 z.2) (fun z => (j - z.2).toNat) (fun z => 0 ≤ z.2 ∧ z.2 ≤ j ∧ z.1 = ⟨l.length, x.k, rowE (fun i j => colr x (l.getD i 0).toNat (l.getD j 0).toNat) j (madeE (fun i j => colr x (l.getD i 0).toNat (l.getD j 0).toNat) j) z.2.toNat⟩) ?_ (_, 0) ⟨by simp only; omega, by simp only; omega, rfl⟩
    rintro ⟨y, i⟩ ⟨g0, g3, hy⟩ ih2
    simp only at g0 g3 hy
    subst hy
    simp only [spec_l01Part.l1]
    obtain ⟨i, rfl⟩ := Int.eq_ofNat_of_zero_le g0
    simp only [Int.toNat_natCast] at ih2 ⊢
    refine Run.ite (fun h' => ?_) (fun h' => ?_)
    · refine Run.bindE (Run.getI' (by omega) (by omega)) ?_
      refine Run.bindE (Run.getI' (by omega) (by omega)) ?_
      obtain ⟨a, ea, ha⟩ := hg.at i (by omega)
      obtain ⟨b, eb, hb⟩ := hg.at j (by omega)
      have hab := hg.ne i j (by omega) (by omega) a b ea eb
      simp only [Int.toNat_natCast]
      refine Run.bindE (spec_l01Edge_run i j (by omega) (by omega)) ?_
      rw [ea, eb]
      refine Run.bindE (spec_l01At_run x hx hp a b ha hb hab) ?_
      have := low136 (i := i) (j := j) (by omega) (by omega)
      rw [edg_low (by omega)]
      refine Run.bindE (Run.getB' (by omega) (by omega)) ?_
      rw [w64_id (x := (i : Int) + 1) (by omega)]
      refine ih2 (_, (i : Int) + 1) ⟨by simp only; omega, by simp only; omega, ?_⟩ (by simp only; omega)
      simp only [Col.setE, Int.toNat_natCast]
      rw [show ((i : Int) + 1).toNat = i + 1 by omega, rowE, getD_of ea, getD_of eb]; rfl
    · rw [w64_id (x := (j : Int) + 1) (by omega)]
      refine ih (_, (j : Int) + 1) ⟨by simp only; omega, by simp only; omega, ?_⟩ (by simp only; omega)
      simp only
      rw [show ((j : Int) + 1).toNat = j + 1 by omega, madeE, show i = j by omega]
  · refine Run.ret ?_
    rw [show j = l.length by omega]

theorem spec_PartOn_run (x : Col) (hx : ByteC x) (l : List Int) (hl : l.length < 4611686018427387904) : Run (fun k => spec_PartOn.f k x l) (· = partM x l) := by
  unfold spec_PartOn.f
  refine Run.bindE (spec_l01Set_run x hx l hl) ?_
  rw [partM]
  refine Run.itn (fun h => ?_) (fun h => ?_)
  · refine Run.ret ?_
    have : given (isB x) (allIn l 0 (x.p - 1) && adjB l && decide ((l.length : Int) > 0)) = given (isB x) (allIn l 0 (x.p - 1) && adjB l) := by
      unfold given at h ⊢
      by_cases h1 : isB x = true
      · rw [if_pos h1, if_pos h1]
        rw [if_pos h1] at h
        cases hq : (allIn l 0 (x.p - 1) && adjB l) with
        | true => rw [hq] at h; exact absurd rfl h
        | false => rfl
      · rw [if_neg h1, if_neg h1]
    rw [this, if_neg h]
  obtain ⟨h1, h2⟩ := given_zero h
  have hc := isB_spec h1
  refine Run.ite (fun h0 => ?_) (fun h0 => ?_)
  · have hg : given (isB x) (allIn l 0 (x.p - 1) && adjB l && decide ((l.length : Int) > 0)) = 2 := by
      rw [given, if_pos h1, if_neg]
      rw [decide_eq_false (p := (l.length : Int) > 0) (by omega), Bool.and_false]; simp
    exact Run.ret (by rw [hg]; rfl)
  have hg : given (isB x) (allIn l 0 (x.p - 1) && adjB l && decide ((l.length : Int) > 0)) = 0 := by rw [given, if_pos h1, h2, decide_eq_true (p := (l.length : Int) > 0) (by omega)]; rfl
  rw [if_pos hg]
  simp only [Bool.and_eq_true] at h2
  refine Run.bindE (spec_l01Part_run x hx (by have := hc.1; omega) l (points_of hc h2.1 h2.2)) ?_
  exact Run.ret rfl

theorem impl_in_run (n low high : Int) : Run (fun _ => impl_in.f n low high) (· = decide (low ≤ n ∧ n ≤ high)) := by
  unfold impl_in.f
  refine Run.ite (fun h => ?_) (fun h => ?_)
  · refine Run.ret (decide_eq_decide.mpr ?_); omega
  · refine Run.ret ((decide_eq_false ?_).symm); omega

theorem impl_Colouring_edges_run (x : Col) (hp : 0 ≤ x.p ∧ x.p ≤ 1000) : Run (fun _ => impl_Colouring_edges.f x) (· = (tri x.p.toNat : Int)) := by
  unfold impl_Colouring_edges.f
  have := tri_int (n := x.p.toNat) (by omega)
  rw [show ((x.p.toNat : Nat) : Int) = x.p by omega] at this
  exact Run.ret this

theorem impl_Colouring_isColouring_run (x : Col) (hx : ByteC x) : Run (fun k => impl_Colouring_isColouring.f k x) (· = isB x) := by
  unfold impl_Colouring_isColouring.f
  refine Run.bindE (impl_in_run _ _ _) ?_
  refine Run.itn (fun h1 => ?_) (fun h1 => ?_)
  · exact Run.ret (decide_eq_false fun h => h1 (decide_eq_true h.1)).symm
  refine Run.bindE (impl_in_run _ _ _) ?_
  refine Run.itn (fun h2 => ?_) (fun h2 => ?_)
  · exact Run.ret (decide_eq_false fun h => h2 (decide_eq_true h.2.1)).symm
  have hp := of_decide_eq_true h1
  have hk := of_decide_eq_true h2
  refine Run.loop (L := fun q (i : Int) => impl_Colouring_isColouring.l0 q x i) (fun i => (136 - i).toNat) (fun i => 0 ≤ i ∧ i ≤ 136 ∧ ∀ j : Nat, (j : Int) < i → (if j < tri x.p.toNat then x.e j < x.k else x.e j = 0)) ?_ 0 ⟨by omega, by omega, fun j hj => by omega⟩
  rintro i ⟨h0, h3, hJ⟩ ih
  simp only [impl_Colouring_isColouring.l0]
  refine Run.ite (fun h => ?_) (fun h => ?_)
  · refine Run.bindE (Run.getB' h0 h) ?_
    have hb := hx i.toNat
    rw [w64_id (x := x.e i.toNat) (by omega)]
    refine Run.ite (fun h5 => ?_) (fun h5 => ?_)
    · refine Run.ret (decide_eq_false fun hc => ?_).symm
      have := hc.2.2 i.toNat (by omega)
      by_cases h6 : i.toNat < tri x.p.toNat
      · rw [if_pos h6] at this; omega
      · rw [if_neg h6] at this; omega
    · refine Run.bindE (impl_Colouring_edges_run x (by omega)) ?_
      rw [w64_id (x := i + 1) (by omega)]
      refine Run.ite (fun h4 => ?_) (fun h4 => ?_)
      · refine Run.ite (fun h7 => ?_) (fun h7 => ?_)
        · refine Run.ret (decide_eq_false fun hc => ?_).symm
          have := hc.2.2 i.toNat (by omega)
          rw [if_neg (by omega)] at this; omega
        · refine ih (i + 1) ⟨by omega, by omega, fun j hj => ?_⟩ (by omega)
          by_cases ej : (j : Int) < i
          · exact hJ j ej
          · obtain rfl : j = i.toNat := by omega
            rw [if_neg (by omega)]; omega
      · refine ih (i + 1) ⟨by omega, by omega, fun j hj => ?_⟩ (by omega)
        by_cases ej : (j : Int) < i
        · exact hJ j ej
        · obtain rfl : j = i.toNat := by omega
          rw [if_pos (by omega)]; omega
  · refine Run.ret (decide_eq_true ⟨hp, hk, fun j hj => hJ j (by omega)⟩).symm

theorem impl_Colouring_has_run (x : Col) (hp : 1 ≤ x.p ∧ x.p ≤ 1000) (i : Int) : Run (fun _ => impl_Colouring_has.f x i) (· = decide (0 ≤ i ∧ i ≤ x.p - 1)) := by
  unfold impl_Colouring_has.f
  rw [w64_id (x := x.p - 1) (by omega)]
  refine Run.bindE (impl_in_run _ _ _) ?_
  exact Run.ret rfl

theorem impl_Colouring_isSet_run (x : Col) (hc : IsCol x) (l : List Int) (hl : l.length < 4611686018427387904) : Run (fun k => impl_Colouring_isSet.f k x l) (· = (allIn l 0 (x.p - 1) && adjB l)) := by
  unfold impl_Colouring_isSet.f
  have hp := hc.1
  refine Run.loop (L := fun q (i : Int) => impl_Colouring_isSet.l0 q x l i) (fun i => (l.length - i).toNat) (fun i => 0 ≤ i ∧ i ≤ l.length ∧ allIn l 0 (x.p - 1) = allIn (l.drop i.toNat) 0 (x.p - 1) ∧ ∀ j : Nat, (j : Int) < i - 1 → l.getD j 0 < l.getD (j + 1) 0) ?_ 0 ⟨by omega, by omega, rfl, fun j hj => by omega⟩
  rintro i ⟨h0, h3, hA, hJ⟩ ih
  simp only [impl_Colouring_isSet.l0]
  refine Run.ite (fun h => ?_) (fun h => ?_)
  · have hd : l.drop i.toNat = l[i.toNat]'(by omega) :: l.drop (i.toNat + 1) := List.drop_eq_getElem_cons (by omega)
    refine Run.bindE (Run.getI' h0 h) ?_
    refine Run.bindE (impl_Colouring_has_run x (by omega) _) ?_
    rw [w64_id (x := i + 1) (by omega)]
    refine Run.itn (fun h5 => ?_) (fun h5 => ?_)
    · refine Run.ret ?_
      rw [hA, hd, allIn_cons, Bool.eq_false_iff.mpr h5, Bool.false_and, Bool.false_and]
    have hA' : allIn l 0 (x.p - 1) = allIn (l.drop (i + 1).toNat) 0 (x.p - 1) := by rw [hA, hd, show (i + 1).toNat = i.toNat + 1 by omega, allIn_cons, h5, Bool.true_and]
    refine Run.ite (fun h6 => ?_) (fun h6 => ?_)
    · rw [w64_id (x := i - 1) (by omega)]
      refine Run.bindE (Run.getI' (by omega) (by omega)) ?_
      have e1 : l.getD (i - 1).toNat 0 = l[(i - 1).toNat]'(by omega) := by rw [List.getD_eq_getElem?_getD, List.getElem?_eq_getElem (by omega)]; rfl
      have e2 : l.getD ((i - 1).toNat + 1) 0 = l[i.toNat]'(by omega) := by rw [show (i - 1).toNat + 1 = i.toNat by omega, List.getD_eq_getElem?_getD, List.getElem?_eq_getElem (by omega)]; rfl
      refine Run.ite (fun h7 => ?_) (fun h7 => ?_)
      · refine Run.ret ?_
        have : adjB l = false := decide_eq_false fun hq => by
          have := hq (i - 1).toNat (by omega)
          omega
        rw [this, Bool.and_false]
      · refine ih (i + 1) ⟨by omega, by omega, hA', fun j hj => ?_⟩ (by omega)
        by_cases ej : (j : Int) < i - 1
        · exact hJ j ej
        · obtain rfl : j = (i - 1).toNat := by omega
          omega
    · exact ih (i + 1) ⟨by omega, by omega, hA', fun j hj => by omega⟩ (by omega)
  · refine Run.ret ?_
    have h1 : allIn l 0 (x.p - 1) = true := by rw [hA, List.drop_eq_nil_of_le (by omega)]; rfl
    have h2 : adjB l = true := decide_eq_true fun j hj => hJ j (by omega)
    rw [h1, h2]; rfl

theorem impl_PartOn_1_run (x : Col) (hc : IsCol x) (l : List Int) (hl : l.length < 4611686018427387904) : Run (fun k => impl_PartOn_1.f k x l) (· = (allIn l 0 (x.p - 1) && adjB l && decide ((l.length : Int) > 0))) := by
  unfold impl_PartOn_1.f
  refine Run.bindE (impl_Colouring_isSet_run x hc l hl) ?_
  refine Run.ite (fun h => ?_) (fun h => ?_)
  · exact Run.ret (by rw [h, Bool.true_and])
  · exact Run.ret (by rw [Bool.eq_false_iff.mpr h, Bool.false_and])

theorem impl_Colouring_code__PartOn_1_run (x : Col) (hx : ByteC x) (l : List Int) (hl : l.length < 4611686018427387904) : Run (fun k => impl_Colouring_code__PartOn_1.f k x l) (· = given (isB x) (allIn l 0 (x.p - 1) && adjB l && decide ((l.length : Int) > 0))) := by
  unfold impl_Colouring_code__PartOn_1.f
  refine Run.bindE (impl_Colouring_isColouring_run x hx) ?_
  refine Run.itn (fun h1 => ?_) (fun h1 => ?_)
  · exact Run.ret (by rw [given, if_neg h1])
  rw [given, if_pos h1]
  refine Run.bindE (impl_PartOn_1_run x (isB_spec h1) l hl) ?_
  exact Run.ite (fun h3 => Run.ret (by rw [if_pos h3])) (fun h3 => Run.ret (by rw [if_neg h3]))

theorem impl_size_int64_run (l : List Int) : Run (fun _ => impl_size_int64.f l) (· = (l.length : Int)) := by
  unfold impl_size_int64.f
  exact Run.ret rfl

theorem impl_number_run (i j : Nat) (hi : i ≤ 1000) (hj : j ≤ 1000) : Run (fun _ => impl_number.f i j) (· = (edg i j : Int)) := by
  unfold impl_number.f
  have hm : (max i j) ≤ 1000 := by omega
  have ti := tri_mono hm
  have tt : tri 1000 = 499500 := rfl
  rw [show max (i : Int) (j : Int) = ((max i j : Nat) : Int) by omega, show min (i : Int) (j : Int) = ((min i j : Nat) : Int) by omega]
  refine Run.ret ?_
  rw [tri_int (by omega), w64_id (by omega), edg]
  split
  · rw [show max i j = i by omega, show min i j = j by omega]; rfl
  · rw [show max i j = j by omega, show min i j = i by omega]; rfl
end Go.Proofs.Ytfhbamlpnicomaa.P
