/- What the pure functions come to, one by one (part 2). -/
import Derived.Test.YtfhbamlpnicomaaPFnExactTakePoint1
import Derived.Test.YtfhbamlpnicomaaGFnExactTakePoint5
namespace Go.Proofs.Ytfhbamlpnicomaa.P
open Go Go.RowKit Go.Proofs.Ytfhbamlpnicomaa.K Go.Proofs.Ytfhbamlpnicomaa.G
set_option linter.unusedVariables false
set_option linter.unusedSimpArgs false

theorem spec_TakePoint_run (x : Col) (hx : ByteC x) (p : Int) : Run (fun k => spec_TakePoint.f k x p) (· = takeM x p) := by
  unfold spec_TakePoint.f
  refine Run.bindE (spec_l01Given_run x hx 0 [p] (by simp)) ?_
  have eo : given (isB x) (decide ((0 : Int) ≤ 0 ∧ 0 ≤ x.k - 1) && allIn [p] 0 (x.p - 1)) = given (isB x) (decide (0 ≤ p ∧ p ≤ x.p - 1)) := by
    by_cases h1 : isB x = true
    · have hk := (isB_spec h1).2.1
      rw [decide_eq_true (p := (0 : Int) ≤ 0 ∧ 0 ≤ x.k - 1) (by omega)]; simp [allIn]
    · rw [given, given, if_neg h1, if_neg h1]
  rw [eo, takeM]
  refine Run.ite (fun h => ?_) (fun h => ?_)
  · exact Run.ret (by rw [if_neg h])
  have hz := Decidable.not_not.mp h
  have hc := isB_spec (given_zero hz).1
  rw [if_pos hz]
  refine Run.ite (fun h4 => Run.ret (by rw [if_pos h4])) (fun h4 => ?_)
  rw [if_neg h4]
  refine Run.bindE (spec_l01Take_run x hx (by have := hc.1; omega) p) ?_
  exact Run.ret rfl

theorem impl_in_run (n low high : Int) : Run (fun _ => impl_in.f n low high) (· = decide (low ≤ n ∧ n ≤ high)) := by
  unfold impl_in.f
  refine Run.ite (fun h => ?_) (fun h => ?_)
  · refine Run.ret (decide_eq_decide.mpr ?_); omega
  · refine Run.ret ((decide_eq_false ?_).symm); omega

theorem impl_Colouring_edges_run (x : Col) (hp : 0 ≤ x.p ∧ x.p ≤ 1000) : Run (fun _ => impl_Colouring_edges.f x) (· = (tri x.p.toNat : Int)) := by
  unfold impl_Colouring_edges.f
  have := tri_int (n := x.p.toNat) (by omega)
  rw [show ((x.p.toNat : Nat) : Int) = x.p by omega] at this
  exact Run.ret this

theorem impl_Colouring_isColouring_run (x : Col) (hx : ByteC x) : Run (fun k => impl_Colouring_isColouring.f k x) (· = isB x) := by
  unfold impl_Colouring_isColouring.f
  refine Run.bindE (impl_in_run _ _ _) ?_
  refine Run.itn (fun h1 => ?_) (fun h1 => ?_)
  · exact Run.ret (decide_eq_false fun h => h1 (decide_eq_true h.1)).symm
  refine Run.bindE (impl_in_run _ _ _) ?_
  refine Run.itn (fun h2 => ?_) (fun h2 => ?_)
  · exact Run.ret (decide_eq_false fun h => h2 (decide_eq_true h.2.1)).symm
  have hp := of_decide_eq_true h1
  have hk := of_decide_eq_true h2
  refine Run.loop (L := fun q (i : Int) => impl_Colouring_isColouring.l0 q x i) (fun i => (136 - i).toNat) (fun i => 0 ≤ i ∧ i ≤ 136 ∧ ∀ j : Nat, (j : Int) < i → (if j < tri x.p.toNat then x.e j < x.k else x.e j = 0)) ?_ 0 ⟨by omega, by omega, fun j hj => by omega⟩
  rintro i ⟨h0, h3, hJ⟩ ih
  simp only [impl_Colouring_isColouring.l0]
  refine Run.ite (fun h => ?_) (fun h => ?_)
  · refine Run.bindE (Run.getB' h0 h) ?_
    have hb := hx i.toNat
    rw [w64_id (x := x.e i.toNat) (by omega)]
    refine Run.ite (fun h5 => ?_) (fun h5 => ?_)
    · refine Run.ret (decide_eq_false fun hc => ?_).symm
      have := hc.2.2 i.toNat (by omega)
      by_cases h6 : i.toNat < tri x.p.toNat
      · rw [if_pos h6] at this; omega
      · rw [if_neg h6] at this; omega
    · refine Run.bindE (impl_Colouring_edges_run x (by omega)) ?_
      rw [w64_id (x := i + 1) (by omega)]
      refine Run.ite (fun h4 => ?_) (fun h4 => ?_)
      · refine Run.ite (fun h7 => ?_) (fun h7 => ?_)
        · refine Run.ret (decide_eq_false fun hc => ?_).symm
          have := hc.2.2 i.toNat (by omega)
          rw [if_neg (by omega)] at this; omega
        · refine ih (i + 1) ⟨by omega, by omega, fun j hj => ?_⟩ (by omega)
          by_cases ej : (j : Int) < i
          · exact hJ j ej
          · obtain rfl : j = i.toNat := by omega
            rw [if_neg (by omega)]; omega
      · refine ih (i + 1) ⟨by omega, by omega, fun j hj => ?_⟩ (by omega)
        by_cases ej : (j : Int) < i
        · exact hJ j ej
        · obtain rfl : j = i.toNat := by omega
          rw [if_pos (by omega)]; omega
  · refine Run.ret (decide_eq_true ⟨hp, hk, fun j hj => hJ j (by omega)⟩).symm

theorem impl_Colouring_has_run (x : Col) (hp : 1 ≤ x.p ∧ x.p ≤ 1000) (i : Int) : Run (fun _ => impl_Colouring_has.f x i) (· = decide (0 ≤ i ∧ i ≤ x.p - 1)) := by
  unfold impl_Colouring_has.f
  rw [w64_id (x := x.p - 1) (by omega)]
  refine Run.bindE (impl_in_run _ _ _) ?_
  exact Run.ret rfl

theorem impl_TakePoint_1_run (x : Col) (hc : IsCol x) (p : Int) : Run (fun _ => impl_TakePoint_1.f x p) (· = (decide (0 ≤ p ∧ p ≤ x.p - 1))) := by
  unfold impl_TakePoint_1.f
  refine Run.bindE (impl_Colouring_has_run x (by have := hc.1; omega) p) ?_
  exact Run.ret rfl

theorem impl_Colouring_code__TakePoint_1_run (x : Col) (hx : ByteC x) (p : Int) : Run (fun k => impl_Colouring_code__TakePoint_1.f k x p) (· = given (isB x) (decide (0 ≤ p ∧ p ≤ x.p - 1))) := by
  unfold impl_Colouring_code__TakePoint_1.f
  refine Run.bindE (impl_Colouring_isColouring_run x hx) ?_
  refine Run.itn (fun h1 => ?_) (fun h1 => ?_)
  · exact Run.ret (by rw [given, if_neg h1])
  rw [given, if_pos h1]
  refine Run.bindE (impl_TakePoint_1_run x (isB_spec h1) p) ?_
  exact Run.ite (fun h3 => Run.ret (by rw [if_pos h3])) (fun h3 => Run.ret (by rw [if_neg h3]))

theorem impl_TakePoint_2_run (t : Nat) (p : Int) : Run (fun _ => impl_TakePoint_2.f t p) (· = decide ((t : Int) ≠ p)) := by
  unfold impl_TakePoint_2.f
  exact Run.ret rfl

theorem impl_Colouring_that__TakePoint_2_run (x : Col) (hx : ByteC x) (hp : 0 ≤ x.p ∧ x.p ≤ 17) (p : Int) : Run (fun k => impl_Colouring_that__TakePoint_2.f k x p) (· = sel (fun t => decide ((t : Int) ≠ p)) x.p.toNat) := by
  unfold impl_Colouring_that__TakePoint_2.f
  refine Run.loop (L := fun q (z : List Int × Int) => impl_Colouring_that__TakePoint_2.l0 q x p z.1 z.2) (fun z => (x.p - z.2).toNat) (fun z => 0 ≤ z.2 ∧ z.2 ≤ x.p ∧ z.1 = sel (fun t => decide ((t : Int) ≠ p)) z.2.toNat) ?_ ([], 0) ⟨by simp only; omega, by simp only; omega, rfl⟩
  rintro ⟨l, t⟩ ⟨h0, h3, hl⟩ ih
  simp only at h0 h3 hl
  simp only [impl_Colouring_that__TakePoint_2.l0]
  obtain ⟨t, rfl⟩ := Int.eq_ofNat_of_zero_le h0
  simp only [Int.toNat_natCast] at hl
  refine Run.ite (fun h => ?_) (fun h => ?_)
  · rw [w64_id (x := (t : Int) + 1) (by omega)]
    refine Run.bindE (impl_TakePoint_2_run t p) ?_
    refine Run.ite (fun h1 => ?_) (fun h1 => ?_)
    · have hlen := sel_length (fun t => decide ((t : Int) ≠ p)) t
      refine Run.bindE (Run.push' (by rw [hl]; omega)) ?_
      refine ih (_, (t : Int) + 1) ⟨by simp only; omega, by simp only; omega, ?_⟩ (by simp only; omega)
      simp only
      rw [show ((t : Int) + 1).toNat = t + 1 by omega, sel_yes h1, hl]
    · refine ih (_, (t : Int) + 1) ⟨by simp only; omega, by simp only; omega, ?_⟩ (by simp only; omega)
      simp only
      rw [show ((t : Int) + 1).toNat = t + 1 by omega, sel_no h1, hl]
  · refine Run.ret ?_
    rw [hl, show x.p.toNat = t by omega]

theorem impl_size_int64_run (l : List Int) : Run (fun _ => impl_size_int64.f l) (· = (l.length : Int)) := by
  unfold impl_size_int64.f
  exact Run.ret rfl

theorem impl_number_run (i j : Nat) (hi : i ≤ 1000) (hj : j ≤ 1000) : Run (fun _ => impl_number.f i j) (· = (edg i j : Int)) := by
  unfold impl_number.f
  have hm : (max i j) ≤ 1000 := by omega
  have ti := tri_mono hm
  have tt : tri 1000 = 499500 := rfl
  rw [show max (i : Int) (j : Int) = ((max i j : Nat) : Int) by omega, show min (i : Int) (j : Int) = ((min i j : Nat) : Int) by omega]
  refine Run.ret ?_
  rw [tri_int (by omega), w64_id (by omega), edg]
  split
  · rw [show max i j = i by omega, show min i j = j by omega]; rfl
  · rw [show max i j = j by omega, show min i j = i by omega]; rfl

theorem impl_Colouring_at_run (x : Col) (hx : ByteC x) (hp : 0 ≤ x.p ∧ x.p ≤ 17) (i j : Nat) (hi : (i : Int) < x.p) (hj : (j : Int) < x.p) (hn : i ≠ j) : Run (fun _ => impl_Colouring_at.f x i j) (· = colr x i j) := by
  unfold impl_Colouring_at.f
  refine Run.bindE (impl_number_run i j (by omega) (by omega)) ?_
  have := edg_lt136 (i := i) (j := j) (p := x.p.toNat) (by omega) (by omega) (by omega) hn
  refine Run.bindE (Run.getB' (by omega) (by omega)) ?_
  have hb := hx ((edg i j : Nat) : Int).toNat
  exact Run.ret (w64_id (by omega))

theorem impl_Colouring_part_1_run (x : Col) (hx : ByteC x) (hp : 0 ≤ x.p ∧ x.p ≤ 17) (l : List Int) (hg : Points x l) (i j : Nat) (hi : i < l.length) (hj : j < l.length) (hij : i < j) : Run (fun _ => impl_Colouring_part_1.f i j x l) (· = colr x (l.getD i 0).toNat (l.getD j 0).toNat) := by
  unfold impl_Colouring_part_1.f
  refine Run.bindE (Run.getI' (by omega) (by omega)) ?_
  refine Run.bindE (Run.getI' (by omega) (by omega)) ?_
  obtain ⟨a, ea, ha⟩ := hg.at i (by omega)
  obtain ⟨b, eb, hb⟩ := hg.at j (by omega)
  have hab := hg.ne i j hij (by omega) a b ea eb
  simp only [Int.toNat_natCast]
  rw [ea, eb]
  refine Run.bindE (impl_Colouring_at_run x hx hp a b ha hb hab) ?_
  exact Run.ret (by rw [getD_of ea, getD_of eb]; rfl)

theorem impl_Colouring_put_run (x : Col) (i j : Nat) (c : Int) (hi : i < j) (hj : j < 17) : Run (fun _ => impl_Colouring_put.f x i j c) (· = ⟨x.p, x.k, upd x.e (tri j + i) (w8 c)⟩) := by
  unfold impl_Colouring_put.f
  refine Run.bindE (impl_number_run i j (by omega) (by omega)) ?_
  have := low136 hi hj
  rw [edg_low hi]
  refine Run.bindE (Run.getB' (by omega) (by omega)) ?_
  exact Run.ret rfl

theorem impl_made__Colouring_part_1_run (x : Col) (hx : ByteC x) (hp : 0 ≤ x.p ∧ x.p ≤ 17) (l : List Int) (hg : Points x l) (K : Int) (n : Nat) (hn : n ≤ 17) (hnl : n = l.length) : Run (fun k => impl_made__Colouring_part_1.f k n K x l) (· = ⟨n, K, madeE (fun i j => colr x (l.getD i 0).toNat (l.getD j 0).toNat) n⟩) := by
  unfold impl_made__Colouring_part_1.f
  refine Run.loop (L := fun q (z : Col × Int) => impl_made__Colouring_part_1.l0 q n x l z.1 z.2) (fun z => (n - z.2).toNat) (fun z => 0 ≤ z.2 ∧ z.2 ≤ n ∧ z.1 = ⟨n, K, madeE (fun i j => colr x (l.getD i 0).toNat (l.getD j 0).toNat) z.2.toNat⟩) ?_ (_, 0) ⟨by simp only; omega, by simp only; omega, rfl⟩
  rintro ⟨y, j⟩ ⟨h0, h3, hy⟩ ih
  simp only at h0 h3 hy
  subst hy
  simp only [impl_made__Colouring_part_1.l0]
  obtain ⟨j, rfl⟩ := Int.eq_ofNat_of_zero_le h0
  simp only [Int.toNat_natCast] at ih ⊢
  refine Run.ite (fun h => ?_) (fun h => ?_)
  · refine Run.loop (L := fun q (z : Col × Int) => impl_made__Colouring_part_1.l1 q n x l j z.1 z.2) (fun z => (j - z.2).toNat) (fun z => 0 ≤ z.2 ∧ z.2 ≤ j ∧ z.1 = ⟨n, K, rowE (fun i j => colr x (l.getD i 0).toNat (l.getD j 0).toNat) j (madeE (fun i j => colr x (l.getD i 0).toNat (l.getD j 0).toNat) j) z.2.toNat⟩) ?_ (_, 0) ⟨by simp only; omega, by simp only; omega, rfl⟩
    rintro ⟨y, i⟩ ⟨g0, g3, hy⟩ ih2
    simp only at g0 g3 hy
    subst hy
    simp only [impl_made__Colouring_part_1.l1]
    obtain ⟨i, rfl⟩ := Int.eq_ofNat_of_zero_le g0
    simp only [Int.toNat_natCast] at ih2 ⊢
    refine Run.ite (fun h' => ?_) (fun h' => ?_)
    · refine Run.bindE (impl_Colouring_part_1_run x hx hp l hg i j (by omega) (by omega) (by omega)) ?_
      refine Run.bindE (impl_Colouring_put_run _ i j _ (by omega) (by omega)) ?_
      rw [w64_id (x := (i : Int) + 1) (by omega)]
      refine ih2 (_, (i : Int) + 1) ⟨by simp only; omega, by simp only; omega, ?_⟩ (by simp only; omega)
      simp only
      rw [show ((i : Int) + 1).toNat = i + 1 by omega, rowE]
    · rw [w64_id (x := (j : Int) + 1) (by omega)]
      refine ih (_, (j : Int) + 1) ⟨by simp only; omega, by simp only; omega, ?_⟩ (by simp only; omega)
      simp only
      rw [show ((j : Int) + 1).toNat = j + 1 by omega, madeE, show i = j by omega]
  · refine Run.ret ?_
    rw [show j = n by omega]

theorem impl_Colouring_part_run (x : Col) (hx : ByteC x) (hp : 0 ≤ x.p ∧ x.p ≤ 17) (l : List Int) (hg : Points x l) : Run (fun k => impl_Colouring_part.f k x l) (· = ⟨l.length, x.k, madeE (fun i j => colr x (l.getD i 0).toNat (l.getD j 0).toNat) l.length⟩) := by
  unfold impl_Colouring_part.f
  have hl17 := hg.length
  refine Run.bindE (impl_size_int64_run l) ?_
  refine Run.bindE (impl_made__Colouring_part_1_run x hx hp l hg x.k l.length (by omega) rfl) ?_
  exact Run.ret rfl
end Go.Proofs.Ytfhbamlpnicomaa.P
