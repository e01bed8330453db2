/- What the pure functions come to, one by one (part 2). -/
import Derived.Test.YtjhcacfhahpdgaaPFnExactFirstCycle00
import Derived.Test.YtjhcacfhahpdgaaGFnExactFirstCycle8
namespace Go.Proofs.Ytjhcacfhahpdgaa.P
open Go Go.RowKit Go.Proofs.Ytjhcacfhahpdgaa.K Go.Proofs.Ytjhcacfhahpdgaa.G
set_option linter.unusedVariables false
set_option linter.unusedSimpArgs false

theorem laws_toByteA136_run (e : Nat → Int) : Run (fun k => laws_toByteA136.f k e) (· = cut e) := by
  unfold laws_toByteA136.f
  refine Run.loop (L := fun q (s : (Nat → Int) × Int) => laws_toByteA136.l0 q e s.1 s.2) (fun s => (136 - s.2).toNat) (fun s => 0 ≤ s.2 ∧ s.2 ≤ 136 ∧ s.1 = fun (j : Nat) => if (j : Int) < s.2 then e j else 0) ?_ (_, 0) ⟨by omega, by omega, by funext j; rw [if_neg]; show ¬ ((j : Int) < 0); omega⟩
  rintro ⟨s, i⟩ ⟨h0, h1, hs⟩ ih
  simp only at h0 h1 hs
  simp only [laws_toByteA136.l0]
  refine Run.ite (fun h => ?_) (fun h => ?_)
  · refine Run.bindE (Run.getB' h0 h) ?_
    refine Run.bindE (Run.getB' h0 h) ?_
    rw [w64_id (by omega)]
    refine ih (_, i + 1) ⟨by simp only; omega, by simp only; omega, ?_⟩ (by simp only; omega)
    funext j
    show upd s i.toNat (e i.toNat) j = if (j : Int) < i + 1 then e j else 0
    by_cases e1 : j = i.toNat
    · rw [e1, upd_same, if_pos (by omega)]
    · rw [upd_other e1, hs]
      show (if (j : Int) < i then e j else 0) = _
      by_cases e2 : (j : Int) < i
      · rw [if_pos e2, if_pos (by omega)]
      · rw [if_neg e2, if_neg (by omega)]
  · refine Run.ret ?_
    rw [hs]
    funext j
    show (if (j : Int) < i then e j else 0) = cut e j
    unfold cut
    by_cases e2 : (j : Int) < i
    · rw [if_pos e2, if_pos (by omega)]
    · rw [if_neg e2, if_neg (by omega)]

theorem laws_toColouring_run (x : Col) : Run (fun k => laws_toColouring.f k x) (· = cutC x) := by
  unfold laws_toColouring.f
  refine Run.bindE (laws_toByteA136_run _) ?_
  exact Run.ret rfl

theorem spec_l01In_run (n low high : Int) : Run (fun _ => spec_l01In.f n low high) (· = decide (low ≤ n ∧ n ≤ high)) := by
  unfold spec_l01In.f
  refine Run.ite (fun h => ?_) (fun h => ?_)
  · refine Run.ret (decide_eq_decide.mpr ?_); omega
  · refine Run.ret ((decide_eq_false ?_).symm); omega

theorem spec_l01Is_run (x : Col) (hx : ByteC x) : Run (fun k => spec_l01Is.f k x) (· = isB x) := by
  unfold spec_l01Is.f
  refine Run.bindE (spec_l01In_run _ _ _) ?_
  refine Run.itn (fun h1 => ?_) (fun h1 => ?_)
  · exact Run.ret (decide_eq_false fun h => h1 (decide_eq_true h.1)).symm
  refine Run.bindE (spec_l01In_run _ _ _) ?_
  refine Run.itn (fun h2 => ?_) (fun h2 => ?_)
  · exact Run.ret (decide_eq_false fun h => h2 (decide_eq_true h.2.1)).symm
  have hp := of_decide_eq_true h1
  have hk := of_decide_eq_true h2
  refine Run.loop (L := fun q (i : Int) => spec_l01Is.l0 q x i) (fun i => (136 - i).toNat) (fun i => 0 ≤ i ∧ i ≤ 136 ∧ ∀ j : Nat, (j : Int) < i → (if j < tri x.p.toNat then x.e j < x.k else x.e j = 0)) ?_ 0 ⟨by omega, by omega, fun j hj => by omega⟩
  rintro i ⟨h0, h3, hJ⟩ ih
  simp only [spec_l01Is.l0]
  have et : w64 (Int.tdiv (w64 (x.p * (w64 (x.p - 1)))) 2) = (tri x.p.toNat : Int) := by
    have := tri_int (n := x.p.toNat) (by omega)
    rwa [show ((x.p.toNat : Nat) : Int) = x.p by omega] at this
  refine Run.ite (fun h => ?_) (fun h => ?_)
  · rw [et]
    refine Run.ite (fun h4 => ?_) (fun h4 => ?_)
    · refine Run.bindE (Run.getB' h0 h) ?_
      have hb := hx i.toNat
      rw [w64_id (by omega)]
      refine Run.ite (fun h5 => ?_) (fun h5 => ?_)
      · refine Run.ret (decide_eq_false fun hc => ?_).symm
        have := hc.2.2 i.toNat (by omega)
        rw [if_pos (by omega)] at this; omega
      · rw [w64_id (by omega)]
        refine ih (i + 1) ⟨by omega, by omega, fun j hj => ?_⟩ (by omega)
        by_cases ej : (j : Int) < i
        · exact hJ j ej
        · obtain rfl : j = i.toNat := by omega
          rw [if_pos (by omega)]; omega
    · refine Run.bindE (Run.getB' h0 h) ?_
      refine Run.ite (fun h5 => ?_) (fun h5 => ?_)
      · refine Run.ret (decide_eq_false fun hc => ?_).symm
        have := hc.2.2 i.toNat (by omega)
        rw [if_neg (by omega)] at this; omega
      · rw [w64_id (by omega)]
        refine ih (i + 1) ⟨by omega, by omega, fun j hj => ?_⟩ (by omega)
        by_cases ej : (j : Int) < i
        · exact hJ j ej
        · obtain rfl : j = i.toNat := by omega
          rw [if_neg (by omega)]; omega
  · refine Run.ret (decide_eq_true ⟨hp, hk, fun j hj => hJ j (by omega)⟩).symm

theorem spec_l01All_run (list : List Int) (c : Int) (hc : 0 ≤ c ∧ c < 1000000000) (hl : list.length < 4611686018427387904) : Run (fun k => spec_l01All.f k list c) (· = allIn list 0 (c - 1)) := by
  unfold spec_l01All.f
  refine Run.loop (L := fun q (i : Int) => spec_l01All.l0 q list c i) (fun i => (list.length - i).toNat) (fun i => 0 ≤ i ∧ i ≤ list.length ∧ allIn list 0 (c - 1) = allIn (list.drop i.toNat) 0 (c - 1)) ?_ 0 ⟨by omega, by omega, rfl⟩
  rintro i ⟨h0, h3, hJ⟩ ih
  simp only [spec_l01All.l0]
  refine Run.ite (fun h => ?_) (fun h => ?_)
  · have hd : list.drop i.toNat = list[i.toNat]'(by omega) :: list.drop (i.toNat + 1) := List.drop_eq_getElem_cons (by omega)
    refine Run.bindE (Run.getI' h0 h) ?_
    rw [w64_id (x := c - 1) (by omega), w64_id (x := i + 1) (by omega)]
    refine Run.bindE (spec_l01In_run _ _ _) ?_
    refine Run.ite (fun h5 => ?_) (fun h5 => ?_)
    · refine ih (i + 1) ⟨by omega, by omega, ?_⟩ (by omega)
      rw [hJ, hd, show (i + 1).toNat = i.toNat + 1 by omega, allIn_cons, h5, Bool.true_and]
    · refine Run.ret ?_
      rw [hJ, hd, allIn_cons, Bool.eq_false_iff.mpr h5, Bool.false_and]
  · refine Run.ret ?_
    rw [hJ, List.drop_eq_nil_of_le (by omega)]; rfl

theorem spec_l01Given_run (x : Col) (hx : ByteC x) (c : Int) (points : List Int) (hl : points.length < 4611686018427387904) :
    Run (fun k => spec_l01Given.f k x c points) (· = given (isB x) (decide (0 ≤ c ∧ c ≤ x.k - 1) && allIn points 0 (x.p - 1))) := by
  unfold spec_l01Given.f
  refine Run.bindE (spec_l01Is_run x hx) ?_
  refine Run.itn (fun h1 => ?_) (fun h1 => ?_)
  · exact Run.ret (by rw [given, if_neg h1])
  have hc := isB_spec h1
  rw [given, if_pos h1, w64_id (x := x.k - 1) (by have := hc.2.1; omega)]
  refine Run.bindE (spec_l01In_run _ _ _) ?_
  refine Run.itn (fun h2 => ?_) (fun h2 => ?_)
  · exact Run.ret (by rw [Bool.eq_false_iff.mpr h2]; rfl)
  refine Run.bindE (spec_l01All_run points x.p (by have := hc.1; omega) hl) ?_
  rw [h2, Bool.true_and]
  exact Run.ite (fun h3 => Run.ret (by rw [if_pos h3])) (fun h3 => Run.ret (by rw [if_neg h3]))

theorem spec_l04Code_run (x : Col) (hx : ByteC x) (c : Int) : Run (fun k => spec_l04Code.f k x c true) (· = patC x c) := by
  unfold spec_l04Code.f patC
  refine Run.bindE (spec_l01Given_run x hx c [] (by simp)) ?_
  have eo : (decide (0 ≤ c ∧ c ≤ x.k - 1) && allIn [] 0 (x.p - 1)) = decide (0 ≤ c ∧ c ≤ x.k - 1) := by simp [allIn]
  rw [eo]
  refine Run.ite (fun h => ?_) (fun h => Run.ret (by rw [if_neg h]))
  rw [if_pos h]
  refine Run.yes rfl ?_
  exact Run.ite (fun h2 => Run.ret (by rw [if_pos h2])) (fun h2 => Run.ret (by rw [if_neg h2]; exact h))

theorem spec_l01Edge_run (i j : Nat) (hi : i ≤ 1000) (hj : j ≤ 1000) : Run (fun _ => spec_l01Edge.f i j) (· = (edg i j : Int)) := by
  unfold spec_l01Edge.f
  have ti := tri_mono hi
  have tj := tri_mono hj
  have tt : tri 1000 = 499500 := rfl
  refine Run.ite (fun h => ?_) (fun h => ?_)
  · refine Run.ret ?_
    rw [tri_int (by omega), w64_id (by omega), edg, if_pos (by omega)]; rfl
  · refine Run.ret ?_
    rw [tri_int (by omega), w64_id (by omega), edg, if_neg (by omega)]; rfl

theorem spec_l01At_run (x : Col) (hx : ByteC x) (hp : 0 ≤ x.p ∧ x.p ≤ 17) (i j : Nat) (hi : (i : Int) < x.p) (hj : (j : Int) < x.p) (hn : i ≠ j) : Run (fun _ => spec_l01At.f x i j) (· = colr x i j) := by
  unfold spec_l01At.f
  refine Run.bindE (spec_l01Edge_run i j (by omega) (by omega)) ?_
  have := edg_lt136 (i := i) (j := j) (p := x.p.toNat) (by omega) (by omega) (by omega) hn
  refine Run.bindE (Run.getB' (by omega) (by omega)) ?_
  have hb := hx ((edg i j : Nat) : Int).toNat
  exact Run.ret (w64_id (by omega))

theorem spec_l01Around_run (x : Col) (hx : ByteC x) (hp : 0 ≤ x.p ∧ x.p ≤ 17) (i : Nat) (c : Int) (hi : (i : Int) < x.p) : Run (fun k => spec_l01Around.f k x i c) (· = (mask (joinsB x i c) x.p.toNat : Int)) := by
  unfold spec_l01Around.f
  refine Run.loop (L := fun q (s : Int × Int) => spec_l01Around.l0 q x i c s.1 s.2) (fun s => (x.p - s.2).toNat) (fun s => 0 ≤ s.2 ∧ s.2 ≤ x.p ∧ s.1 = (mask (joinsB x i c) s.2.toNat : Int)) ?_ (0, 0) ⟨by simp only; omega, by simp only; omega, rfl⟩
  rintro ⟨s, j⟩ ⟨h0, h3, hs⟩ ih
  simp only at h0 h3 hs
  simp only [spec_l01Around.l0]
  obtain ⟨j, rfl⟩ := Int.eq_ofNat_of_zero_le h0
  simp only [Int.toNat_natCast] at hs
  refine Run.ite (fun h => ?_) (fun h => ?_)
  · have hm := mask_lt (joinsB x i c) j
    have hm2 : (2 : Nat) ^ j ≤ 2 ^ 17 := Nat.pow_le_pow_right (by omega) (by omega)
    rw [w64_id (x := (j : Int) + 1) (by omega)]
    refine Run.ite (fun h1 => ?_) (fun h1 => ?_)
    · refine Run.bindE (spec_l01At_run x hx hp i j hi h (by omega)) ?_
      refine Run.ite (fun h2 => ?_) (fun h2 => ?_)
      · have hj : joinsB x i c j = true := by rw [joinsB, decide_eq_true (p := i ≠ j) (by omega), h2]; simp
        rw [wu64_id (by omega), shl64 (by omega), hs, or64 (by omega) (by omega)]
        refine ih (_, (j : Int) + 1) ⟨by simp only; omega, by simp only; omega, ?_⟩ (by simp only; omega)
        simp only
        rw [show ((j : Int) + 1).toNat = j + 1 by omega, mask, if_pos hj]
      · have hj : ¬ joinsB x i c j = true := by rw [joinsB, decide_eq_false h2]; simp
        refine ih (_, (j : Int) + 1) ⟨by simp only; omega, by simp only; omega, ?_⟩ (by simp only; omega)
        simp only
        rw [show ((j : Int) + 1).toNat = j + 1 by omega, mask, if_neg hj, hs]
    · have hj : ¬ joinsB x i c j = true := by rw [joinsB, decide_eq_false (p := i ≠ j) (by omega)]; simp
      refine ih (_, (j : Int) + 1) ⟨by simp only; omega, by simp only; omega, ?_⟩ (by simp only; omega)
      simp only
      rw [show ((j : Int) + 1).toNat = j + 1 by omega, mask, if_neg hj, hs]
  · refine Run.ret ?_
    rw [hs, show x.p.toNat = j by omega]

theorem spec_l02Rows_run (x : Col) (hx : ByteC x) (hp : 0 ≤ x.p ∧ x.p ≤ 17) (c : Int) : Run (fun k => spec_l02Rows.f k x c) (· = rowsM x c x.p.toNat) := by
  unfold spec_l02Rows.f
  refine Run.loop (L := fun q (z : List Int × Int) => spec_l02Rows.l0 q x c z.1 z.2) (fun z => (x.p - z.2).toNat) (fun z => 0 ≤ z.2 ∧ z.2 ≤ x.p ∧ z.1 = rowsM x c z.2.toNat) ?_ ([], 0) ⟨by simp only; omega, by simp only; omega, rfl⟩
  rintro ⟨l, j⟩ ⟨h0, h3, hl⟩ ih
  simp only at h0 h3 hl
  subst hl
  simp only [spec_l02Rows.l0]
  obtain ⟨j, rfl⟩ := Int.eq_ofNat_of_zero_le h0
  simp only [Int.toNat_natCast] at ih ⊢
  refine Run.ite (fun h => ?_) (fun h => ?_)
  · rw [w64_id (x := (j : Int) + 1) (by omega)]
    refine Run.bindE (spec_l01Around_run x hx hp j c h) ?_
    refine Run.bindE (Run.push' (by rw [rowsM_length]; omega)) ?_
    refine ih (_, (j : Int) + 1) ⟨by simp only; omega, by simp only; omega, ?_⟩ (by simp only; omega)
    simp only
    rw [show ((j : Int) + 1).toNat = j + 1 by omega, rowsM_succ]
  · refine Run.ret ?_
    rw [show x.p.toNat = j by omega]
end Go.Proofs.Ytjhcacfhahpdgaa.P
