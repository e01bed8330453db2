/- What the pure functions come to, one by one (part 6). -/
import Derived.Test.YtbgniopmmankdaaPFnExactPointOrbits5
import Derived.Test.YtbgniopmmankdaaGFnExactPointOrbits11
namespace Go.Proofs.Ytbgniopmmankdaa.P
open Go Go.RowKit Go.Proofs.Ytbgniopmmankdaa.K Go.Proofs.Ytbgniopmmankdaa.G
set_option linter.unusedVariables false
set_option linter.unusedSimpArgs false

theorem impl_Colouring_isColouring_run (x : Col) (hx : ByteC x) : Run (fun k => impl_Colouring_isColouring.f k x) (· = isB x) := by
  unfold impl_Colouring_isColouring.f
  refine Run.bindE (impl_in_run _ _ _) ?_
  refine Run.itn (fun h1 => ?_) (fun h1 => ?_)
  · exact Run.ret (decide_eq_false fun h => h1 (decide_eq_true h.1)).symm
  refine Run.bindE (impl_in_run _ _ _) ?_
  refine Run.itn (fun h2 => ?_) (fun h2 => ?_)
  · exact Run.ret (decide_eq_false fun h => h2 (decide_eq_true h.2.1)).symm
  have hp := of_decide_eq_true h1
  have hk := of_decide_eq_true h2
  refine Run.loop (L := fun q (i : Int) => impl_Colouring_isColouring.l0 q x i) (fun i => (136 - i).toNat) (fun i => 0 ≤ i ∧ i ≤ 136 ∧ ∀ j : Nat, (j : Int) < i → (if j < tri x.p.toNat then x.e j < x.k else x.e j = 0)) ?_ 0 ⟨by omega, by omega, fun j hj => by omega⟩
  rintro i ⟨h0, h3, hJ⟩ ih
  simp only [impl_Colouring_isColouring.l0]
  refine Run.ite (fun h => ?_) (fun h => ?_)
  · refine Run.bindE (Run.getB' h0 h) ?_
    have hb := hx i.toNat
    rw [w64_id (x := x.e i.toNat) (by omega)]
    refine Run.ite (fun h5 => ?_) (fun h5 => ?_)
    · refine Run.ret (decide_eq_false fun hc => ?_).symm
      have := hc.2.2 i.toNat (by omega)
      by_cases h6 : i.toNat < tri x.p.toNat
      · rw [if_pos h6] at this; omega
      · rw [if_neg h6] at this; omega
    · refine Run.bindE (impl_Colouring_edges_run x (by omega)) ?_
      rw [w64_id (x := i + 1) (by omega)]
      refine Run.ite (fun h4 => ?_) (fun h4 => ?_)
      · refine Run.ite (fun h7 => ?_) (fun h7 => ?_)
        · refine Run.ret (decide_eq_false fun hc => ?_).symm
          have := hc.2.2 i.toNat (by omega)
          rw [if_neg (by omega)] at this; omega
        · refine ih (i + 1) ⟨by omega, by omega, fun j hj => ?_⟩ (by omega)
          by_cases ej : (j : Int) < i
          · exact hJ j ej
          · obtain rfl : j = i.toNat := by omega
            rw [if_neg (by omega)]; omega
      · refine ih (i + 1) ⟨by omega, by omega, fun j hj => ?_⟩ (by omega)
        by_cases ej : (j : Int) < i
        · exact hJ j ej
        · obtain rfl : j = i.toNat := by omega
          rw [if_pos (by omega)]; omega
  · refine Run.ret (decide_eq_true ⟨hp, hk, fun j hj => hJ j (by omega)⟩).symm

theorem impl_always_run : Run (fun _ => impl_always.f) (· = true) := by
  unfold impl_always.f
  exact Run.ret rfl

theorem impl_Colouring_code__always_run (x : Col) (hx : ByteC x) : Run (fun k => impl_Colouring_code__always.f k x) (· = given (isB x) true) := by
  unfold impl_Colouring_code__always.f
  refine Run.bindE (impl_Colouring_isColouring_run x hx) ?_
  refine Run.itn (fun h1 => ?_) (fun h1 => ?_)
  · exact Run.ret (by rw [given, if_neg h1])
  rw [given, if_pos h1]
  refine Run.bindE (impl_always_run) ?_
  exact Run.ite (fun h3 => Run.ret (by rw [if_pos h3])) (fun h3 => Run.ret (by rw [if_neg h3]))

theorem impl_Colouring_isMoved_1_run (t : Nat) (p : Int) : Run (fun _ => impl_Colouring_isMoved_1.f t p) (· = decide ((t : Int) ≠ p)) := by
  unfold impl_Colouring_isMoved_1.f
  exact Run.ret rfl

theorem impl_Colouring_that__Colouring_isMoved_1_run (x : Col) (hx : ByteC x) (hp : 0 ≤ x.p ∧ x.p ≤ 17) (p : Int) : Run (fun k => impl_Colouring_that__Colouring_isMoved_1.f k x p) (· = sel (fun t => decide ((t : Int) ≠ p)) x.p.toNat) := by
  unfold impl_Colouring_that__Colouring_isMoved_1.f
  refine Run.loop (L := fun q (z : List Int × Int) => impl_Colouring_that__Colouring_isMoved_1.l0 q x p z.1 z.2) (fun z => (x.p - z.2).toNat) (fun z => 0 ≤ z.2 ∧ z.2 ≤ x.p ∧ z.1 = sel (fun t => decide ((t : Int) ≠ p)) z.2.toNat) ?_ ([], 0) ⟨by simp only; omega, by simp only; omega, rfl⟩
  rintro ⟨l, t⟩ ⟨h0, h3, hl⟩ ih
  simp only at h0 h3 hl
  simp only [impl_Colouring_that__Colouring_isMoved_1.l0]
  obtain ⟨t, rfl⟩ := Int.eq_ofNat_of_zero_le h0
  simp only [Int.toNat_natCast] at hl
  refine Run.ite (fun h => ?_) (fun h => ?_)
  · rw [w64_id (x := (t : Int) + 1) (by omega)]
    refine Run.bindE (impl_Colouring_isMoved_1_run t p) ?_
    refine Run.ite (fun h1 => ?_) (fun h1 => ?_)
    · have hlen := sel_length (fun t => decide ((t : Int) ≠ p)) t
      refine Run.bindE (Run.push' (by rw [hl]; omega)) ?_
      refine ih (_, (t : Int) + 1) ⟨by simp only; omega, by simp only; omega, ?_⟩ (by simp only; omega)
      simp only
      rw [show ((t : Int) + 1).toNat = t + 1 by omega, sel_yes h1, hl]
    · refine ih (_, (t : Int) + 1) ⟨by simp only; omega, by simp only; omega, ?_⟩ (by simp only; omega)
      simp only
      rw [show ((t : Int) + 1).toNat = t + 1 by omega, sel_no h1, hl]
  · refine Run.ret ?_
    rw [hl, show x.p.toNat = t by omega]

theorem impl_number_run (i j : Nat) (hi : i ≤ 1000) (hj : j ≤ 1000) : Run (fun _ => impl_number.f i j) (· = (edg i j : Int)) := by
  unfold impl_number.f
  have hm : (max i j) ≤ 1000 := by omega
  have ti := tri_mono hm
  have tt : tri 1000 = 499500 := rfl
  rw [show max (i : Int) (j : Int) = ((max i j : Nat) : Int) by omega, show min (i : Int) (j : Int) = ((min i j : Nat) : Int) by omega]
  refine Run.ret ?_
  rw [tri_int (by omega), w64_id (by omega), edg]
  split
  · rw [show max i j = i by omega, show min i j = j by omega]; rfl
  · rw [show max i j = j by omega, show min i j = i by omega]; rfl

theorem impl_Colouring_at_run (x : Col) (hx : ByteC x) (hp : 0 ≤ x.p ∧ x.p ≤ 17) (i j : Nat) (hi : (i : Int) < x.p) (hj : (j : Int) < x.p) (hn : i ≠ j) : Run (fun _ => impl_Colouring_at.f x i j) (· = colr x i j) := by
  unfold impl_Colouring_at.f
  refine Run.bindE (impl_number_run i j (by omega) (by omega)) ?_
  have := edg_lt136 (i := i) (j := j) (p := x.p.toNat) (by omega) (by omega) (by omega) hn
  refine Run.bindE (Run.getB' (by omega) (by omega)) ?_
  have hb := hx ((edg i j : Nat) : Int).toNat
  exact Run.ret (w64_id (by omega))

theorem impl_Colouring_degreesAt_run (x : Col) (hx : ByteC x) (hc : IsCol x) (i : Nat) (hi : (i : Int) < x.p) : Run (fun k => impl_Colouring_degreesAt.f k x i) (· = degL x i) := by
  unfold impl_Colouring_degreesAt.f
  have hp := hc.1
  have hk := hc.2.1
  refine Run.bind (Q := fun _ => True) (Run.guard (by omega) trivial) fun _ _ => ?_
  refine Run.loop (L := fun q (z : List Int × Int) => impl_Colouring_degreesAt.l0 q x i z.1 z.2) (fun z => (x.p - z.2).toNat) (fun z => 0 ≤ z.2 ∧ z.2 ≤ x.p ∧ z.1 = (List.range x.k.toNat).map fun (c : Nat) => ((cnt (joinsB x i ((c : Nat) : Int)) z.2.toNat : Nat) : Int)) ?_ (_, 0) ⟨by simp only; omega, by simp only; omega, ?_⟩
  rotate_left
  · simp only
    refine List.ext_getElem (by simp) fun c h1 h2 => ?_
    simp; rfl
  rintro ⟨l, j⟩ ⟨h0, h3, hl⟩ ih
  simp only at h0 h3 hl
  subst hl
  simp only [impl_Colouring_degreesAt.l0]
  obtain ⟨j, rfl⟩ := Int.eq_ofNat_of_zero_le h0
  simp only [Int.toNat_natCast] at ih ⊢
  refine Run.ite (fun h => ?_) (fun h => ?_)
  rotate_left
  · refine Run.ret ?_
    unfold degL degC
    rw [show j = x.p.toNat by omega]
  rw [w64_id (x := (j : Int) + 1) (by omega)]
  refine Run.ite (fun hji => ?_) (fun hji => ?_)
  · refine Run.bindE (impl_Colouring_at_run x hx (by omega) i j (by omega) (by omega) (by omega)) ?_
    have hed := edg_lt (i := i) (j := j) (p := x.p.toNat) (by omega) (by omega) (by omega)
    have he136 := edg_lt136 (i := i) (j := j) (p := x.p.toNat) (by omega) (by omega) (by omega) (by omega)
    have hcol : 0 ≤ colr x i j ∧ colr x i j < x.k := by
      have h1 := hc.2.2 (edg i j) he136
      rw [if_pos hed] at h1
      exact ⟨(hx _).1, h1⟩
    obtain ⟨c0, hc0⟩ := Int.eq_ofNat_of_zero_le hcol.1
    rw [hc0]
    refine Run.bindE (Run.getI' (by omega) (by simp; omega)) ?_
    refine Run.bindE (Run.getI' (by omega) (by simp; omega)) ?_
    have hcn := cnt_le (joinsB x i (c0 : Int)) j
    simp only [List.getElem_map, List.getElem_range, Int.toNat_natCast]
    rw [w64_id (by omega)]
    refine ih (_, (j : Int) + 1) ⟨by simp only; omega, by simp only; omega, ?_⟩ (by simp only; omega)
    simp only
    rw [show ((j : Int) + 1).toNat = j + 1 by omega]
    refine List.ext_getElem (by simp) fun c h1 h2 => ?_
    rw [List.getElem_set]
    simp only [List.getElem_map, List.getElem_range]
    rw [cnt_succ]
    by_cases e : c0 = c
    · subst e
      rw [if_pos rfl, if_pos (by unfold joinsB; rw [decide_eq_true (show i ≠ j by omega), decide_eq_true hc0]; rfl)]
      omega
    · rw [if_neg e, if_neg (by unfold joinsB; rw [decide_eq_false (show ¬ colr x i j = (c : Int) by omega), Bool.and_false]; simp)]
      omega
  · have eij : j = i := by omega
    refine ih (_, (j : Int) + 1) ⟨by simp only; omega, by simp only; omega, ?_⟩ (by simp only; omega)
    simp only
    rw [show ((j : Int) + 1).toNat = j + 1 by omega]
    refine List.map_congr_left fun c _ => ?_
    rw [cnt_succ, if_neg (by unfold joinsB; rw [decide_eq_false (show ¬ i ≠ j by omega), Bool.false_and]; simp)]
    rfl

theorem slices_Equal_int64_int64_run (a b : List Int) (ha : a.length ≤ 1000) : Run (fun k => slices_Equal_int64_int64.f k a b) (· = decide (a = b)) := by
  unfold slices_Equal_int64_int64.f
  refine Run.ite (fun h => Run.ret (decide_eq_false fun e => h (by rw [e])).symm) (fun h => ?_)
  have hl : a.length = b.length := by omega
  refine Run.loop (L := fun q (z : Int) => slices_Equal_int64_int64.l0 q a b z) (fun z => (a.length - z).toNat) (fun z => 0 ≤ z ∧ z ≤ a.length ∧ ∀ i : Nat, (i : Int) < z → a[i]? = b[i]?) ?_ 0 ⟨by omega, by omega, fun i h => by omega⟩
  rintro i ⟨i0, i1, hi⟩ ih
  obtain ⟨i, rfl⟩ := Int.eq_ofNat_of_zero_le i0
  simp only [slices_Equal_int64_int64.l0]
  refine Run.ite (fun h1 => ?_) (fun h1 => ?_)
  · refine Run.bindE (Run.getI' (by omega) h1) ?_
    refine Run.bindE (Run.getI' (by omega) (by omega)) ?_
    simp only [Int.toNat_natCast]
    refine Run.ite (fun h2 => Run.ret (decide_eq_false fun e => h2 ?_).symm) (fun h2 => ?_)
    · subst e; rfl
    · rw [w64_id (x := (i : Int) + 1) (by omega)]
      refine ih ((i : Int) + 1) ⟨by omega, by omega, fun j hj => ?_⟩ (by omega)
      by_cases e : j = i
      · subst e
        rw [List.getElem?_eq_getElem (by omega), List.getElem?_eq_getElem (by omega), Decidable.not_not.mp h2]
      · exact hi j (by omega)
  · refine Run.ret (decide_eq_true ?_).symm
    refine List.ext_getElem? fun j => ?_
    by_cases hj : j < a.length
    · exact hi j (by omega)
    · rw [List.getElem?_eq_none (by omega), List.getElem?_eq_none (by omega)]
end Go.Proofs.Ytbgniopmmankdaa.P
