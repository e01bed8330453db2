/- What the pure functions come to, one by one (part 6). -/
import Derived.Test.YtbgniopmmankdaaPFnExactIsSelfAlike5
import Derived.Test.YtbgniopmmankdaaGFnExactIsSelfAlike9
namespace Go.Proofs.Ytbgniopmmankdaa.P
open Go Go.RowKit Go.Proofs.Ytbgniopmmankdaa.K Go.Proofs.Ytbgniopmmankdaa.G
set_option linter.unusedVariables false
set_option linter.unusedSimpArgs false

theorem impl_Colouring_at_run (x : Col) (hx : ByteC x) (hp : 0 ≤ x.p ∧ x.p ≤ 17) (i j : Nat) (hi : (i : Int) < x.p) (hj : (j : Int) < x.p) (hn : i ≠ j) : Run (fun _ => impl_Colouring_at.f x i j) (· = colr x i j) := by
  unfold impl_Colouring_at.f
  refine Run.bindE (impl_number_run i j (by omega) (by omega)) ?_
  have := edg_lt136 (i := i) (j := j) (p := x.p.toNat) (by omega) (by omega) (by omega) hn
  refine Run.bindE (Run.getB' (by omega) (by omega)) ?_
  have hb := hx ((edg i j : Nat) : Int).toNat
  exact Run.ret (w64_id (by omega))

theorem impl_Colouring_alike_1_run (v : Int) (q : List Int) (h0 : 0 ≤ v) (h : v < q.length) : Run (fun _ => impl_Colouring_alike_1.f v q) (· = q.getD v.toNat 0) := by
  unfold impl_Colouring_alike_1.f
  refine Run.bindE (Run.getI' h0 h) ?_
  exact Run.ret (by rw [List.getD_eq_getElem?_getD, List.getElem?_eq_getElem (by omega)]; rfl)

theorem impl_Colouring_recoloured_1__Colouring_alike_1_run (x : Col) (hx : ByteC x) (hc : IsCol x) (q : List Int) (hq : Perm x.k.toNat q) (i j : Nat) (hj : j < x.p.toNat) (hij : i < j) : Run (fun _ => impl_Colouring_recoloured_1__Colouring_alike_1.f i j q x) (· = q.getD (colr x i j).toNat 0) := by
  unfold impl_Colouring_recoloured_1__Colouring_alike_1.f
  have hp := hc.1
  have hk := hc.2.1
  refine Run.bindE (impl_Colouring_at_run x hx (by omega) i j (by omega) (by omega) (by omega)) ?_
  have h1 := colr_edge hc (i := i) (j := j) (by omega) hj (by omega)
  have h2 := (hx (edg i j)).1
  refine Run.bindE (impl_Colouring_alike_1_run (colr x i j) q h2 (by rw [hq.len]; omega)) ?_
  exact Run.ret rfl

theorem impl_Colouring_put_run (x : Col) (i j : Nat) (c : Int) (hi : i < j) (hj : j < 17) : Run (fun _ => impl_Colouring_put.f x i j c) (· = ⟨x.p, x.k, upd x.e (tri j + i) (w8 c)⟩) := by
  unfold impl_Colouring_put.f
  refine Run.bindE (impl_number_run i j (by omega) (by omega)) ?_
  have := low136 hi hj
  rw [edg_low hi]
  refine Run.bindE (Run.getB' (by omega) (by omega)) ?_
  exact Run.ret rfl

theorem impl_made__Colouring_recoloured_1__Colouring_alike_1_run (x : Col) (hx : ByteC x) (hc : IsCol x) (l : List Int) (hq : Perm x.k.toNat l) (K : Int) (n : Nat) (hn : n ≤ 17) (hnl : n = x.p.toNat) : Run (fun k => impl_made__Colouring_recoloured_1__Colouring_alike_1.f k n K l x) (· = ⟨n, K, madeE (fun i j => l.getD (colr x i j).toNat 0) n⟩) := by
  unfold impl_made__Colouring_recoloured_1__Colouring_alike_1.f
  refine Run.loop (L := fun q (z : Col × Int) => impl_made__Colouring_recoloured_1__Colouring_alike_1.l0 q n l x z.1 z.2) (fun z => (n - z.2).toNat) (fun z => 0 ≤ z.2 ∧ z.2 ≤ n ∧ z.1 = ⟨n, K, madeE (fun i j => l.getD (colr x i j).toNat 0) z.2.toNat⟩) ?_ (_, 0) ⟨by simp only; omega, by simp only; omega, rfl⟩
  rintro ⟨y, j⟩ ⟨h0, h3, hy⟩ ih
  simp only at h0 h3 hy
  subst hy
  simp only [impl_made__Colouring_recoloured_1__Colouring_alike_1.l0]
  obtain ⟨j, rfl⟩ := Int.eq_ofNat_of_zero_le h0
  simp only [Int.toNat_natCast] at ih ⊢
  refine Run.ite (fun h => ?_) (fun h => ?_)
  · refine Run.loop (L := fun q (z : Col × Int) => impl_made__Colouring_recoloured_1__Colouring_alike_1.l1 q n l x j z.1 z.2) (fun z => (j - z.2).toNat) (fun z => 0 ≤ z.2 ∧ z.2 ≤ j ∧ z.1 = ⟨n, K, rowE (fun i j => l.getD (colr x i j).toNat 0) j (madeE (fun i j => l.getD (colr x i j).toNat 0) j) z.2.toNat⟩) ?_ (_, 0) ⟨by simp only; omega, by simp only; omega, rfl⟩
    rintro ⟨y, i⟩ ⟨g0, g3, hy⟩ ih2
    simp only at g0 g3 hy
    subst hy
    simp only [impl_made__Colouring_recoloured_1__Colouring_alike_1.l1]
    obtain ⟨i, rfl⟩ := Int.eq_ofNat_of_zero_le g0
    simp only [Int.toNat_natCast] at ih2 ⊢
    refine Run.ite (fun h' => ?_) (fun h' => ?_)
    · refine Run.bindE (impl_Colouring_recoloured_1__Colouring_alike_1_run x hx hc l hq i j (by omega) (by omega)) ?_
      refine Run.bindE (impl_Colouring_put_run _ i j _ (by omega) (by omega)) ?_
      rw [w64_id (x := (i : Int) + 1) (by omega)]
      refine ih2 (_, (i : Int) + 1) ⟨by simp only; omega, by simp only; omega, ?_⟩ (by simp only; omega)
      simp only
      rw [show ((i : Int) + 1).toNat = i + 1 by omega, rowE]
    · rw [w64_id (x := (j : Int) + 1) (by omega)]
      refine ih (_, (j : Int) + 1) ⟨by simp only; omega, by simp only; omega, ?_⟩ (by simp only; omega)
      simp only
      rw [show ((j : Int) + 1).toNat = j + 1 by omega, madeE, show i = j by omega]
  · refine Run.ret ?_
    rw [show j = n by omega]

theorem impl_Colouring_recoloured__Colouring_alike_1_run (x : Col) (hx : ByteC x) (hc : IsCol x) (q : List Int) (hq : Perm x.k.toNat q) : Run (fun k => impl_Colouring_recoloured__Colouring_alike_1.f k x x.k q) (· = recC x q) := by
  unfold impl_Colouring_recoloured__Colouring_alike_1.f
  have hp := hc.1
  have h := impl_made__Colouring_recoloured_1__Colouring_alike_1_run x hx hc q hq x.k x.p.toNat (by omega) rfl
  rw [show ((x.p.toNat : Nat) : Int) = x.p by omega] at h
  refine Run.bindE h ?_
  exact Run.ret rfl

theorem impl_Colouring_points_1_run (p : Int) : Run (fun _ => impl_Colouring_points_1.f p) (· = true) := by
  unfold impl_Colouring_points_1.f
  exact Run.ret rfl

theorem impl_Colouring_that__Colouring_points_1_run (x : Col) (hp : 0 ≤ x.p ∧ x.p ≤ 17) : Run (fun k => impl_Colouring_that__Colouring_points_1.f k x) (· = sel (fun _ => true) x.p.toNat) := by
  unfold impl_Colouring_that__Colouring_points_1.f
  refine Run.loop (L := fun q (z : List Int × Int) => impl_Colouring_that__Colouring_points_1.l0 q x z.1 z.2) (fun z => (x.p - z.2).toNat) (fun z => 0 ≤ z.2 ∧ z.2 ≤ x.p ∧ z.1 = sel (fun _ => true) z.2.toNat) ?_ ([], 0) ⟨by simp only; omega, by simp only; omega, rfl⟩
  rintro ⟨l, t⟩ ⟨h0, h3, hl⟩ ih
  simp only at h0 h3 hl
  simp only [impl_Colouring_that__Colouring_points_1.l0]
  obtain ⟨t, rfl⟩ := Int.eq_ofNat_of_zero_le h0
  simp only [Int.toNat_natCast] at hl
  refine Run.ite (fun h => ?_) (fun h => ?_)
  · rw [w64_id (x := (t : Int) + 1) (by omega)]
    refine Run.bindE (impl_Colouring_points_1_run t) ?_
    refine Run.yes rfl ?_
    have hlen := sel_length (fun _ => true) t
    refine Run.bindE (Run.push' (by rw [hl]; omega)) ?_
    refine ih (_, (t : Int) + 1) ⟨by simp only; omega, by simp only; omega, ?_⟩ (by simp only; omega)
    simp only
    rw [show ((t : Int) + 1).toNat = t + 1 by omega, sel_yes rfl, hl]
  · refine Run.ret ?_
    rw [hl, show x.p.toNat = t by omega]

theorem impl_Colouring_points_run (x : Col) (hp : 0 ≤ x.p ∧ x.p ≤ 17) : Run (fun k => impl_Colouring_points.f k x) (· = sel (fun _ => true) x.p.toNat) := by
  unfold impl_Colouring_points.f
  refine Run.bindE (impl_Colouring_that__Colouring_points_1_run x hp) ?_
  exact Run.ret rfl

theorem impl_Colouring_degreesAt_run (x : Col) (hx : ByteC x) (hc : IsCol x) (i : Nat) (hi : (i : Int) < x.p) : Run (fun k => impl_Colouring_degreesAt.f k x i) (· = degL x i) := by
  unfold impl_Colouring_degreesAt.f
  have hp := hc.1
  have hk := hc.2.1
  refine Run.bind (Q := fun _ => True) (Run.guard (by omega) trivial) fun _ _ => ?_
  refine Run.loop (L := fun q (z : List Int × Int) => impl_Colouring_degreesAt.l0 q x i z.1 z.2) (fun z => (x.p - z.2).toNat) (fun z => 0 ≤ z.2 ∧ z.2 ≤ x.p ∧ z.1 = (List.range x.k.toNat).map fun (c : Nat) => ((cnt (joinsB x i ((c : Nat) : Int)) z.2.toNat : Nat) : Int)) ?_ (_, 0) ⟨by simp only; omega, by simp only; omega, ?_⟩
  rotate_left
  · simp only
    refine List.ext_getElem (by simp) fun c h1 h2 => ?_
    simp; rfl
  rintro ⟨l, j⟩ ⟨h0, h3, hl⟩ ih
  simp only at h0 h3 hl
  subst hl
  simp only [impl_Colouring_degreesAt.l0]
  obtain ⟨j, rfl⟩ := Int.eq_ofNat_of_zero_le h0
  simp only [Int.toNat_natCast] at ih ⊢
  refine Run.ite (fun h => ?_) (fun h => ?_)
  rotate_left
  · refine Run.ret ?_
    unfold degL degC
    rw [show j = x.p.toNat by omega]
  rw [w64_id (x := (j : Int) + 1) (by omega)]
  refine Run.ite (fun hji => ?_) (fun hji => ?_)
  · refine Run.bindE (impl_Colouring_at_run x hx (by omega) i j (by omega) (by omega) (by omega)) ?_
    have hed := edg_lt (i := i) (j := j) (p := x.p.toNat) (by omega) (by omega) (by omega)
    have he136 := edg_lt136 (i := i) (j := j) (p := x.p.toNat) (by omega) (by omega) (by omega) (by omega)
    have hcol : 0 ≤ colr x i j ∧ colr x i j < x.k := by
      have h1 := hc.2.2 (edg i j) he136
      rw [if_pos hed] at h1
      exact ⟨(hx _).1, h1⟩
    obtain ⟨c0, hc0⟩ := Int.eq_ofNat_of_zero_le hcol.1
    rw [hc0]
    refine Run.bindE (Run.getI' (by omega) (by simp; omega)) ?_
    refine Run.bindE (Run.getI' (by omega) (by simp; omega)) ?_
    have hcn := cnt_le (joinsB x i (c0 : Int)) j
    simp only [List.getElem_map, List.getElem_range, Int.toNat_natCast]
    rw [w64_id (by omega)]
    refine ih (_, (j : Int) + 1) ⟨by simp only; omega, by simp only; omega, ?_⟩ (by simp only; omega)
    simp only
    rw [show ((j : Int) + 1).toNat = j + 1 by omega]
    refine List.ext_getElem (by simp) fun c h1 h2 => ?_
    rw [List.getElem_set]
    simp only [List.getElem_map, List.getElem_range]
    rw [cnt_succ]
    by_cases e : c0 = c
    · subst e
      rw [if_pos rfl, if_pos (by unfold joinsB; rw [decide_eq_true (show i ≠ j by omega), decide_eq_true hc0]; rfl)]
      omega
    · rw [if_neg e, if_neg (by unfold joinsB; rw [decide_eq_false (show ¬ colr x i j = (c : Int) by omega), Bool.and_false]; simp)]
      omega
  · have eij : j = i := by omega
    refine ih (_, (j : Int) + 1) ⟨by simp only; omega, by simp only; omega, ?_⟩ (by simp only; omega)
    simp only
    rw [show ((j : Int) + 1).toNat = j + 1 by omega]
    refine List.map_congr_left fun c _ => ?_
    rw [cnt_succ, if_neg (by unfold joinsB; rw [decide_eq_false (show ¬ i ≠ j by omega), Bool.false_and]; simp)]
    rfl

theorem slices_Equal_int64_int64_run (a b : List Int) (ha : a.length ≤ 1000) : Run (fun k => slices_Equal_int64_int64.f k a b) (· = decide (a = b)) := by
  unfold slices_Equal_int64_int64.f
  refine Run.ite (fun h => Run.ret (decide_eq_false fun e => h (by rw [e])).symm) (fun h => ?_)
  have hl : a.length = b.length := by omega
  refine Run.loop (L := fun q (z : Int) => slices_Equal_int64_int64.l0 q a b z) (fun z => (a.length - z).toNat) (fun z => 0 ≤ z ∧ z ≤ a.length ∧ ∀ i : Nat, (i : Int) < z → a[i]? = b[i]?) ?_ 0 ⟨by omega, by omega, fun i h => by omega⟩
  rintro i ⟨i0, i1, hi⟩ ih
  obtain ⟨i, rfl⟩ := Int.eq_ofNat_of_zero_le i0
  simp only [slices_Equal_int64_int64.l0]
  refine Run.ite (fun h1 => ?_) (fun h1 => ?_)
  · refine Run.bindE (Run.getI' (by omega) h1) ?_
    refine Run.bindE (Run.getI' (by omega) (by omega)) ?_
    simp only [Int.toNat_natCast]
    refine Run.ite (fun h2 => Run.ret (decide_eq_false fun e => h2 ?_).symm) (fun h2 => ?_)
    · subst e; rfl
    · rw [w64_id (x := (i : Int) + 1) (by omega)]
      refine ih ((i : Int) + 1) ⟨by omega, by omega, fun j hj => ?_⟩ (by omega)
      by_cases e : j = i
      · subst e
        rw [List.getElem?_eq_getElem (by omega), List.getElem?_eq_getElem (by omega), Decidable.not_not.mp h2]
      · exact hi j (by omega)
  · refine Run.ret (decide_eq_true ?_).symm
    refine List.ext_getElem? fun j => ?_
    by_cases hj : j < a.length
    · exact hi j (by omega)
    · rw [List.getElem?_eq_none (by omega), List.getElem?_eq_none (by omega)]
end Go.Proofs.Ytbgniopmmankdaa.P
