/- What the pure functions come to, one by one (part 1). -/
import Derived.Test.YtfhbamlpnicomaaPFnExactMultipliersOf0
import Derived.Test.YtfhbamlpnicomaaGFnExactMultipliersOf6
namespace Go.Proofs.Ytfhbamlpnicomaa.P
open Go Go.RowKit Go.Proofs.Ytfhbamlpnicomaa.K Go.Proofs.Ytfhbamlpnicomaa.G
set_option linter.unusedVariables false
set_option linter.unusedSimpArgs false

theorem laws_toByteA136_run (e : Nat → Int) : Run (fun k => laws_toByteA136.f k e) (· = cut e) := by
  unfold laws_toByteA136.f
  refine Run.loop (L := fun q (s : (Nat → Int) × Int) => laws_toByteA136.l0 q e s.1 s.2) (fun s => (136 - s.2).toNat) (fun s => 0 ≤ s.2 ∧ s.2 ≤ 136 ∧ s.1 = fun (j : Nat) => if (j : Int) < s.2 then e j else 0) ?_ (_, 0) ⟨by omega, by omega, by funext j; rw [if_neg]; show ¬ ((j : Int) < 0); omega⟩
  rintro ⟨s, i⟩ ⟨h0, h1, hs⟩ ih
  simp only at h0 h1 hs
  simp only [laws_toByteA136.l0]
  refine Run.ite (fun h => ?_) (fun h => ?_)
  · refine Run.bindE (Run.getB' h0 h) ?_
    refine Run.bindE (Run.getB' h0 h) ?_
    rw [w64_id (by omega)]
    refine ih (_, i + 1) ⟨by simp only; omega, by simp only; omega, ?_⟩ (by simp only; omega)
    funext j
    show upd s i.toNat (e i.toNat) j = if (j : Int) < i + 1 then e j else 0
    by_cases e1 : j = i.toNat
    · rw [e1, upd_same, if_pos (by omega)]
    · rw [upd_other e1, hs]
      show (if (j : Int) < i then e j else 0) = _
      by_cases e2 : (j : Int) < i
      · rw [if_pos e2, if_pos (by omega)]
      · rw [if_neg e2, if_neg (by omega)]
  · refine Run.ret ?_
    rw [hs]
    funext j
    show (if (j : Int) < i then e j else 0) = cut e j
    unfold cut
    by_cases e2 : (j : Int) < i
    · rw [if_pos e2, if_pos (by omega)]
    · rw [if_neg e2, if_neg (by omega)]

theorem laws_toColouring_run (x : Col) : Run (fun k => laws_toColouring.f k x) (· = cutC x) := by
  unfold laws_toColouring.f
  refine Run.bindE (laws_toByteA136_run _) ?_
  exact Run.ret rfl

theorem spec_l01In_run (n low high : Int) : Run (fun _ => spec_l01In.f n low high) (· = decide (low ≤ n ∧ n ≤ high)) := by
  unfold spec_l01In.f
  refine Run.ite (fun h => ?_) (fun h => ?_)
  · refine Run.ret (decide_eq_decide.mpr ?_); omega
  · refine Run.ret ((decide_eq_false ?_).symm); omega

theorem spec_l01Is_run (x : Col) (hx : ByteC x) : Run (fun k => spec_l01Is.f k x) (· = isB x) := by
  unfold spec_l01Is.f
  refine Run.bindE (spec_l01In_run _ _ _) ?_
  refine Run.itn (fun h1 => ?_) (fun h1 => ?_)
  · exact Run.ret (decide_eq_false fun h => h1 (decide_eq_true h.1)).symm
  refine Run.bindE (spec_l01In_run _ _ _) ?_
  refine Run.itn (fun h2 => ?_) (fun h2 => ?_)
  · exact Run.ret (decide_eq_false fun h => h2 (decide_eq_true h.2.1)).symm
  have hp := of_decide_eq_true h1
  have hk := of_decide_eq_true h2
  refine Run.loop (L := fun q (i : Int) => spec_l01Is.l0 q x i) (fun i => (136 - i).toNat) (fun i => 0 ≤ i ∧ i ≤ 136 ∧ ∀ j : Nat, (j : Int) < i → (if j < tri x.p.toNat then x.e j < x.k else x.e j = 0)) ?_ 0 ⟨by omega, by omega, fun j hj => by omega⟩
  rintro i ⟨h0, h3, hJ⟩ ih
  simp only [spec_l01Is.l0]
  have et : w64 (Int.tdiv (w64 (x.p * (w64 (x.p - 1)))) 2) = (tri x.p.toNat : Int) := by
    have := tri_int (n := x.p.toNat) (by omega)
    rwa [show ((x.p.toNat : Nat) : Int) = x.p by omega] at this
  refine Run.ite (fun h => ?_) (fun h => ?_)
  · rw [et]
    refine Run.ite (fun h4 => ?_) (fun h4 => ?_)
    · refine Run.bindE (Run.getB' h0 h) ?_
      have hb := hx i.toNat
      rw [w64_id (by omega)]
      refine Run.ite (fun h5 => ?_) (fun h5 => ?_)
      · refine Run.ret (decide_eq_false fun hc => ?_).symm
        have := hc.2.2 i.toNat (by omega)
        rw [if_pos (by omega)] at this; omega
      · rw [w64_id (by omega)]
        refine ih (i + 1) ⟨by omega, by omega, fun j hj => ?_⟩ (by omega)
        by_cases ej : (j : Int) < i
        · exact hJ j ej
        · obtain rfl : j = i.toNat := by omega
          rw [if_pos (by omega)]; omega
    · refine Run.bindE (Run.getB' h0 h) ?_
      refine Run.ite (fun h5 => ?_) (fun h5 => ?_)
      · refine Run.ret (decide_eq_false fun hc => ?_).symm
        have := hc.2.2 i.toNat (by omega)
        rw [if_neg (by omega)] at this; omega
      · rw [w64_id (by omega)]
        refine ih (i + 1) ⟨by omega, by omega, fun j hj => ?_⟩ (by omega)
        by_cases ej : (j : Int) < i
        · exact hJ j ej
        · obtain rfl : j = i.toNat := by omega
          rw [if_neg (by omega)]; omega
  · refine Run.ret (decide_eq_true ⟨hp, hk, fun j hj => hJ j (by omega)⟩).symm

theorem spec_l01Edge_run (i j : Nat) (hi : i ≤ 1000) (hj : j ≤ 1000) : Run (fun _ => spec_l01Edge.f i j) (· = (edg i j : Int)) := by
  unfold spec_l01Edge.f
  have ti := tri_mono hi
  have tj := tri_mono hj
  have tt : tri 1000 = 499500 := rfl
  refine Run.ite (fun h => ?_) (fun h => ?_)
  · refine Run.ret ?_
    rw [tri_int (by omega), w64_id (by omega), edg, if_pos (by omega)]; rfl
  · refine Run.ret ?_
    rw [tri_int (by omega), w64_id (by omega), edg, if_neg (by omega)]; rfl

theorem spec_l01At_run (x : Col) (hx : ByteC x) (hp : 0 ≤ x.p ∧ x.p ≤ 17) (i j : Nat) (hi : (i : Int) < x.p) (hj : (j : Int) < x.p) (hn : i ≠ j) : Run (fun _ => spec_l01At.f x i j) (· = colr x i j) := by
  unfold spec_l01At.f
  refine Run.bindE (spec_l01Edge_run i j (by omega) (by omega)) ?_
  have := edg_lt136 (i := i) (j := j) (p := x.p.toNat) (by omega) (by omega) (by omega) hn
  refine Run.bindE (Run.getB' (by omega) (by omega)) ?_
  have hb := hx ((edg i j : Nat) : Int).toNat
  exact Run.ret (w64_id (by omega))

theorem spec_l03Distance_run (i j n : Nat) (hij : i ≤ j) (hj : j ≤ n) (hn : n ≤ 1000) : Run (fun _ => spec_l03Distance.f i j n) (· = (min (j - i) (n - (j - i)) : Nat)) := by
  unfold spec_l03Distance.f
  refine Run.ret ?_
  rw [show max (i : Int) (j : Int) = j by omega, show min (i : Int) (j : Int) = i by omega, w64_id (x := (j : Int) - i) (by omega), w64_id (x := (n : Int) - ((j : Int) - i)) (by omega)]
  omega

theorem spec_l03Circular_run (n : Nat) (K : Int) (l : List Int) (hn : n ≤ 17) (h1n : 1 ≤ n) (hl : l.length = n / 2) : Run (fun k => spec_l03Circular.f k n K l) (· = ⟨n, K, madeE (fun i j => (l).getD (min (j - i) (n - (j - i)) - 1) 0) n⟩) := by
  unfold spec_l03Circular.f
  refine Run.loop (L := fun q (z : Col × Int) => spec_l03Circular.l0 q n l z.1 z.2) (fun z => (n - z.2).toNat) (fun z => 1 ≤ z.2 ∧ z.2 ≤ n ∧ z.1 = ⟨n, K, madeE (fun i j => (l).getD (min (j - i) (n - (j - i)) - 1) 0) z.2.toNat⟩) ?_ (_, 1) ⟨by simp only; omega, by simp only; omega, rfl⟩
  rintro ⟨y, j⟩ ⟨h0, h3, hy⟩ ih
  simp only at h0 h3 hy
  subst hy
  simp only [spec_l03Circular.l0]
  obtain ⟨j, rfl⟩ := Int.eq_ofNat_of_zero_le (show 0 ≤ j by omega)
  simp only [Int.toNat_natCast] at ih ⊢
  refine Run.ite (fun h => ?_) (fun h => ?_)
  · refine Run.loop (L := fun q (z : Col × Int) => spec_l03Circular.l1 q n l j z.1 z.2) (fun z => (j - z.2).toNat) (fun z => 0 ≤ z.2 ∧ z.2 ≤ j ∧ z.1 = ⟨n, K, rowE (fun i j => (l).getD (min (j - i) (n - (j - i)) - 1) 0) j (madeE (fun i j => (l).getD (min (j - i) (n - (j - i)) - 1) 0) j) z.2.toNat⟩) ?_ (_, 0) ⟨by simp only; omega, by simp only; omega, rfl⟩
    rintro ⟨y, i⟩ ⟨g0, g3, hy⟩ ih2
    simp only at g0 g3 hy
    subst hy
    simp only [spec_l03Circular.l1]
    obtain ⟨i, rfl⟩ := Int.eq_ofNat_of_zero_le g0
    simp only [Int.toNat_natCast] at ih2 ⊢
    refine Run.ite (fun h' => ?_) (fun h' => ?_)
    · refine Run.bindE (spec_l01Edge_run i j (by omega) (by omega)) ?_
      refine Run.bindE (spec_l03Distance_run i j n (by omega) (by omega) (by omega)) ?_
      rw [w64_id (x := ((min (j - i) (n - (j - i)) : Nat) : Int) - 1) (by omega)]
      refine Run.bindE (Run.getI' (by omega) (by omega)) ?_
      have := low136 (i := i) (j := j) (by omega) (by omega)
      rw [edg_low (by omega)]
      refine Run.bindE (Run.getB' (by omega) (by omega)) ?_
      rw [w64_id (x := (i : Int) + 1) (by omega)]
      refine ih2 (_, (i : Int) + 1) ⟨by simp only; omega, by simp only; omega, ?_⟩ (by simp only; omega)
      simp only [Col.setE, Int.toNat_natCast]
      have hgd : l.getD (min (j - i) (n - (j - i)) - 1) 0 = l[(((min (j - i) (n - (j - i)) : Nat) : Int) - 1).toNat]'(by omega) := by
        rw [List.getD_eq_getElem?_getD, List.getElem?_eq_getElem (by omega), Option.getD_some]
        congr 1
        omega
      rw [show ((i : Int) + 1).toNat = i + 1 by omega, rowE, hgd]
    · rw [w64_id (x := (j : Int) + 1) (by omega)]
      refine ih (_, (j : Int) + 1) ⟨by simp only; omega, by simp only; omega, ?_⟩ (by simp only; omega)
      simp only
      rw [show ((j : Int) + 1).toNat = j + 1 by omega, madeE, show i = j by omega]
  · refine Run.ret ?_
    rw [show j = n by omega]

theorem spec_l03List_run (x : Col) (hx : ByteC x) (hp : 0 ≤ x.p ∧ x.p ≤ 17) : Run (fun k => spec_l03List.f k x) (· = circM x) := by
  unfold spec_l03List.f
  rw [circM]
  refine Run.ite (fun h => Run.ret (by rw [if_pos h])) (fun h => ?_)
  rw [if_neg h]
  have et : w64 (Int.tdiv x.p 2) = ((x.p.toNat / 2 : Nat) : Int) := by
    have e0 : x.p = ((x.p.toNat : Nat) : Int) := by omega
    have e1 : Int.tdiv ((x.p.toNat : Nat) : Int) 2 = ((x.p.toNat / 2 : Nat) : Int) := rfl
    rw [e0, e1, Int.toNat_natCast, w64_id (by omega)]
  refine Run.loop (L := fun q (z : List Int × Int) => spec_l03List.l0 q x z.1 z.2) (fun z => (x.p - z.2).toNat) (fun z => 1 ≤ z.2 ∧ z.2 ≤ (x.p.toNat / 2 : Nat) + 1 ∧ z.1 = (List.range (z.2.toNat - 1)).map fun d => colr x 0 (d + 1)) ?_ ([], 1) ⟨by simp only; omega, by simp only; omega, rfl⟩
  rintro ⟨l, j⟩ ⟨h0, h3, hl⟩ ih
  simp only at h0 h3 hl
  subst hl
  simp only [spec_l03List.l0]
  rw [et]
  obtain ⟨j, rfl⟩ := Int.eq_ofNat_of_zero_le (show 0 ≤ j by omega)
  simp only [Int.toNat_natCast] at ih ⊢
  refine Run.ite (fun h => ?_) (fun h => ?_)
  · refine Run.bindE (spec_l01At_run x hx hp 0 j (by omega) (by omega) (by omega)) ?_
    refine Run.bindE (Run.push' (by simp; omega)) ?_
    rw [w64_id (x := (j : Int) + 1) (by omega)]
    refine ih (_, (j : Int) + 1) ⟨by simp only; omega, by simp only; omega, ?_⟩ (by simp only; omega)
    simp only
    rw [show ((j : Int) + 1).toNat - 1 = (j - 1) + 1 by omega, List.range_succ, List.map_append, List.map_cons, List.map_nil, show j - 1 + 1 = j by omega]
  · rw [show j - 1 = x.p.toNat / 2 by omega]
    have hcirc := fun (n : Nat) (K : Int) (l : List Int) (hn : n ≤ 17) (h1 : 1 ≤ n) (hl : l.length = n / 2) => spec_l03Circular_run n K l hn h1 hl
    have := hcirc x.p.toNat x.k ((List.range (x.p.toNat / 2)).map fun d => colr x 0 (d + 1)) (by omega) (by omega) (by simp)
    rw [show ((x.p.toNat : Nat) : Int) = x.p by omega] at this
    refine Run.bindE this ?_
    exact Run.ret rfl

theorem spec_l03Gcd_run (a b : Nat) : Run (fun k => spec_l03Gcd.f k a b) (· = (Nat.gcd a b : Int)) := by
  unfold spec_l03Gcd.f
  refine Run.loop (L := fun q (z : Int × Int) => spec_l03Gcd.l0 q z.1 z.2) (fun z => z.2.toNat) (fun z => ∃ u v : Nat, z = ((u : Int), (v : Int)) ∧ Nat.gcd u v = Nat.gcd a b) ?_ (a, b) ⟨a, b, rfl, rfl⟩
  rintro _ ⟨u, v, rfl, hg⟩ ih
  simp only [spec_l03Gcd.l0]
  refine Run.ite (fun h => ?_) (fun h => ?_)
  · refine Run.bind (Q := fun _ => True) (Run.guard h trivial) fun _ _ => ?_
    have e : Int.tmod (u : Int) (v : Int) = ((u % v : Nat) : Int) := rfl
    rw [e]
    have hv : 0 < v := by omega
    have := Nat.mod_lt u hv
    refine ih ((v : Int), ((u % v : Nat) : Int)) ⟨v, u % v, rfl, ?_⟩ (by simp only; omega)
    rw [← hg, Nat.gcd_comm v, ← Nat.gcd_rec, Nat.gcd_comm]
  · obtain rfl : v = 0 := by omega
    refine Run.ret ?_
    rw [← hg, Nat.gcd_zero_right]
end Go.Proofs.Ytfhbamlpnicomaa.P
