/- What the pure functions come to, one by one (part 3). -/
import Derived.Test.YtkceneefhbdifaaPFnCircularCounts2
import Derived.Test.YtkceneefhbdifaaGFnCircularCounts10
namespace Go.Proofs.Ytkceneefhbdifaa.P
open Go Go.RowKit Go.Proofs.Ytkceneefhbdifaa.K Go.Proofs.Ytkceneefhbdifaa.G
set_option linter.unusedVariables false
set_option linter.unusedSimpArgs false

theorem impl_made__circularOf_1_run (l : List Int) (K : Int) (n : Nat) (hn : n ≤ 17) (hl : l.length = n / 2) : Run (fun k => impl_made__circularOf_1.f k n K l n) (· = ⟨n, K, madeE (fun i j => (l).getD (min (j - i) (n - (j - i)) - 1) 0) n⟩) := by
  unfold impl_made__circularOf_1.f
  refine Run.loop (L := fun q (z : Col × Int) => impl_made__circularOf_1.l0 q n l n z.1 z.2) (fun z => (n - z.2).toNat) (fun z => 0 ≤ z.2 ∧ z.2 ≤ n ∧ z.1 = ⟨n, K, madeE (fun i j => (l).getD (min (j - i) (n - (j - i)) - 1) 0) z.2.toNat⟩) ?_ (_, 0) ⟨by simp only; omega, by simp only; omega, rfl⟩
  rintro ⟨y, j⟩ ⟨h0, h3, hy⟩ ih
  simp only at h0 h3 hy
  subst hy
  simp only [impl_made__circularOf_1.l0]
  obtain ⟨j, rfl⟩ := Int.eq_ofNat_of_zero_le h0
  simp only [Int.toNat_natCast] at ih ⊢
  refine Run.ite (fun h => ?_) (fun h => ?_)
  · refine Run.loop (L := fun q (z : Col × Int) => impl_made__circularOf_1.l1 q n l n j z.1 z.2) (fun z => (j - z.2).toNat) (fun z => 0 ≤ z.2 ∧ z.2 ≤ j ∧ z.1 = ⟨n, K, rowE (fun i j => (l).getD (min (j - i) (n - (j - i)) - 1) 0) j (madeE (fun i j => (l).getD (min (j - i) (n - (j - i)) - 1) 0) j) z.2.toNat⟩) ?_ (_, 0) ⟨by simp only; omega, by simp only; omega, rfl⟩
    rintro ⟨y, i⟩ ⟨g0, g3, hy⟩ ih2
    simp only at g0 g3 hy
    subst hy
    simp only [impl_made__circularOf_1.l1]
    obtain ⟨i, rfl⟩ := Int.eq_ofNat_of_zero_le g0
    simp only [Int.toNat_natCast] at ih2 ⊢
    refine Run.ite (fun h' => ?_) (fun h' => ?_)
    · refine Run.bindE (impl_circularOf_1_run i j n l (by omega) (by omega) hn hl) ?_
      refine Run.bindE (impl_Colouring_put_run _ i j _ (by omega) (by omega)) ?_
      rw [w64_id (x := (i : Int) + 1) (by omega)]
      refine ih2 (_, (i : Int) + 1) ⟨by simp only; omega, by simp only; omega, ?_⟩ (by simp only; omega)
      simp only
      rw [show ((i : Int) + 1).toNat = i + 1 by omega, rowE]
    · rw [w64_id (x := (j : Int) + 1) (by omega)]
      refine ih (_, (j : Int) + 1) ⟨by simp only; omega, by simp only; omega, ?_⟩ (by simp only; omega)
      simp only
      rw [show ((j : Int) + 1).toNat = j + 1 by omega, madeE, show i = j by omega]
  · refine Run.ret ?_
    rw [show j = n by omega]

theorem impl_circularOf_run (n : Nat) (K : Int) (l : List Int) (hn : n ≤ 17) (hl : l.length = n / 2) : Run (fun k => impl_circularOf.f k n K l) (· = ⟨n, K, madeE (fun i j => (l).getD (min (j - i) (n - (j - i)) - 1) 0) n⟩) := by
  unfold impl_circularOf.f
  refine Run.bindE (impl_made__circularOf_1_run l K n hn hl) ?_
  exact Run.ret rfl

theorem impl_Colouring_firstOf_1_run2 (L : List Nat) (m : Int) (o : List Int) : Run (fun _ => impl_Colouring_firstOf_1.f (L.map Int.ofNat) m o) (· = if (L.length : Int) < m then (true, o) else (false, L.map Int.ofNat)) := by
  unfold impl_Colouring_firstOf_1.f
  refine Run.bindE (impl_size_int64_run _) ?_
  rw [List.length_map]
  exact Run.ite (fun h => Run.ret (by rw [if_pos h])) (fun h => Run.ret (by rw [if_neg h]))

theorem impl_Colouring_at_run (x : Col) (hx : ByteC x) (hp : 0 ≤ x.p ∧ x.p ≤ 17) (i j : Nat) (hi : (i : Int) < x.p) (hj : (j : Int) < x.p) (hn : i ≠ j) : Run (fun _ => impl_Colouring_at.f x i j) (· = colr x i j) := by
  unfold impl_Colouring_at.f
  refine Run.bindE (impl_number_run i j (by omega) (by omega)) ?_
  have := edg_lt136 (i := i) (j := j) (p := x.p.toNat) (by omega) (by omega) (by omega) hn
  refine Run.bindE (Run.getB' (by omega) (by omega)) ?_
  have hb := hx ((edg i j : Nat) : Int).toNat
  exact Run.ret (w64_id (by omega))

theorem impl_Colouring_joins_run (x : Col) (hx : ByteC x) (hp : 0 ≤ x.p ∧ x.p ≤ 17) (i j : Nat) (c : Int) (hi : (i : Int) < x.p) (hj : (j : Int) < x.p) : Run (fun _ => impl_Colouring_joins.f x i j c) (· = joinsB x i c j) := by
  unfold impl_Colouring_joins.f
  refine Run.ite (fun h => ?_) (fun h => ?_)
  · refine Run.bindE (impl_Colouring_at_run x hx hp i j hi hj (by omega)) ?_
    refine Run.ret ?_
    rw [joinsB, decide_eq_true (p := i ≠ j) (by omega), Bool.true_and]
  · refine Run.ret ?_
    rw [joinsB, decide_eq_false (p := i ≠ j) (by omega), Bool.false_and]

theorem impl_Colouring_goesWith_1_run (x : Col) (hx : ByteC x) (hp : 0 ≤ x.p ∧ x.p ≤ 17) (i p : Nat) (c : Int) (hi : (i : Int) < x.p) (hj : (p : Int) < x.p) : Run (fun _ => impl_Colouring_goesWith_1.f i x p c) (· = !joinsB x i c p) := by
  unfold impl_Colouring_goesWith_1.f
  refine Run.bindE (impl_Colouring_joins_run x hx hp i p c hi hj) ?_
  exact Run.ret rfl

theorem slices_IndexFunc_int64_int64__Colouring_goesWith_1_run (x : Col) (hx : ByteC x) (hp : 0 ≤ x.p ∧ x.p ≤ 17) (L : List Nat) (p : Nat) (c : Int) (hL : L.length < 1000000) (hi : ∀ i ∈ L, (i : Int) < x.p) (hj : (p : Int) < x.p) : Run (fun k => slices_IndexFunc_int64_int64__Colouring_goesWith_1.f k (L.map Int.ofNat) x p c) (fun r => decide (r ≥ 0) = !withB x c L p) := by
  unfold slices_IndexFunc_int64_int64__Colouring_goesWith_1.f
  have hl : (L.map Int.ofNat).length = L.length := List.length_map ..
  refine Run.loop (L := fun q (i : Int) => slices_IndexFunc_int64_int64__Colouring_goesWith_1.l0 q (L.map Int.ofNat) x p c i) (fun i => (L.length - i).toNat) (fun i => 0 ≤ i ∧ i ≤ L.length ∧ withB x c L p = withB x c (L.drop i.toNat) p) ?_ 0 ⟨by omega, by omega, rfl⟩
  rintro i ⟨h0, h3, hJ⟩ ih
  simp only [slices_IndexFunc_int64_int64__Colouring_goesWith_1.l0]
  rw [hl]
  refine Run.ite (fun h => ?_) (fun h => ?_)
  · have hd : L.drop i.toNat = L[i.toNat]'(by omega) :: L.drop (i.toNat + 1) := List.drop_eq_getElem_cons (by omega)
    refine Run.bindE (Run.getI' h0 (by omega)) ?_
    rw [w64_id (x := i + 1) (by omega), List.getElem_map]
    refine Run.bindE (impl_Colouring_goesWith_1_run x hx hp _ p c (hi _ (List.getElem_mem _)) hj) ?_
    have hw : withB x c (L.drop i.toNat) p = (joinsB x (L[i.toNat]'(by omega)) c p && withB x c (L.drop (i.toNat + 1)) p) := by rw [hd]; rfl
    refine Run.ite (fun h5 => ?_) (fun h5 => ?_)
    · refine Run.ret ?_
      simp only [Bool.not_eq_true'] at h5
      rw [hJ, hw, h5, Bool.false_and, Bool.not_false]
      exact decide_eq_true h0
    · refine ih (i + 1) ⟨by omega, by omega, ?_⟩ (by omega)
      simp only [Bool.not_eq_true', Bool.not_eq_false] at h5
      rw [hJ, hw, show (i + 1).toNat = i.toNat + 1 by omega, h5, Bool.true_and]
  · refine Run.ret ?_
    rw [hJ, List.drop_eq_nil_of_le (by omega)]; rfl

theorem slices_ContainsFunc_int64_int64__Colouring_goesWith_1_run (x : Col) (hx : ByteC x) (hp : 0 ≤ x.p ∧ x.p ≤ 17) (L : List Nat) (p : Nat) (c : Int) (hL : L.length < 1000000) (hi : ∀ i ∈ L, (i : Int) < x.p) (hj : (p : Int) < x.p) : Run (fun k => slices_ContainsFunc_int64_int64__Colouring_goesWith_1.f k (L.map Int.ofNat) x p c) (· = !withB x c L p) := by
  unfold slices_ContainsFunc_int64_int64__Colouring_goesWith_1.f
  refine Run.bind (slices_IndexFunc_int64_int64__Colouring_goesWith_1_run x hx hp L p c hL hi hj) fun r hr => ?_
  exact Run.ret hr

theorem impl_Colouring_goesWith_run (x : Col) (hx : ByteC x) (hp : 0 ≤ x.p ∧ x.p ≤ 17) (L : List Nat) (p : Nat) (c : Int) (hL : L.length < 1000000) (hi : ∀ i ∈ L, (i : Int) < x.p) (hj : (p : Int) < x.p) : Run (fun k => impl_Colouring_goesWith.f k x c (L.map Int.ofNat) p) (· = withB x c L p) := by
  unfold impl_Colouring_goesWith.f
  refine Run.bindE (slices_ContainsFunc_int64_int64__Colouring_goesWith_1_run x hx hp L p c hL hi hj) ?_
  exact Run.ret (Bool.not_not _)

theorem slices_Clone_int64_int64_run (l : List Int) (hl : l.length < 1099511627776) : Run (fun _ => slices_Clone_int64_int64.f l) (· = l) := by
  unfold slices_Clone_int64_int64.f
  refine Run.bindE (Run.concat' (by simp; omega)) ?_
  exact Run.ret (List.nil_append l)
end Go.Proofs.Ytkceneefhbdifaa.P
