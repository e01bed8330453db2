/- What the pure functions come to, one by one (part 5). -/
import Derived.Test.YtdpamdedomkomaaPFnExactLongestBeginning4
import Derived.Test.YtdpamdedomkomaaGFnExactLongestBeginning7
namespace Go.Proofs.Ytdpamdedomkomaa.P
open Go Go.RowKit Go.Proofs.Ytdpamdedomkomaa.K Go.Proofs.Ytdpamdedomkomaa.G
set_option linter.unusedVariables false
set_option linter.unusedSimpArgs false

theorem impl_Colouring_that__LongestBeginning_1_run (x : Col) (hx : ByteC x) (hp : 0 ≤ x.p ∧ x.p ≤ 17) (p : Int) : Run (fun k => impl_Colouring_that__LongestBeginning_1.f k x p) (· = sel (fun t => decide ((t : Int) < p)) x.p.toNat) := by
  unfold impl_Colouring_that__LongestBeginning_1.f
  refine Run.loop (L := fun q (z : List Int × Int) => impl_Colouring_that__LongestBeginning_1.l0 q x p z.1 z.2) (fun z => (x.p - z.2).toNat) (fun z => 0 ≤ z.2 ∧ z.2 ≤ x.p ∧ z.1 = sel (fun t => decide ((t : Int) < p)) z.2.toNat) ?_ ([], 0) ⟨by simp only; omega, by simp only; omega, rfl⟩
  rintro ⟨l, t⟩ ⟨h0, h3, hl⟩ ih
  simp only at h0 h3 hl
  simp only [impl_Colouring_that__LongestBeginning_1.l0]
  obtain ⟨t, rfl⟩ := Int.eq_ofNat_of_zero_le h0
  simp only [Int.toNat_natCast] at hl
  refine Run.ite (fun h => ?_) (fun h => ?_)
  · rw [w64_id (x := (t : Int) + 1) (by omega)]
    refine Run.bindE (impl_LongestBeginning_1_run t p) ?_
    refine Run.ite (fun h1 => ?_) (fun h1 => ?_)
    · have hlen := sel_length (fun t => decide ((t : Int) < p)) t
      refine Run.bindE (Run.push' (by rw [hl]; omega)) ?_
      refine ih (_, (t : Int) + 1) ⟨by simp only; omega, by simp only; omega, ?_⟩ (by simp only; omega)
      simp only
      rw [show ((t : Int) + 1).toNat = t + 1 by omega, sel_yes h1, hl]
    · refine ih (_, (t : Int) + 1) ⟨by simp only; omega, by simp only; omega, ?_⟩ (by simp only; omega)
      simp only
      rw [show ((t : Int) + 1).toNat = t + 1 by omega, sel_no h1, hl]
  · refine Run.ret ?_
    rw [hl, show x.p.toNat = t by omega]

theorem impl_number_run (i j : Nat) (hi : i ≤ 1000) (hj : j ≤ 1000) : Run (fun _ => impl_number.f i j) (· = (edg i j : Int)) := by
  unfold impl_number.f
  have hm : (max i j) ≤ 1000 := by omega
  have ti := tri_mono hm
  have tt : tri 1000 = 499500 := rfl
  rw [show max (i : Int) (j : Int) = ((max i j : Nat) : Int) by omega, show min (i : Int) (j : Int) = ((min i j : Nat) : Int) by omega]
  refine Run.ret ?_
  rw [tri_int (by omega), w64_id (by omega), edg]
  split
  · rw [show max i j = i by omega, show min i j = j by omega]; rfl
  · rw [show max i j = j by omega, show min i j = i by omega]; rfl

theorem impl_Colouring_at_run (x : Col) (hx : ByteC x) (hp : 0 ≤ x.p ∧ x.p ≤ 17) (i j : Nat) (hi : (i : Int) < x.p) (hj : (j : Int) < x.p) (hn : i ≠ j) : Run (fun _ => impl_Colouring_at.f x i j) (· = colr x i j) := by
  unfold impl_Colouring_at.f
  refine Run.bindE (impl_number_run i j (by omega) (by omega)) ?_
  have := edg_lt136 (i := i) (j := j) (p := x.p.toNat) (by omega) (by omega) (by omega) hn
  refine Run.bindE (Run.getB' (by omega) (by omega)) ?_
  have hb := hx ((edg i j : Nat) : Int).toNat
  exact Run.ret (w64_id (by omega))

theorem impl_Colouring_part_1_run (x : Col) (hx : ByteC x) (hp : 0 ≤ x.p ∧ x.p ≤ 17) (l : List Int) (hg : Points x l) (i j : Nat) (hi : i < l.length) (hj : j < l.length) (hij : i < j) : Run (fun _ => impl_Colouring_part_1.f i j x l) (· = colr x (l.getD i 0).toNat (l.getD j 0).toNat) := by
  unfold impl_Colouring_part_1.f
  refine Run.bindE (Run.getI' (by omega) (by omega)) ?_
  refine Run.bindE (Run.getI' (by omega) (by omega)) ?_
  obtain ⟨a, ea, ha⟩ := hg.at i (by omega)
  obtain ⟨b, eb, hb⟩ := hg.at j (by omega)
  have hab := hg.ne i j hij (by omega) a b ea eb
  simp only [Int.toNat_natCast]
  rw [ea, eb]
  refine Run.bindE (impl_Colouring_at_run x hx hp a b ha hb hab) ?_
  exact Run.ret (by rw [getD_of ea, getD_of eb]; rfl)

theorem impl_Colouring_put_run (x : Col) (i j : Nat) (c : Int) (hi : i < j) (hj : j < 17) : Run (fun _ => impl_Colouring_put.f x i j c) (· = ⟨x.p, x.k, upd x.e (tri j + i) (w8 c)⟩) := by
  unfold impl_Colouring_put.f
  refine Run.bindE (impl_number_run i j (by omega) (by omega)) ?_
  have := low136 hi hj
  rw [edg_low hi]
  refine Run.bindE (Run.getB' (by omega) (by omega)) ?_
  exact Run.ret rfl

theorem impl_made__Colouring_part_1_run (x : Col) (hx : ByteC x) (hp : 0 ≤ x.p ∧ x.p ≤ 17) (l : List Int) (hg : Points x l) (K : Int) (n : Nat) (hn : n ≤ 17) (hnl : n = l.length) : Run (fun k => impl_made__Colouring_part_1.f k n K x l) (· = ⟨n, K, madeE (fun i j => colr x (l.getD i 0).toNat (l.getD j 0).toNat) n⟩) := by
  unfold impl_made__Colouring_part_1.f
  refine Run.loop (L := fun q (z : Col × Int) => impl_made__Colouring_part_1.l0 q n x l z.1 z.2) (fun z => (n - z.2).toNat) (fun z => 0 ≤ z.2 ∧ z.2 ≤ n ∧ z.1 = ⟨n, K, madeE (fun i j => colr x (l.getD i 0).toNat (l.getD j 0).toNat) z.2.toNat⟩) ?_ (_, 0) ⟨by simp only; omega, by simp only; omega, rfl⟩
  rintro ⟨y, j⟩ ⟨h0, h3, hy⟩ ih
  simp only at h0 h3 hy
  subst hy
  simp only [impl_made__Colouring_part_1.l0]
  obtain ⟨j, rfl⟩ := Int.eq_ofNat_of_zero_le h0
  simp only [Int.toNat_natCast] at ih ⊢
  refine Run.ite (fun h => ?_) (fun h => ?_)
  · refine Run.loop (L := fun q (z : Col × Int) => impl_made__Colouring_part_1.l1 q n x l j z.1 z.2) (fun z => (j - z.2).toNat) (fun z => 0 ≤ z.2 ∧ z.2 ≤ j ∧ z.1 = ⟨n, K, rowE (fun i j => colr x (l.getD i 0).toNat (l.getD j 0).toNat) j (madeE (fun i j => colr x (l.getD i 0).toNat (l.getD j 0).toNat) j) z.2.toNat⟩) ?_ (_, 0) ⟨by simp only; omega, by simp only; omega, rfl⟩
    rintro ⟨y, i⟩ ⟨g0, g3, hy⟩ ih2
    simp only at g0 g3 hy
    subst hy
    simp only [impl_made__Colouring_part_1.l1]
    obtain ⟨i, rfl⟩ := Int.eq_ofNat_of_zero_le g0
    simp only [Int.toNat_natCast] at ih2 ⊢
    refine Run.ite (fun h' => ?_) (fun h' => ?_)
    · refine Run.bindE (impl_Colouring_part_1_run x hx hp l hg i j (by omega) (by omega) (by omega)) ?_
      refine Run.bindE (impl_Colouring_put_run _ i j _ (by omega) (by omega)) ?_
      rw [w64_id (x := (i : Int) + 1) (by omega)]
      refine ih2 (_, (i : Int) + 1) ⟨by simp only; omega, by simp only; omega, ?_⟩ (by simp only; omega)
      simp only
      rw [show ((i : Int) + 1).toNat = i + 1 by omega, rowE]
    · rw [w64_id (x := (j : Int) + 1) (by omega)]
      refine ih (_, (j : Int) + 1) ⟨by simp only; omega, by simp only; omega, ?_⟩ (by simp only; omega)
      simp only
      rw [show ((j : Int) + 1).toNat = j + 1 by omega, madeE, show i = j by omega]
  · refine Run.ret ?_
    rw [show j = n by omega]

theorem impl_Colouring_part_run (x : Col) (hx : ByteC x) (hp : 0 ≤ x.p ∧ x.p ≤ 17) (l : List Int) (hg : Points x l) : Run (fun k => impl_Colouring_part.f k x l) (· = ⟨l.length, x.k, madeE (fun i j => colr x (l.getD i 0).toNat (l.getD j 0).toNat) l.length⟩) := by
  unfold impl_Colouring_part.f
  have hl17 := hg.length
  refine Run.bindE (impl_size_int64_run l) ?_
  refine Run.bindE (impl_made__Colouring_part_1_run x hx hp l hg x.k l.length (by omega) rfl) ?_
  exact Run.ret rfl

theorem impl_Colouring_firstOf_1_run (L : List Int) (m : Int) (o : List Int) : Run (fun _ => impl_Colouring_firstOf_1.f L m o) (fun r => r.1 = decide ((L.length : Int) < m)) := by
  unfold impl_Colouring_firstOf_1.f
  refine Run.bindE (impl_size_int64_run L) ?_
  exact Run.ite (fun h => Run.ret (decide_eq_true h).symm) (fun h => Run.ret (decide_eq_false h).symm)

theorem impl_Colouring_joins_run (x : Col) (hx : ByteC x) (hp : 0 ≤ x.p ∧ x.p ≤ 17) (i j : Nat) (c : Int) (hi : (i : Int) < x.p) (hj : (j : Int) < x.p) : Run (fun _ => impl_Colouring_joins.f x i j c) (· = joinsB x i c j) := by
  unfold impl_Colouring_joins.f
  refine Run.ite (fun h => ?_) (fun h => ?_)
  · refine Run.bindE (impl_Colouring_at_run x hx hp i j hi hj (by omega)) ?_
    refine Run.ret ?_
    rw [joinsB, decide_eq_true (p := i ≠ j) (by omega), Bool.true_and]
  · refine Run.ret ?_
    rw [joinsB, decide_eq_false (p := i ≠ j) (by omega), Bool.false_and]

theorem impl_Colouring_goesWith_1_run (x : Col) (hx : ByteC x) (hp : 0 ≤ x.p ∧ x.p ≤ 17) (i p : Nat) (c : Int) (hi : (i : Int) < x.p) (hj : (p : Int) < x.p) : Run (fun _ => impl_Colouring_goesWith_1.f i x p c) (· = !joinsB x i c p) := by
  unfold impl_Colouring_goesWith_1.f
  refine Run.bindE (impl_Colouring_joins_run x hx hp i p c hi hj) ?_
  exact Run.ret rfl

theorem slices_IndexFunc_int64_int64__Colouring_goesWith_1_run (x : Col) (hx : ByteC x) (hp : 0 ≤ x.p ∧ x.p ≤ 17) (L : List Nat) (p : Nat) (c : Int) (hL : L.length < 1000000) (hi : ∀ i ∈ L, (i : Int) < x.p) (hj : (p : Int) < x.p) : Run (fun k => slices_IndexFunc_int64_int64__Colouring_goesWith_1.f k (L.map Int.ofNat) x p c) (fun r => decide (r ≥ 0) = !withB x c L p) := by
  unfold slices_IndexFunc_int64_int64__Colouring_goesWith_1.f
  have hl : (L.map Int.ofNat).length = L.length := List.length_map ..
  refine Run.loop (L := fun q (i : Int) => slices_IndexFunc_int64_int64__Colouring_goesWith_1.l0 q (L.map Int.ofNat) x p c i) (fun i => (L.length - i).toNat) (fun i => 0 ≤ i ∧ i ≤ L.length ∧ withB x c L p = withB x c (L.drop i.toNat) p) ?_ 0 ⟨by omega, by omega, rfl⟩
  rintro i ⟨h0, h3, hJ⟩ ih
  simp only [slices_IndexFunc_int64_int64__Colouring_goesWith_1.l0]
  rw [hl]
  refine Run.ite (fun h => ?_) (fun h => ?_)
  · have hd : L.drop i.toNat = L[i.toNat]'(by omega) :: L.drop (i.toNat + 1) := List.drop_eq_getElem_cons (by omega)
    refine Run.bindE (Run.getI' h0 (by omega)) ?_
    rw [w64_id (x := i + 1) (by omega), List.getElem_map]
    refine Run.bindE (impl_Colouring_goesWith_1_run x hx hp _ p c (hi _ (List.getElem_mem _)) hj) ?_
    have hw : withB x c (L.drop i.toNat) p = (joinsB x (L[i.toNat]'(by omega)) c p && withB x c (L.drop (i.toNat + 1)) p) := by rw [hd]; rfl
    refine Run.ite (fun h5 => ?_) (fun h5 => ?_)
    · refine Run.ret ?_
      simp only [Bool.not_eq_true'] at h5
      rw [hJ, hw, h5, Bool.false_and, Bool.not_false]
      exact decide_eq_true h0
    · refine ih (i + 1) ⟨by omega, by omega, ?_⟩ (by omega)
      simp only [Bool.not_eq_true', Bool.not_eq_false] at h5
      rw [hJ, hw, show (i + 1).toNat = i.toNat + 1 by omega, h5, Bool.true_and]
  · refine Run.ret ?_
    rw [hJ, List.drop_eq_nil_of_le (by omega)]; rfl

theorem slices_ContainsFunc_int64_int64__Colouring_goesWith_1_run (x : Col) (hx : ByteC x) (hp : 0 ≤ x.p ∧ x.p ≤ 17) (L : List Nat) (p : Nat) (c : Int) (hL : L.length < 1000000) (hi : ∀ i ∈ L, (i : Int) < x.p) (hj : (p : Int) < x.p) : Run (fun k => slices_ContainsFunc_int64_int64__Colouring_goesWith_1.f k (L.map Int.ofNat) x p c) (· = !withB x c L p) := by
  unfold slices_ContainsFunc_int64_int64__Colouring_goesWith_1.f
  refine Run.bind (slices_IndexFunc_int64_int64__Colouring_goesWith_1_run x hx hp L p c hL hi hj) fun r hr => ?_
  exact Run.ret hr

theorem impl_Colouring_goesWith_run (x : Col) (hx : ByteC x) (hp : 0 ≤ x.p ∧ x.p ≤ 17) (L : List Nat) (p : Nat) (c : Int) (hL : L.length < 1000000) (hi : ∀ i ∈ L, (i : Int) < x.p) (hj : (p : Int) < x.p) : Run (fun k => impl_Colouring_goesWith.f k x c (L.map Int.ofNat) p) (· = withB x c L p) := by
  unfold impl_Colouring_goesWith.f
  refine Run.bindE (slices_ContainsFunc_int64_int64__Colouring_goesWith_1_run x hx hp L p c hL hi hj) ?_
  exact Run.ret (Bool.not_not _)

theorem slices_Clone_int64_int64_run (l : List Int) (hl : l.length < 1099511627776) : Run (fun _ => slices_Clone_int64_int64.f l) (· = l) := by
  unfold slices_Clone_int64_int64.f
  refine Run.bindE (Run.concat' (by simp; omega)) ?_
  exact Run.ret (List.nil_append l)
end Go.Proofs.Ytdpamdedomkomaa.P
