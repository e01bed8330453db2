/- What the pure functions come to, one by one (part 3). -/
import Derived.Test.YtfhbamlpnicomaaPFnExactPartOn2
import Derived.Test.YtfhbamlpnicomaaGFnExactPartOn5
namespace Go.Proofs.Ytfhbamlpnicomaa.P
open Go Go.RowKit Go.Proofs.Ytfhbamlpnicomaa.K Go.Proofs.Ytfhbamlpnicomaa.G
set_option linter.unusedVariables false
set_option linter.unusedSimpArgs false

theorem impl_Colouring_at_run (x : Col) (hx : ByteC x) (hp : 0 ≤ x.p ∧ x.p ≤ 17) (i j : Nat) (hi : (i : Int) < x.p) (hj : (j : Int) < x.p) (hn : i ≠ j) : Run (fun _ => impl_Colouring_at.f x i j) (· = colr x i j) := by
  unfold impl_Colouring_at.f
  refine Run.bindE (impl_number_run i j (by omega) (by omega)) ?_
  have := edg_lt136 (i := i) (j := j) (p := x.p.toNat) (by omega) (by omega) (by omega) hn
  refine Run.bindE (Run.getB' (by omega) (by omega)) ?_
  have hb := hx ((edg i j : Nat) : Int).toNat
  exact Run.ret (w64_id (by omega))

theorem impl_Colouring_part_1_run (x : Col) (hx : ByteC x) (hp : 0 ≤ x.p ∧ x.p ≤ 17) (l : List Int) (hg : Points x l) (i j : Nat) (hi : i < l.length) (hj : j < l.length) (hij : i < j) : Run (fun _ => impl_Colouring_part_1.f i j x l) (· = colr x (l.getD i 0).toNat (l.getD j 0).toNat) := by
  unfold impl_Colouring_part_1.f
  refine Run.bindE (Run.getI' (by omega) (by omega)) ?_
  refine Run.bindE (Run.getI' (by omega) (by omega)) ?_
  obtain ⟨a, ea, ha⟩ := hg.at i (by omega)
  obtain ⟨b, eb, hb⟩ := hg.at j (by omega)
  have hab := hg.ne i j hij (by omega) a b ea eb
  simp only [Int.toNat_natCast]
  rw [ea, eb]
  refine Run.bindE (impl_Colouring_at_run x hx hp a b ha hb hab) ?_
  exact Run.ret (by rw [getD_of ea, getD_of eb]; rfl)

theorem impl_Colouring_put_run (x : Col) (i j : Nat) (c : Int) (hi : i < j) (hj : j < 17) : Run (fun _ => impl_Colouring_put.f x i j c) (· = ⟨x.p, x.k, upd x.e (tri j + i) (w8 c)⟩) := by
  unfold impl_Colouring_put.f
  refine Run.bindE (impl_number_run i j (by omega) (by omega)) ?_
  have := low136 hi hj
  rw [edg_low hi]
  refine Run.bindE (Run.getB' (by omega) (by omega)) ?_
  exact Run.ret rfl

theorem impl_made__Colouring_part_1_run (x : Col) (hx : ByteC x) (hp : 0 ≤ x.p ∧ x.p ≤ 17) (l : List Int) (hg : Points x l) (K : Int) (n : Nat) (hn : n ≤ 17) (hnl : n = l.length) : Run (fun k => impl_made__Colouring_part_1.f k n K x l) (· = ⟨n, K, madeE (fun i j => colr x (l.getD i 0).toNat (l.getD j 0).toNat) n⟩) := by
  unfold impl_made__Colouring_part_1.f
  refine Run.loop (L := fun q (z : Col × Int) => impl_made__Colouring_part_1.l0 q n x l z.1 z.2) (fun z => (n - z.2).toNat) (fun z => 0 ≤ z.2 ∧ z.2 ≤ n ∧ z.1 = ⟨n, K, madeE (fun i j => colr x (l.getD i 0).toNat (l.getD j 0).toNat) z.2.toNat⟩) ?_ (_, 0) ⟨by simp only; omega, by simp only; omega, rfl⟩
  rintro ⟨y, j⟩ ⟨h0, h3, hy⟩ ih
  simp only at h0 h3 hy
  subst hy
  simp only [impl_made__Colouring_part_1.l0]
  obtain ⟨j, rfl⟩ := Int.eq_ofNat_of_zero_le h0
  simp only [Int.toNat_natCast] at ih ⊢
  refine Run.ite (fun h => ?_) (fun h => ?_)
  · refine Run.loop (L := fun q (z : Col × Int) => impl_made__Colouring_part_1.l1 q n x l j z.1 z.2) (fun z => (j - z.2).toNat) (fun z => 0 ≤ z.2 ∧ z.2 ≤ j ∧ z.1 = ⟨n, K, rowE (fun i j => colr x (l.getD i 0).toNat (l.getD j 0).toNat) j (madeE (fun i j => colr x (l.getD i 0).toNat (l.getD j 0).toNat) j) z.2.toNat⟩) ?_ (_, 0) ⟨by simp only; omega, by simp only; omega, rfl⟩
    rintro ⟨y, i⟩ ⟨g0, g3, hy⟩ ih2
    simp only at g0 g3 hy
    subst hy
    simp only [impl_made__Colouring_part_1.l1]
    obtain ⟨i, rfl⟩ := Int.eq_ofNat_of_zero_le g0
    simp only [Int.toNat_natCast] at ih2 ⊢
    refine Run.ite (fun h' => ?_) (fun h' => ?_)
    · refine Run.bindE (impl_Colouring_part_1_run x hx hp l hg i j (by omega) (by omega) (by omega)) ?_
      refine Run.bindE (impl_Colouring_put_run _ i j _ (by omega) (by omega)) ?_
      rw [w64_id (x := (i : Int) + 1) (by omega)]
      refine ih2 (_, (i : Int) + 1) ⟨by simp only; omega, by simp only; omega, ?_⟩ (by simp only; omega)
      simp only
      rw [show ((i : Int) + 1).toNat = i + 1 by omega, rowE]
    · rw [w64_id (x := (j : Int) + 1) (by omega)]
      refine ih (_, (j : Int) + 1) ⟨by simp only; omega, by simp only; omega, ?_⟩ (by simp only; omega)
      simp only
      rw [show ((j : Int) + 1).toNat = j + 1 by omega, madeE, show i = j by omega]
  · refine Run.ret ?_
    rw [show j = n by omega]

theorem impl_Colouring_part_run (x : Col) (hx : ByteC x) (hp : 0 ≤ x.p ∧ x.p ≤ 17) (l : List Int) (hg : Points x l) : Run (fun k => impl_Colouring_part.f k x l) (· = ⟨l.length, x.k, madeE (fun i j => colr x (l.getD i 0).toNat (l.getD j 0).toNat) l.length⟩) := by
  unfold impl_Colouring_part.f
  have hl17 := hg.length
  refine Run.bindE (impl_size_int64_run l) ?_
  refine Run.bindE (impl_made__Colouring_part_1_run x hx hp l hg x.k l.length (by omega) rfl) ?_
  exact Run.ret rfl

theorem impl_PartOn_run (x : Col) (hx : ByteC x) (l : List Int) (hl : l.length < 4611686018427387904) : Run (fun k => impl_PartOn.f k x l) (· = partM x l) := by
  unfold impl_PartOn.f
  refine Run.bindE (impl_Colouring_code__PartOn_1_run x hx l hl) ?_
  rw [partM]
  refine Run.ite (fun h => ?_) (fun h => ?_)
  · exact Run.ret (by rw [if_neg h])
  have hz := Decidable.not_not.mp h
  rw [if_pos hz]
  obtain ⟨h1, h2⟩ := given_zero hz
  have hc := isB_spec h1
  simp only [Bool.and_eq_true] at h2
  refine Run.bindE (impl_Colouring_part_run x hx (by have := hc.1; omega) l (points_of hc h2.1.1 h2.1.2)) ?_
  exact Run.ret rfl

theorem laws_eqByteA136_run (e : Nat → Int) : Run (fun k => laws_eqByteA136.f k e e) (· = true) := by
  unfold laws_eqByteA136.f
  refine Run.loop (L := fun q (i : Int) => laws_eqByteA136.l0 q e e i) (fun i => (136 - i).toNat) (fun i => 0 ≤ i ∧ i ≤ 136) ?_ 0 ⟨by omega, by omega⟩
  rintro i ⟨h0, h3⟩ ih
  simp only [laws_eqByteA136.l0]
  refine Run.ite (fun h => ?_) (fun h => ?_)
  · refine Run.bindE (Run.getB' h0 h) ?_
    refine Run.bindE (Run.getB' h0 h) ?_
    refine Run.no (fun hn => hn rfl) ?_
    rw [w64_id (by omega)]
    exact ih (i + 1) ⟨by omega, by omega⟩ (by omega)
  · exact Run.ret rfl

theorem laws_eqColouring_run (a : Col) : Run (fun k => laws_eqColouring.f k a a) (· = true) := by
  unfold laws_eqColouring.f
  refine Run.no (fun h => h rfl) (Run.no (fun h => h rfl) ?_)
  refine Run.bindE (laws_eqByteA136_run a.e) ?_
  exact Run.yes rfl (Run.ret rfl)

theorem laws_eqInt64S_run (a b : List Int) (ha : a.length < 4611686018427387904) : Run (fun k => laws_eqInt64S.f k a b) (· = decide (a = b)) := by
  unfold laws_eqInt64S.f
  refine Run.ite (fun h => ?_) (fun h => ?_)
  · exact Run.ret (decide_eq_false fun e => h (by rw [e])).symm
  have hl : a.length = b.length := by omega
  refine Run.loop (L := fun q (i : Int) => laws_eqInt64S.l0 q a b i) (fun i => (a.length - i).toNat) (fun i => 0 ≤ i ∧ i ≤ a.length ∧ ∀ (j : Nat) (h : j < a.length), (j : Int) < i → a[j] = b[j]'(by omega)) ?_ 0 ⟨by omega, by omega, fun j _ hj => by omega⟩
  rintro i ⟨h0, h3, hJ⟩ ih
  simp only [laws_eqInt64S.l0]
  refine Run.ite (fun h => ?_) (fun h => ?_)
  · refine Run.bindE (Run.getI' h0 h) ?_
    refine Run.bindE (Run.getI' h0 (by omega)) ?_
    refine Run.ite (fun h5 => ?_) (fun h5 => ?_)
    · exact Run.ret (decide_eq_false fun e => h5 (by simp only [e])).symm
    · rw [w64_id (by omega)]
      refine ih (i + 1) ⟨by omega, by omega, fun j hj hji => ?_⟩ (by omega)
      by_cases ej : (j : Int) < i
      · exact hJ j hj ej
      · obtain rfl : j = i.toNat := by omega
        exact Decidable.not_not.mp h5
  · exact Run.ret (decide_eq_true (List.ext_getElem hl fun j h1 h2 => hJ j h1 (by omega))).symm

theorem laws_FnExactPartOn_run (x : Col) (l : List Int) (hx : ByteC x) (_ : Big l) : Run (fun k => laws_FnExactPartOn.f k x l) (· = true) := by
  unfold laws_FnExactPartOn.f
  have hx' := cutC_bytes hx
  refine Run.ite (fun _ => Run.ret rfl) (fun hlen => ?_)
  refine Run.bindE (laws_toColouring_run x) ?_
  refine Run.bindE (laws_toInt64S_run l (by omega)) ?_
  refine Run.bindE (spec_PartOn_run _ hx' l (by omega)) ?_
  refine Run.bindE (laws_toInt64S_run l (by omega)) ?_
  refine Run.bindE (laws_toColouring_run x) ?_
  refine Run.bindE (impl_PartOn_run _ hx' l (by omega)) ?_
  refine Run.bindE (laws_eqColouring_run _) ?_
  refine Run.yes rfl (Run.no (fun h => h rfl) ?_)
  refine Run.bindE (laws_toInt64S_run l (by omega)) ?_
  refine Run.bindE (laws_eqInt64S_run _ _ (by omega)) ?_
  exact Run.yes (decide_eq_true rfl) (Run.ret rfl)
end Go.Proofs.Ytfhbamlpnicomaa.P
