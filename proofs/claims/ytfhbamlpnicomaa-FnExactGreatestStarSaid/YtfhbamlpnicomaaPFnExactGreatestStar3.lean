/- What the pure functions come to, one by one (part 3). -/
import Derived.Test.YtfhbamlpnicomaaPFnExactGreatestStar2
import Derived.Test.YtfhbamlpnicomaaGFnExactGreatestStar4
namespace Go.Proofs.Ytfhbamlpnicomaa.P
open Go Go.RowKit Go.Proofs.Ytfhbamlpnicomaa.K Go.Proofs.Ytfhbamlpnicomaa.G
set_option linter.unusedVariables false
set_option linter.unusedSimpArgs false

theorem impl_Colouring_degrees_run (x : Col) (hx : ByteC x) (hp : 0 ≤ x.p ∧ x.p ≤ 17) (c : Int) : Run (fun k => impl_Colouring_degrees.f k x c) (· = (List.range x.p.toNat).map (fun j => (cnt (joinsB x j c) x.p.toNat : Int))) := by
  unfold impl_Colouring_degrees.f
  refine Run.loop (L := fun q (z : List Int × Int) => impl_Colouring_degrees.l0 q x c z.1 z.2) (fun z => (x.p - z.2).toNat) (fun z => 0 ≤ z.2 ∧ z.2 ≤ x.p ∧ z.1 = (List.range z.2.toNat).map (fun j => (cnt (joinsB x j c) x.p.toNat : Int))) ?_ ([], 0) ⟨by simp only; omega, by simp only; omega, rfl⟩
  rintro ⟨l, j⟩ ⟨h0, h3, hl⟩ ih
  simp only at h0 h3 hl
  simp only [impl_Colouring_degrees.l0]
  obtain ⟨j, rfl⟩ := Int.eq_ofNat_of_zero_le h0
  simp only [Int.toNat_natCast] at hl
  refine Run.ite (fun h => ?_) (fun h => ?_)
  · rw [w64_id (x := (j : Int) + 1) (by omega)]
    refine Run.bindE (impl_Colouring_neighbours_run x hx hp j c h) ?_
    refine Run.bindE (impl_size_int64_run _) ?_
    refine Run.bindE (Run.push' (by rw [hl]; simp; omega)) ?_
    refine ih (_, (j : Int) + 1) ⟨by simp only; omega, by simp only; omega, ?_⟩ (by simp only; omega)
    simp only
    rw [show ((j : Int) + 1).toNat = j + 1 by omega, hl, List.range_succ, List.map_append]; rfl
  · refine Run.ret ?_
    rw [hl, show x.p.toNat = j by omega]

theorem impl_Colouring_star_run (x : Col) (hx : ByteC x) (hp : 0 ≤ x.p ∧ x.p ≤ 17) (c : Int) : Run (fun k => impl_Colouring_star.f k x c) (· = starM (fun j => (cnt (joinsB x j c) x.p.toNat : Int)) x.p.toNat) := by
  unfold impl_Colouring_star.f
  refine Run.bindE (impl_Colouring_degrees_run x hx hp c) ?_
  have hlen : ((List.range x.p.toNat).map (fun j => (cnt (joinsB x j c) x.p.toNat : Int))).length = x.p.toNat := by simp
  refine Run.loop (L := fun q (z : Int × Int × Int) => impl_Colouring_star.l0 q ((List.range x.p.toNat).map (fun j => (cnt (joinsB x j c) x.p.toNat : Int))) z.1 z.2.1 z.2.2) (fun z => (x.p - z.2.2).toNat) (fun z => 0 ≤ z.2.2 ∧ z.2.2 ≤ x.p ∧ (z.1, z.2.1) = starM (fun j => (cnt (joinsB x j c) x.p.toNat : Int)) z.2.2.toNat) ?_ (0, -1, 0) ⟨by simp only; omega, by simp only; omega, rfl⟩
  rintro ⟨a, b, j⟩ ⟨h0, h3, hl⟩ ih
  simp only at h0 h3 hl
  simp only [impl_Colouring_star.l0]
  obtain ⟨j, rfl⟩ := Int.eq_ofNat_of_zero_le h0
  simp only [Int.toNat_natCast] at hl
  rw [hlen]
  refine Run.ite (fun h => ?_) (fun h => ?_)
  · rw [w64_id (x := (j : Int) + 1) (by omega)]
    refine Run.bindE (Run.getI' (by omega) (by rw [hlen]; omega)) ?_
    have hg : ∀ h, ((List.range x.p.toNat).map (fun j => (cnt (joinsB x j c) x.p.toNat : Int)))[((j : Int)).toNat]'h = (cnt (joinsB x j c) x.p.toNat : Int) := by intro h; simp
    rw [hg]
    refine Run.ite (fun h1 => ?_) (fun h1 => ?_)
    · refine ih (_, _, (j : Int) + 1) ⟨by simp only; omega, by simp only; omega, ?_⟩ (by simp only; omega)
      simp only
      rw [show ((j : Int) + 1).toNat = j + 1 by omega, starM, if_pos (by rw [← hl]; exact h1)]
    · refine ih (_, _, (j : Int) + 1) ⟨by simp only; omega, by simp only; omega, ?_⟩ (by simp only; omega)
      simp only
      rw [show ((j : Int) + 1).toNat = j + 1 by omega, starM, if_neg (by rw [← hl]; exact h1), hl]
  · refine Run.ret ?_
    rw [hl, show x.p.toNat = j by omega]

theorem impl_GreatestStar_run (x : Col) (hx : ByteC x) (c : Int) : Run (fun k => impl_GreatestStar.f k x c) (· = (if given (isB x) (decide (0 ≤ c ∧ c ≤ x.k - 1)) = 0 then ((starM (fun j => (cnt (joinsB x j c) x.p.toNat : Int)) x.p.toNat).1, (starM (fun j => (cnt (joinsB x j c) x.p.toNat : Int)) x.p.toNat).2, 0) else (0, 0, given (isB x) (decide (0 ≤ c ∧ c ≤ x.k - 1))))) := by
  unfold impl_GreatestStar.f
  refine Run.bindE (impl_Colouring_colourCode_run x hx c true) ?_
  rw [Bool.and_true]
  refine Run.ite (fun h => ?_) (fun h => ?_)
  · exact Run.ret (by rw [if_neg h])
  have hz := Decidable.not_not.mp h
  have h17 := (isB_spec (given_zero hz).1).1
  rw [if_pos hz]
  refine Run.bindE (impl_Colouring_star_run x hx (by omega) c) ?_
  exact Run.ret rfl

theorem laws_FnExactGreatestStar_run (x : Col) (c : Int) (hx : ByteC x) (_ : I64 c) : Run (fun k => laws_FnExactGreatestStar.f k x c) (· = true) := by
  unfold laws_FnExactGreatestStar.f
  have hx' := cutC_bytes hx
  refine Run.bindE (laws_toColouring_run x) ?_
  refine Run.bindE (spec_GreatestStar_run _ hx' c) ?_
  refine Run.bindE (laws_toColouring_run x) ?_
  refine Run.bindE (impl_GreatestStar_run _ hx' c) ?_
  exact Run.no (fun h => h rfl) (Run.no (fun h => h rfl) (Run.no (fun h => h rfl) (Run.ret rfl)))
end Go.Proofs.Ytfhbamlpnicomaa.P
