/- What the pure functions come to, one by one (part 6). -/
import Derived.Test.YtocjhmeekecdiaaPFnExactIsExtension5
import Derived.Test.YtocjhmeekecdiaaGFnExactIsExtension7
namespace Go.Proofs.Ytocjhmeekecdiaa.P
open Go Go.RowKit Go.Proofs.Ytocjhmeekecdiaa.K Go.Proofs.Ytocjhmeekecdiaa.G
set_option linter.unusedVariables false
set_option linter.unusedSimpArgs false

theorem impl_Colouring_grown_run (x : Col) (l : List Int) (hp : 1 ≤ x.p ∧ x.p < 17) (hl : (l.length : Int) = x.p) : Run (fun k => impl_Colouring_grown.f k x l) (· = ⟨x.p + 1, x.k, rowE (fun i _ => l.getD i 0) x.p.toNat x.e l.length⟩) := by
  unfold impl_Colouring_grown.f
  rw [w64_id (x := x.p + 1) (by omega)]
  refine Run.loop (L := fun q (z : Col × Int) => impl_Colouring_grown.l0 q x l z.1 z.2) (fun z => (l.length - z.2).toNat) (fun z => 0 ≤ z.2 ∧ z.2 ≤ l.length ∧ z.1 = ⟨x.p + 1, x.k, rowE (fun i _ => l.getD i 0) x.p.toNat x.e z.2.toNat⟩) ?_ (_, 0) ⟨by simp only; omega, by simp only; omega, rfl⟩
  rintro ⟨y, j⟩ ⟨h0, h3, hy⟩ ih
  simp only at h0 h3 hy
  subst hy
  simp only [impl_Colouring_grown.l0]
  obtain ⟨j, rfl⟩ := Int.eq_ofNat_of_zero_le h0
  refine Run.ite (fun h => ?_) (fun h => ?_)
  · refine Run.bindE (Run.getI' h0 h) ?_
    rw [w64_id (x := (j : Int) + 1) (by omega)]
    have hput := fun (y : Col) (c : Int) => impl_Colouring_put_run y j x.p.toNat c (by omega) (by omega)
    rw [show ((x.p.toNat : Nat) : Int) = x.p by omega] at hput
    refine Run.bindE (hput _ _) ?_
    refine ih (_, (j : Int) + 1) ⟨by simp only; omega, by simp only; omega, ?_⟩ (by simp only; omega)
    simp only [Int.toNat_natCast]
    rw [show ((j : Int) + 1).toNat = j + 1 by omega, rowE, List.getD_eq_getElem?_getD, List.getElem?_eq_getElem (by omega)]; rfl
  · refine Run.ret ?_
    rw [show ((j : Int)).toNat = l.length by omega]

theorem impl_IsExtension_run (x : Col) (hx : ByteC x) (l o : List Int) (hl : l.length < 4611686018427387904) (ho : o.length < 4611686018427387904) : Run (fun k => impl_IsExtension.f k x l o) (· = extM x l o) := by
  unfold impl_IsExtension.f
  refine Run.bindE (impl_Colouring_extendingCode__IsExtension_1_run x hx l o hl ho) ?_
  rw [extM]
  refine Run.ite (fun h => Run.ret (by rw [if_neg h])) (fun h => ?_)
  have hz := Decidable.not_not.mp h
  rw [if_pos hz]
  obtain ⟨h0, h17⟩ := extCode_zero hz
  obtain ⟨h1, h2⟩ := given_zero h0
  have hc := isB_spec h1
  have hp := hc.1
  have hk := hc.2.1
  simp only [Bool.and_eq_true, decide_eq_true_eq] at h2
  refine Run.bindE (impl_Colouring_grown_run x o (by omega) h2.2.1) ?_
  refine Run.bindE (impl_Colouring_avoids_run _ (rowE_bytes hx) (by show 1 ≤ x.p + 1 ∧ x.p + 1 ≤ 17; omega) (by show 0 ≤ x.k ∧ x.k ≤ 1000; omega) l h2.1.1 h2.1.2) ?_
  exact Run.ret rfl

theorem laws_eqInt64S_run (a b : List Int) (ha : a.length < 4611686018427387904) : Run (fun k => laws_eqInt64S.f k a b) (· = decide (a = b)) := by
  unfold laws_eqInt64S.f
  refine Run.ite (fun h => ?_) (fun h => ?_)
  · exact Run.ret (decide_eq_false fun e => h (by rw [e])).symm
  have hl : a.length = b.length := by omega
  refine Run.loop (L := fun q (i : Int) => laws_eqInt64S.l0 q a b i) (fun i => (a.length - i).toNat) (fun i => 0 ≤ i ∧ i ≤ a.length ∧ ∀ (j : Nat) (h : j < a.length), (j : Int) < i → a[j] = b[j]'(by omega)) ?_ 0 ⟨by omega, by omega, fun j _ hj => by omega⟩
  rintro i ⟨h0, h3, hJ⟩ ih
  simp only [laws_eqInt64S.l0]
  refine Run.ite (fun h => ?_) (fun h => ?_)
  · refine Run.bindE (Run.getI' h0 h) ?_
    refine Run.bindE (Run.getI' h0 (by omega)) ?_
    refine Run.ite (fun h5 => ?_) (fun h5 => ?_)
    · exact Run.ret (decide_eq_false fun e => h5 (by simp only [e])).symm
    · rw [w64_id (by omega)]
      refine ih (i + 1) ⟨by omega, by omega, fun j hj hji => ?_⟩ (by omega)
      by_cases ej : (j : Int) < i
      · exact hJ j hj ej
      · obtain rfl : j = i.toNat := by omega
        exact Decidable.not_not.mp h5
  · exact Run.ret (decide_eq_true (List.ext_getElem hl fun j h1 h2 => hJ j h1 (by omega))).symm

theorem laws_FnExactIsExtension_run (x : Col) (l o : List Int) (hx : ByteC x) (_ : Big l) (_ : Big o) : Run (fun k => laws_FnExactIsExtension.f k x l o) (· = true) := by
  unfold laws_FnExactIsExtension.f
  have hx' := cutC_bytes hx
  refine Run.ite (fun _ => Run.ret rfl) (fun hlen => ?_)
  refine Run.ite (fun _ => Run.ret rfl) (fun hlen2 => ?_)
  refine Run.bindE (laws_toColouring_run x) ?_
  refine Run.bindE (laws_toInt64S_run l (by omega)) ?_
  refine Run.bindE (laws_toInt64S_run o (by omega)) ?_
  refine Run.bindE (spec_IsExtension_run _ hx' l o (by omega) (by omega)) ?_
  refine Run.bindE (laws_toInt64S_run l (by omega)) ?_
  refine Run.bindE (laws_toInt64S_run o (by omega)) ?_
  refine Run.bindE (laws_toColouring_run x) ?_
  refine Run.bindE (impl_IsExtension_run _ hx' l o (by omega) (by omega)) ?_
  refine Run.no (by rw [bne_self_eq_false]; decide) (Run.no (fun h => h rfl) ?_)
  refine Run.bindE (laws_toInt64S_run l (by omega)) ?_
  refine Run.bindE (laws_eqInt64S_run _ _ (by omega)) ?_
  refine Run.yes (decide_eq_true rfl) ?_
  refine Run.bindE (laws_toInt64S_run o (by omega)) ?_
  refine Run.bindE (laws_eqInt64S_run _ _ (by omega)) ?_
  exact Run.yes (decide_eq_true rfl) (Run.ret rfl)
end Go.Proofs.Ytocjhmeekecdiaa.P
