/- What the pure functions come to, one by one (part 6). -/
import Derived.Test.YtdpamdedomkomaaPFnExactLowerBound5
import Derived.Test.YtdpamdedomkomaaGFnExactLowerBound7
namespace Go.Proofs.Ytdpamdedomkomaa.P
open Go Go.RowKit Go.Proofs.Ytdpamdedomkomaa.K Go.Proofs.Ytdpamdedomkomaa.G
set_option linter.unusedVariables false
set_option linter.unusedSimpArgs false

theorem impl_LowerBound_run (x : Col) (hx : ByteC x) (l : List Int) (hl : l.length < 4611686018427387904) : Run (fun k => impl_LowerBound.f k x l) (· = (if given (isB x) (decide ((l.length : Int) = x.k) && allIn l 1 17) = 0 then (if avoidsB x l = true then (x.p + 1, 0) else (0, 5)) else (0, given (isB x) (decide ((l.length : Int) = x.k) && allIn l 1 17)))) := by
  unfold impl_LowerBound.f
  refine Run.bindE (impl_Colouring_extendingCode__always_run x hx l hl 17) ?_
  by_cases hz : given (isB x) (decide ((l.length : Int) = x.k) && allIn l 1 17) = 0
  · rw [if_pos hz, if_pos hz]
    have h17 := (isB_spec (given_zero hz).1).1
    by_cases h : avoidsB x l = true
    · rw [if_pos h, if_pos h, if_neg (show ¬ x.p > 17 by omega), w64_id (by omega)]
      exact Run.no (by decide) (Run.ret rfl)
    · rw [if_neg h, if_neg h]
      exact Run.yes (by decide) (Run.ret rfl)
  · rw [if_neg hz, if_neg hz]
    exact Run.yes hz (Run.ret rfl)

theorem laws_eqInt64S_run (a b : List Int) (ha : a.length < 4611686018427387904) : Run (fun k => laws_eqInt64S.f k a b) (· = decide (a = b)) := by
  unfold laws_eqInt64S.f
  refine Run.ite (fun h => ?_) (fun h => ?_)
  · exact Run.ret (decide_eq_false fun e => h (by rw [e])).symm
  have hl : a.length = b.length := by omega
  refine Run.loop (L := fun q (i : Int) => laws_eqInt64S.l0 q a b i) (fun i => (a.length - i).toNat) (fun i => 0 ≤ i ∧ i ≤ a.length ∧ ∀ (j : Nat) (h : j < a.length), (j : Int) < i → a[j] = b[j]'(by omega)) ?_ 0 ⟨by omega, by omega, fun j _ hj => by omega⟩
  rintro i ⟨h0, h3, hJ⟩ ih
  simp only [laws_eqInt64S.l0]
  refine Run.ite (fun h => ?_) (fun h => ?_)
  · refine Run.bindE (Run.getI' h0 h) ?_
    refine Run.bindE (Run.getI' h0 (by omega)) ?_
    refine Run.ite (fun h5 => ?_) (fun h5 => ?_)
    · exact Run.ret (decide_eq_false fun e => h5 (by simp only [e])).symm
    · rw [w64_id (by omega)]
      refine ih (i + 1) ⟨by omega, by omega, fun j hj hji => ?_⟩ (by omega)
      by_cases ej : (j : Int) < i
      · exact hJ j hj ej
      · obtain rfl : j = i.toNat := by omega
        exact Decidable.not_not.mp h5
  · exact Run.ret (decide_eq_true (List.ext_getElem hl fun j h1 h2 => hJ j h1 (by omega))).symm

theorem laws_FnExactLowerBound_run (x : Col) (l : List Int) (hx : ByteC x) (_ : Big l) : Run (fun k => laws_FnExactLowerBound.f k x l) (· = true) := by
  unfold laws_FnExactLowerBound.f
  have hx' := cutC_bytes hx
  refine Run.ite (fun _ => Run.ret rfl) (fun hlen => ?_)
  refine Run.bindE (laws_toColouring_run x) ?_
  refine Run.bindE (laws_toInt64S_run l (by omega)) ?_
  refine Run.bindE (spec_LowerBound_run _ hx' l (by omega)) ?_
  refine Run.bindE (laws_toInt64S_run l (by omega)) ?_
  refine Run.bindE (laws_toColouring_run x) ?_
  refine Run.bindE (impl_LowerBound_run _ hx' l (by omega)) ?_
  refine Run.no (fun h => h rfl) (Run.no (fun h => h rfl) ?_)
  refine Run.bindE (laws_toInt64S_run l (by omega)) ?_
  refine Run.bindE (laws_eqInt64S_run _ _ (by omega)) ?_
  exact Run.yes (decide_eq_true rfl) (Run.ret rfl)
end Go.Proofs.Ytdpamdedomkomaa.P
