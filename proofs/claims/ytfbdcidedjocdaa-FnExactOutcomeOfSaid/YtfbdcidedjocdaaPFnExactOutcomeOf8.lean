/- What the pure functions come to, one by one (part 8). -/
import Derived.Test.YtfbdcidedjocdaaPFnExactOutcomeOf7
import Derived.Test.YtfbdcidedjocdaaGFnExactOutcomeOf9
namespace Go.Proofs.Ytfbdcidedjocdaa.P
open Go Go.RowKit Go.Proofs.Ytfbdcidedjocdaa.K Go.Proofs.Ytfbdcidedjocdaa.G
set_option linter.unusedVariables false
set_option linter.unusedSimpArgs false

theorem laws_eqInt64S_run (a b : List Int) (ha : a.length < 4611686018427387904) : Run (fun k => laws_eqInt64S.f k a b) (· = decide (a = b)) := by
  unfold laws_eqInt64S.f
  refine Run.ite (fun h => ?_) (fun h => ?_)
  · exact Run.ret (decide_eq_false fun e => h (by rw [e])).symm
  have hl : a.length = b.length := by omega
  refine Run.loop (L := fun q (i : Int) => laws_eqInt64S.l0 q a b i) (fun i => (a.length - i).toNat) (fun i => 0 ≤ i ∧ i ≤ a.length ∧ ∀ (j : Nat) (h : j < a.length), (j : Int) < i → a[j] = b[j]'(by omega)) ?_ 0 ⟨by omega, by omega, fun j _ hj => by omega⟩
  rintro i ⟨h0, h3, hJ⟩ ih
  simp only [laws_eqInt64S.l0]
  refine Run.ite (fun h => ?_) (fun h => ?_)
  · refine Run.bindE (Run.getI' h0 h) ?_
    refine Run.bindE (Run.getI' h0 (by omega)) ?_
    refine Run.ite (fun h5 => ?_) (fun h5 => ?_)
    · exact Run.ret (decide_eq_false fun e => h5 (by simp only [e])).symm
    · rw [w64_id (by omega)]
      refine ih (i + 1) ⟨by omega, by omega, fun j hj hji => ?_⟩ (by omega)
      by_cases ej : (j : Int) < i
      · exact hJ j hj ej
      · obtain rfl : j = i.toNat := by omega
        exact Decidable.not_not.mp h5
  · exact Run.ret (decide_eq_true (List.ext_getElem hl fun j h1 h2 => hJ j h1 (by omega))).symm

theorem laws_FnExactOutcomeOf_run (n : Int) (l : List Int) (_ : I64 n) (_ : Big l) : Run (fun k => laws_FnExactOutcomeOf.f k n l) (· = true) := by
  unfold laws_FnExactOutcomeOf.f
  refine Run.ite (fun _ => Run.ret rfl) (fun hlen => ?_)
  refine Run.bindE (laws_toInt64S_run l (by omega)) ?_
  refine Run.bindE (spec_OutcomeOf_run n l (by omega)) ?_
  refine Run.bindE (laws_toInt64S_run l (by omega)) ?_
  refine Run.bindE (impl_OutcomeOf_run n l (by omega)) ?_
  refine Run.no (fun h => h rfl) (Run.no (fun h => h rfl) ?_)
  refine Run.bindE (laws_toInt64S_run l (by omega)) ?_
  refine Run.bindE (laws_eqInt64S_run _ _ (by omega)) ?_
  exact Run.yes (decide_eq_true rfl) (Run.ret rfl)
end Go.Proofs.Ytfbdcidedjocdaa.P
