/- What the pure functions come to, one by one (part 5). -/
import Derived.Test.YtfbdcidedjocdaaPFnExactResultOf4
import Derived.Test.YtfbdcidedjocdaaGFnExactResultOf6
namespace Go.Proofs.Ytfbdcidedjocdaa.P
open Go Go.RowKit Go.Proofs.Ytfbdcidedjocdaa.K Go.Proofs.Ytfbdcidedjocdaa.G
set_option linter.unusedVariables false
set_option linter.unusedSimpArgs false

theorem impl_position_result_run (n : Int) (l : List Int) (h1 : n.toNat ≤ 5) (h2 : l.length = tri n.toNat) (h3 : ((n.toNat : Nat) : Int) = n) (h4 : allIn l (-1) 1 = true) : Run (fun k => impl_position_result.f k n l) (· = resM n l) := by
  unfold impl_position_result.f
  have hN : tri n.toNat ≤ 10 := tri_mono (n := 5) (by omega)
  have hmv := moverN_range l (by omega)
  refine Run.bindE (impl_position_mover_run n l (by omega)) ?_
  rw [w64_id (x := 1 - moverN l) (by omega), resM]
  have hc := impl_position_triangles_run n.toNat l (1 - moverN l) h1 h2
  rw [h3] at hc
  refine Run.bindE hc ?_
  refine Run.ite (fun h => ?_) (fun h => ?_)
  · refine Run.bindE (impl_position_mover_run n l (by omega)) ?_
    exact Run.ret (by rw [if_pos (by omega)])
  rw [if_neg (by omega)]
  refine Run.bindE (impl_position_many_run n l (-1) (by omega)) ?_
  have hf : (sel (freeE l) l.length).length = manyN l (-1) := free_many h4
  exact Run.ite (fun h => Run.ret (by rw [if_pos (by omega)])) (fun h => Run.ret (by rw [if_neg (by omega)]))

theorem impl_ResultOf_run (n : Int) (l : List Int) (hl : l.length < 4611686018427387904) : Run (fun k => impl_ResultOf.f k n l) (· = (if posCode n l = 0 then (resM n l, 0) else (0, posCode n l))) := by
  unfold impl_ResultOf.f
  refine Run.bindE (impl_position_code__always_run n l hl) ?_
  refine Run.ite (fun h => Run.ret (by rw [if_neg h])) (fun h => ?_)
  have hz := Decidable.not_not.mp h
  obtain ⟨h1, h2, h3, h4⟩ := shape_of (posCode_zero hz).1
  have hN : tri n.toNat ≤ 10 := tri_mono (n := 5) (by omega)
  rw [if_pos hz]
  refine Run.bindE (impl_position_result_run n l h1 h2 h3 h4) ?_
  exact Run.ret rfl

theorem laws_eqInt64S_run (a b : List Int) (ha : a.length < 4611686018427387904) : Run (fun k => laws_eqInt64S.f k a b) (· = decide (a = b)) := by
  unfold laws_eqInt64S.f
  refine Run.ite (fun h => ?_) (fun h => ?_)
  · exact Run.ret (decide_eq_false fun e => h (by rw [e])).symm
  have hl : a.length = b.length := by omega
  refine Run.loop (L := fun q (i : Int) => laws_eqInt64S.l0 q a b i) (fun i => (a.length - i).toNat) (fun i => 0 ≤ i ∧ i ≤ a.length ∧ ∀ (j : Nat) (h : j < a.length), (j : Int) < i → a[j] = b[j]'(by omega)) ?_ 0 ⟨by omega, by omega, fun j _ hj => by omega⟩
  rintro i ⟨h0, h3, hJ⟩ ih
  simp only [laws_eqInt64S.l0]
  refine Run.ite (fun h => ?_) (fun h => ?_)
  · refine Run.bindE (Run.getI' h0 h) ?_
    refine Run.bindE (Run.getI' h0 (by omega)) ?_
    refine Run.ite (fun h5 => ?_) (fun h5 => ?_)
    · exact Run.ret (decide_eq_false fun e => h5 (by simp only [e])).symm
    · rw [w64_id (by omega)]
      refine ih (i + 1) ⟨by omega, by omega, fun j hj hji => ?_⟩ (by omega)
      by_cases ej : (j : Int) < i
      · exact hJ j hj ej
      · obtain rfl : j = i.toNat := by omega
        exact Decidable.not_not.mp h5
  · exact Run.ret (decide_eq_true (List.ext_getElem hl fun j h1 h2 => hJ j h1 (by omega))).symm

theorem laws_FnExactResultOf_run (n : Int) (l : List Int) (_ : I64 n) (_ : Big l) : Run (fun k => laws_FnExactResultOf.f k n l) (· = true) := by
  unfold laws_FnExactResultOf.f
  refine Run.ite (fun _ => Run.ret rfl) (fun hlen => ?_)
  refine Run.bindE (laws_toInt64S_run l (by omega)) ?_
  refine Run.bindE (spec_ResultOf_run n l (by omega)) ?_
  refine Run.bindE (laws_toInt64S_run l (by omega)) ?_
  refine Run.bindE (impl_ResultOf_run n l (by omega)) ?_
  refine Run.no (fun h => h rfl) (Run.no (fun h => h rfl) ?_)
  refine Run.bindE (laws_toInt64S_run l (by omega)) ?_
  refine Run.bindE (laws_eqInt64S_run _ _ (by omega)) ?_
  exact Run.yes (decide_eq_true rfl) (Run.ret rfl)
end Go.Proofs.Ytfbdcidedjocdaa.P
