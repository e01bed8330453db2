/- What the pure functions come to, one by one (part 5). -/
import Derived.Test.YtfbdcidedjocdaaPFnExactSafeMoves4
import Derived.Test.YtfbdcidedjocdaaGFnExactSafeMoves9
namespace Go.Proofs.Ytfbdcidedjocdaa.P
open Go Go.RowKit Go.Proofs.Ytfbdcidedjocdaa.K Go.Proofs.Ytfbdcidedjocdaa.G
set_option linter.unusedVariables false
set_option linter.unusedSimpArgs false

theorem impl_position_isPosition_run (n : Nat) (l : List Int) (hn : n ≤ 5) (hl : l.length = tri n) : Run (fun k => impl_position_isPosition.f k n l) (· = posB n l) := by
  unfold impl_position_isPosition.f
  have hN : tri n ≤ 10 := tri_mono (n := 5) (by omega)
  have hmv := moverN_range l (by omega)
  rw [posB]
  refine Run.bindE (impl_position_mover_run n l (by omega)) ?_
  refine Run.bindE (impl_in_run _ _ _) ?_
  refine Run.itn (fun h => Run.ret (by rw [Bool.eq_false_iff.mpr h, Bool.false_and])) (fun h => ?_)
  rw [h, Bool.true_and]
  refine Run.bindE (impl_position_mover_run n l (by omega)) ?_
  refine Run.bindE (impl_position_triangles_run n l _ hn hl) ?_
  refine Run.ite (fun h' => ?_) (fun h' => ?_)
  · exact Run.ret (by rw [isEmpty_no (show (trC l (moverN l) n).length ≠ 0 by omega), Bool.false_and])
  rw [isEmpty_yes (show (trC l (moverN l) n).length = 0 by omega), Bool.true_and]
  refine Run.bindE (impl_position_mover_run n l (by omega)) ?_
  rw [w64_id (x := 1 - moverN l) (by omega)]
  refine Run.bindE (impl_position_triangles_run n l _ hn hl) ?_
  refine Run.bindE (impl_size_int64_run l) ?_
  generalize hTT : trC l (1 - moverN l) n = T
  have hTl : T.length ≤ 125 := by
    have h4 : n * (n * n) ≤ 5 * (5 * 5) := Nat.mul_le_mul (by omega) (Nat.mul_le_mul (by omega) (by omega))
    have := trC_length l (1 - moverN l) n
    rw [hTT] at this; omega
  have hTm : ∀ t ∈ T, t.length < 4611686018427387904 := fun t ht => by rw [trC_three t (hTT ▸ ht)]; omega
  refine Run.loop (L := fun q (i : Int) => impl_position_isPosition.l0 q T (l.length : Int) i) (fun i => (l.length - i).toNat) (fun i => 0 ≤ i ∧ i ≤ l.length ∧ ∀ j : Nat, (j : Int) < i → (T.all fun t => t.contains (j : Int)) = false) ?_ 0 ⟨by omega, by omega, fun j hj => by omega⟩
  rintro i ⟨h0, h3, hJ⟩ ih
  simp only [impl_position_isPosition.l0]
  obtain ⟨i, rfl⟩ := Int.eq_ofNat_of_zero_le h0
  refine Run.ite (fun hi => ?_) (fun hi => ?_)
  · refine Run.bindE (slices_ContainsFunc_int64_int64__position_isPosition_1_run T i (by omega) hTm) ?_
    rw [w64_id (x := (i : Int) + 1) (by omega)]
    refine Run.ite (fun h5 => ?_) (fun h5 => ?_)
    · refine ih ((i : Int) + 1) ⟨by omega, by omega, fun j hj => ?_⟩ (by omega)
      by_cases ej : (j : Int) < i
      · exact hJ j ej
      · obtain rfl : j = i := by omega
        simpa using h5
    · refine Run.ret ?_
      have hb : (comm l.length T).testBit i = true := by
        unfold comm
        rw [testBit_mask, decide_eq_true (show i < l.length by omega), Bool.true_and]
        simpa using h5
      have : comm l.length T ≠ 0 := fun hz => by rw [hz] at hb; simp at hb
      rw [decide_eq_true this, Bool.or_true]
  · refine Run.ret ?_
    have : comm l.length T = 0 := by
      apply Nat.eq_of_testBit_eq
      intro j
      unfold comm
      rw [testBit_mask, Nat.zero_testBit]
      by_cases hj : j < l.length
      · rw [hJ j (by omega), Bool.and_false]
      · rw [decide_eq_false hj, Bool.false_and]
    rw [this, decide_eq_false (p := (0 : Nat) ≠ 0) (fun h => h rfl), Bool.or_false]
    cases T with
    | nil => rfl
    | cons t T => simp; omega

theorem impl_position_code__always_run (n : Int) (l : List Int) (hl : l.length < 4611686018427387904) : Run (fun k => impl_position_code__always.f k n l) (· = posCode n l) := by
  unfold impl_position_code__always.f
  refine Run.bindE (impl_position_isShape_run n l hl) ?_
  rw [posCode]
  refine Run.itn (fun h => Run.ret (by rw [if_neg h])) (fun h => ?_)
  rw [if_pos h]
  obtain ⟨h1, h2, h3, h4⟩ := shape_of h
  refine Run.bindE impl_always_run ?_
  refine Run.yes rfl ?_
  have := impl_position_isPosition_run n.toNat l h1 h2
  rw [h3] at this
  refine Run.bindE this ?_
  exact Run.ite (fun h => Run.ret (by rw [if_pos h])) (fun h => Run.ret (by rw [if_neg h]))

theorem impl_position_result_run (n : Int) (l : List Int) (h1 : n.toNat ≤ 5) (h2 : l.length = tri n.toNat) (h3 : ((n.toNat : Nat) : Int) = n) (h4 : allIn l (-1) 1 = true) : Run (fun k => impl_position_result.f k n l) (· = resM n l) := by
  unfold impl_position_result.f
  have hN : tri n.toNat ≤ 10 := tri_mono (n := 5) (by omega)
  have hmv := moverN_range l (by omega)
  refine Run.bindE (impl_position_mover_run n l (by omega)) ?_
  rw [w64_id (x := 1 - moverN l) (by omega), resM]
  have hc := impl_position_triangles_run n.toNat l (1 - moverN l) h1 h2
  rw [h3] at hc
  refine Run.bindE hc ?_
  refine Run.ite (fun h => ?_) (fun h => ?_)
  · refine Run.bindE (impl_position_mover_run n l (by omega)) ?_
    exact Run.ret (by rw [if_pos (by omega)])
  rw [if_neg (by omega)]
  refine Run.bindE (impl_position_many_run n l (-1) (by omega)) ?_
  have hf : (sel (freeE l) l.length).length = manyN l (-1) := free_many h4
  exact Run.ite (fun h => Run.ret (by rw [if_pos (by omega)])) (fun h => Run.ret (by rw [if_neg (by omega)]))

theorem slices_Clone_int64_int64_run (l : List Int) (hl : l.length < 1099511627776) : Run (fun _ => slices_Clone_int64_int64.f l) (· = l) := by
  unfold slices_Clone_int64_int64.f
  refine Run.bindE (Run.concat' (by simp; omega)) ?_
  exact Run.ret (List.nil_append l)

theorem impl_position_moved_run (p : Int) (l : List Int) (e : Nat) (hl : l.length < 1000) (he : e < l.length) : Run (fun k => impl_position_moved.f k p l e) (· = (p, l.set e (moverN l))) := by
  unfold impl_position_moved.f
  refine Run.bindE (slices_Clone_int64_int64_run l (by omega)) ?_
  refine Run.bindE (impl_position_mover_run p l hl) ?_
  refine Run.bindE (Run.getI' (by omega) (by omega)) ?_
  exact Run.ret rfl

theorem impl_SafeMoves_1_run (n : Int) (l : List Int) (h1 : n.toNat ≤ 5) (h2 : l.length = tri n.toNat) (h3 : ((n.toNat : Nat) : Int) = n) (e : Nat) (he : e < l.length) : Run (fun k => impl_SafeMoves_1.f k e n l) (· = safeB n l e) := by
  unfold impl_SafeMoves_1.f
  have hN : tri n.toNat ≤ 10 := tri_mono (n := 5) (by omega)
  refine Run.bindE (impl_position_moved_run n l e (by omega) he) ?_
  refine Run.bindE (impl_position_mover_run n l (by omega)) ?_
  have hc := impl_position_triangles_run n.toNat (l.set e (moverN l)) (moverN l) h1 (by rw [List.length_set]; exact h2)
  rw [h3] at hc
  refine Run.bindE hc ?_
  refine Run.ret ?_
  exact decide_eq_decide.mpr (by omega)

theorem impl_position_movesThat__SafeMoves_1_run (n : Int) (l : List Int) (h1 : n.toNat ≤ 5) (h2 : l.length = tri n.toNat) (h3 : ((n.toNat : Nat) : Int) = n) (h4 : allIn l (-1) 1 = true) : Run (fun k => impl_position_movesThat__SafeMoves_1.f k n l n l) (· = safeM n l) := by
  unfold impl_position_movesThat__SafeMoves_1.f
  have hN : tri n.toNat ≤ 10 := tri_mono (n := 5) (by omega)
  rw [safeM, movesM]
  refine Run.bindE (impl_position_result_run n l h1 h2 h3 h4) ?_
  refine Run.ite (fun h => Run.ret (by rw [if_pos h]; rfl)) (fun h => ?_)
  rw [if_neg h, sel_filter]
  refine Run.loop (L := fun q (z : List Int × Int) => impl_position_movesThat__SafeMoves_1.l0 q l n l z.1 z.2) (fun z => (l.length - z.2).toNat) (fun z => 0 ≤ z.2 ∧ z.2 ≤ l.length ∧ z.1 = sel (fun j => freeE l j && safeB n l j) z.2.toNat) ?_ ([], 0) ⟨by simp only; omega, by simp only; omega, rfl⟩
  rintro ⟨m, j⟩ ⟨h0, h3', hm⟩ ih
  simp only at h0 h3' hm
  subst hm
  simp only [impl_position_movesThat__SafeMoves_1.l0]
  obtain ⟨j, rfl⟩ := Int.eq_ofNat_of_zero_le h0
  simp only [Int.toNat_natCast] at ih ⊢
  refine Run.ite (fun h => ?_) (fun h => ?_)
  · rw [w64_id (x := (j : Int) + 1) (by omega)]
    have eg : l.getD j 0 = l[((j : Int)).toNat]'(by omega) := getD_at (by omega)
    have no : ¬ (freeE l j && safeB n l j) = true → Run (fun q => impl_position_movesThat__SafeMoves_1.l0 q l n l (sel (fun j => freeE l j && safeB n l j) j) ((j : Int) + 1)) (· = sel (fun j => freeE l j && safeB n l j) l.length) := fun hq => by
      refine ih (sel (fun j => freeE l j && safeB n l j) j, (j : Int) + 1) ⟨by simp only; omega, by simp only; omega, ?_⟩ (by simp only; omega)
      simp only
      rw [show ((j : Int) + 1).toNat = j + 1 by omega, sel_no (f := fun j => freeE l j && safeB n l j) hq]
    refine Run.bindE (Run.getI' (by omega) h) ?_
    rw [← eg]
    refine Run.ite (fun hf => ?_) (fun hf => ?_)
    · have hf' : freeE l j = true := decide_eq_true hf
      refine Run.bindE (impl_SafeMoves_1_run n l h1 h2 h3 j (by omega)) ?_
      refine Run.ite (fun hs => ?_) (fun hs => ?_)
      · have hlen := sel_length (fun j => freeE l j && safeB n l j) j
        refine Run.bindE (Run.push' (by omega)) ?_
        refine ih (_, (j : Int) + 1) ⟨by simp only; omega, by simp only; omega, ?_⟩ (by simp only; omega)
        simp only
        rw [show ((j : Int) + 1).toNat = j + 1 by omega, sel_yes (f := fun j => freeE l j && safeB n l j) (by rw [hf', hs]; rfl)]
      · exact no (by rw [Bool.eq_false_iff.mpr hs, Bool.and_false]; decide)
    · exact no (by rw [show freeE l j = false from decide_eq_false hf, Bool.false_and]; decide)
  · refine Run.ret ?_
    rw [show j = l.length by omega]

theorem impl_SafeMoves_run (n : Int) (l : List Int) (hl : l.length < 4611686018427387904) : Run (fun k => impl_SafeMoves.f k n l) (· = (if posCode n l = 0 then (safeM n l, 0) else ([], posCode n l))) := by
  unfold impl_SafeMoves.f
  refine Run.bindE (impl_position_code__always_run n l hl) ?_
  refine Run.ite (fun h => Run.ret (by rw [if_neg h])) (fun h => ?_)
  have hz := Decidable.not_not.mp h
  obtain ⟨h1, h2, h3, h4⟩ := shape_of (posCode_zero hz).1
  have hN : tri n.toNat ≤ 10 := tri_mono (n := 5) (by omega)
  rw [if_pos hz]
  refine Run.bindE (impl_position_movesThat__SafeMoves_1_run n l h1 h2 h3 h4) ?_
  exact Run.ret rfl

theorem laws_eqInt64S_run (a b : List Int) (ha : a.length < 4611686018427387904) : Run (fun k => laws_eqInt64S.f k a b) (· = decide (a = b)) := by
  unfold laws_eqInt64S.f
  refine Run.ite (fun h => ?_) (fun h => ?_)
  · exact Run.ret (decide_eq_false fun e => h (by rw [e])).symm
  have hl : a.length = b.length := by omega
  refine Run.loop (L := fun q (i : Int) => laws_eqInt64S.l0 q a b i) (fun i => (a.length - i).toNat) (fun i => 0 ≤ i ∧ i ≤ a.length ∧ ∀ (j : Nat) (h : j < a.length), (j : Int) < i → a[j] = b[j]'(by omega)) ?_ 0 ⟨by omega, by omega, fun j _ hj => by omega⟩
  rintro i ⟨h0, h3, hJ⟩ ih
  simp only [laws_eqInt64S.l0]
  refine Run.ite (fun h => ?_) (fun h => ?_)
  · refine Run.bindE (Run.getI' h0 h) ?_
    refine Run.bindE (Run.getI' h0 (by omega)) ?_
    refine Run.ite (fun h5 => ?_) (fun h5 => ?_)
    · exact Run.ret (decide_eq_false fun e => h5 (by simp only [e])).symm
    · rw [w64_id (by omega)]
      refine ih (i + 1) ⟨by omega, by omega, fun j hj hji => ?_⟩ (by omega)
      by_cases ej : (j : Int) < i
      · exact hJ j hj ej
      · obtain rfl : j = i.toNat := by omega
        exact Decidable.not_not.mp h5
  · exact Run.ret (decide_eq_true (List.ext_getElem hl fun j h1 h2 => hJ j h1 (by omega))).symm
end Go.Proofs.Ytfbdcidedjocdaa.P
