/- What the pure functions come to, one by one (part 7). -/
import Derived.Test.YtfbdcidedjocdaaPFnExactPlayOut6
import Derived.Test.YtfbdcidedjocdaaGFnExactPlayOut10
namespace Go.Proofs.Ytfbdcidedjocdaa.P
open Go Go.RowKit Go.Proofs.Ytfbdcidedjocdaa.K Go.Proofs.Ytfbdcidedjocdaa.G
set_option linter.unusedVariables false
set_option linter.unusedSimpArgs false

theorem impl_position_triangles_run (n : Nat) (l : List Int) (who : Int) (hn : n ≤ 5) (hl : l.length = tri n) : Run (fun k => impl_position_triangles.f k n l who) (· = trC l who n) := by
  unfold impl_position_triangles.f
  have hN : ∀ u, u ≤ n → tri u ≤ 10 := fun u hu => tri_mono (n := 5) (by omega)
  refine Run.loop (L := fun q (z : List (List Int) × Int) => impl_position_triangles.l0 q n l who z.1 z.2) (fun z => (n - z.2).toNat) (fun z => 0 ≤ z.2 ∧ z.2 ≤ n ∧ z.1 = trC l who z.2.toNat) ?_ ([], 0) ⟨by simp only; omega, by simp only; omega, rfl⟩
  rintro ⟨T, c⟩ ⟨h0, h3, hT⟩ ih
  simp only at h0 h3 hT
  subst hT
  simp only [impl_position_triangles.l0]
  obtain ⟨c, rfl⟩ := Int.eq_ofNat_of_zero_le h0
  simp only [Int.toNat_natCast] at ih ⊢
  refine Run.ite (fun h => ?_) (fun h => ?_)
  · refine Run.loop (L := fun q (z : List (List Int) × Int) => impl_position_triangles.l1 q n l who c z.1 z.2) (fun z => (c - z.2).toNat) (fun z => 0 ≤ z.2 ∧ z.2 ≤ c ∧ z.1 = trC l who c ++ trB l who c z.2.toNat) ?_ (_, 0) ⟨by simp only; omega, by simp only; omega, (List.append_nil _).symm⟩
    rintro ⟨T, b⟩ ⟨g0, g3, hT⟩ ih2
    simp only at g0 g3 hT
    subst hT
    simp only [impl_position_triangles.l1]
    obtain ⟨b, rfl⟩ := Int.eq_ofNat_of_zero_le g0
    simp only [Int.toNat_natCast] at ih2 ⊢
    refine Run.ite (fun h' => ?_) (fun h' => ?_)
    · refine Run.loop (L := fun q (z : List (List Int) × Int) => impl_position_triangles.l2 q n l who c b z.1 z.2) (fun z => (b - z.2).toNat) (fun z => 0 ≤ z.2 ∧ z.2 ≤ b ∧ z.1 = trC l who c ++ trB l who c b ++ trA l who b c z.2.toNat) ?_ (_, 0) ⟨by simp only; omega, by simp only; omega, (List.append_nil _).symm⟩
      rintro ⟨T, a⟩ ⟨f0, f3, hT⟩ ih3
      simp only at f0 f3 hT
      subst hT
      simp only [impl_position_triangles.l2]
      obtain ⟨a, rfl⟩ := Int.eq_ofNat_of_zero_le f0
      simp only [Int.toNat_natCast] at ih3 ⊢
      refine Run.ite (fun h'' => ?_) (fun h'' => ?_)
      · refine Run.bindE (impl_number_run a b (by omega) (by omega)) ?_
        refine Run.bindE (impl_number_run a c (by omega) (by omega)) ?_
        refine Run.bindE (impl_number_run b c (by omega) (by omega)) ?_
        have e1 := edg_lt (i := a) (j := b) (p := n) (by omega) (by omega) (by omega)
        have e2 := edg_lt (i := a) (j := c) (p := n) (by omega) (by omega) (by omega)
        have e3 := edg_lt (i := b) (j := c) (p := n) (by omega) (by omega) (by omega)
        refine Run.bindE (slices_ContainsFunc_int64_int64__position_triangles_1_run _ _ _ n l who (by omega) (by omega) (by omega)) ?_
        rw [w64_id (x := (a : Int) + 1) (by omega)]
        refine Run.ite (fun hm => ?_) (fun hm => ?_)
        · refine ih3 (_, (a : Int) + 1) ⟨by simp only; omega, by simp only; omega, ?_⟩ (by simp only; omega)
          simp only
          rw [show ((a : Int) + 1).toNat = a + 1 by omega, trA, if_neg (fun hq => by unfold monoB at hq; rw [hq] at hm; exact absurd hm (by decide)), List.append_nil]
        · have hq : monoB l who a b c = true := by unfold monoB; exact Decidable.byContradiction fun hf => hm (by rw [Bool.eq_false_iff.mpr hf]; rfl)
          refine Run.bindE (Run.concatR' (by simp only [List.length_append, List.length_cons, List.length_nil]; have h1 := trC_length l who c; have h2 := trB_length l who c b; have h3 := trA_length l who b c a; have h4 : c * (c * c) ≤ 5 * (5 * 5) := Nat.mul_le_mul (by omega) (Nat.mul_le_mul (by omega) (by omega)); have h5 : b * b ≤ 5 * 5 := Nat.mul_le_mul (by omega) (by omega); omega)) ?_
          refine ih3 (_, (a : Int) + 1) ⟨by simp only; omega, by simp only; omega, ?_⟩ (by simp only; omega)
          simp only
          rw [show ((a : Int) + 1).toNat = a + 1 by omega, trA, if_pos hq, List.append_assoc _ (trA l who b c a)]
      · rw [w64_id (x := (b : Int) + 1) (by omega)]
        refine ih2 (_, (b : Int) + 1) ⟨by simp only; omega, by simp only; omega, ?_⟩ (by simp only; omega)
        simp only
        rw [show ((b : Int) + 1).toNat = b + 1 by omega, trB, show a = b by omega, List.append_assoc]
    · rw [w64_id (x := (c : Int) + 1) (by omega)]
      refine ih (_, (c : Int) + 1) ⟨by simp only; omega, by simp only; omega, ?_⟩ (by simp only; omega)
      simp only
      rw [show ((c : Int) + 1).toNat = c + 1 by omega, trC, show b = c by omega]
  · refine Run.ret ?_
    rw [show c = n by omega]

theorem slices_Index_int64_int64_run (l : List Int) (v : Int) (hl : l.length < 4611686018427387904) : Run (fun k => slices_Index_int64_int64.f k l v) (fun r => decide (r ≥ 0) = l.contains v) := by
  unfold slices_Index_int64_int64.f
  refine Run.loop (L := fun q (i : Int) => slices_Index_int64_int64.l0 q l v i) (fun i => (l.length - i).toNat) (fun i => 0 ≤ i ∧ i ≤ l.length ∧ l.contains v = (l.drop i.toNat).contains v) ?_ 0 ⟨by omega, by omega, rfl⟩
  rintro i ⟨h0, h3, hJ⟩ ih
  simp only [slices_Index_int64_int64.l0]
  refine Run.ite (fun h => ?_) (fun h => ?_)
  · have hd : l.drop i.toNat = l[i.toNat]'(by omega) :: l.drop (i.toNat + 1) := List.drop_eq_getElem_cons (by omega)
    refine Run.bindE (Run.getI' h0 h) ?_
    rw [w64_id (x := i + 1) (by omega)]
    refine Run.ite (fun h5 => ?_) (fun h5 => ?_)
    · refine Run.ret ?_
      rw [hJ, hd, List.contains_cons, ← h5, beq_self_eq_true, Bool.true_or]
      exact decide_eq_true h0
    · refine ih (i + 1) ⟨by omega, by omega, ?_⟩ (by omega)
      rw [hJ, hd, show (i + 1).toNat = i.toNat + 1 by omega, List.contains_cons, beq_false_of_ne h5, Bool.false_or]
  · refine Run.ret ?_
    rw [hJ, List.drop_eq_nil_of_le (by omega)]; rfl

theorem slices_Contains_int64_int64_run (l : List Int) (v : Int) (hl : l.length < 4611686018427387904) : Run (fun k => slices_Contains_int64_int64.f k l v) (· = l.contains v) := by
  unfold slices_Contains_int64_int64.f
  refine Run.bind (slices_Index_int64_int64_run l v hl) fun r hr => ?_
  exact Run.ret hr

theorem impl_position_isPosition_1_run (l : List Int) (v : Int) (hl : l.length < 4611686018427387904) : Run (fun k => impl_position_isPosition_1.f k l v) (· = !l.contains v) := by
  unfold impl_position_isPosition_1.f
  refine Run.bindE (slices_Contains_int64_int64_run l v hl) ?_
  exact Run.ret rfl

theorem slices_IndexFunc_int64_int64__position_isPosition_1_run (T : List (List Int)) (v : Int) (hl : T.length < 4611686018427387904) (hT : ∀ t ∈ T, t.length < 4611686018427387904) : Run (fun k => slices_IndexFunc_int64_int64__position_isPosition_1.f k T v) (fun r => decide (r ≥ 0) = !T.all fun t => t.contains v) := by
  unfold slices_IndexFunc_int64_int64__position_isPosition_1.f
  refine Run.loop (L := fun q (i : Int) => slices_IndexFunc_int64_int64__position_isPosition_1.l0 q T v i) (fun i => (T.length - i).toNat) (fun i => 0 ≤ i ∧ i ≤ T.length ∧ (T.all fun t => t.contains v) = ((T.drop i.toNat).all fun t => t.contains v)) ?_ 0 ⟨by omega, by omega, rfl⟩
  rintro i ⟨h0, h3, hJ⟩ ih
  simp only [slices_IndexFunc_int64_int64__position_isPosition_1.l0]
  refine Run.ite (fun h => ?_) (fun h => ?_)
  · have hd : T.drop i.toNat = T[i.toNat]'(by omega) :: T.drop (i.toNat + 1) := List.drop_eq_getElem_cons (by omega)
    refine Run.bindE (Run.getR' h0 h) ?_
    rw [w64_id (x := i + 1) (by omega)]
    refine Run.bindE (impl_position_isPosition_1_run _ v (hT _ (List.getElem_mem _))) ?_
    refine Run.ite (fun h5 => ?_) (fun h5 => ?_)
    · refine Run.ret ?_
      rw [hJ, hd, List.all_cons]
      simp only [Bool.not_eq_true'] at h5
      rw [h5, Bool.false_and, Bool.not_false]
      exact decide_eq_true h0
    · refine ih (i + 1) ⟨by omega, by omega, ?_⟩ (by omega)
      simp only [Bool.not_eq_true', Bool.not_eq_false] at h5
      rw [hJ, hd, show (i + 1).toNat = i.toNat + 1 by omega, List.all_cons, h5, Bool.true_and]
  · refine Run.ret ?_
    rw [hJ, List.drop_eq_nil_of_le (by omega)]; rfl

theorem slices_ContainsFunc_int64_int64__position_isPosition_1_run (T : List (List Int)) (v : Int) (hl : T.length < 4611686018427387904) (hT : ∀ t ∈ T, t.length < 4611686018427387904) : Run (fun k => slices_ContainsFunc_int64_int64__position_isPosition_1.f k T v) (· = !T.all fun t => t.contains v) := by
  unfold slices_ContainsFunc_int64_int64__position_isPosition_1.f
  refine Run.bind (slices_IndexFunc_int64_int64__position_isPosition_1_run T v hl hT) fun r hr => ?_
  exact Run.ret hr

theorem impl_position_isPosition_run (n : Nat) (l : List Int) (hn : n ≤ 5) (hl : l.length = tri n) : Run (fun k => impl_position_isPosition.f k n l) (· = posB n l) := by
  unfold impl_position_isPosition.f
  have hN : tri n ≤ 10 := tri_mono (n := 5) (by omega)
  have hmv := moverN_range l (by omega)
  rw [posB]
  refine Run.bindE (impl_position_mover_run n l (by omega)) ?_
  refine Run.bindE (impl_in_run _ _ _) ?_
  refine Run.itn (fun h => Run.ret (by rw [Bool.eq_false_iff.mpr h, Bool.false_and])) (fun h => ?_)
  rw [h, Bool.true_and]
  refine Run.bindE (impl_position_mover_run n l (by omega)) ?_
  refine Run.bindE (impl_position_triangles_run n l _ hn hl) ?_
  refine Run.ite (fun h' => ?_) (fun h' => ?_)
  · exact Run.ret (by rw [isEmpty_no (show (trC l (moverN l) n).length ≠ 0 by omega), Bool.false_and])
  rw [isEmpty_yes (show (trC l (moverN l) n).length = 0 by omega), Bool.true_and]
  refine Run.bindE (impl_position_mover_run n l (by omega)) ?_
  rw [w64_id (x := 1 - moverN l) (by omega)]
  refine Run.bindE (impl_position_triangles_run n l _ hn hl) ?_
  refine Run.bindE (impl_size_int64_run l) ?_
  generalize hTT : trC l (1 - moverN l) n = T
  have hTl : T.length ≤ 125 := by
    have h4 : n * (n * n) ≤ 5 * (5 * 5) := Nat.mul_le_mul (by omega) (Nat.mul_le_mul (by omega) (by omega))
    have := trC_length l (1 - moverN l) n
    rw [hTT] at this; omega
  have hTm : ∀ t ∈ T, t.length < 4611686018427387904 := fun t ht => by rw [trC_three t (hTT ▸ ht)]; omega
  refine Run.loop (L := fun q (i : Int) => impl_position_isPosition.l0 q T (l.length : Int) i) (fun i => (l.length - i).toNat) (fun i => 0 ≤ i ∧ i ≤ l.length ∧ ∀ j : Nat, (j : Int) < i → (T.all fun t => t.contains (j : Int)) = false) ?_ 0 ⟨by omega, by omega, fun j hj => by omega⟩
  rintro i ⟨h0, h3, hJ⟩ ih
  simp only [impl_position_isPosition.l0]
  obtain ⟨i, rfl⟩ := Int.eq_ofNat_of_zero_le h0
  refine Run.ite (fun hi => ?_) (fun hi => ?_)
  · refine Run.bindE (slices_ContainsFunc_int64_int64__position_isPosition_1_run T i (by omega) hTm) ?_
    rw [w64_id (x := (i : Int) + 1) (by omega)]
    refine Run.ite (fun h5 => ?_) (fun h5 => ?_)
    · refine ih ((i : Int) + 1) ⟨by omega, by omega, fun j hj => ?_⟩ (by omega)
      by_cases ej : (j : Int) < i
      · exact hJ j ej
      · obtain rfl : j = i := by omega
        simpa using h5
    · refine Run.ret ?_
      have hb : (comm l.length T).testBit i = true := by
        unfold comm
        rw [testBit_mask, decide_eq_true (show i < l.length by omega), Bool.true_and]
        simpa using h5
      have : comm l.length T ≠ 0 := fun hz => by rw [hz] at hb; simp at hb
      rw [decide_eq_true this, Bool.or_true]
  · refine Run.ret ?_
    have : comm l.length T = 0 := by
      apply Nat.eq_of_testBit_eq
      intro j
      unfold comm
      rw [testBit_mask, Nat.zero_testBit]
      by_cases hj : j < l.length
      · rw [hJ j (by omega), Bool.and_false]
      · rw [decide_eq_false hj, Bool.false_and]
    rw [this, decide_eq_false (p := (0 : Nat) ≠ 0) (fun h => h rfl), Bool.or_false]
    cases T with
    | nil => rfl
    | cons t T => simp; omega

theorem impl_position_code__always_run (n : Int) (l : List Int) (hl : l.length < 4611686018427387904) : Run (fun k => impl_position_code__always.f k n l) (· = posCode n l) := by
  unfold impl_position_code__always.f
  refine Run.bindE (impl_position_isShape_run n l hl) ?_
  rw [posCode]
  refine Run.itn (fun h => Run.ret (by rw [if_neg h])) (fun h => ?_)
  rw [if_pos h]
  obtain ⟨h1, h2, h3, h4⟩ := shape_of h
  refine Run.bindE impl_always_run ?_
  refine Run.yes rfl ?_
  have := impl_position_isPosition_run n.toNat l h1 h2
  rw [h3] at this
  refine Run.bindE this ?_
  exact Run.ite (fun h => Run.ret (by rw [if_pos h])) (fun h => Run.ret (by rw [if_neg h]))
end Go.Proofs.Ytfbdcidedjocdaa.P
