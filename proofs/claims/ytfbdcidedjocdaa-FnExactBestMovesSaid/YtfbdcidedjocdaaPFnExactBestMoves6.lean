/- What the pure functions come to, one by one (part 6). -/
import Derived.Test.YtfbdcidedjocdaaPFnExactBestMoves5
import Derived.Test.YtfbdcidedjocdaaGFnExactBestMoves9
namespace Go.Proofs.Ytfbdcidedjocdaa.P
open Go Go.RowKit Go.Proofs.Ytfbdcidedjocdaa.K Go.Proofs.Ytfbdcidedjocdaa.G
set_option linter.unusedVariables false
set_option linter.unusedSimpArgs false

theorem slices_IndexFunc_int64_int64__position_triangles_1_run (a b c : Nat) (p : Int) (l : List Int) (who : Int) (ha : a < l.length) (hb : b < l.length) (hc : c < l.length) :
    Run (fun k => slices_IndexFunc_int64_int64__position_triangles_1.f k [(a : Int), (b : Int), (c : Int)] p l who) (fun r => decide (r ≥ 0) = !(hasE l who a && (hasE l who b && hasE l who c))) := by
  unfold slices_IndexFunc_int64_int64__position_triangles_1.f
  have st : ∀ (i : Nat) (e : Nat) (hi : i < 3) (he : e < l.length) (hg : [(a : Int), (b : Int), (c : Int)][i]'(by simpa using hi) = (e : Int)) (Q : Int → Prop),
      (hasE l who e = false → Q (i : Int)) → (hasE l who e = true → Run (fun q => slices_IndexFunc_int64_int64__position_triangles_1.l0 q [(a : Int), (b : Int), (c : Int)] p l who ((i : Int) + 1)) Q) →
      Run (fun q => slices_IndexFunc_int64_int64__position_triangles_1.l0 q [(a : Int), (b : Int), (c : Int)] p l who (i : Int)) Q := by
    intro i e hi he hg Q hy hn
    refine Run.step ?_
    simp only [slices_IndexFunc_int64_int64__position_triangles_1.l0]
    refine Run.yes (by simp; omega) ?_
    refine Run.bindE (Run.getI' (by omega) (by simp; omega)) ?_
    simp only [Int.toNat_natCast]
    rw [hg]
    refine Run.bindE (impl_position_triangles_1_run e p l who he) ?_
    rw [w64_id (by omega)]
    refine Run.ite (fun h => ?_) (fun h => ?_)
    · exact Run.ret (hy (by simpa using h))
    · exact hn (by simpa using h)
  refine st 0 a (by omega) ha rfl _ (fun h => by rw [h]; rfl) fun h1 => ?_
  rw [h1, Bool.true_and]
  refine st 1 b (by omega) hb rfl _ (fun h => by rw [h]; rfl) fun h2 => ?_
  rw [h2, Bool.true_and]
  refine st 2 c (by omega) hc rfl _ (fun h => by rw [h]; rfl) fun h3 => ?_
  rw [h3]
  refine Run.step ?_
  simp only [slices_IndexFunc_int64_int64__position_triangles_1.l0]
  exact Run.no (by simp) (Run.ret rfl)

theorem slices_ContainsFunc_int64_int64__position_triangles_1_run (a b c : Nat) (p : Int) (l : List Int) (who : Int) (ha : a < l.length) (hb : b < l.length) (hc : c < l.length) :
    Run (fun k => slices_ContainsFunc_int64_int64__position_triangles_1.f k [(a : Int), (b : Int), (c : Int)] p l who) (· = !(hasE l who a && (hasE l who b && hasE l who c))) := by
  unfold slices_ContainsFunc_int64_int64__position_triangles_1.f
  refine Run.bind (slices_IndexFunc_int64_int64__position_triangles_1_run a b c p l who ha hb hc) fun r hr => ?_
  exact Run.ret hr

theorem impl_position_triangles_run (n : Nat) (l : List Int) (who : Int) (hn : n ≤ 5) (hl : l.length = tri n) : Run (fun k => impl_position_triangles.f k n l who) (· = trC l who n) := by
  unfold impl_position_triangles.f
  have hN : ∀ u, u ≤ n → tri u ≤ 10 := fun u hu => tri_mono (n := 5) (by omega)
  refine Run.loop (L := fun q (z : List (List Int) × Int) => impl_position_triangles.l0 q n l who z.1 z.2) (fun z => (n - z.2).toNat) (fun z => 0 ≤ z.2 ∧ z.2 ≤ n ∧ z.1 = trC l who z.2.toNat) ?_ ([], 0) ⟨by simp only; omega, by simp only; omega, rfl⟩
  rintro ⟨T, c⟩ ⟨h0, h3, hT⟩ ih
  simp only at h0 h3 hT
  subst hT
  simp only [impl_position_triangles.l0]
  obtain ⟨c, rfl⟩ := Int.eq_ofNat_of_zero_le h0
  simp only [Int.toNat_natCast] at ih ⊢
  refine Run.ite (fun h => ?_) (fun h => ?_)
  · refine Run.loop (L := fun q (z : List (List Int) × Int) => impl_position_triangles.l1 q n l who c z.1 z.2) (fun z => (c - z.2).toNat) (fun z => 0 ≤ z.2 ∧ z.2 ≤ c ∧ z.1 = trC l who c ++ trB l who c z.2.toNat) ?_ (_, 0) ⟨by simp only; omega, by simp only; omega, (List.append_nil _).symm⟩
    rintro ⟨T, b⟩ ⟨g0, g3, hT⟩ ih2
    simp only at g0 g3 hT
    subst hT
    simp only [impl_position_triangles.l1]
    obtain ⟨b, rfl⟩ := Int.eq_ofNat_of_zero_le g0
    simp only [Int.toNat_natCast] at ih2 ⊢
    refine Run.ite (fun h' => ?_) (fun h' => ?_)
    · refine Run.loop (L := fun q (z : List (List Int) × Int) => impl_position_triangles.l2 q n l who c b z.1 z.2) (fun z => (b - z.2).toNat) (fun z => 0 ≤ z.2 ∧ z.2 ≤ b ∧ z.1 = trC l who c ++ trB l who c b ++ trA l who b c z.2.toNat) ?_ (_, 0) ⟨by simp only; omega, by simp only; omega, (List.append_nil _).symm⟩
      rintro ⟨T, a⟩ ⟨f0, f3, hT⟩ ih3
      simp only at f0 f3 hT
      subst hT
      simp only [impl_position_triangles.l2]
      obtain ⟨a, rfl⟩ := Int.eq_ofNat_of_zero_le f0
      simp only [Int.toNat_natCast] at ih3 ⊢
      refine Run.ite (fun h'' => ?_) (fun h'' => ?_)
      · refine Run.bindE (impl_number_run a b (by omega) (by omega)) ?_
        refine Run.bindE (impl_number_run a c (by omega) (by omega)) ?_
        refine Run.bindE (impl_number_run b c (by omega) (by omega)) ?_
        have e1 := edg_lt (i := a) (j := b) (p := n) (by omega) (by omega) (by omega)
        have e2 := edg_lt (i := a) (j := c) (p := n) (by omega) (by omega) (by omega)
        have e3 := edg_lt (i := b) (j := c) (p := n) (by omega) (by omega) (by omega)
        refine Run.bindE (slices_ContainsFunc_int64_int64__position_triangles_1_run _ _ _ n l who (by omega) (by omega) (by omega)) ?_
        rw [w64_id (x := (a : Int) + 1) (by omega)]
        refine Run.ite (fun hm => ?_) (fun hm => ?_)
        · refine ih3 (_, (a : Int) + 1) ⟨by simp only; omega, by simp only; omega, ?_⟩ (by simp only; omega)
          simp only
          rw [show ((a : Int) + 1).toNat = a + 1 by omega, trA, if_neg (fun hq => by unfold monoB at hq; rw [hq] at hm; exact absurd hm (by decide)), List.append_nil]
        · have hq : monoB l who a b c = true := by unfold monoB; exact Decidable.byContradiction fun hf => hm (by rw [Bool.eq_false_iff.mpr hf]; rfl)
          refine Run.bindE (Run.concatR' (by simp only [List.length_append, List.length_cons, List.length_nil]; have h1 := trC_length l who c; have h2 := trB_length l who c b; have h3 := trA_length l who b c a; have h4 : c * (c * c) ≤ 5 * (5 * 5) := Nat.mul_le_mul (by omega) (Nat.mul_le_mul (by omega) (by omega)); have h5 : b * b ≤ 5 * 5 := Nat.mul_le_mul (by omega) (by omega); omega)) ?_
          refine ih3 (_, (a : Int) + 1) ⟨by simp only; omega, by simp only; omega, ?_⟩ (by simp only; omega)
          simp only
          rw [show ((a : Int) + 1).toNat = a + 1 by omega, trA, if_pos hq, List.append_assoc _ (trA l who b c a)]
      · rw [w64_id (x := (b : Int) + 1) (by omega)]
        refine ih2 (_, (b : Int) + 1) ⟨by simp only; omega, by simp only; omega, ?_⟩ (by simp only; omega)
        simp only
        rw [show ((b : Int) + 1).toNat = b + 1 by omega, trB, show a = b by omega, List.append_assoc]
    · rw [w64_id (x := (c : Int) + 1) (by omega)]
      refine ih (_, (c : Int) + 1) ⟨by simp only; omega, by simp only; omega, ?_⟩ (by simp only; omega)
      simp only
      rw [show ((c : Int) + 1).toNat = c + 1 by omega, trC, show b = c by omega]
  · refine Run.ret ?_
    rw [show c = n by omega]

theorem slices_Index_int64_int64_run (l : List Int) (v : Int) (hl : l.length < 4611686018427387904) : Run (fun k => slices_Index_int64_int64.f k l v) (fun r => decide (r ≥ 0) = l.contains v) := by
  unfold slices_Index_int64_int64.f
  refine Run.loop (L := fun q (i : Int) => slices_Index_int64_int64.l0 q l v i) (fun i => (l.length - i).toNat) (fun i => 0 ≤ i ∧ i ≤ l.length ∧ l.contains v = (l.drop i.toNat).contains v) ?_ 0 ⟨by omega, by omega, rfl⟩
  rintro i ⟨h0, h3, hJ⟩ ih
  simp only [slices_Index_int64_int64.l0]
  refine Run.ite (fun h => ?_) (fun h => ?_)
  · have hd : l.drop i.toNat = l[i.toNat]'(by omega) :: l.drop (i.toNat + 1) := List.drop_eq_getElem_cons (by omega)
    refine Run.bindE (Run.getI' h0 h) ?_
    rw [w64_id (x := i + 1) (by omega)]
    refine Run.ite (fun h5 => ?_) (fun h5 => ?_)
    · refine Run.ret ?_
      rw [hJ, hd, List.contains_cons, ← h5, beq_self_eq_true, Bool.true_or]
      exact decide_eq_true h0
    · refine ih (i + 1) ⟨by omega, by omega, ?_⟩ (by omega)
      rw [hJ, hd, show (i + 1).toNat = i.toNat + 1 by omega, List.contains_cons, beq_false_of_ne h5, Bool.false_or]
  · refine Run.ret ?_
    rw [hJ, List.drop_eq_nil_of_le (by omega)]; rfl

theorem slices_Contains_int64_int64_run (l : List Int) (v : Int) (hl : l.length < 4611686018427387904) : Run (fun k => slices_Contains_int64_int64.f k l v) (· = l.contains v) := by
  unfold slices_Contains_int64_int64.f
  refine Run.bind (slices_Index_int64_int64_run l v hl) fun r hr => ?_
  exact Run.ret hr

theorem impl_position_isPosition_1_run (l : List Int) (v : Int) (hl : l.length < 4611686018427387904) : Run (fun k => impl_position_isPosition_1.f k l v) (· = !l.contains v) := by
  unfold impl_position_isPosition_1.f
  refine Run.bindE (slices_Contains_int64_int64_run l v hl) ?_
  exact Run.ret rfl

theorem slices_IndexFunc_int64_int64__position_isPosition_1_run (T : List (List Int)) (v : Int) (hl : T.length < 4611686018427387904) (hT : ∀ t ∈ T, t.length < 4611686018427387904) : Run (fun k => slices_IndexFunc_int64_int64__position_isPosition_1.f k T v) (fun r => decide (r ≥ 0) = !T.all fun t => t.contains v) := by
  unfold slices_IndexFunc_int64_int64__position_isPosition_1.f
  refine Run.loop (L := fun q (i : Int) => slices_IndexFunc_int64_int64__position_isPosition_1.l0 q T v i) (fun i => (T.length - i).toNat) (fun i => 0 ≤ i ∧ i ≤ T.length ∧ (T.all fun t => t.contains v) = ((T.drop i.toNat).all fun t => t.contains v)) ?_ 0 ⟨by omega, by omega, rfl⟩
  rintro i ⟨h0, h3, hJ⟩ ih
  simp only [slices_IndexFunc_int64_int64__position_isPosition_1.l0]
  refine Run.ite (fun h => ?_) (fun h => ?_)
  · have hd : T.drop i.toNat = T[i.toNat]'(by omega) :: T.drop (i.toNat + 1) := List.drop_eq_getElem_cons (by omega)
    refine Run.bindE (Run.getR' h0 h) ?_
    rw [w64_id (x := i + 1) (by omega)]
    refine Run.bindE (impl_position_isPosition_1_run _ v (hT _ (List.getElem_mem _))) ?_
    refine Run.ite (fun h5 => ?_) (fun h5 => ?_)
    · refine Run.ret ?_
      rw [hJ, hd, List.all_cons]
      simp only [Bool.not_eq_true'] at h5
      rw [h5, Bool.false_and, Bool.not_false]
      exact decide_eq_true h0
    · refine ih (i + 1) ⟨by omega, by omega, ?_⟩ (by omega)
      simp only [Bool.not_eq_true', Bool.not_eq_false] at h5
      rw [hJ, hd, show (i + 1).toNat = i.toNat + 1 by omega, List.all_cons, h5, Bool.true_and]
  · refine Run.ret ?_
    rw [hJ, List.drop_eq_nil_of_le (by omega)]; rfl

theorem slices_ContainsFunc_int64_int64__position_isPosition_1_run (T : List (List Int)) (v : Int) (hl : T.length < 4611686018427387904) (hT : ∀ t ∈ T, t.length < 4611686018427387904) : Run (fun k => slices_ContainsFunc_int64_int64__position_isPosition_1.f k T v) (· = !T.all fun t => t.contains v) := by
  unfold slices_ContainsFunc_int64_int64__position_isPosition_1.f
  refine Run.bind (slices_IndexFunc_int64_int64__position_isPosition_1_run T v hl hT) fun r hr => ?_
  exact Run.ret hr
end Go.Proofs.Ytfbdcidedjocdaa.P
