/- What the pure functions come to, one by one (part 6). -/
import Derived.Test.YtfbdcidedjocdaaPFnExactPlayOut5
import Derived.Test.YtfbdcidedjocdaaGFnExactPlayOut10
namespace Go.Proofs.Ytfbdcidedjocdaa.P
open Go Go.RowKit Go.Proofs.Ytfbdcidedjocdaa.K Go.Proofs.Ytfbdcidedjocdaa.G
set_option linter.unusedVariables false
set_option linter.unusedSimpArgs false

theorem slices_IndexFunc_int64_int64__areIn_1_run (list : List Int) (lo hi : Int) (hl : list.length < 4611686018427387904) : Run (fun k => slices_IndexFunc_int64_int64__areIn_1.f k list lo hi) (fun r => decide (r ≥ 0) = !allIn list lo hi) := by
  unfold slices_IndexFunc_int64_int64__areIn_1.f
  refine Run.loop (L := fun q (i : Int) => slices_IndexFunc_int64_int64__areIn_1.l0 q list lo hi i) (fun i => (list.length - i).toNat) (fun i => 0 ≤ i ∧ i ≤ list.length ∧ allIn list lo hi = allIn (list.drop i.toNat) lo hi) ?_ 0 ⟨by omega, by omega, rfl⟩
  rintro i ⟨h0, h3, hJ⟩ ih
  simp only [slices_IndexFunc_int64_int64__areIn_1.l0]
  refine Run.ite (fun h => ?_) (fun h => ?_)
  · have hd : list.drop i.toNat = list[i.toNat]'(by omega) :: list.drop (i.toNat + 1) := List.drop_eq_getElem_cons (by omega)
    refine Run.bindE (Run.getI' h0 h) ?_
    rw [w64_id (x := i + 1) (by omega)]
    refine Run.bindE (impl_areIn_1_run _ _ _) ?_
    refine Run.ite (fun h5 => ?_) (fun h5 => ?_)
    · refine Run.ret ?_
      rw [hJ, hd, allIn_cons]
      simp only [Bool.not_eq_true'] at h5
      rw [h5, Bool.false_and, Bool.not_false]
      exact decide_eq_true h0
    · refine ih (i + 1) ⟨by omega, by omega, ?_⟩ (by omega)
      simp only [Bool.not_eq_true', Bool.not_eq_false] at h5
      rw [hJ, hd, show (i + 1).toNat = i.toNat + 1 by omega, allIn_cons, h5, Bool.true_and]
  · refine Run.ret ?_
    rw [hJ, List.drop_eq_nil_of_le (by omega)]; rfl

theorem slices_ContainsFunc_int64_int64__areIn_1_run (list : List Int) (lo hi : Int) (hl : list.length < 4611686018427387904) : Run (fun k => slices_ContainsFunc_int64_int64__areIn_1.f k list lo hi) (· = !allIn list lo hi) := by
  unfold slices_ContainsFunc_int64_int64__areIn_1.f
  refine Run.bind (slices_IndexFunc_int64_int64__areIn_1_run list lo hi hl) fun r hr => ?_
  exact Run.ret hr

theorem impl_areIn_run (list : List Int) (many lo hi : Int) (hl : list.length < 4611686018427387904) : Run (fun k => impl_areIn.f k list many lo hi) (· = (decide ((list.length : Int) = many) && allIn list lo hi)) := by
  unfold impl_areIn.f
  refine Run.bindE (impl_size_int64_run list) ?_
  refine Run.ite (fun h => ?_) (fun h => ?_)
  · refine Run.bindE (slices_ContainsFunc_int64_int64__areIn_1_run list lo hi hl) ?_
    exact Run.ret (by rw [decide_eq_true h, Bool.true_and, Bool.not_not])
  · exact Run.ret (by rw [decide_eq_false h, Bool.false_and])

theorem impl_position_isShape_run (n : Int) (l : List Int) (hl : l.length < 4611686018427387904) : Run (fun k => impl_position_isShape.f k n l) (· = shapeB n l) := by
  unfold impl_position_isShape.f
  refine Run.bindE (impl_in_run _ _ _) ?_
  refine Run.itn (fun h => ?_) (fun h => ?_)
  · exact Run.ret (by rw [shapeB, Bool.eq_false_iff.mpr h, Bool.false_and])
  have hn := of_decide_eq_true h
  have et := tri_int (n := n.toNat) (by omega)
  rw [show ((n.toNat : Nat) : Int) = n by omega] at et
  rw [et, shapeB, h, Bool.true_and]
  refine Run.bindE (impl_areIn_run l _ _ _ hl) ?_
  exact Run.ret rfl

theorem impl_always_run : Run (fun _ => impl_always.f) (· = true) := by
  unfold impl_always.f
  exact Run.ret rfl

theorem impl_position_many_run (p : Int) (l : List Int) (who : Int) (hl : l.length < 1000) : Run (fun k => impl_position_many.f k p l who) (· = (manyN l who : Int)) := by
  unfold impl_position_many.f
  refine Run.loop (L := fun q (z : Int × Int) => impl_position_many.l0 q l who z.1 z.2) (fun z => (l.length - z.2).toNat) (fun z => 0 ≤ z.2 ∧ z.2 ≤ l.length ∧ z.1 = (cnt (hasE l who) z.2.toNat : Int)) ?_ (0, 0) ⟨by simp only; omega, by simp only; omega, rfl⟩
  rintro ⟨a, i⟩ ⟨h0, h3, ha⟩ ih
  simp only at h0 h3 ha
  subst ha
  simp only [impl_position_many.l0]
  obtain ⟨i, rfl⟩ := Int.eq_ofNat_of_zero_le h0
  simp only [Int.toNat_natCast] at ih ⊢
  have c0 := cnt_le (hasE l who) i
  refine Run.ite (fun h => ?_) (fun h => ?_)
  · rw [w64_id (x := (i : Int) + 1) (by omega), w64_id (x := (cnt (hasE l who) i : Int) + 1) (by omega)]
    have eg : l.getD i 0 = l[((i : Int)).toNat]'(by omega) := getD_at (by omega)
    have s0 := cnt_succ (hasE l who) i
    refine Run.bindE (Run.getI' (by omega) h) ?_
    rw [← eg]
    refine Run.ite (fun h4 => ?_) (fun h4 => ?_)
    · rw [hasE_yes h4] at s0
      refine ih (_, (i : Int) + 1) ⟨by simp only; omega, by simp only; omega, ?_⟩ (by simp only; omega)
      simp only
      rw [show ((i : Int) + 1).toNat = i + 1 by omega, s0]; simp
    · rw [hasE_no h4] at s0
      refine ih (_, (i : Int) + 1) ⟨by simp only; omega, by simp only; omega, ?_⟩ (by simp only; omega)
      simp only
      rw [show ((i : Int) + 1).toNat = i + 1 by omega, s0]; simp
  · refine Run.ret ?_
    rw [show i = l.length by omega]; rfl

theorem impl_position_mover_run (p : Int) (l : List Int) (hl : l.length < 1000) : Run (fun k => impl_position_mover.f k p l) (· = moverN l) := by
  unfold impl_position_mover.f
  refine Run.bindE (impl_position_many_run p l 0 hl) ?_
  refine Run.bindE (impl_position_many_run p l 1 hl) ?_
  have c0 := cnt_le (hasE l 0) l.length
  have c1 := cnt_le (hasE l 1) l.length
  exact Run.ret (w64_id (x := (manyN l 0 : Int) - (manyN l 1 : Int)) (by unfold manyN; omega))

theorem impl_number_run (i j : Nat) (hi : i ≤ 1000) (hj : j ≤ 1000) : Run (fun _ => impl_number.f i j) (· = (edg i j : Int)) := by
  unfold impl_number.f
  have hm : (max i j) ≤ 1000 := by omega
  have ti := tri_mono hm
  have tt : tri 1000 = 499500 := rfl
  rw [show max (i : Int) (j : Int) = ((max i j : Nat) : Int) by omega, show min (i : Int) (j : Int) = ((min i j : Nat) : Int) by omega]
  refine Run.ret ?_
  rw [tri_int (by omega), w64_id (by omega), edg]
  split
  · rw [show max i j = i by omega, show min i j = j by omega]; rfl
  · rw [show max i j = j by omega, show min i j = i by omega]; rfl

theorem impl_position_triangles_1_run (e : Nat) (p : Int) (l : List Int) (who : Int) (he : e < l.length) : Run (fun _ => impl_position_triangles_1.f e p l who) (· = !hasE l who e) := by
  unfold impl_position_triangles_1.f
  refine Run.bindE (Run.getI' (by omega) (by omega)) ?_
  refine Run.ret ?_
  rw [hasE, getD_at (l := l) (i := e) he]
  simp only [Int.toNat_natCast]
  by_cases h : l[e] = who <;> simp [h]

theorem slices_IndexFunc_int64_int64__position_triangles_1_run (a b c : Nat) (p : Int) (l : List Int) (who : Int) (ha : a < l.length) (hb : b < l.length) (hc : c < l.length) :
    Run (fun k => slices_IndexFunc_int64_int64__position_triangles_1.f k [(a : Int), (b : Int), (c : Int)] p l who) (fun r => decide (r ≥ 0) = !(hasE l who a && (hasE l who b && hasE l who c))) := by
  unfold slices_IndexFunc_int64_int64__position_triangles_1.f
  have st : ∀ (i : Nat) (e : Nat) (hi : i < 3) (he : e < l.length) (hg : [(a : Int), (b : Int), (c : Int)][i]'(by simpa using hi) = (e : Int)) (Q : Int → Prop),
      (hasE l who e = false → Q (i : Int)) → (hasE l who e = true → Run (fun q => slices_IndexFunc_int64_int64__position_triangles_1.l0 q [(a : Int), (b : Int), (c : Int)] p l who ((i : Int) + 1)) Q) →
      Run (fun q => slices_IndexFunc_int64_int64__position_triangles_1.l0 q [(a : Int), (b : Int), (c : Int)] p l who (i : Int)) Q := by
    intro i e hi he hg Q hy hn
    refine Run.step ?_
    simp only [slices_IndexFunc_int64_int64__position_triangles_1.l0]
    refine Run.yes (by simp; omega) ?_
    refine Run.bindE (Run.getI' (by omega) (by simp; omega)) ?_
    simp only [Int.toNat_natCast]
    rw [hg]
    refine Run.bindE (impl_position_triangles_1_run e p l who he) ?_
    rw [w64_id (by omega)]
    refine Run.ite (fun h => ?_) (fun h => ?_)
    · exact Run.ret (hy (by simpa using h))
    · exact hn (by simpa using h)
  refine st 0 a (by omega) ha rfl _ (fun h => by rw [h]; rfl) fun h1 => ?_
  rw [h1, Bool.true_and]
  refine st 1 b (by omega) hb rfl _ (fun h => by rw [h]; rfl) fun h2 => ?_
  rw [h2, Bool.true_and]
  refine st 2 c (by omega) hc rfl _ (fun h => by rw [h]; rfl) fun h3 => ?_
  rw [h3]
  refine Run.step ?_
  simp only [slices_IndexFunc_int64_int64__position_triangles_1.l0]
  exact Run.no (by simp) (Run.ret rfl)

theorem slices_ContainsFunc_int64_int64__position_triangles_1_run (a b c : Nat) (p : Int) (l : List Int) (who : Int) (ha : a < l.length) (hb : b < l.length) (hc : c < l.length) :
    Run (fun k => slices_ContainsFunc_int64_int64__position_triangles_1.f k [(a : Int), (b : Int), (c : Int)] p l who) (· = !(hasE l who a && (hasE l who b && hasE l who c))) := by
  unfold slices_ContainsFunc_int64_int64__position_triangles_1.f
  refine Run.bind (slices_IndexFunc_int64_int64__position_triangles_1_run a b c p l who ha hb hc) fun r hr => ?_
  exact Run.ret hr
end Go.Proofs.Ytfbdcidedjocdaa.P
