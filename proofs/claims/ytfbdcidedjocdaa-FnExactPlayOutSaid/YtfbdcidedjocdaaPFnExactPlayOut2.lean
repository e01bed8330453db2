/- What the pure functions come to, one by one (part 2). -/
import Derived.Test.YtfbdcidedjocdaaPFnExactPlayOut00
import Derived.Test.YtfbdcidedjocdaaGFnExactPlayOut10
namespace Go.Proofs.Ytfbdcidedjocdaa.P
open Go Go.RowKit Go.Proofs.Ytfbdcidedjocdaa.K Go.Proofs.Ytfbdcidedjocdaa.G
set_option linter.unusedVariables false
set_option linter.unusedSimpArgs false

theorem laws_toInt64S_run (a : List Int) (ha : a.length ≤ 1048576) : Run (fun k => laws_toInt64S.f k a) (· = a) := by
  unfold laws_toInt64S.f
  refine Run.bind (Q := fun _ => True) (Run.guard (by omega) trivial) fun _ _ => ?_
  refine Run.loop (L := fun q (s : List Int × Int) => laws_toInt64S.l0 q a s.1 s.2) (fun s => (a.length - s.2).toNat) (fun s => 0 ≤ s.2 ∧ s.2 ≤ a.length ∧ s.1.length = a.length ∧ s.1.take s.2.toNat = a.take s.2.toNat) ?_ (_, 0) ⟨by simp only; omega, by simp only; omega, by simp, by simp⟩
  rintro ⟨l, i⟩ ⟨h0, h3, hv, hl⟩ ih
  simp only at h0 h3 hv hl
  simp only [laws_toInt64S.l0]
  refine Run.ite (fun h => ?_) (fun h => ?_)
  · refine Run.bindE (Run.getI' h0 h) ?_
    refine Run.bindE (Run.getI' h0 (by omega)) ?_
    rw [w64_id (by omega)]
    refine ih (_, i + 1) ⟨by simp only; omega, by simp only; omega, by simpa using hv, ?_⟩ (by simp only; omega)
    simp only
    rw [show (i + 1).toNat = i.toNat + 1 by omega, List.take_succ_eq_append_getElem (by simpa using by omega), List.take_succ_eq_append_getElem (by omega), List.take_set_of_le (Nat.le_refl _), hl]
    simp
  · have : i = a.length := by omega
    subst this
    refine Run.ret ?_
    rw [List.take_of_length_le (by omega), List.take_of_length_le (by omega)] at hl
    exact hl

theorem spec_l01In_run (n low high : Int) : Run (fun _ => spec_l01In.f n low high) (· = decide (low ≤ n ∧ n ≤ high)) := by
  unfold spec_l01In.f
  refine Run.ite (fun h => ?_) (fun h => ?_)
  · refine Run.ret (decide_eq_decide.mpr ?_); omega
  · refine Run.ret ((decide_eq_false ?_).symm); omega

theorem spec_l09Lists_run (n : Int) (l : List Int) (hl : l.length < 4611686018427387904) : Run (fun k => spec_l09Lists.f k n l) (· = if shapeB n l = true then 0 else 2) := by
  unfold spec_l09Lists.f
  refine Run.bindE (spec_l01In_run _ _ _) ?_
  refine Run.itn (fun h => ?_) (fun h => ?_)
  · exact Run.ret (by rw [if_neg]; rw [shapeB, Bool.eq_false_iff.mpr h, Bool.false_and]; exact Bool.false_ne_true)
  have hn := of_decide_eq_true h
  have et := tri_int (n := n.toNat) (by omega)
  rw [show ((n.toNat : Nat) : Int) = n by omega] at et
  rw [et, shapeB, h, Bool.true_and]
  refine Run.ite (fun h2 => ?_) (fun h2 => ?_)
  · exact Run.ret (by rw [if_neg]; rw [decide_eq_false h2, Bool.false_and]; exact Bool.false_ne_true)
  rw [decide_eq_true (Decidable.not_not.mp h2), Bool.true_and]
  refine Run.loop (L := fun q (i : Int) => spec_l09Lists.l0 q l i) (fun i => (l.length - i).toNat) (fun i => 0 ≤ i ∧ i ≤ l.length ∧ allIn l (-1) 1 = allIn (l.drop i.toNat) (-1) 1) ?_ 0 ⟨by omega, by omega, rfl⟩
  rintro i ⟨h0, h3, hJ⟩ ih
  simp only [spec_l09Lists.l0]
  refine Run.ite (fun h => ?_) (fun h => ?_)
  · have hd : l.drop i.toNat = l[i.toNat]'(by omega) :: l.drop (i.toNat + 1) := List.drop_eq_getElem_cons (by omega)
    refine Run.bindE (Run.getI' h0 h) ?_
    rw [w64_id (x := i + 1) (by omega)]
    refine Run.bindE (spec_l01In_run _ _ _) ?_
    refine Run.ite (fun h5 => ?_) (fun h5 => ?_)
    · refine ih (i + 1) ⟨by omega, by omega, ?_⟩ (by omega)
      rw [hJ, hd, show (i + 1).toNat = i.toNat + 1 by omega, allIn_cons, h5, Bool.true_and]
    · refine Run.ret ?_
      rw [hJ, hd, allIn_cons, Bool.eq_false_iff.mpr h5, Bool.false_and]; rfl
  · refine Run.ret ?_
    rw [hJ, List.drop_eq_nil_of_le (by omega)]; rfl

theorem spec_l09Counts_run (l : List Int) (hl : l.length < 1000) : Run (fun k => spec_l09Counts.f k l) (· = ((manyN l 0 : Int), (manyN l 1 : Int))) := by
  unfold spec_l09Counts.f
  refine Run.loop (L := fun q (z : Int × Int × Int) => spec_l09Counts.l0 q l z.1 z.2.1 z.2.2) (fun z => (l.length - z.2.2).toNat) (fun z => 0 ≤ z.2.2 ∧ z.2.2 ≤ l.length ∧ z.1 = (cnt (hasE l 0) z.2.2.toNat : Int) ∧ z.2.1 = (cnt (hasE l 1) z.2.2.toNat : Int)) ?_ (0, 0, 0) ⟨by simp only; omega, by simp only; omega, rfl, rfl⟩
  rintro ⟨a, b, i⟩ ⟨h0, h3, ha, hb⟩ ih
  simp only at h0 h3 ha hb
  subst ha hb
  simp only [spec_l09Counts.l0]
  obtain ⟨i, rfl⟩ := Int.eq_ofNat_of_zero_le h0
  simp only [Int.toNat_natCast] at ih ⊢
  have c0 := cnt_le (hasE l 0) i
  have c1 := cnt_le (hasE l 1) i
  refine Run.ite (fun h => ?_) (fun h => ?_)
  · rw [w64_id (x := (i : Int) + 1) (by omega), w64_id (x := (cnt (hasE l 0) i : Int) + 1) (by omega), w64_id (x := (cnt (hasE l 1) i : Int) + 1) (by omega)]
    have eg : l.getD i 0 = l[((i : Int)).toNat]'(by omega) := getD_at (by omega)
    have s0 := cnt_succ (hasE l 0) i
    have s1 := cnt_succ (hasE l 1) i
    have next : ∀ u v : Int, u = (cnt (hasE l 0) (i + 1) : Int) → v = (cnt (hasE l 1) (i + 1) : Int) → Run (fun q => spec_l09Counts.l0 q l u v ((i : Int) + 1)) (· = ((manyN l 0 : Int), (manyN l 1 : Int))) := fun u v hu hv =>
      ih (u, v, (i : Int) + 1) ⟨by simp only; omega, by simp only; omega, by simp only; rw [show ((i : Int) + 1).toNat = i + 1 by omega]; exact hu, by simp only; rw [show ((i : Int) + 1).toNat = i + 1 by omega]; exact hv⟩ (by simp only; omega)
    refine Run.bindE (Run.getI' (by omega) h) ?_
    rw [← eg]
    refine Run.ite (fun h4 => ?_) (fun h4 => ?_)
    · refine Run.bindE (Run.getI' (by omega) h) ?_
      rw [← eg]
      rw [hasE_yes h4] at s0
      refine Run.ite (fun h5 => by omega) (fun h5 => ?_)
      rw [hasE_no h5] at s1
      exact next _ _ (by simp at s0; omega) (by simp at s1; omega)
    · refine Run.bindE (Run.getI' (by omega) h) ?_
      rw [← eg]
      rw [hasE_no h4] at s0
      refine Run.ite (fun h5 => ?_) (fun h5 => ?_)
      · rw [hasE_yes h5] at s1
        exact next _ _ (by simp at s0; omega) (by simp at s1; omega)
      · rw [hasE_no h5] at s1
        exact next _ _ (by simp at s0; omega) (by simp at s1; omega)
  · refine Run.ret ?_
    rw [show i = l.length by omega]; rfl

theorem spec_l09Mover_run (l : List Int) (hl : l.length < 1000) : Run (fun k => spec_l09Mover.f k l) (· = moverN l) := by
  unfold spec_l09Mover.f
  refine Run.bindE (spec_l09Counts_run l hl) ?_
  have c0 := cnt_le (hasE l 0) l.length
  have c1 := cnt_le (hasE l 1) l.length
  exact Run.ret (w64_id (x := (manyN l 0 : Int) - (manyN l 1 : Int)) (by unfold manyN; omega))

theorem spec_l01Edge_run (i j : Nat) (hi : i ≤ 1000) (hj : j ≤ 1000) : Run (fun _ => spec_l01Edge.f i j) (· = (edg i j : Int)) := by
  unfold spec_l01Edge.f
  have ti := tri_mono hi
  have tj := tri_mono hj
  have tt : tri 1000 = 499500 := rfl
  refine Run.ite (fun h => ?_) (fun h => ?_)
  · refine Run.ret ?_
    rw [tri_int (by omega), w64_id (by omega), edg, if_pos (by omega)]; rfl
  · refine Run.ret ?_
    rw [tri_int (by omega), w64_id (by omega), edg, if_neg (by omega)]; rfl
end Go.Proofs.Ytfbdcidedjocdaa.P
