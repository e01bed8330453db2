/- What the pure functions come to, one by one (part 3). -/
import Derived.Test.YtfbdcidedjocdaaPFnExactSafeMoves2
import Derived.Test.YtfbdcidedjocdaaGFnExactSafeMoves9
namespace Go.Proofs.Ytfbdcidedjocdaa.P
open Go Go.RowKit Go.Proofs.Ytfbdcidedjocdaa.K Go.Proofs.Ytfbdcidedjocdaa.G
set_option linter.unusedVariables false
set_option linter.unusedSimpArgs false

theorem spec_l09Result_run (n : Int) (l : List Int) (h1 : n.toNat ≤ 5) (h2 : l.length = tri n.toNat) (h3 : ((n.toNat : Nat) : Int) = n) (h4 : allIn l (-1) 1 = true) : Run (fun k => spec_l09Result.f k n l) (· = resM n l) := by
  unfold spec_l09Result.f
  have hN : tri n.toNat ≤ 10 := tri_mono (n := 5) (by omega)
  have hmv := moverN_range l (by omega)
  refine Run.bindE (spec_l09Mover_run l (by omega)) ?_
  rw [w64_id (x := 1 - moverN l) (by omega), resM]
  have hc := spec_l09Common_run n.toNat l (1 - moverN l) h1 h2
  rw [h3] at hc
  refine Run.bindE hc ?_
  refine Run.ite (fun h => ?_) (fun h => ?_)
  · exact Run.ret (by rw [if_pos (by omega)])
  rw [if_neg (by omega)]
  refine Run.bindE (spec_l09Free_run l (by omega)) ?_
  exact Run.ite (fun h => Run.ret (by rw [if_pos (by omega)])) (fun h => Run.ret (by rw [if_neg (by omega)]))

theorem spec_l09Moves_run (n : Int) (l : List Int) (h1 : n.toNat ≤ 5) (h2 : l.length = tri n.toNat) (h3 : ((n.toNat : Nat) : Int) = n) (h4 : allIn l (-1) 1 = true) : Run (fun k => spec_l09Moves.f k n l) (· = movesM n l) := by
  unfold spec_l09Moves.f
  have hN : tri n.toNat ≤ 10 := tri_mono (n := 5) (by omega)
  rw [movesM]
  refine Run.bindE (spec_l09Result_run n l h1 h2 h3 h4) ?_
  refine Run.ite (fun h => Run.ret (by rw [if_pos h])) (fun h => ?_)
  rw [if_neg h]
  refine Run.bindE (spec_l09Free_run l (by omega)) ?_
  exact Run.ret rfl

theorem spec_l01Own_run (l : List Int) (hl : l.length < 1099511627776) : Run (fun _ => spec_l01Own.f l) (· = l) := by
  unfold spec_l01Own.f
  refine Run.bindE (Run.concat' (by simp; omega)) ?_
  exact Run.ret (List.nil_append l)

theorem spec_l09Move_run (l : List Int) (e : Nat) (hl : l.length < 1000) (he : e < l.length) : Run (fun k => spec_l09Move.f k l e) (· = l.set e (moverN l)) := by
  unfold spec_l09Move.f
  refine Run.bindE (spec_l01Own_run l (by omega)) ?_
  refine Run.bindE (spec_l09Mover_run l hl) ?_
  refine Run.bindE (Run.getI' (by omega) (by omega)) ?_
  exact Run.ret rfl

theorem spec_SafeMoves_run (n : Int) (l : List Int) (hl : l.length < 4611686018427387904) : Run (fun k => spec_SafeMoves.f k n l) (· = if posCode n l = 0 then (safeM n l, 0) else ([], posCode n l)) := by
  unfold spec_SafeMoves.f
  refine Run.bindE (spec_l09Code_run n l hl) ?_
  refine Run.ite (fun h => Run.ret (by rw [if_neg h])) (fun h => ?_)
  have hz := Decidable.not_not.mp h
  obtain ⟨h1, h2, h3, h4⟩ := shape_of (posCode_zero hz).1
  have hN : tri n.toNat ≤ 10 := tri_mono (n := 5) (by omega)
  rw [if_pos hz]
  refine Run.bindE (spec_l09Moves_run n l h1 h2 h3 h4) ?_
  unfold safeM
  have hmem : ∀ v ∈ movesM n l, 0 ≤ v ∧ v < l.length := by
    intro v hv
    unfold movesM at hv
    split at hv
    · cases hv
    · exact mem_sel hv
  have hml : (movesM n l).length ≤ 10 := by
    unfold movesM
    split
    · simp
    · have := sel_length (freeE l) l.length; omega
  generalize movesM n l = m at hmem hml
  refine Run.loop (L := fun q (z : List Int × Int) => spec_SafeMoves.l0 q n l m z.1 z.2) (fun z => (m.length - z.2).toNat) (fun z => 0 ≤ z.2 ∧ z.2 ≤ m.length ∧ z.1 = (m.take z.2.toNat).filter fun v => safeB n l v.toNat) ?_ ([], 0) ⟨by simp only; omega, by simp only; omega, rfl⟩
  rintro ⟨r, j⟩ ⟨h0, hj3, hr⟩ ih
  simp only at h0 hj3 hr
  subst hr
  simp only [spec_SafeMoves.l0]
  refine Run.ite (fun h => ?_) (fun h => ?_)
  · have ht : m.take (j + 1).toNat = m.take j.toNat ++ [m[j.toNat]'(by omega)] := by
      rw [show (j + 1).toNat = j.toNat + 1 by omega, List.take_succ_eq_append_getElem (by omega)]
    have hv := hmem _ (List.getElem_mem (l := m) (n := j.toNat) (by omega))
    generalize hm : m[j.toNat]'(by omega) = v at hv ht
    obtain ⟨v, rfl⟩ := Int.eq_ofNat_of_zero_le hv.1
    have hget : ∀ (G : Int → Nat → Option (List Int × Int)) (Q : List Int × Int → Prop), Run (G v) Q → Run (fun k => (K.getI m j).bind fun t => G t k) Q := fun G Q hG => by
      refine Run.bindE (a := (v : Int)) ?_ hG
      have := Run.getI' (l := m) h0 h
      rw [hm] at this; exact this
    refine hget _ _ ?_
    refine Run.bindE (spec_l09Move_run l v (by omega) (by omega)) ?_
    refine Run.bindE (spec_l09Mover_run l (by omega)) ?_
    have hc := spec_l09Common_run n.toNat (l.set v (moverN l)) (moverN l) h1 (by rw [List.length_set]; exact h2)
    rw [h3] at hc
    refine Run.bindE hc ?_
    rw [w64_id (x := j + 1) (by omega)]
    refine Run.ite (fun hs => ?_) (fun hs => ?_)
    · have hs' : safeB n l v = true := decide_eq_true (by omega)
      refine hget _ _ ?_
      refine Run.bindE (Run.push' (by have := List.length_filter_le (fun v => safeB n l v.toNat) (m.take j.toNat); have := List.length_take_le j.toNat m; omega)) ?_
      refine ih (_, j + 1) ⟨by simp only; omega, by simp only; omega, ?_⟩ (by simp only; omega)
      simp only
      rw [ht, List.filter_append]
      simp [hs']
    · have hs' : safeB n l v = false := decide_eq_false (by omega)
      refine ih (List.filter (fun v => safeB n l v.toNat) (m.take j.toNat), j + 1) ⟨by simp only; omega, by simp only; omega, ?_⟩ (by simp only; omega)
      simp only
      rw [ht, List.filter_append]
      simp [hs']
  · refine Run.ret ?_
    rw [List.take_of_length_le (by omega)]

theorem impl_in_run (n low high : Int) : Run (fun _ => impl_in.f n low high) (· = decide (low ≤ n ∧ n ≤ high)) := by
  unfold impl_in.f
  refine Run.ite (fun h => ?_) (fun h => ?_)
  · refine Run.ret (decide_eq_decide.mpr ?_); omega
  · refine Run.ret ((decide_eq_false ?_).symm); omega

theorem impl_size_int64_run (l : List Int) : Run (fun _ => impl_size_int64.f l) (· = (l.length : Int)) := by
  unfold impl_size_int64.f
  exact Run.ret rfl

theorem impl_areIn_1_run (n lo hi : Int) : Run (fun _ => impl_areIn_1.f n lo hi) (· = !decide (lo ≤ n ∧ n ≤ hi)) := by
  unfold impl_areIn_1.f
  refine Run.bindE (impl_in_run _ _ _) ?_
  exact Run.ret rfl

theorem slices_IndexFunc_int64_int64__areIn_1_run (list : List Int) (lo hi : Int) (hl : list.length < 4611686018427387904) : Run (fun k => slices_IndexFunc_int64_int64__areIn_1.f k list lo hi) (fun r => decide (r ≥ 0) = !allIn list lo hi) := by
  unfold slices_IndexFunc_int64_int64__areIn_1.f
  refine Run.loop (L := fun q (i : Int) => slices_IndexFunc_int64_int64__areIn_1.l0 q list lo hi i) (fun i => (list.length - i).toNat) (fun i => 0 ≤ i ∧ i ≤ list.length ∧ allIn list lo hi = allIn (list.drop i.toNat) lo hi) ?_ 0 ⟨by omega, by omega, rfl⟩
  rintro i ⟨h0, h3, hJ⟩ ih
  simp only [slices_IndexFunc_int64_int64__areIn_1.l0]
  refine Run.ite (fun h => ?_) (fun h => ?_)
  · have hd : list.drop i.toNat = list[i.toNat]'(by omega) :: list.drop (i.toNat + 1) := List.drop_eq_getElem_cons (by omega)
    refine Run.bindE (Run.getI' h0 h) ?_
    rw [w64_id (x := i + 1) (by omega)]
    refine Run.bindE (impl_areIn_1_run _ _ _) ?_
    refine Run.ite (fun h5 => ?_) (fun h5 => ?_)
    · refine Run.ret ?_
      rw [hJ, hd, allIn_cons]
      simp only [Bool.not_eq_true'] at h5
      rw [h5, Bool.false_and, Bool.not_false]
      exact decide_eq_true h0
    · refine ih (i + 1) ⟨by omega, by omega, ?_⟩ (by omega)
      simp only [Bool.not_eq_true', Bool.not_eq_false] at h5
      rw [hJ, hd, show (i + 1).toNat = i.toNat + 1 by omega, allIn_cons, h5, Bool.true_and]
  · refine Run.ret ?_
    rw [hJ, List.drop_eq_nil_of_le (by omega)]; rfl

theorem slices_ContainsFunc_int64_int64__areIn_1_run (list : List Int) (lo hi : Int) (hl : list.length < 4611686018427387904) : Run (fun k => slices_ContainsFunc_int64_int64__areIn_1.f k list lo hi) (· = !allIn list lo hi) := by
  unfold slices_ContainsFunc_int64_int64__areIn_1.f
  refine Run.bind (slices_IndexFunc_int64_int64__areIn_1_run list lo hi hl) fun r hr => ?_
  exact Run.ret hr

theorem impl_areIn_run (list : List Int) (many lo hi : Int) (hl : list.length < 4611686018427387904) : Run (fun k => impl_areIn.f k list many lo hi) (· = (decide ((list.length : Int) = many) && allIn list lo hi)) := by
  unfold impl_areIn.f
  refine Run.bindE (impl_size_int64_run list) ?_
  refine Run.ite (fun h => ?_) (fun h => ?_)
  · refine Run.bindE (slices_ContainsFunc_int64_int64__areIn_1_run list lo hi hl) ?_
    exact Run.ret (by rw [decide_eq_true h, Bool.true_and, Bool.not_not])
  · exact Run.ret (by rw [decide_eq_false h, Bool.false_and])

theorem impl_position_isShape_run (n : Int) (l : List Int) (hl : l.length < 4611686018427387904) : Run (fun k => impl_position_isShape.f k n l) (· = shapeB n l) := by
  unfold impl_position_isShape.f
  refine Run.bindE (impl_in_run _ _ _) ?_
  refine Run.itn (fun h => ?_) (fun h => ?_)
  · exact Run.ret (by rw [shapeB, Bool.eq_false_iff.mpr h, Bool.false_and])
  have hn := of_decide_eq_true h
  have et := tri_int (n := n.toNat) (by omega)
  rw [show ((n.toNat : Nat) : Int) = n by omega] at et
  rw [et, shapeB, h, Bool.true_and]
  refine Run.bindE (impl_areIn_run l _ _ _ hl) ?_
  exact Run.ret rfl

theorem impl_always_run : Run (fun _ => impl_always.f) (· = true) := by
  unfold impl_always.f
  exact Run.ret rfl

theorem impl_position_many_run (p : Int) (l : List Int) (who : Int) (hl : l.length < 1000) : Run (fun k => impl_position_many.f k p l who) (· = (manyN l who : Int)) := by
  unfold impl_position_many.f
  refine Run.loop (L := fun q (z : Int × Int) => impl_position_many.l0 q l who z.1 z.2) (fun z => (l.length - z.2).toNat) (fun z => 0 ≤ z.2 ∧ z.2 ≤ l.length ∧ z.1 = (cnt (hasE l who) z.2.toNat : Int)) ?_ (0, 0) ⟨by simp only; omega, by simp only; omega, rfl⟩
  rintro ⟨a, i⟩ ⟨h0, h3, ha⟩ ih
  simp only at h0 h3 ha
  subst ha
  simp only [impl_position_many.l0]
  obtain ⟨i, rfl⟩ := Int.eq_ofNat_of_zero_le h0
  simp only [Int.toNat_natCast] at ih ⊢
  have c0 := cnt_le (hasE l who) i
  refine Run.ite (fun h => ?_) (fun h => ?_)
  · rw [w64_id (x := (i : Int) + 1) (by omega), w64_id (x := (cnt (hasE l who) i : Int) + 1) (by omega)]
    have eg : l.getD i 0 = l[((i : Int)).toNat]'(by omega) := getD_at (by omega)
    have s0 := cnt_succ (hasE l who) i
    refine Run.bindE (Run.getI' (by omega) h) ?_
    rw [← eg]
    refine Run.ite (fun h4 => ?_) (fun h4 => ?_)
    · rw [hasE_yes h4] at s0
      refine ih (_, (i : Int) + 1) ⟨by simp only; omega, by simp only; omega, ?_⟩ (by simp only; omega)
      simp only
      rw [show ((i : Int) + 1).toNat = i + 1 by omega, s0]; simp
    · rw [hasE_no h4] at s0
      refine ih (_, (i : Int) + 1) ⟨by simp only; omega, by simp only; omega, ?_⟩ (by simp only; omega)
      simp only
      rw [show ((i : Int) + 1).toNat = i + 1 by omega, s0]; simp
  · refine Run.ret ?_
    rw [show i = l.length by omega]; rfl

theorem impl_position_mover_run (p : Int) (l : List Int) (hl : l.length < 1000) : Run (fun k => impl_position_mover.f k p l) (· = moverN l) := by
  unfold impl_position_mover.f
  refine Run.bindE (impl_position_many_run p l 0 hl) ?_
  refine Run.bindE (impl_position_many_run p l 1 hl) ?_
  have c0 := cnt_le (hasE l 0) l.length
  have c1 := cnt_le (hasE l 1) l.length
  exact Run.ret (w64_id (x := (manyN l 0 : Int) - (manyN l 1 : Int)) (by unfold manyN; omega))

theorem impl_number_run (i j : Nat) (hi : i ≤ 1000) (hj : j ≤ 1000) : Run (fun _ => impl_number.f i j) (· = (edg i j : Int)) := by
  unfold impl_number.f
  have hm : (max i j) ≤ 1000 := by omega
  have ti := tri_mono hm
  have tt : tri 1000 = 499500 := rfl
  rw [show max (i : Int) (j : Int) = ((max i j : Nat) : Int) by omega, show min (i : Int) (j : Int) = ((min i j : Nat) : Int) by omega]
  refine Run.ret ?_
  rw [tri_int (by omega), w64_id (by omega), edg]
  split
  · rw [show max i j = i by omega, show min i j = j by omega]; rfl
  · rw [show max i j = j by omega, show min i j = i by omega]; rfl

theorem impl_position_triangles_1_run (e : Nat) (p : Int) (l : List Int) (who : Int) (he : e < l.length) : Run (fun _ => impl_position_triangles_1.f e p l who) (· = !hasE l who e) := by
  unfold impl_position_triangles_1.f
  refine Run.bindE (Run.getI' (by omega) (by omega)) ?_
  refine Run.ret ?_
  rw [hasE, getD_at (l := l) (i := e) he]
  simp only [Int.toNat_natCast]
  by_cases h : l[e] = who <;> simp [h]
end Go.Proofs.Ytfbdcidedjocdaa.P
