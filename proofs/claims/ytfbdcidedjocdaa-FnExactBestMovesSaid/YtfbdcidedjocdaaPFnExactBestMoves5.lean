/- What the pure functions come to, one by one (part 5). -/
import Derived.Test.YtfbdcidedjocdaaPFnExactBestMoves4
import Derived.Test.YtfbdcidedjocdaaGFnExactBestMoves9
namespace Go.Proofs.Ytfbdcidedjocdaa.P
open Go Go.RowKit Go.Proofs.Ytfbdcidedjocdaa.K Go.Proofs.Ytfbdcidedjocdaa.G
set_option linter.unusedVariables false
set_option linter.unusedSimpArgs false

theorem spec_l09Best_run (n : Int) (l K : List Int) (hg : Good n l) (hK : Tab n K) : Run (fun k => spec_l09Best.f k n l K) (fun r => r.1 = bestM n l ∧ Tab n r.2) := by
  unfold spec_l09Best.f
  have ht := hg.ten
  refine Run.bind (spec_l09Outcome_run n (freeN l + 1) l K hg (by omega) hK) fun r hr => ?_
  obtain ⟨hr1, hr2⟩ := hr
  refine Run.bindE (spec_l09Free_run l (by omega)) ?_
  rw [sel_upF]
  have hb : bestM n l = ((upF (freeE l) 0 l.length).filter fun e => decide (outM n (l.set e (moverN l)) = outM n l)).map Int.ofNat := by rw [upF_filter, ← sel_upF]; rfl
  generalize hF : upF (freeE l) 0 l.length = F at hb
  have hmem : ∀ e ∈ F, e < l.length ∧ freeE l e = true := fun e he => by
    rw [← hF] at he
    have := mem_upF.mp he
    exact ⟨this.1.2, this.2⟩
  have hFl : F.length ≤ l.length := by rw [← hF]; have := upF_length (freeE l) 0 l.length; omega
  refine Run.loop (L := fun q (z : List Int × List Int × Int) => spec_l09Best.l0 q n l r (F.map Int.ofNat) z.1 z.2.1 z.2.2) (fun z => (F.length - z.2.2).toNat) (fun z => 0 ≤ z.2.2 ∧ z.2.2 ≤ F.length ∧ Tab n z.2.1 ∧ z.1 = ((F.take z.2.2.toNat).filter fun e => decide (outM n (l.set e (moverN l)) = outM n l)).map Int.ofNat) ?_ ([], r.2, 0) ⟨by simp only; omega, by simp only; omega, hr2, rfl⟩
  rintro ⟨m, K', j⟩ ⟨h0, h3, hK', hm⟩ ih
  simp only at h0 h3 hK' hm
  obtain ⟨j, rfl⟩ := Int.eq_ofNat_of_zero_le h0
  simp only [Int.toNat_natCast] at ih hm ⊢
  simp only [spec_l09Best.l0, List.length_map]
  refine Run.ite (fun hj => ?_) (fun hj => ?_)
  · obtain ⟨he, hfr⟩ := hmem (F[j]'(by omega)) (List.getElem_mem (by omega))
    have et : F.take (j + 1) = F.take j ++ [F[j]'(by omega)] := (List.take_append_getElem (by omega)).symm
    have ex : (F.map Int.ofNat)[((j : Nat) : Int).toNat]'(by rw [List.length_map]; omega) = ((F[j]'(by omega) : Nat) : Int) := by rw [List.getElem_map]; rfl
    rw [w64_id (x := (j : Int) + 1) (by omega)]
    refine Run.bindE (Run.getI' (by omega) (by rw [List.length_map]; omega)) ?_
    rw [ex]
    refine Run.bindE (spec_l09Move_run l _ (by omega) he) ?_
    obtain ⟨hg2, hf2⟩ := hg.move he hfr
    refine Run.bind (spec_l09Outcome_run n (freeN l + 1) _ K' hg2 (by omega) hK') fun r' hr' => ?_
    obtain ⟨hs1, hs2⟩ := hr'
    refine Run.ite (fun h1 => ?_) (fun h1 => ?_)
    · refine Run.bindE (Run.getI' (by omega) (by rw [List.length_map]; omega)) ?_
      rw [ex]
      refine Run.bindE (Run.push' (by
        rw [hm, List.length_map]
        have := List.length_filter_le (fun e => decide (outM n (l.set e (moverN l)) = outM n l)) (F.take j)
        rw [List.length_take] at this
        omega)) ?_
      refine ih (_, r'.2, (j : Int) + 1) ⟨by simp only; omega, by simp only; omega, hs2, ?_⟩ (by simp only; omega)
      simp only
      rw [show ((j : Int) + 1).toNat = j + 1 by omega, et, List.filter_append, List.map_append, hm]
      have e : decide (outM n (l.set (F[j]'(by omega)) (moverN l)) = outM n l) = true := decide_eq_true (by rw [← hs1, h1, hr1])
      rw [List.filter_cons, if_pos e]
      rfl
    · refine ih (m, r'.2, (j : Int) + 1) ⟨by simp only; omega, by simp only; omega, hs2, ?_⟩ (by simp only; omega)
      simp only
      rw [show ((j : Int) + 1).toNat = j + 1 by omega, et, List.filter_append, List.map_append, hm]
      have e : ¬ decide (outM n (l.set (F[j]'(by omega)) (moverN l)) = outM n l) = true := fun h => h1 (by rw [hs1, of_decide_eq_true h, hr1])
      rw [List.filter_cons, if_neg e, List.filter_nil, List.map_nil, List.append_nil]
  · refine Run.ret ⟨?_, hK'⟩
    show m = _
    rw [hb, hm, show j = F.length by omega, List.take_length]

theorem spec_BestMoves_run (n : Int) (l : List Int) (hl : l.length < 4611686018427387904) : Run (fun k => spec_BestMoves.f k n l) (· = (if posCode n l = 0 then (if resM n l ≥ 0 then ([], 5) else (bestM n l, 0)) else ([], posCode n l))) := by
  unfold spec_BestMoves.f
  refine Run.bindE (spec_l09Code_run n l hl) ?_
  refine Run.ite (fun h => Run.ret (by rw [if_neg h])) (fun h => ?_)
  have hz := Decidable.not_not.mp h
  have hg := good_of hz
  rw [if_pos hz]
  refine Run.bindE (spec_l09Result_run n l hg.n5 hg.len hg.nn hg.all) ?_
  refine Run.ite (fun h => Run.ret (by rw [if_pos h])) (fun h => ?_)
  rw [if_neg h]
  refine Run.bindE (spec_l09Table_run n l hg) ?_
  refine Run.bind (spec_l09Best_run n l _ hg (tab_new n)) fun r hr => ?_
  exact Run.ret (by rw [hr.1])

theorem impl_in_run (n low high : Int) : Run (fun _ => impl_in.f n low high) (· = decide (low ≤ n ∧ n ≤ high)) := by
  unfold impl_in.f
  refine Run.ite (fun h => ?_) (fun h => ?_)
  · refine Run.ret (decide_eq_decide.mpr ?_); omega
  · refine Run.ret ((decide_eq_false ?_).symm); omega

theorem impl_size_int64_run (l : List Int) : Run (fun _ => impl_size_int64.f l) (· = (l.length : Int)) := by
  unfold impl_size_int64.f
  exact Run.ret rfl

theorem impl_areIn_1_run (n lo hi : Int) : Run (fun _ => impl_areIn_1.f n lo hi) (· = !decide (lo ≤ n ∧ n ≤ hi)) := by
  unfold impl_areIn_1.f
  refine Run.bindE (impl_in_run _ _ _) ?_
  exact Run.ret rfl

theorem slices_IndexFunc_int64_int64__areIn_1_run (list : List Int) (lo hi : Int) (hl : list.length < 4611686018427387904) : Run (fun k => slices_IndexFunc_int64_int64__areIn_1.f k list lo hi) (fun r => decide (r ≥ 0) = !allIn list lo hi) := by
  unfold slices_IndexFunc_int64_int64__areIn_1.f
  refine Run.loop (L := fun q (i : Int) => slices_IndexFunc_int64_int64__areIn_1.l0 q list lo hi i) (fun i => (list.length - i).toNat) (fun i => 0 ≤ i ∧ i ≤ list.length ∧ allIn list lo hi = allIn (list.drop i.toNat) lo hi) ?_ 0 ⟨by omega, by omega, rfl⟩
  rintro i ⟨h0, h3, hJ⟩ ih
  simp only [slices_IndexFunc_int64_int64__areIn_1.l0]
  refine Run.ite (fun h => ?_) (fun h => ?_)
  · have hd : list.drop i.toNat = list[i.toNat]'(by omega) :: list.drop (i.toNat + 1) := List.drop_eq_getElem_cons (by omega)
    refine Run.bindE (Run.getI' h0 h) ?_
    rw [w64_id (x := i + 1) (by omega)]
    refine Run.bindE (impl_areIn_1_run _ _ _) ?_
    refine Run.ite (fun h5 => ?_) (fun h5 => ?_)
    · refine Run.ret ?_
      rw [hJ, hd, allIn_cons]
      simp only [Bool.not_eq_true'] at h5
      rw [h5, Bool.false_and, Bool.not_false]
      exact decide_eq_true h0
    · refine ih (i + 1) ⟨by omega, by omega, ?_⟩ (by omega)
      simp only [Bool.not_eq_true', Bool.not_eq_false] at h5
      rw [hJ, hd, show (i + 1).toNat = i.toNat + 1 by omega, allIn_cons, h5, Bool.true_and]
  · refine Run.ret ?_
    rw [hJ, List.drop_eq_nil_of_le (by omega)]; rfl

theorem slices_ContainsFunc_int64_int64__areIn_1_run (list : List Int) (lo hi : Int) (hl : list.length < 4611686018427387904) : Run (fun k => slices_ContainsFunc_int64_int64__areIn_1.f k list lo hi) (· = !allIn list lo hi) := by
  unfold slices_ContainsFunc_int64_int64__areIn_1.f
  refine Run.bind (slices_IndexFunc_int64_int64__areIn_1_run list lo hi hl) fun r hr => ?_
  exact Run.ret hr

theorem impl_areIn_run (list : List Int) (many lo hi : Int) (hl : list.length < 4611686018427387904) : Run (fun k => impl_areIn.f k list many lo hi) (· = (decide ((list.length : Int) = many) && allIn list lo hi)) := by
  unfold impl_areIn.f
  refine Run.bindE (impl_size_int64_run list) ?_
  refine Run.ite (fun h => ?_) (fun h => ?_)
  · refine Run.bindE (slices_ContainsFunc_int64_int64__areIn_1_run list lo hi hl) ?_
    exact Run.ret (by rw [decide_eq_true h, Bool.true_and, Bool.not_not])
  · exact Run.ret (by rw [decide_eq_false h, Bool.false_and])

theorem impl_position_isShape_run (n : Int) (l : List Int) (hl : l.length < 4611686018427387904) : Run (fun k => impl_position_isShape.f k n l) (· = shapeB n l) := by
  unfold impl_position_isShape.f
  refine Run.bindE (impl_in_run _ _ _) ?_
  refine Run.itn (fun h => ?_) (fun h => ?_)
  · exact Run.ret (by rw [shapeB, Bool.eq_false_iff.mpr h, Bool.false_and])
  have hn := of_decide_eq_true h
  have et := tri_int (n := n.toNat) (by omega)
  rw [show ((n.toNat : Nat) : Int) = n by omega] at et
  rw [et, shapeB, h, Bool.true_and]
  refine Run.bindE (impl_areIn_run l _ _ _ hl) ?_
  exact Run.ret rfl

theorem impl_always_run : Run (fun _ => impl_always.f) (· = true) := by
  unfold impl_always.f
  exact Run.ret rfl

theorem impl_position_many_run (p : Int) (l : List Int) (who : Int) (hl : l.length < 1000) : Run (fun k => impl_position_many.f k p l who) (· = (manyN l who : Int)) := by
  unfold impl_position_many.f
  refine Run.loop (L := fun q (z : Int × Int) => impl_position_many.l0 q l who z.1 z.2) (fun z => (l.length - z.2).toNat) (fun z => 0 ≤ z.2 ∧ z.2 ≤ l.length ∧ z.1 = (cnt (hasE l who) z.2.toNat : Int)) ?_ (0, 0) ⟨by simp only; omega, by simp only; omega, rfl⟩
  rintro ⟨a, i⟩ ⟨h0, h3, ha⟩ ih
  simp only at h0 h3 ha
  subst ha
  simp only [impl_position_many.l0]
  obtain ⟨i, rfl⟩ := Int.eq_ofNat_of_zero_le h0
  simp only [Int.toNat_natCast] at ih ⊢
  have c0 := cnt_le (hasE l who) i
  refine Run.ite (fun h => ?_) (fun h => ?_)
  · rw [w64_id (x := (i : Int) + 1) (by omega), w64_id (x := (cnt (hasE l who) i : Int) + 1) (by omega)]
    have eg : l.getD i 0 = l[((i : Int)).toNat]'(by omega) := getD_at (by omega)
    have s0 := cnt_succ (hasE l who) i
    refine Run.bindE (Run.getI' (by omega) h) ?_
    rw [← eg]
    refine Run.ite (fun h4 => ?_) (fun h4 => ?_)
    · rw [hasE_yes h4] at s0
      refine ih (_, (i : Int) + 1) ⟨by simp only; omega, by simp only; omega, ?_⟩ (by simp only; omega)
      simp only
      rw [show ((i : Int) + 1).toNat = i + 1 by omega, s0]; simp
    · rw [hasE_no h4] at s0
      refine ih (_, (i : Int) + 1) ⟨by simp only; omega, by simp only; omega, ?_⟩ (by simp only; omega)
      simp only
      rw [show ((i : Int) + 1).toNat = i + 1 by omega, s0]; simp
  · refine Run.ret ?_
    rw [show i = l.length by omega]; rfl

theorem impl_position_mover_run (p : Int) (l : List Int) (hl : l.length < 1000) : Run (fun k => impl_position_mover.f k p l) (· = moverN l) := by
  unfold impl_position_mover.f
  refine Run.bindE (impl_position_many_run p l 0 hl) ?_
  refine Run.bindE (impl_position_many_run p l 1 hl) ?_
  have c0 := cnt_le (hasE l 0) l.length
  have c1 := cnt_le (hasE l 1) l.length
  exact Run.ret (w64_id (x := (manyN l 0 : Int) - (manyN l 1 : Int)) (by unfold manyN; omega))

theorem impl_number_run (i j : Nat) (hi : i ≤ 1000) (hj : j ≤ 1000) : Run (fun _ => impl_number.f i j) (· = (edg i j : Int)) := by
  unfold impl_number.f
  have hm : (max i j) ≤ 1000 := by omega
  have ti := tri_mono hm
  have tt : tri 1000 = 499500 := rfl
  rw [show max (i : Int) (j : Int) = ((max i j : Nat) : Int) by omega, show min (i : Int) (j : Int) = ((min i j : Nat) : Int) by omega]
  refine Run.ret ?_
  rw [tri_int (by omega), w64_id (by omega), edg]
  split
  · rw [show max i j = i by omega, show min i j = j by omega]; rfl
  · rw [show max i j = j by omega, show min i j = i by omega]; rfl

theorem impl_position_triangles_1_run (e : Nat) (p : Int) (l : List Int) (who : Int) (he : e < l.length) : Run (fun _ => impl_position_triangles_1.f e p l who) (· = !hasE l who e) := by
  unfold impl_position_triangles_1.f
  refine Run.bindE (Run.getI' (by omega) (by omega)) ?_
  refine Run.ret ?_
  rw [hasE, getD_at (l := l) (i := e) he]
  simp only [Int.toNat_natCast]
  by_cases h : l[e] = who <;> simp [h]
end Go.Proofs.Ytfbdcidedjocdaa.P
