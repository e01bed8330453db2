/- What the pure functions come to, one by one (part 5). -/
import Derived.Test.YtfbdcidedjocdaaPFnExactOutcomeOf4
import Derived.Test.YtfbdcidedjocdaaGFnExactOutcomeOf9
namespace Go.Proofs.Ytfbdcidedjocdaa.P
open Go Go.RowKit Go.Proofs.Ytfbdcidedjocdaa.K Go.Proofs.Ytfbdcidedjocdaa.G
set_option linter.unusedVariables false
set_option linter.unusedSimpArgs false

theorem spec_l09Outcome_run (n : Int) : ∀ (f : Nat) (l K : List Int), Good n l → freeN l < f → Tab n K → Run (fun k => spec_l09Outcome.f k n l K) (fun r => r.1 = outM n l ∧ Tab n r.2)
  | 0, l, K, _, hf, _ => by omega
  | f + 1, l, K, hg, hf, hK => by
    refine Run.step ?_
    simp only [spec_l09Outcome.f]
    have ht := hg.ten
    have hnum := hg.num
    have hlo := hg.lo
    have hhi := hg.hi
    have hin : ∀ K', Tab n K' → (numN l : Int) < K'.length := fun K' h => by rw [h.len]; omega
    refine Run.bindE (spec_l09Number_run n l hg) ?_
    refine Run.bindE (Run.getI' (by omega) (hin K hK)) ?_
    have eg : K.getD (numN l) 0 = K[((numN l : Nat) : Int).toNat]'(by have := hin K hK; omega) := getD_at (by have := hin K hK; omega)
    rw [← eg]
    refine Run.ite (fun h => ?_) (fun _ => ?_)
    · refine Run.bindE (Run.getI' (by omega) (hin K hK)) ?_
      rw [← eg]
      exact Run.ret ⟨hK.val l hg h, hK⟩
    refine Run.bindE (spec_l09Result_run n l hg.n5 hg.len hg.nn hg.all) ?_
    refine Run.ite (fun h => ?_) (fun h => ?_)
    rotate_left
    · refine Run.bindE (Run.getI' (by omega) (hin K hK)) ?_
      refine Run.ret ⟨(outM_over (by omega)).symm, ?_⟩
      rw [← outM_over (n := n) (l := l) (by omega), Int.toNat_natCast]
      exact hK.put hg
    refine Run.bindE (spec_l09Mover_run l (by omega)) ?_
    refine Run.bindE (spec_l09Free_run l (by omega)) ?_
    have hout := outM_eq hg (by omega)
    rw [w64_id (x := 1 - moverN l) (by omega), sel_upF]
    generalize hF : upF (freeE l) 0 l.length = F at hout
    have hmem : ∀ e ∈ F, e < l.length ∧ freeE l e = true := fun e he => by
      rw [← hF] at he
      have := mem_upF.mp he
      exact ⟨this.1.2, this.2⟩
    have hFl : F.length ≤ l.length := by rw [← hF]; have := upF_length (freeE l) 0 l.length; omega
    have fin : ∀ K', Tab n K' → ∀ o, o = outM n l → Run (fun _ => (getI K' (numN l : Int)).bind fun _ => some (o, K'.set ((numN l : Nat) : Int).toNat o)) (fun r => r.1 = outM n l ∧ Tab n r.2) := fun K' hK' o ho => by
      refine Run.bindE (Run.getI' (by omega) (hin K' hK')) ?_
      refine Run.ret ⟨ho, ?_⟩
      rw [ho, Int.toNat_natCast]
      exact hK'.put hg
    refine Run.loop (L := fun q (z : List Int × Int × Int) => spec_l09Outcome.l0 q n l (numN l : Int) (moverN l) (F.map Int.ofNat) z.1 z.2.1 z.2.2) (fun z => (F.length - z.2.2).toNat) (fun z => 0 ≤ z.2.2 ∧ z.2.2 ≤ F.length ∧ Tab n z.1 ∧ (if z.2.1 = moverN l then moverN l else scanF (fun e => outM n (l.set e (moverN l))) (moverN l) (F.drop z.2.2.toNat) z.2.1) = outM n l) ?_ (K, 1 - moverN l, 0) ⟨by simp only; omega, by simp only; omega, hK, by simp only; rw [if_neg (by omega)]; exact hout.symm⟩
    rintro ⟨K', o, j⟩ ⟨h0, h3, hK', ho⟩ ih
    simp only at h0 h3 hK' ho
    obtain ⟨j, rfl⟩ := Int.eq_ofNat_of_zero_le h0
    simp only [Int.toNat_natCast] at ih ho ⊢
    simp only [spec_l09Outcome.l0, List.length_map]
    refine Run.ite (fun hj => ?_) (fun hj => ?_)
    · refine Run.ite (fun hne => ?_) (fun hne => ?_)
      · rw [if_neg hne, show F.drop j = F[j]'(by omega) :: F.drop (j + 1) from List.drop_eq_getElem_cons (by omega), scanF] at ho
        obtain ⟨he, hfr⟩ := hmem (F[j]'(by omega)) (List.getElem_mem (by omega))
        refine Run.bindE (Run.getI' (by omega) (by rw [List.length_map]; omega)) ?_
        have ex : (F.map Int.ofNat)[((j : Nat) : Int).toNat]'(by rw [List.length_map]; omega) = ((F[j]'(by omega) : Nat) : Int) := by rw [List.getElem_map]; rfl
        rw [ex]
        refine Run.bindE (spec_l09Move_run l _ (by omega) he) ?_
        obtain ⟨hg2, hf2⟩ := hg.move he hfr
        rw [w64_id (x := (j : Int) + 1) (by omega)]
        refine Run.bind (spec_l09Outcome_run n f _ K' hg2 (by omega) hK') fun r hr => ?_
        obtain ⟨hr1, hr2⟩ := hr
        have next : ∀ o', (if o' = moverN l then moverN l else scanF (fun e => outM n (l.set e (moverN l))) (moverN l) (F.drop (j + 1)) o') = outM n l → Run (fun q => spec_l09Outcome.l0 q n l (numN l : Int) (moverN l) (F.map Int.ofNat) r.2 o' ((j : Int) + 1)) (fun r => r.1 = outM n l ∧ Tab n r.2) := fun o' ho' => by
          refine ih (r.2, o', (j : Int) + 1) ⟨by simp only; omega, by simp only; omega, hr2, ?_⟩ (by simp only; omega)
          simp only
          rw [show ((j : Int) + 1).toNat = j + 1 by omega]
          exact ho'
        try simp only at ho
        rw [← hr1] at ho
        refine Run.ite (fun h1 => ?_) (fun h1 => ?_)
        · rw [if_pos h1] at ho
          exact next _ (by rw [if_pos h1]; exact ho)
        rw [if_neg h1] at ho
        refine Run.ite (fun h2 => ?_) (fun h2 => ?_)
        · rw [if_pos h2] at ho
          exact next _ (by rw [if_neg h1, h2]; exact ho)
        · rw [if_neg h2] at ho
          exact next _ (by rw [if_neg hne]; exact ho)
      · rw [if_pos (Decidable.not_not.mp hne)] at ho
        exact fin K' hK' o (by rw [← ho]; exact Decidable.not_not.mp hne)
    · rw [List.drop_eq_nil_of_le (by omega), scanF] at ho
      refine fin K' hK' o ?_
      rw [← ho]
      split
      · next q => exact q
      · rfl

theorem spec_OutcomeOf_run (n : Int) (l : List Int) (hl : l.length < 4611686018427387904) : Run (fun k => spec_OutcomeOf.f k n l) (· = (if posCode n l = 0 then (outM n l, 0) else (0, posCode n l))) := by
  unfold spec_OutcomeOf.f
  refine Run.bindE (spec_l09Code_run n l hl) ?_
  refine Run.ite (fun h => Run.ret (by rw [if_neg h])) (fun h => ?_)
  have hz := Decidable.not_not.mp h
  have hg := good_of hz
  rw [if_pos hz]
  refine Run.bindE (spec_l09Table_run n l hg) ?_
  refine Run.bind (spec_l09Outcome_run n (freeN l + 1) l _ hg (by omega) (tab_new n)) fun r hr => ?_
  exact Run.ret (by rw [hr.1])

theorem impl_in_run (n low high : Int) : Run (fun _ => impl_in.f n low high) (· = decide (low ≤ n ∧ n ≤ high)) := by
  unfold impl_in.f
  refine Run.ite (fun h => ?_) (fun h => ?_)
  · refine Run.ret (decide_eq_decide.mpr ?_); omega
  · refine Run.ret ((decide_eq_false ?_).symm); omega

theorem impl_size_int64_run (l : List Int) : Run (fun _ => impl_size_int64.f l) (· = (l.length : Int)) := by
  unfold impl_size_int64.f
  exact Run.ret rfl

theorem impl_areIn_1_run (n lo hi : Int) : Run (fun _ => impl_areIn_1.f n lo hi) (· = !decide (lo ≤ n ∧ n ≤ hi)) := by
  unfold impl_areIn_1.f
  refine Run.bindE (impl_in_run _ _ _) ?_
  exact Run.ret rfl

theorem slices_IndexFunc_int64_int64__areIn_1_run (list : List Int) (lo hi : Int) (hl : list.length < 4611686018427387904) : Run (fun k => slices_IndexFunc_int64_int64__areIn_1.f k list lo hi) (fun r => decide (r ≥ 0) = !allIn list lo hi) := by
  unfold slices_IndexFunc_int64_int64__areIn_1.f
  refine Run.loop (L := fun q (i : Int) => slices_IndexFunc_int64_int64__areIn_1.l0 q list lo hi i) (fun i => (list.length - i).toNat) (fun i => 0 ≤ i ∧ i ≤ list.length ∧ allIn list lo hi = allIn (list.drop i.toNat) lo hi) ?_ 0 ⟨by omega, by omega, rfl⟩
  rintro i ⟨h0, h3, hJ⟩ ih
  simp only [slices_IndexFunc_int64_int64__areIn_1.l0]
  refine Run.ite (fun h => ?_) (fun h => ?_)
  · have hd : list.drop i.toNat = list[i.toNat]'(by omega) :: list.drop (i.toNat + 1) := List.drop_eq_getElem_cons (by omega)
    refine Run.bindE (Run.getI' h0 h) ?_
    rw [w64_id (x := i + 1) (by omega)]
    refine Run.bindE (impl_areIn_1_run _ _ _) ?_
    refine Run.ite (fun h5 => ?_) (fun h5 => ?_)
    · refine Run.ret ?_
      rw [hJ, hd, allIn_cons]
      simp only [Bool.not_eq_true'] at h5
      rw [h5, Bool.false_and, Bool.not_false]
      exact decide_eq_true h0
    · refine ih (i + 1) ⟨by omega, by omega, ?_⟩ (by omega)
      simp only [Bool.not_eq_true', Bool.not_eq_false] at h5
      rw [hJ, hd, show (i + 1).toNat = i.toNat + 1 by omega, allIn_cons, h5, Bool.true_and]
  · refine Run.ret ?_
    rw [hJ, List.drop_eq_nil_of_le (by omega)]; rfl

theorem slices_ContainsFunc_int64_int64__areIn_1_run (list : List Int) (lo hi : Int) (hl : list.length < 4611686018427387904) : Run (fun k => slices_ContainsFunc_int64_int64__areIn_1.f k list lo hi) (· = !allIn list lo hi) := by
  unfold slices_ContainsFunc_int64_int64__areIn_1.f
  refine Run.bind (slices_IndexFunc_int64_int64__areIn_1_run list lo hi hl) fun r hr => ?_
  exact Run.ret hr

theorem impl_areIn_run (list : List Int) (many lo hi : Int) (hl : list.length < 4611686018427387904) : Run (fun k => impl_areIn.f k list many lo hi) (· = (decide ((list.length : Int) = many) && allIn list lo hi)) := by
  unfold impl_areIn.f
  refine Run.bindE (impl_size_int64_run list) ?_
  refine Run.ite (fun h => ?_) (fun h => ?_)
  · refine Run.bindE (slices_ContainsFunc_int64_int64__areIn_1_run list lo hi hl) ?_
    exact Run.ret (by rw [decide_eq_true h, Bool.true_and, Bool.not_not])
  · exact Run.ret (by rw [decide_eq_false h, Bool.false_and])

theorem impl_position_isShape_run (n : Int) (l : List Int) (hl : l.length < 4611686018427387904) : Run (fun k => impl_position_isShape.f k n l) (· = shapeB n l) := by
  unfold impl_position_isShape.f
  refine Run.bindE (impl_in_run _ _ _) ?_
  refine Run.itn (fun h => ?_) (fun h => ?_)
  · exact Run.ret (by rw [shapeB, Bool.eq_false_iff.mpr h, Bool.false_and])
  have hn := of_decide_eq_true h
  have et := tri_int (n := n.toNat) (by omega)
  rw [show ((n.toNat : Nat) : Int) = n by omega] at et
  rw [et, shapeB, h, Bool.true_and]
  refine Run.bindE (impl_areIn_run l _ _ _ hl) ?_
  exact Run.ret rfl

theorem impl_always_run : Run (fun _ => impl_always.f) (· = true) := by
  unfold impl_always.f
  exact Run.ret rfl

theorem impl_position_many_run (p : Int) (l : List Int) (who : Int) (hl : l.length < 1000) : Run (fun k => impl_position_many.f k p l who) (· = (manyN l who : Int)) := by
  unfold impl_position_many.f
  refine Run.loop (L := fun q (z : Int × Int) => impl_position_many.l0 q l who z.1 z.2) (fun z => (l.length - z.2).toNat) (fun z => 0 ≤ z.2 ∧ z.2 ≤ l.length ∧ z.1 = (cnt (hasE l who) z.2.toNat : Int)) ?_ (0, 0) ⟨by simp only; omega, by simp only; omega, rfl⟩
  rintro ⟨a, i⟩ ⟨h0, h3, ha⟩ ih
  simp only at h0 h3 ha
  subst ha
  simp only [impl_position_many.l0]
  obtain ⟨i, rfl⟩ := Int.eq_ofNat_of_zero_le h0
  simp only [Int.toNat_natCast] at ih ⊢
  have c0 := cnt_le (hasE l who) i
  refine Run.ite (fun h => ?_) (fun h => ?_)
  · rw [w64_id (x := (i : Int) + 1) (by omega), w64_id (x := (cnt (hasE l who) i : Int) + 1) (by omega)]
    have eg : l.getD i 0 = l[((i : Int)).toNat]'(by omega) := getD_at (by omega)
    have s0 := cnt_succ (hasE l who) i
    refine Run.bindE (Run.getI' (by omega) h) ?_
    rw [← eg]
    refine Run.ite (fun h4 => ?_) (fun h4 => ?_)
    · rw [hasE_yes h4] at s0
      refine ih (_, (i : Int) + 1) ⟨by simp only; omega, by simp only; omega, ?_⟩ (by simp only; omega)
      simp only
      rw [show ((i : Int) + 1).toNat = i + 1 by omega, s0]; simp
    · rw [hasE_no h4] at s0
      refine ih (_, (i : Int) + 1) ⟨by simp only; omega, by simp only; omega, ?_⟩ (by simp only; omega)
      simp only
      rw [show ((i : Int) + 1).toNat = i + 1 by omega, s0]; simp
  · refine Run.ret ?_
    rw [show i = l.length by omega]; rfl

theorem impl_position_mover_run (p : Int) (l : List Int) (hl : l.length < 1000) : Run (fun k => impl_position_mover.f k p l) (· = moverN l) := by
  unfold impl_position_mover.f
  refine Run.bindE (impl_position_many_run p l 0 hl) ?_
  refine Run.bindE (impl_position_many_run p l 1 hl) ?_
  have c0 := cnt_le (hasE l 0) l.length
  have c1 := cnt_le (hasE l 1) l.length
  exact Run.ret (w64_id (x := (manyN l 0 : Int) - (manyN l 1 : Int)) (by unfold manyN; omega))

theorem impl_number_run (i j : Nat) (hi : i ≤ 1000) (hj : j ≤ 1000) : Run (fun _ => impl_number.f i j) (· = (edg i j : Int)) := by
  unfold impl_number.f
  have hm : (max i j) ≤ 1000 := by omega
  have ti := tri_mono hm
  have tt : tri 1000 = 499500 := rfl
  rw [show max (i : Int) (j : Int) = ((max i j : Nat) : Int) by omega, show min (i : Int) (j : Int) = ((min i j : Nat) : Int) by omega]
  refine Run.ret ?_
  rw [tri_int (by omega), w64_id (by omega), edg]
  split
  · rw [show max i j = i by omega, show min i j = j by omega]; rfl
  · rw [show max i j = j by omega, show min i j = i by omega]; rfl
end Go.Proofs.Ytfbdcidedjocdaa.P
