/- What the pure functions come to, one by one (part 5). -/
import Derived.Test.YtfbdcidedjocdaaPFnExactPlayOut4
import Derived.Test.YtfbdcidedjocdaaGFnExactPlayOut10
namespace Go.Proofs.Ytfbdcidedjocdaa.P
open Go Go.RowKit Go.Proofs.Ytfbdcidedjocdaa.K Go.Proofs.Ytfbdcidedjocdaa.G
set_option linter.unusedVariables false
set_option linter.unusedSimpArgs false

theorem spec_l09Outcome_run (n : Int) : ∀ (f : Nat) (l K : List Int), Good n l → freeN l < f → Tab n K → Run (fun k => spec_l09Outcome.f k n l K) (fun r => r.1 = outM n l ∧ Tab n r.2)
  | 0, l, K, _, hf, _ => by omega
  | f + 1, l, K, hg, hf, hK => by
    refine Run.step ?_
    simp only [spec_l09Outcome.f]
    have ht := hg.ten
    have hnum := hg.num
    have hlo := hg.lo
    have hhi := hg.hi
    have hin : ∀ K', Tab n K' → (numN l : Int) < K'.length := fun K' h => by rw [h.len]; omega
    refine Run.bindE (spec_l09Number_run n l hg) ?_
    refine Run.bindE (Run.getI' (by omega) (hin K hK)) ?_
    have eg : K.getD (numN l) 0 = K[((numN l : Nat) : Int).toNat]'(by have := hin K hK; omega) := getD_at (by have := hin K hK; omega)
    rw [← eg]
    refine Run.ite (fun h => ?_) (fun _ => ?_)
    · refine Run.bindE (Run.getI' (by omega) (hin K hK)) ?_
      rw [← eg]
      exact Run.ret ⟨hK.val l hg h, hK⟩
    refine Run.bindE (spec_l09Result_run n l hg.n5 hg.len hg.nn hg.all) ?_
    refine Run.ite (fun h => ?_) (fun h => ?_)
    rotate_left
    · refine Run.bindE (Run.getI' (by omega) (hin K hK)) ?_
      refine Run.ret ⟨(outM_over (by omega)).symm, ?_⟩
      rw [← outM_over (n := n) (l := l) (by omega), Int.toNat_natCast]
      exact hK.put hg
    refine Run.bindE (spec_l09Mover_run l (by omega)) ?_
    refine Run.bindE (spec_l09Free_run l (by omega)) ?_
    have hout := outM_eq hg (by omega)
    rw [w64_id (x := 1 - moverN l) (by omega), sel_upF]
    generalize hF : upF (freeE l) 0 l.length = F at hout
    have hmem : ∀ e ∈ F, e < l.length ∧ freeE l e = true := fun e he => by
      rw [← hF] at he
      have := mem_upF.mp he
      exact ⟨this.1.2, this.2⟩
    have hFl : F.length ≤ l.length := by rw [← hF]; have := upF_length (freeE l) 0 l.length; omega
    have fin : ∀ K', Tab n K' → ∀ o, o = outM n l → Run (fun _ => (getI K' (numN l : Int)).bind fun _ => some (o, K'.set ((numN l : Nat) : Int).toNat o)) (fun r => r.1 = outM n l ∧ Tab n r.2) := fun K' hK' o ho => by
      refine Run.bindE (Run.getI' (by omega) (hin K' hK')) ?_
      refine Run.ret ⟨ho, ?_⟩
      rw [ho, Int.toNat_natCast]
      exact hK'.put hg
    refine Run.loop (L := fun q (z : List Int × Int × Int) => spec_l09Outcome.l0 q n l (numN l : Int) (moverN l) (F.map Int.ofNat) z.1 z.2.1 z.2.2) (fun z => (F.length - z.2.2).toNat) (fun z => 0 ≤ z.2.2 ∧ z.2.2 ≤ F.length ∧ Tab n z.1 ∧ (if z.2.1 = moverN l then moverN l else scanF (fun e => outM n (l.set e (moverN l))) (moverN l) (F.drop z.2.2.toNat) z.2.1) = outM n l) ?_ (K, 1 - moverN l, 0) ⟨by simp only; omega, by simp only; omega, hK, by simp only; rw [if_neg (by omega)]; exact hout.symm⟩
    rintro ⟨K', o, j⟩ ⟨h0, h3, hK', ho⟩ ih
    simp only at h0 h3 hK' ho
    obtain ⟨j, rfl⟩ := Int.eq_ofNat_of_zero_le h0
    simp only [Int.toNat_natCast] at ih ho ⊢
    simp only [spec_l09Outcome.l0, List.length_map]
    refine Run.ite (fun hj => ?_) (fun hj => ?_)
    · refine Run.ite (fun hne => ?_) (fun hne => ?_)
      · rw [if_neg hne, show F.drop j = F[j]'(by omega) :: F.drop (j + 1) from List.drop_eq_getElem_cons (by omega), scanF] at ho
        obtain ⟨he, hfr⟩ := hmem (F[j]'(by omega)) (List.getElem_mem (by omega))
        refine Run.bindE (Run.getI' (by omega) (by rw [List.length_map]; omega)) ?_
        have ex : (F.map Int.ofNat)[((j : Nat) : Int).toNat]'(by rw [List.length_map]; omega) = ((F[j]'(by omega) : Nat) : Int) := by rw [List.getElem_map]; rfl
        rw [ex]
        refine Run.bindE (spec_l09Move_run l _ (by omega) he) ?_
        obtain ⟨hg2, hf2⟩ := hg.move he hfr
        rw [w64_id (x := (j : Int) + 1) (by omega)]
        refine Run.bind (spec_l09Outcome_run n f _ K' hg2 (by omega) hK') fun r hr => ?_
        obtain ⟨hr1, hr2⟩ := hr
        have next : ∀ o', (if o' = moverN l then moverN l else scanF (fun e => outM n (l.set e (moverN l))) (moverN l) (F.drop (j + 1)) o') = outM n l → Run (fun q => spec_l09Outcome.l0 q n l (numN l : Int) (moverN l) (F.map Int.ofNat) r.2 o' ((j : Int) + 1)) (fun r => r.1 = outM n l ∧ Tab n r.2) := fun o' ho' => by
          refine ih (r.2, o', (j : Int) + 1) ⟨by simp only; omega, by simp only; omega, hr2, ?_⟩ (by simp only; omega)
          simp only
          rw [show ((j : Int) + 1).toNat = j + 1 by omega]
          exact ho'
        try simp only at ho
        rw [← hr1] at ho
        refine Run.ite (fun h1 => ?_) (fun h1 => ?_)
        · rw [if_pos h1] at ho
          exact next _ (by rw [if_pos h1]; exact ho)
        rw [if_neg h1] at ho
        refine Run.ite (fun h2 => ?_) (fun h2 => ?_)
        · rw [if_pos h2] at ho
          exact next _ (by rw [if_neg h1, h2]; exact ho)
        · rw [if_neg h2] at ho
          exact next _ (by rw [if_neg hne]; exact ho)
      · rw [if_pos (Decidable.not_not.mp hne)] at ho
        exact fin K' hK' o (by rw [← ho]; exact Decidable.not_not.mp hne)
    · rw [List.drop_eq_nil_of_le (by omega), scanF] at ho
      refine fin K' hK' o ?_
      rw [← ho]
      split
      · next q => exact q
      · rfl

theorem spec_l09Best_run (n : Int) (l K : List Int) (hg : Good n l) (hK : Tab n K) : Run (fun k => spec_l09Best.f k n l K) (fun r => r.1 = bestM n l ∧ Tab n r.2) := by
  unfold spec_l09Best.f
  have ht := hg.ten
  refine Run.bind (spec_l09Outcome_run n (freeN l + 1) l K hg (by omega) hK) fun r hr => ?_
  obtain ⟨hr1, hr2⟩ := hr
  refine Run.bindE (spec_l09Free_run l (by omega)) ?_
  rw [sel_upF]
  have hb : bestM n l = ((upF (freeE l) 0 l.length).filter fun e => decide (outM n (l.set e (moverN l)) = outM n l)).map Int.ofNat := by rw [upF_filter, ← sel_upF]; rfl
  generalize hF : upF (freeE l) 0 l.length = F at hb
  have hmem : ∀ e ∈ F, e < l.length ∧ freeE l e = true := fun e he => by
    rw [← hF] at he
    have := mem_upF.mp he
    exact ⟨this.1.2, this.2⟩
  have hFl : F.length ≤ l.length := by rw [← hF]; have := upF_length (freeE l) 0 l.length; omega
  refine Run.loop (L := fun q (z : List Int × List Int × Int) => spec_l09Best.l0 q n l r (F.map Int.ofNat) z.1 z.2.1 z.2.2) (fun z => (F.length - z.2.2).toNat) (fun z => 0 ≤ z.2.2 ∧ z.2.2 ≤ F.length ∧ Tab n z.2.1 ∧ z.1 = ((F.take z.2.2.toNat).filter fun e => decide (outM n (l.set e (moverN l)) = outM n l)).map Int.ofNat) ?_ ([], r.2, 0) ⟨by simp only; omega, by simp only; omega, hr2, rfl⟩
  rintro ⟨m, K', j⟩ ⟨h0, h3, hK', hm⟩ ih
  simp only at h0 h3 hK' hm
  obtain ⟨j, rfl⟩ := Int.eq_ofNat_of_zero_le h0
  simp only [Int.toNat_natCast] at ih hm ⊢
  simp only [spec_l09Best.l0, List.length_map]
  refine Run.ite (fun hj => ?_) (fun hj => ?_)
  · obtain ⟨he, hfr⟩ := hmem (F[j]'(by omega)) (List.getElem_mem (by omega))
    have et : F.take (j + 1) = F.take j ++ [F[j]'(by omega)] := (List.take_append_getElem (by omega)).symm
    have ex : (F.map Int.ofNat)[((j : Nat) : Int).toNat]'(by rw [List.length_map]; omega) = ((F[j]'(by omega) : Nat) : Int) := by rw [List.getElem_map]; rfl
    rw [w64_id (x := (j : Int) + 1) (by omega)]
    refine Run.bindE (Run.getI' (by omega) (by rw [List.length_map]; omega)) ?_
    rw [ex]
    refine Run.bindE (spec_l09Move_run l _ (by omega) he) ?_
    obtain ⟨hg2, hf2⟩ := hg.move he hfr
    refine Run.bind (spec_l09Outcome_run n (freeN l + 1) _ K' hg2 (by omega) hK') fun r' hr' => ?_
    obtain ⟨hs1, hs2⟩ := hr'
    refine Run.ite (fun h1 => ?_) (fun h1 => ?_)
    · refine Run.bindE (Run.getI' (by omega) (by rw [List.length_map]; omega)) ?_
      rw [ex]
      refine Run.bindE (Run.push' (by
        rw [hm, List.length_map]
        have := List.length_filter_le (fun e => decide (outM n (l.set e (moverN l)) = outM n l)) (F.take j)
        rw [List.length_take] at this
        omega)) ?_
      refine ih (_, r'.2, (j : Int) + 1) ⟨by simp only; omega, by simp only; omega, hs2, ?_⟩ (by simp only; omega)
      simp only
      rw [show ((j : Int) + 1).toNat = j + 1 by omega, et, List.filter_append, List.map_append, hm]
      have e : decide (outM n (l.set (F[j]'(by omega)) (moverN l)) = outM n l) = true := decide_eq_true (by rw [← hs1, h1, hr1])
      rw [List.filter_cons, if_pos e]
      rfl
    · refine ih (m, r'.2, (j : Int) + 1) ⟨by simp only; omega, by simp only; omega, hs2, ?_⟩ (by simp only; omega)
      simp only
      rw [show ((j : Int) + 1).toNat = j + 1 by omega, et, List.filter_append, List.map_append, hm]
      have e : ¬ decide (outM n (l.set (F[j]'(by omega)) (moverN l)) = outM n l) = true := fun h => h1 (by rw [hs1, of_decide_eq_true h, hr1])
      rw [List.filter_cons, if_neg e, List.filter_nil, List.map_nil, List.append_nil]
  · refine Run.ret ⟨?_, hK'⟩
    show m = _
    rw [hb, hm, show j = F.length by omega, List.take_length]

theorem spec_PlayOut_go (n : Int) : ∀ (f : Nat) (l acc K : List Int), Good n l → freeN l < f → Tab n K → acc.length + freeN l ≤ 20 → Run (fun q => spec_PlayOut.l0 q n acc K l) (· = (acc ++ playF n f l, 0))
  | 0, l, _, _, _, hf, _, _ => by omega
  | f + 1, l, acc, K, hg, hf, hK, ha => by
    refine Run.step ?_
    simp only [spec_PlayOut.l0]
    have ht := hg.ten
    rw [playF]
    refine Run.bindE (spec_l09Result_run n l hg.n5 hg.len hg.nn hg.all) ?_
    refine Run.ite (fun h => ?_) (fun h => ?_)
    · refine Run.bind (spec_l09Best_run n l K hg hK) fun r hr => ?_
      obtain ⟨hr1, hr2⟩ := hr
      obtain ⟨b1, b2, b3, b4⟩ := bestM_head hg (by omega)
      rw [hr1, if_pos h]
      refine Run.bindE (Run.getI' (by omega) (by omega)) ?_
      have eb : (bestM n l)[(0 : Int).toNat]'(by simpa using b3) = (bestE n l : Int) := by
        rw [List.head?_eq_getElem?] at b4
        exact (List.getElem?_eq_some_iff.mp b4).2
      rw [eb]
      refine Run.bindE (Run.push' (by omega)) ?_
      refine Run.bindE (spec_l09Move_run l _ (by omega) b1) ?_
      obtain ⟨hg2, hf2⟩ := hg.move b1 b2
      rw [show acc ++ (bestE n l : Int) :: playF n f (l.set (bestE n l) (moverN l)) = (acc ++ [(bestE n l : Int)]) ++ playF n f (l.set (bestE n l) (moverN l)) by rw [List.append_assoc]; rfl]
      exact spec_PlayOut_go n f _ _ _ hg2 (by omega) hr2 (by rw [List.length_append, List.length_singleton]; omega)
    · rw [if_neg h]
      exact Run.ret (by rw [List.append_nil])
theorem spec_PlayOut_run (n : Int) (l : List Int) (hl : l.length < 4611686018427387904) : Run (fun k => spec_PlayOut.f k n l) (· = (if posCode n l = 0 then (playM n l, 0) else ([], posCode n l))) := by
  unfold spec_PlayOut.f
  refine Run.bindE (spec_l09Code_run n l hl) ?_
  refine Run.ite (fun h => Run.ret (by rw [if_neg h])) (fun h => ?_)
  have hz := Decidable.not_not.mp h
  have hg := good_of hz
  rw [if_pos hz]
  refine Run.bindE (spec_l09Table_run n l hg) ?_
  exact spec_PlayOut_go n (freeN l + 1) l [] _ hg (by omega) (tab_new n) (by have h3 : freeN l ≤ l.length := cnt_le _ _; have := hg.ten; rw [List.length_nil]; omega)

theorem impl_in_run (n low high : Int) : Run (fun _ => impl_in.f n low high) (· = decide (low ≤ n ∧ n ≤ high)) := by
  unfold impl_in.f
  refine Run.ite (fun h => ?_) (fun h => ?_)
  · refine Run.ret (decide_eq_decide.mpr ?_); omega
  · refine Run.ret ((decide_eq_false ?_).symm); omega

theorem impl_size_int64_run (l : List Int) : Run (fun _ => impl_size_int64.f l) (· = (l.length : Int)) := by
  unfold impl_size_int64.f
  exact Run.ret rfl

theorem impl_areIn_1_run (n lo hi : Int) : Run (fun _ => impl_areIn_1.f n lo hi) (· = !decide (lo ≤ n ∧ n ≤ hi)) := by
  unfold impl_areIn_1.f
  refine Run.bindE (impl_in_run _ _ _) ?_
  exact Run.ret rfl
end Go.Proofs.Ytfbdcidedjocdaa.P
