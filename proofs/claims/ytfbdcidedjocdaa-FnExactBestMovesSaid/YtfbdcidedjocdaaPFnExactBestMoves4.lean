/- What the pure functions come to, one by one (part 4). -/
import Derived.Test.YtfbdcidedjocdaaPFnExactBestMoves3
import Derived.Test.YtfbdcidedjocdaaGFnExactBestMoves9
namespace Go.Proofs.Ytfbdcidedjocdaa.P
open Go Go.RowKit Go.Proofs.Ytfbdcidedjocdaa.K Go.Proofs.Ytfbdcidedjocdaa.G
set_option linter.unusedVariables false
set_option linter.unusedSimpArgs false

theorem spec_l09Result_run (n : Int) (l : List Int) (h1 : n.toNat ≤ 5) (h2 : l.length = tri n.toNat) (h3 : ((n.toNat : Nat) : Int) = n) (h4 : allIn l (-1) 1 = true) : Run (fun k => spec_l09Result.f k n l) (· = resM n l) := by
  unfold spec_l09Result.f
  have hN : tri n.toNat ≤ 10 := tri_mono (n := 5) (by omega)
  have hmv := moverN_range l (by omega)
  refine Run.bindE (spec_l09Mover_run l (by omega)) ?_
  rw [w64_id (x := 1 - moverN l) (by omega), resM]
  have hc := spec_l09Common_run n.toNat l (1 - moverN l) h1 h2
  rw [h3] at hc
  refine Run.bindE hc ?_
  refine Run.ite (fun h => ?_) (fun h => ?_)
  · exact Run.ret (by rw [if_pos (by omega)])
  rw [if_neg (by omega)]
  refine Run.bindE (spec_l09Free_run l (by omega)) ?_
  exact Run.ite (fun h => Run.ret (by rw [if_pos (by omega)])) (fun h => Run.ret (by rw [if_neg (by omega)]))

theorem spec_l09Table_run (n : Int) (l : List Int) (hg : Good n l) : Run (fun k => spec_l09Table.f k n) (· = List.replicate (3 ^ tri n.toNat) (-1)) := by
  unfold spec_l09Table.f
  have h5 := hg.n5
  have hn := hg.nn
  obtain ⟨m, rfl⟩ : ∃ m : Nat, n = m := ⟨n.toNat, by omega⟩
  simp only [Int.toNat_natCast] at h5 ⊢
  have hD : w64 (Int.tdiv (w64 ((m : Int) * (w64 ((m : Int) - 1)))) 2) = (tri m : Int) := by
    have : m = 0 ∨ m = 1 ∨ m = 2 ∨ m = 3 ∨ m = 4 ∨ m = 5 := by omega
    rcases this with rfl | rfl | rfl | rfl | rfl | rfl <;> decide
  have hN : tri m ≤ 10 := tri_mono (n := 5) h5
  have hp := pow10 hN
  refine Run.loop (L := fun q (z : Int × Int) => spec_l09Table.l0 q (m : Int) z.1 z.2) (fun z => (tri m - z.2).toNat) (fun z => 0 ≤ z.2 ∧ z.2 ≤ tri m ∧ z.1 = ((3 ^ z.2.toNat : Nat) : Int)) ?_ (1, 0) ⟨by simp only; omega, by simp only; omega, rfl⟩
  rintro ⟨s, j⟩ ⟨h0, h3, hs⟩ ih
  simp only at h0 h3 hs
  obtain ⟨j, rfl⟩ := Int.eq_ofNat_of_zero_le h0
  simp only [Int.toNat_natCast] at ih hs ⊢
  simp only [spec_l09Table.l0, hD]
  have hj := pow10 (d := j) (by omega)
  have hsb : 0 ≤ s ∧ s ≤ 59049 := by rw [hs]; generalize 3 ^ j = A at hj; omega
  refine Run.ite (fun h => ?_) (fun h => ?_)
  · rw [w64_id (x := (j : Int) + 1) (by omega), w64_id (x := s * 3) (by omega)]
    refine ih (s * 3, (j : Int) + 1) ⟨by simp only; omega, by simp only; omega, ?_⟩ (by simp only; omega)
    simp only
    rw [show ((j : Int) + 1).toNat = j + 1 by omega, Nat.pow_succ, hs]
    generalize 3 ^ j = A
    omega
  · have ej : j = tri m := by omega
    subst ej
    refine Run.bind (Q := fun _ => True) (Run.guard (by omega) trivial) fun _ _ => ?_
    have es : s.toNat = 3 ^ tri m := by rw [hs, Int.toNat_natCast]
    refine Run.loop (L := fun q (z : List Int × Int) => spec_l09Table.l1 q s z.1 z.2) (fun z => (s - z.2).toNat) (fun z => 0 ≤ z.2 ∧ z.2 ≤ s ∧ z.1 = List.replicate z.2.toNat (-1) ++ List.replicate (s.toNat - z.2.toNat) 0) ?_ (List.replicate s.toNat 0, 0) ⟨by simp only; omega, by simp only; omega, rfl⟩
    rintro ⟨L, i⟩ ⟨i0, i1, hL⟩ ih2
    simp only at i0 i1 hL
    obtain ⟨i, rfl⟩ := Int.eq_ofNat_of_zero_le i0
    simp only [Int.toNat_natCast] at ih2 hL ⊢
    simp only [spec_l09Table.l1, List.length_replicate]
    refine Run.ite (fun h => ?_) (fun h => ?_)
    · rw [w64_id (x := (i : Int) + 1) (by omega)]
      refine Run.bindE (Run.getI' (by omega) (by rw [hL]; simp; omega)) ?_
      refine ih2 (L.set ((i : Int)).toNat (-1), (i : Int) + 1) ⟨by simp only; omega, by simp only; omega, ?_⟩ (by simp only; omega)
      simp only
      rw [hL, show ((i : Int) + 1).toNat = i + 1 by omega, show ((i : Int)).toNat = i by omega]
      rw [show s.toNat - i = (s.toNat - (i + 1)) + 1 by omega, List.replicate_succ, List.set_append_right _ _ (by rw [List.length_replicate]; exact Nat.le_refl _), List.length_replicate, Nat.sub_self, List.set_cons_zero, List.replicate_succ', List.append_assoc]
      rfl
    · refine Run.ret ?_
      rw [hL, show i = s.toNat by omega, Nat.sub_self, es, List.replicate_zero, List.append_nil]

theorem spec_l09Number_run (n : Int) (l : List Int) (hg : Good n l) : Run (fun k => spec_l09Number.f k l) (· = (numN l : Int)) := by
  unfold spec_l09Number.f
  have ht := hg.ten
  refine Run.loop (L := fun q (z : Int × Int) => spec_l09Number.l0 q l z.1 z.2) (fun z => (l.length - z.2).toNat) (fun z => 0 ≤ z.2 ∧ z.2 ≤ l.length ∧ z.1 = (numN (l.take z.2.toNat) : Int)) ?_ (0, 0) ⟨by simp only; omega, by simp only; omega, rfl⟩
  rintro ⟨s, j⟩ ⟨h0, h3, hs⟩ ih
  simp only at h0 h3 hs
  obtain ⟨j, rfl⟩ := Int.eq_ofNat_of_zero_le h0
  simp only [Int.toNat_natCast] at ih hs ⊢
  simp only [spec_l09Number.l0]
  have hal : ∀ d, allIn (l.take d) (-1) 1 = true := fun d => by
    unfold allIn
    rw [List.all_eq_true]
    intro v hv
    have := allIn_mem hg.all v (List.mem_of_mem_take hv)
    exact decide_eq_true this
  have hlt := numN_lt j (l.take j) (by rw [List.length_take]; omega) (hal j)
  have hj := pow10 (d := j) (by omega)
  refine Run.ite (fun h => ?_) (fun h => ?_)
  · have hv := allIn_mem hg.all (l[j]'(by omega)) (List.getElem_mem (by omega))
    have et : l.take (j + 1) = l.take j ++ [l[j]'(by omega)] := (List.take_append_getElem (by omega)).symm
    rw [w64_id (x := (j : Int) + 1) (by omega)]
    refine Run.bindE (Run.getI' (by omega) h) ?_
    simp only [Int.toNat_natCast]
    rw [w64_id (x := s * 3) (by omega), w64_id (x := s * 3 + l[j]'(by omega)) (by omega), w64_id (x := s * 3 + l[j]'(by omega) + 1) (by omega)]
    refine ih (_, (j : Int) + 1) ⟨by simp only; omega, by simp only; omega, ?_⟩ (by simp only; omega)
    simp only
    rw [show ((j : Int) + 1).toNat = j + 1 by omega, et, numN_snoc]
    omega
  · refine Run.ret ?_
    rw [hs, show j = l.length by omega, List.take_length]

theorem spec_l01Own_run (l : List Int) (hl : l.length < 1099511627776) : Run (fun _ => spec_l01Own.f l) (· = l) := by
  unfold spec_l01Own.f
  refine Run.bindE (Run.concat' (by simp; omega)) ?_
  exact Run.ret (List.nil_append l)

theorem spec_l09Move_run (l : List Int) (e : Nat) (hl : l.length < 1000) (he : e < l.length) : Run (fun k => spec_l09Move.f k l e) (· = l.set e (moverN l)) := by
  unfold spec_l09Move.f
  refine Run.bindE (spec_l01Own_run l (by omega)) ?_
  refine Run.bindE (spec_l09Mover_run l hl) ?_
  refine Run.bindE (Run.getI' (by omega) (by omega)) ?_
  exact Run.ret rfl

theorem spec_l09Outcome_run (n : Int) : ∀ (f : Nat) (l K : List Int), Good n l → freeN l < f → Tab n K → Run (fun k => spec_l09Outcome.f k n l K) (fun r => r.1 = outM n l ∧ Tab n r.2)
  | 0, l, K, _, hf, _ => by omega
  | f + 1, l, K, hg, hf, hK => by
    refine Run.step ?_
    simp only [spec_l09Outcome.f]
    have ht := hg.ten
    have hnum := hg.num
    have hlo := hg.lo
    have hhi := hg.hi
    have hin : ∀ K', Tab n K' → (numN l : Int) < K'.length := fun K' h => by rw [h.len]; omega
    refine Run.bindE (spec_l09Number_run n l hg) ?_
    refine Run.bindE (Run.getI' (by omega) (hin K hK)) ?_
    have eg : K.getD (numN l) 0 = K[((numN l : Nat) : Int).toNat]'(by have := hin K hK; omega) := getD_at (by have := hin K hK; omega)
    rw [← eg]
    refine Run.ite (fun h => ?_) (fun _ => ?_)
    · refine Run.bindE (Run.getI' (by omega) (hin K hK)) ?_
      rw [← eg]
      exact Run.ret ⟨hK.val l hg h, hK⟩
    refine Run.bindE (spec_l09Result_run n l hg.n5 hg.len hg.nn hg.all) ?_
    refine Run.ite (fun h => ?_) (fun h => ?_)
    rotate_left
    · refine Run.bindE (Run.getI' (by omega) (hin K hK)) ?_
      refine Run.ret ⟨(outM_over (by omega)).symm, ?_⟩
      rw [← outM_over (n := n) (l := l) (by omega), Int.toNat_natCast]
      exact hK.put hg
    refine Run.bindE (spec_l09Mover_run l (by omega)) ?_
    refine Run.bindE (spec_l09Free_run l (by omega)) ?_
    have hout := outM_eq hg (by omega)
    rw [w64_id (x := 1 - moverN l) (by omega), sel_upF]
    generalize hF : upF (freeE l) 0 l.length = F at hout
    have hmem : ∀ e ∈ F, e < l.length ∧ freeE l e = true := fun e he => by
      rw [← hF] at he
      have := mem_upF.mp he
      exact ⟨this.1.2, this.2⟩
    have hFl : F.length ≤ l.length := by rw [← hF]; have := upF_length (freeE l) 0 l.length; omega
    have fin : ∀ K', Tab n K' → ∀ o, o = outM n l → Run (fun _ => (getI K' (numN l : Int)).bind fun _ => some (o, K'.set ((numN l : Nat) : Int).toNat o)) (fun r => r.1 = outM n l ∧ Tab n r.2) := fun K' hK' o ho => by
      refine Run.bindE (Run.getI' (by omega) (hin K' hK')) ?_
      refine Run.ret ⟨ho, ?_⟩
      rw [ho, Int.toNat_natCast]
      exact hK'.put hg
    refine Run.loop (L := fun q (z : List Int × Int × Int) => spec_l09Outcome.l0 q n l (numN l : Int) (moverN l) (F.map Int.ofNat) z.1 z.2.1 z.2.2) (fun z => (F.length - z.2.2).toNat) (fun z => 0 ≤ z.2.2 ∧ z.2.2 ≤ F.length ∧ Tab n z.1 ∧ (if z.2.1 = moverN l then moverN l else scanF (fun e => outM n (l.set e (moverN l))) (moverN l) (F.drop z.2.2.toNat) z.2.1) = outM n l) ?_ (K, 1 - moverN l, 0) ⟨by simp only; omega, by simp only; omega, hK, by simp only; rw [if_neg (by omega)]; exact hout.symm⟩
    rintro ⟨K', o, j⟩ ⟨h0, h3, hK', ho⟩ ih
    simp only at h0 h3 hK' ho
    obtain ⟨j, rfl⟩ := Int.eq_ofNat_of_zero_le h0
    simp only [Int.toNat_natCast] at ih ho ⊢
    simp only [spec_l09Outcome.l0, List.length_map]
    refine Run.ite (fun hj => ?_) (fun hj => ?_)
    · refine Run.ite (fun hne => ?_) (fun hne => ?_)
      · rw [if_neg hne, show F.drop j = F[j]'(by omega) :: F.drop (j + 1) from List.drop_eq_getElem_cons (by omega), scanF] at ho
        obtain ⟨he, hfr⟩ := hmem (F[j]'(by omega)) (List.getElem_mem (by omega))
        refine Run.bindE (Run.getI' (by omega) (by rw [List.length_map]; omega)) ?_
        have ex : (F.map Int.ofNat)[((j : Nat) : Int).toNat]'(by rw [List.length_map]; omega) = ((F[j]'(by omega) : Nat) : Int) := by rw [List.getElem_map]; rfl
        rw [ex]
        refine Run.bindE (spec_l09Move_run l _ (by omega) he) ?_
        obtain ⟨hg2, hf2⟩ := hg.move he hfr
        rw [w64_id (x := (j : Int) + 1) (by omega)]
        refine Run.bind (spec_l09Outcome_run n f _ K' hg2 (by omega) hK') fun r hr => ?_
        obtain ⟨hr1, hr2⟩ := hr
        have next : ∀ o', (if o' = moverN l then moverN l else scanF (fun e => outM n (l.set e (moverN l))) (moverN l) (F.drop (j + 1)) o') = outM n l → Run (fun q => spec_l09Outcome.l0 q n l (numN l : Int) (moverN l) (F.map Int.ofNat) r.2 o' ((j : Int) + 1)) (fun r => r.1 = outM n l ∧ Tab n r.2) := fun o' ho' => by
          refine ih (r.2, o', (j : Int) + 1) ⟨by simp only; omega, by simp only; omega, hr2, ?_⟩ (by simp only; omega)
          simp only
          rw [show ((j : Int) + 1).toNat = j + 1 by omega]
          exact ho'
        try simp only at ho
        rw [← hr1] at ho
        refine Run.ite (fun h1 => ?_) (fun h1 => ?_)
        · rw [if_pos h1] at ho
          exact next _ (by rw [if_pos h1]; exact ho)
        rw [if_neg h1] at ho
        refine Run.ite (fun h2 => ?_) (fun h2 => ?_)
        · rw [if_pos h2] at ho
          exact next _ (by rw [if_neg h1, h2]; exact ho)
        · rw [if_neg h2] at ho
          exact next _ (by rw [if_neg hne]; exact ho)
      · rw [if_pos (Decidable.not_not.mp hne)] at ho
        exact fin K' hK' o (by rw [← ho]; exact Decidable.not_not.mp hne)
    · rw [List.drop_eq_nil_of_le (by omega), scanF] at ho
      refine fin K' hK' o ?_
      rw [← ho]
      split
      · next q => exact q
      · rfl
end Go.Proofs.Ytfbdcidedjocdaa.P
