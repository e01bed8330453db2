/- What the pure functions come to, one by one (part 8). -/
import Derived.Test.YtfbdcidedjocdaaPFnExactPlayOut7
import Derived.Test.YtfbdcidedjocdaaGFnExactPlayOut10
namespace Go.Proofs.Ytfbdcidedjocdaa.P
open Go Go.RowKit Go.Proofs.Ytfbdcidedjocdaa.K Go.Proofs.Ytfbdcidedjocdaa.G
set_option linter.unusedVariables false
set_option linter.unusedSimpArgs false

theorem impl_position_result_run (n : Int) (l : List Int) (h1 : n.toNat ≤ 5) (h2 : l.length = tri n.toNat) (h3 : ((n.toNat : Nat) : Int) = n) (h4 : allIn l (-1) 1 = true) : Run (fun k => impl_position_result.f k n l) (· = resM n l) := by
  unfold impl_position_result.f
  have hN : tri n.toNat ≤ 10 := tri_mono (n := 5) (by omega)
  have hmv := moverN_range l (by omega)
  refine Run.bindE (impl_position_mover_run n l (by omega)) ?_
  rw [w64_id (x := 1 - moverN l) (by omega), resM]
  have hc := impl_position_triangles_run n.toNat l (1 - moverN l) h1 h2
  rw [h3] at hc
  refine Run.bindE hc ?_
  refine Run.ite (fun h => ?_) (fun h => ?_)
  · refine Run.bindE (impl_position_mover_run n l (by omega)) ?_
    exact Run.ret (by rw [if_pos (by omega)])
  rw [if_neg (by omega)]
  refine Run.bindE (impl_position_many_run n l (-1) (by omega)) ?_
  have hf : (sel (freeE l) l.length).length = manyN l (-1) := free_many h4
  exact Run.ite (fun h => Run.ret (by rw [if_pos (by omega)])) (fun h => Run.ret (by rw [if_neg (by omega)]))

theorem impl_position_key_run (n : Int) (l : List Int) (hg : Good n l) (p : Int) : Run (fun k => impl_position_key.f k p l) (· = keyB l) := by
  unfold impl_position_key.f
  have ht := hg.ten
  refine Run.loop (L := fun q (z : List Int × Int) => impl_position_key.l0 q l z.1 z.2) (fun z => (l.length - z.2).toNat) (fun z => 0 ≤ z.2 ∧ z.2 ≤ l.length ∧ z.1 = keyL (l.take z.2.toNat)) ?_ ([], 0) ⟨by simp only; omega, by simp only; omega, rfl⟩
  rintro ⟨s, j⟩ ⟨h0, h3, hs⟩ ih
  simp only at h0 h3 hs
  obtain ⟨j, rfl⟩ := Int.eq_ofNat_of_zero_le h0
  simp only [Int.toNat_natCast] at ih hs ⊢
  simp only [impl_position_key.l0]
  refine Run.ite (fun h => ?_) (fun h => ?_)
  · have hv := allIn_mem hg.all (l[j]'(by omega)) (List.getElem_mem (by omega))
    have et : l.take (j + 1) = l.take j ++ [l[j]'(by omega)] := (List.take_append_getElem (by omega)).symm
    rw [w64_id (x := (j : Int) + 1) (by omega)]
    refine Run.bindE (Run.getI' (by omega) h) ?_
    simp only [Int.toNat_natCast]
    rw [w64_id (x := l[j]'(by omega) + 1) (by omega)]
    refine Run.bindE (Run.getI' (by omega) (by show _ < (3 : Int); omega)) ?_
    refine Run.bindE (Run.push' (by rw [hs, keyL, List.length_map, List.length_take]; omega)) ?_
    refine ih (_, (j : Int) + 1) ⟨by simp only; omega, by simp only; omega, ?_⟩ (by simp only; omega)
    simp only
    rw [show ((j : Int) + 1).toNat = j + 1 by omega, et, hs, keyL, keyL, List.map_append, List.map_singleton]
    congr 2
    exact (getD_at (by show _ < 3; omega)).symm
  · refine Run.ret ?_
    rw [hs, show j = l.length by omega, List.take_length]; rfl

theorem slices_Clone_int64_int64_run (l : List Int) (hl : l.length < 1099511627776) : Run (fun _ => slices_Clone_int64_int64.f l) (· = l) := by
  unfold slices_Clone_int64_int64.f
  refine Run.bindE (Run.concat' (by simp; omega)) ?_
  exact Run.ret (List.nil_append l)

theorem impl_position_moved_run (p : Int) (l : List Int) (e : Nat) (hl : l.length < 1000) (he : e < l.length) : Run (fun k => impl_position_moved.f k p l e) (· = (p, l.set e (moverN l))) := by
  unfold impl_position_moved.f
  refine Run.bindE (slices_Clone_int64_int64_run l (by omega)) ?_
  refine Run.bindE (impl_position_mover_run p l hl) ?_
  refine Run.bindE (Run.getI' (by omega) (by omega)) ?_
  exact Run.ret rfl

theorem impl_player_outcome_run (n : Int) : ∀ (f : Nat) (l : List Int) (M : List (ByteArray × Int)), Good n l → freeN l < f → Mem n M → Run (fun k => impl_player_outcome.f k M n l) (fun r => r.1 = outM n l ∧ Mem n r.2)
  | 0, l, M, _, hf, _ => by omega
  | f + 1, l, M, hg, hf, hM => by
    refine Run.step ?_
    simp only [impl_player_outcome.f]
    have ht := hg.ten
    have hlo := hg.lo
    have hhi := hg.hi
    refine Run.bindE (impl_position_result_run n l hg.n5 hg.len hg.nn hg.all) ?_
    refine Run.ite (fun h => Run.ret ⟨(outM_over h).symm, hM⟩) (fun h => ?_)
    refine Run.bindE (impl_position_key_run n l hg n) ?_
    refine Run.ite (fun hk => ?_) (fun _ => ?_)
    · refine Run.ret ⟨?_, hM⟩
      obtain ⟨v, hv⟩ := Option.isSome_iff_exists.mp hk
      rw [hv]
      exact hM l hg v hv
    refine Run.bindE (impl_position_mover_run n l (by omega)) ?_
    have hout := outM_eq hg h
    rw [w64_id (x := 1 - moverN l) (by omega)]
    refine Run.loop (L := fun q (z : List (ByteArray × Int) × Int × Int) => impl_player_outcome.l0 q n l (keyB l) z.1 z.2.1 z.2.2) (fun z => (l.length - z.2.2).toNat) (fun z => 0 ≤ z.2.2 ∧ z.2.2 ≤ l.length ∧ Mem n z.1 ∧ scanF (fun e => outM n (l.set e (moverN l))) (moverN l) (upF (freeE l) z.2.2.toNat l.length) z.2.1 = outM n l) ?_ (M, 1 - moverN l, 0) ⟨by simp only; omega, by simp only; omega, hM, hout.symm⟩
    rintro ⟨M', o, j⟩ ⟨h0, h3, hM', ho⟩ ih
    simp only at h0 h3 hM' ho
    obtain ⟨j, rfl⟩ := Int.eq_ofNat_of_zero_le h0
    simp only [Int.toNat_natCast] at ih ho ⊢
    simp only [impl_player_outcome.l0]
    refine Run.ite (fun hj => ?_) (fun hj => ?_)
    · have next : ∀ M'' o', Mem n M'' → scanF (fun e => outM n (l.set e (moverN l))) (moverN l) (upF (freeE l) (j + 1) l.length) o' = outM n l → Run (fun q => impl_player_outcome.l0 q n l (keyB l) M'' o' ((j : Int) + 1)) (fun r => r.1 = outM n l ∧ Mem n r.2) := fun M'' o' hM'' ho' => by
        refine ih (M'', o', (j : Int) + 1) ⟨by simp only; omega, by simp only; omega, hM'', ?_⟩ (by simp only; omega)
        simp only
        rw [show ((j : Int) + 1).toNat = j + 1 by omega]
        exact ho'
      rw [w64_id (x := (j : Int) + 1) (by omega)]
      have eg : l.getD j 0 = l[((j : Int)).toNat]'(by omega) := getD_at (by omega)
      refine Run.bindE (Run.getI' (by omega) hj) ?_
      rw [← eg]
      refine Run.ite (fun hq => ?_) (fun hq => ?_)
      · rw [upF_no (p := j) (by omega) (by unfold freeE; rw [decide_eq_true_eq]; omega)] at ho
        exact next _ _ hM' ho
      have hfr : freeE l j = true := decide_eq_true (by omega)
      rw [upF_yes (p := j) (by omega) hfr, scanF] at ho
      refine Run.bindE (impl_position_moved_run n l j (by omega) (by omega)) ?_
      obtain ⟨hg2, hf2⟩ := hg.move (e := j) (by omega) hfr
      refine Run.bind (impl_player_outcome_run n f (l.set j (moverN l)) M' hg2 (by omega) hM') fun r hr => ?_
      obtain ⟨hr1, hr2⟩ := hr
      refine Run.bindE (impl_position_mover_run n l (by omega)) ?_
      try simp only at ho
      rw [← hr1] at ho
      refine Run.ite (fun h1 => ?_) (fun h1 => ?_)
      · rw [if_pos h1] at ho
        have e : r.1 = outM n l := h1.trans ho
        refine Run.ret ⟨e, ?_⟩
        rw [e]
        exact hr2.put hg
      rw [if_neg h1] at ho
      refine Run.ite (fun h2 => ?_) (fun h2 => ?_)
      · rw [if_pos h2] at ho
        exact next _ _ hr2 ho
      · rw [if_neg h2] at ho
        exact next _ _ hr2 ho
    · rw [upF_end _ (p := j) (by omega), scanF] at ho
      refine Run.ret ⟨ho, ?_⟩
      rw [ho]
      exact hM'.put hg

theorem impl_player_best_1_run (n : Int) (l : List Int) (hg : Good n l) (M : List (ByteArray × Int)) (hM : Mem n M) (e : Nat) (he : e < l.length) (hf : freeE l e = true) (o : Int) : Run (fun k => impl_player_best_1.f k e M n l o) (fun r => r.1 = decide (outM n (l.set e (moverN l)) = o) ∧ Mem n r.2) := by
  unfold impl_player_best_1.f
  have ht := hg.ten
  refine Run.bindE (impl_position_moved_run n l e (by omega) he) ?_
  obtain ⟨hg2, hf2⟩ := hg.move he hf
  refine Run.bind (impl_player_outcome_run n (freeN l + 1) (l.set e (moverN l)) M hg2 (by omega) hM) fun r hr => ?_
  exact Run.ret ⟨by rw [hr.1], hr.2⟩

theorem impl_position_movesThat__player_best_1_run (n : Int) (l : List Int) (hg : Good n l) (M : List (ByteArray × Int)) (hM : Mem n M) : Run (fun k => impl_position_movesThat__player_best_1.f k n l M n l (outM n l)) (fun r => r.1 = (if resM n l ≥ 0 then [] else bestM n l) ∧ Mem n r.2) := by
  unfold impl_position_movesThat__player_best_1.f
  have ht := hg.ten
  refine Run.bindE (impl_position_result_run n l hg.n5 hg.len hg.nn hg.all) ?_
  refine Run.ite (fun h => Run.ret ⟨by rw [if_pos h], hM⟩) (fun h => ?_)
  rw [if_neg h, bestM]
  refine Run.loop (L := fun q (z : List Int × List (ByteArray × Int) × Int) => impl_position_movesThat__player_best_1.l0 q l n l (outM n l) z.1 z.2.1 z.2.2) (fun z => (l.length - z.2.2).toNat) (fun z => 0 ≤ z.2.2 ∧ z.2.2 ≤ l.length ∧ Mem n z.2.1 ∧ z.1 = sel (bestB n l) z.2.2.toNat) ?_ ([], M, 0) ⟨by simp only; omega, by simp only; omega, hM, rfl⟩
  rintro ⟨m, M', j⟩ ⟨h0, h3', hM', hm⟩ ih
  simp only at h0 h3' hM' hm
  subst hm
  simp only [impl_position_movesThat__player_best_1.l0]
  obtain ⟨j, rfl⟩ := Int.eq_ofNat_of_zero_le h0
  simp only [Int.toNat_natCast] at ih ⊢
  refine Run.ite (fun h => ?_) (fun h => ?_)
  · rw [w64_id (x := (j : Int) + 1) (by omega)]
    have eg : l.getD j 0 = l[((j : Int)).toNat]'(by omega) := getD_at (by omega)
    have no : ∀ M'', Mem n M'' → ¬ (bestB n l j) = true → Run (fun q => impl_position_movesThat__player_best_1.l0 q l n l (outM n l) (sel (bestB n l) j) M'' ((j : Int) + 1)) (fun r => r.1 = sel (bestB n l) l.length ∧ Mem n r.2) := fun M'' hM'' hq => by
      refine ih (sel (bestB n l) j, M'', (j : Int) + 1) ⟨by simp only; omega, by simp only; omega, hM'', ?_⟩ (by simp only; omega)
      simp only
      rw [show ((j : Int) + 1).toNat = j + 1 by omega, sel_no (f := bestB n l) hq]
    refine Run.bindE (Run.getI' (by omega) h) ?_
    rw [← eg]
    refine Run.ite (fun hf => ?_) (fun hf => ?_)
    · have hf' : freeE l j = true := decide_eq_true hf
      refine Run.bind (impl_player_best_1_run n l hg M' hM' j (by omega) hf' _) fun r hr => ?_
      obtain ⟨hr1, hr2⟩ := hr
      have eb : bestB n l j = r.1 := by rw [hr1]; unfold bestB; rw [hf', Bool.true_and]
      refine Run.ite (fun hs => ?_) (fun hs => ?_)
      · have hlen := sel_length (bestB n l) j
        refine Run.bindE (Run.push' (by omega)) ?_
        refine ih (_, r.2, (j : Int) + 1) ⟨by simp only; omega, by simp only; omega, hr2, ?_⟩ (by simp only; omega)
        simp only
        rw [show ((j : Int) + 1).toNat = j + 1 by omega, sel_yes (f := bestB n l) (by rw [eb]; exact hs)]
      · exact no _ hr2 (by rw [eb]; exact hs)
    · exact no _ hM' (by unfold bestB; rw [show freeE l j = false from decide_eq_false hf, Bool.false_and]; decide)
  · refine Run.ret ⟨?_, hM'⟩
    show sel _ j = _
    rw [show j = l.length by omega]

theorem impl_player_best_run (n : Int) (l : List Int) (hg : Good n l) (M : List (ByteArray × Int)) (hM : Mem n M) : Run (fun k => impl_player_best.f k M n l) (fun r => r.1 = (if resM n l ≥ 0 then [] else bestM n l) ∧ Mem n r.2) := by
  unfold impl_player_best.f
  refine Run.bind (impl_player_outcome_run n (freeN l + 1) l M hg (by omega) hM) fun r hr => ?_
  obtain ⟨hr1, hr2⟩ := hr
  rw [hr1]
  refine Run.bind (impl_position_movesThat__player_best_1_run n l hg r.2 hr2) fun r' hr' => ?_
  exact Run.ret hr'
end Go.Proofs.Ytfbdcidedjocdaa.P
