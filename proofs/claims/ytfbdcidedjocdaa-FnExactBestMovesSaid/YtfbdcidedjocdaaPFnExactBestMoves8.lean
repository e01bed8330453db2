/- What the pure functions come to, one by one (part 8). -/
import Derived.Test.YtfbdcidedjocdaaPFnExactBestMoves7
import Derived.Test.YtfbdcidedjocdaaGFnExactBestMoves9
namespace Go.Proofs.Ytfbdcidedjocdaa.P
open Go Go.RowKit Go.Proofs.Ytfbdcidedjocdaa.K Go.Proofs.Ytfbdcidedjocdaa.G
set_option linter.unusedVariables false
set_option linter.unusedSimpArgs false

theorem impl_position_movesThat__player_best_1_run (n : Int) (l : List Int) (hg : Good n l) (M : List (ByteArray × Int)) (hM : Mem n M) : Run (fun k => impl_position_movesThat__player_best_1.f k n l M n l (outM n l)) (fun r => r.1 = (if resM n l ≥ 0 then [] else bestM n l) ∧ Mem n r.2) := by
  unfold impl_position_movesThat__player_best_1.f
  have ht := hg.ten
  refine Run.bindE (impl_position_result_run n l hg.n5 hg.len hg.nn hg.all) ?_
  refine Run.ite (fun h => Run.ret ⟨by rw [if_pos h], hM⟩) (fun h => ?_)
  rw [if_neg h, bestM]
  refine Run.loop (L := fun q (z : List Int × List (ByteArray × Int) × Int) => impl_position_movesThat__player_best_1.l0 q l n l (outM n l) z.1 z.2.1 z.2.2) (fun z => (l.length - z.2.2).toNat) (fun z => 0 ≤ z.2.2 ∧ z.2.2 ≤ l.length ∧ Mem n z.2.1 ∧ z.1 = sel (bestB n l) z.2.2.toNat) ?_ ([], M, 0) ⟨by simp only; omega, by simp only; omega, hM, rfl⟩
  rintro ⟨m, M', j⟩ ⟨h0, h3', hM', hm⟩ ih
  simp only at h0 h3' hM' hm
  subst hm
  simp only [impl_position_movesThat__player_best_1.l0]
  obtain ⟨j, rfl⟩ := Int.eq_ofNat_of_zero_le h0
  simp only [Int.toNat_natCast] at ih ⊢
  refine Run.ite (fun h => ?_) (fun h => ?_)
  · rw [w64_id (x := (j : Int) + 1) (by omega)]
    have eg : l.getD j 0 = l[((j : Int)).toNat]'(by omega) := getD_at (by omega)
    have no : ∀ M'', Mem n M'' → ¬ (bestB n l j) = true → Run (fun q => impl_position_movesThat__player_best_1.l0 q l n l (outM n l) (sel (bestB n l) j) M'' ((j : Int) + 1)) (fun r => r.1 = sel (bestB n l) l.length ∧ Mem n r.2) := fun M'' hM'' hq => by
      refine ih (sel (bestB n l) j, M'', (j : Int) + 1) ⟨by simp only; omega, by simp only; omega, hM'', ?_⟩ (by simp only; omega)
      simp only
      rw [show ((j : Int) + 1).toNat = j + 1 by omega, sel_no (f := bestB n l) hq]
    refine Run.bindE (Run.getI' (by omega) h) ?_
    rw [← eg]
    refine Run.ite (fun hf => ?_) (fun hf => ?_)
    · have hf' : freeE l j = true := decide_eq_true hf
      refine Run.bind (impl_player_best_1_run n l hg M' hM' j (by omega) hf' _) fun r hr => ?_
      obtain ⟨hr1, hr2⟩ := hr
      have eb : bestB n l j = r.1 := by rw [hr1]; unfold bestB; rw [hf', Bool.true_and]
      refine Run.ite (fun hs => ?_) (fun hs => ?_)
      · have hlen := sel_length (bestB n l) j
        refine Run.bindE (Run.push' (by omega)) ?_
        refine ih (_, r.2, (j : Int) + 1) ⟨by simp only; omega, by simp only; omega, hr2, ?_⟩ (by simp only; omega)
        simp only
        rw [show ((j : Int) + 1).toNat = j + 1 by omega, sel_yes (f := bestB n l) (by rw [eb]; exact hs)]
      · exact no _ hr2 (by rw [eb]; exact hs)
    · exact no _ hM' (by unfold bestB; rw [show freeE l j = false from decide_eq_false hf, Bool.false_and]; decide)
  · refine Run.ret ⟨?_, hM'⟩
    show sel _ j = _
    rw [show j = l.length by omega]

theorem impl_player_best_run (n : Int) (l : List Int) (hg : Good n l) (M : List (ByteArray × Int)) (hM : Mem n M) : Run (fun k => impl_player_best.f k M n l) (fun r => r.1 = (if resM n l ≥ 0 then [] else bestM n l) ∧ Mem n r.2) := by
  unfold impl_player_best.f
  refine Run.bind (impl_player_outcome_run n (freeN l + 1) l M hg (by omega) hM) fun r hr => ?_
  obtain ⟨hr1, hr2⟩ := hr
  rw [hr1]
  refine Run.bind (impl_position_movesThat__player_best_1_run n l hg r.2 hr2) fun r' hr' => ?_
  exact Run.ret hr'

theorem impl_BestMoves_run (n : Int) (l : List Int) (hl : l.length < 4611686018427387904) : Run (fun k => impl_BestMoves.f k n l) (· = (if posCode n l = 0 then (if resM n l ≥ 0 then ([], 5) else (bestM n l, 0)) else ([], posCode n l))) := by
  unfold impl_BestMoves.f
  refine Run.bindE (impl_position_code__always_run n l hl) ?_
  refine Run.ite (fun hz => ?_) (fun h => Run.ret (by rw [if_neg h]))
  have hg := good_of hz
  rw [if_pos hz]
  refine Run.bindE (impl_position_result_run n l hg.n5 hg.len hg.nn hg.all) ?_
  refine Run.ite (fun h => Run.ret (by rw [if_pos h])) (fun h => ?_)
  refine Run.bind (impl_player_best_run n l hg _ (mem_nil n)) fun r hr => ?_
  exact Run.ret (by rw [hr.1, if_neg h, if_neg h])

theorem laws_eqInt64S_run (a b : List Int) (ha : a.length < 4611686018427387904) : Run (fun k => laws_eqInt64S.f k a b) (· = decide (a = b)) := by
  unfold laws_eqInt64S.f
  refine Run.ite (fun h => ?_) (fun h => ?_)
  · exact Run.ret (decide_eq_false fun e => h (by rw [e])).symm
  have hl : a.length = b.length := by omega
  refine Run.loop (L := fun q (i : Int) => laws_eqInt64S.l0 q a b i) (fun i => (a.length - i).toNat) (fun i => 0 ≤ i ∧ i ≤ a.length ∧ ∀ (j : Nat) (h : j < a.length), (j : Int) < i → a[j] = b[j]'(by omega)) ?_ 0 ⟨by omega, by omega, fun j _ hj => by omega⟩
  rintro i ⟨h0, h3, hJ⟩ ih
  simp only [laws_eqInt64S.l0]
  refine Run.ite (fun h => ?_) (fun h => ?_)
  · refine Run.bindE (Run.getI' h0 h) ?_
    refine Run.bindE (Run.getI' h0 (by omega)) ?_
    refine Run.ite (fun h5 => ?_) (fun h5 => ?_)
    · exact Run.ret (decide_eq_false fun e => h5 (by simp only [e])).symm
    · rw [w64_id (by omega)]
      refine ih (i + 1) ⟨by omega, by omega, fun j hj hji => ?_⟩ (by omega)
      by_cases ej : (j : Int) < i
      · exact hJ j hj ej
      · obtain rfl : j = i.toNat := by omega
        exact Decidable.not_not.mp h5
  · exact Run.ret (decide_eq_true (List.ext_getElem hl fun j h1 h2 => hJ j h1 (by omega))).symm

theorem laws_markInt64S_run (a : List Int) (k0 : Int) (hk : 0 ≤ k0 ∧ k0 < 1000000000) (ha : a.length < 4611686018427387904) : Run (fun k => laws_markInt64S.f k a k0) (· = (k0 + a.length, seqI k0 a.length)) := by
  unfold laws_markInt64S.f
  refine Run.loop (L := fun q (s : List Int × Int × Int) => laws_markInt64S.l0 q s.1 s.2.1 s.2.2) (fun s => (a.length - s.2.2).toNat) (fun s => 0 ≤ s.2.2 ∧ s.2.2 ≤ a.length ∧ s.2.1 = k0 + s.2.2 ∧ s.1 = seqI k0 s.2.2.toNat ++ a.drop s.2.2.toNat) ?_ (a, k0, 0) ⟨by simp only; omega, by simp only; omega, by simp, by simp [seqI]⟩
  rintro ⟨l, v, i⟩ ⟨h0, h3, hv, hl⟩ ih
  simp only at h0 h3 hv hl
  simp only [laws_markInt64S.l0]
  have hlen : l.length = a.length := by rw [hl]; simp [seqI]; omega
  refine Run.ite (fun h => ?_) (fun h => ?_)
  · refine Run.bindE (Run.getI' h0 h) ?_
    rw [w64_id (x := v + 1) (by omega), w64_id (x := i + 1) (by omega)]
    refine ih (_, v + 1, i + 1) ⟨by simp only; omega, by simp only; omega, by simp only; omega, ?_⟩ (by simp only; omega)
    simp only
    have hd : a.drop i.toNat = a[i.toNat]'(by omega) :: a.drop (i.toNat + 1) := List.drop_eq_getElem_cons (by omega)
    rw [hl, hd, set_append (by simp [seqI]), show (i + 1).toNat = i.toNat + 1 by omega]
    simp only [seqI, List.range_succ, List.map_append, List.append_assoc, List.map_cons, List.map_nil, List.singleton_append]
    rw [hv, show ((i.toNat : Nat) : Int) = i by omega]
  · have : i = a.length := by omega
    subst this
    refine Run.ret ?_
    rw [hl, hv]; simp

theorem laws_heldInt64S_run (n : Nat) (k0 : Int) (hk : 0 ≤ k0 ∧ k0 < 1000000000) (hn : n < 4611686018427387904) : Run (fun k => laws_heldInt64S.f k (seqI k0 n) k0) (· = k0 + n) := by
  unfold laws_heldInt64S.f
  have hlen : (seqI k0 n).length = n := by simp [seqI]
  refine Run.loop (L := fun q (s : Int × Int) => laws_heldInt64S.l0 q (seqI k0 n) s.1 s.2) (fun s => (n - s.2).toNat) (fun s => 0 ≤ s.2 ∧ s.2 ≤ n ∧ s.1 = k0 + s.2) ?_ (k0, 0) ⟨by simp only; omega, by simp only; omega, by simp⟩
  rintro ⟨v, i⟩ ⟨h0, h3, hv⟩ ih
  simp only at h0 h3 hv
  simp only [laws_heldInt64S.l0]
  rw [hlen]
  refine Run.ite (fun h => ?_) (fun h => ?_)
  · refine Run.bindE (Run.getI' h0 (by omega)) ?_
    refine Run.no ?_ ?_
    · simp only [seqI, List.getElem_map, List.getElem_range]; omega
    rw [w64_id (x := v + 1) (by omega), w64_id (x := i + 1) (by omega)]
    exact ih (v + 1, i + 1) ⟨by simp only; omega, by simp only; omega, by simp only; omega⟩ (by simp only; omega)
  · exact Run.ret (by omega)

theorem laws_FnExactBestMoves_run (n : Int) (l : List Int) (_ : I64 n) (_ : Big l) : Run (fun k => laws_FnExactBestMoves.f k n l) (· = true) := by
  unfold laws_FnExactBestMoves.f
  refine Run.ite (fun _ => Run.ret rfl) (fun hlen => ?_)
  have hl2 : ((if posCode n l = 0 then (if resM n l ≥ 0 then (([] : List Int), (5 : Int)) else (bestM n l, 0)) else ([], posCode n l))).1.length ≤ 1000 := BestMoves_short n l
  refine Run.bindE (laws_toInt64S_run l (by omega)) ?_
  refine Run.bindE (spec_BestMoves_run n l (by omega)) ?_
  refine Run.bindE (laws_toInt64S_run l (by omega)) ?_
  refine Run.bindE (impl_BestMoves_run n l (by omega)) ?_
  refine Run.bindE (laws_eqInt64S_run _ _ (by omega)) ?_
  refine Run.yes (decide_eq_true rfl) (Run.no (fun h => h rfl) ?_)
  refine Run.bindE (laws_toInt64S_run l (by omega)) ?_
  refine Run.bindE (laws_eqInt64S_run _ _ (by omega)) ?_
  refine Run.yes (decide_eq_true rfl) ?_
  refine Run.bindE (laws_markInt64S_run _ 1 (by omega) (by omega)) ?_
  refine Run.no (by omega) ?_
  refine Run.bindE (laws_eqInt64S_run _ _ (by omega)) ?_
  refine Run.yes (decide_eq_true rfl) ?_
  refine Run.bindE (laws_markInt64S_run _ 1 (by omega) (by omega)) ?_
  refine Run.bindE (laws_heldInt64S_run _ 1 (by omega) (by omega)) ?_
  refine Run.no (by omega) (Run.no (fun h => h rfl) ?_)
  refine Run.bindE (laws_toInt64S_run l (by omega)) ?_
  refine Run.bindE (impl_BestMoves_run n l (by omega)) ?_
  refine Run.bindE (laws_eqInt64S_run _ _ (by omega)) ?_
  refine Run.yes (decide_eq_true rfl) (Run.no (fun h => h rfl) ?_)
  refine Run.bindE (laws_heldInt64S_run _ 1 (by omega) (by omega)) ?_
  exact Run.no (by omega) (Run.no (fun h => h rfl) (Run.ret rfl))
end Go.Proofs.Ytfbdcidedjocdaa.P
