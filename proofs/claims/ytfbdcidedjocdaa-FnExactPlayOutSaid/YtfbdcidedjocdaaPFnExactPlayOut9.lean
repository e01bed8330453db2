/- What the pure functions come to, one by one (part 9). -/
import Derived.Test.YtfbdcidedjocdaaPFnExactPlayOut8
import Derived.Test.YtfbdcidedjocdaaGFnExactPlayOut10
namespace Go.Proofs.Ytfbdcidedjocdaa.P
open Go Go.RowKit Go.Proofs.Ytfbdcidedjocdaa.K Go.Proofs.Ytfbdcidedjocdaa.G
set_option linter.unusedVariables false
set_option linter.unusedSimpArgs false

theorem impl_PlayOut_go (n : Int) : ∀ (f : Nat) (l acc : List Int) (K : List (ByteArray × Int)), Good n l → freeN l < f → Mem n K → acc.length + freeN l ≤ 20 → Run (fun q => impl_PlayOut.l0 q acc K n l) (· = (acc ++ playF n f l, 0))
  | 0, l, _, _, _, hf, _, _ => by omega
  | f + 1, l, acc, K, hg, hf, hK, ha => by
    refine Run.step ?_
    simp only [impl_PlayOut.l0]
    have ht := hg.ten
    rw [playF]
    refine Run.bindE (impl_position_result_run n l hg.n5 hg.len hg.nn hg.all) ?_
    refine Run.ite (fun h => ?_) (fun h => ?_)
    · refine Run.bind (impl_player_best_run n l hg K hK) fun r hr => ?_
      obtain ⟨hr1, hr2⟩ := hr
      obtain ⟨b1, b2, b3, b4⟩ := bestM_head hg (by omega)
      rw [if_neg (by omega)] at hr1
      rw [hr1, if_pos h]
      refine Run.bindE (Run.getI' (by omega) (by omega)) ?_
      have eb : (bestM n l)[(0 : Int).toNat]'(by simpa using b3) = (bestE n l : Int) := by
        rw [List.head?_eq_getElem?] at b4
        exact (List.getElem?_eq_some_iff.mp b4).2
      rw [eb]
      refine Run.bindE (Run.push' (by omega)) ?_
      refine Run.bindE (impl_position_moved_run n l _ (by omega) b1) ?_
      obtain ⟨hg2, hf2⟩ := hg.move b1 b2
      rw [show acc ++ (bestE n l : Int) :: playF n f (l.set (bestE n l) (moverN l)) = (acc ++ [(bestE n l : Int)]) ++ playF n f (l.set (bestE n l) (moverN l)) by rw [List.append_assoc]; rfl]
      exact impl_PlayOut_go n f (l.set (bestE n l) (moverN l)) _ _ hg2 (by omega) hr2 (by rw [List.length_append, List.length_singleton]; omega)
    · rw [if_neg h]
      exact Run.ret (by rw [List.append_nil])
theorem impl_PlayOut_run (n : Int) (l : List Int) (hl : l.length < 4611686018427387904) : Run (fun k => impl_PlayOut.f k n l) (· = (if posCode n l = 0 then (playM n l, 0) else ([], posCode n l))) := by
  unfold impl_PlayOut.f
  refine Run.bindE (impl_position_code__always_run n l hl) ?_
  refine Run.ite (fun h => Run.ret (by rw [if_neg h])) (fun h => ?_)
  have hz := Decidable.not_not.mp h
  have hg := good_of hz
  rw [if_pos hz]
  exact impl_PlayOut_go n (freeN l + 1) l [] _ hg (by omega) (mem_nil n) (by have h3 : freeN l ≤ l.length := cnt_le _ _; have := hg.ten; rw [List.length_nil]; omega)

theorem laws_eqInt64S_run (a b : List Int) (ha : a.length < 4611686018427387904) : Run (fun k => laws_eqInt64S.f k a b) (· = decide (a = b)) := by
  unfold laws_eqInt64S.f
  refine Run.ite (fun h => ?_) (fun h => ?_)
  · exact Run.ret (decide_eq_false fun e => h (by rw [e])).symm
  have hl : a.length = b.length := by omega
  refine Run.loop (L := fun q (i : Int) => laws_eqInt64S.l0 q a b i) (fun i => (a.length - i).toNat) (fun i => 0 ≤ i ∧ i ≤ a.length ∧ ∀ (j : Nat) (h : j < a.length), (j : Int) < i → a[j] = b[j]'(by omega)) ?_ 0 ⟨by omega, by omega, fun j _ hj => by omega⟩
  rintro i ⟨h0, h3, hJ⟩ ih
  simp only [laws_eqInt64S.l0]
  refine Run.ite (fun h => ?_) (fun h => ?_)
  · refine Run.bindE (Run.getI' h0 h) ?_
    refine Run.bindE (Run.getI' h0 (by omega)) ?_
    refine Run.ite (fun h5 => ?_) (fun h5 => ?_)
    · exact Run.ret (decide_eq_false fun e => h5 (by simp only [e])).symm
    · rw [w64_id (by omega)]
      refine ih (i + 1) ⟨by omega, by omega, fun j hj hji => ?_⟩ (by omega)
      by_cases ej : (j : Int) < i
      · exact hJ j hj ej
      · obtain rfl : j = i.toNat := by omega
        exact Decidable.not_not.mp h5
  · exact Run.ret (decide_eq_true (List.ext_getElem hl fun j h1 h2 => hJ j h1 (by omega))).symm

theorem laws_markInt64S_run (a : List Int) (k0 : Int) (hk : 0 ≤ k0 ∧ k0 < 1000000000) (ha : a.length < 4611686018427387904) : Run (fun k => laws_markInt64S.f k a k0) (· = (k0 + a.length, seqI k0 a.length)) := by
  unfold laws_markInt64S.f
  refine Run.loop (L := fun q (s : List Int × Int × Int) => laws_markInt64S.l0 q s.1 s.2.1 s.2.2) (fun s => (a.length - s.2.2).toNat) (fun s => 0 ≤ s.2.2 ∧ s.2.2 ≤ a.length ∧ s.2.1 = k0 + s.2.2 ∧ s.1 = seqI k0 s.2.2.toNat ++ a.drop s.2.2.toNat) ?_ (a, k0, 0) ⟨by simp only; omega, by simp only; omega, by simp, by simp [seqI]⟩
  rintro ⟨l, v, i⟩ ⟨h0, h3, hv, hl⟩ ih
  simp only at h0 h3 hv hl
  simp only [laws_markInt64S.l0]
  have hlen : l.length = a.length := by rw [hl]; simp [seqI]; omega
  refine Run.ite (fun h => ?_) (fun h => ?_)
  · refine Run.bindE (Run.getI' h0 h) ?_
    rw [w64_id (x := v + 1) (by omega), w64_id (x := i + 1) (by omega)]
    refine ih (_, v + 1, i + 1) ⟨by simp only; omega, by simp only; omega, by simp only; omega, ?_⟩ (by simp only; omega)
    simp only
    have hd : a.drop i.toNat = a[i.toNat]'(by omega) :: a.drop (i.toNat + 1) := List.drop_eq_getElem_cons (by omega)
    rw [hl, hd, set_append (by simp [seqI]), show (i + 1).toNat = i.toNat + 1 by omega]
    simp only [seqI, List.range_succ, List.map_append, List.append_assoc, List.map_cons, List.map_nil, List.singleton_append]
    rw [hv, show ((i.toNat : Nat) : Int) = i by omega]
  · have : i = a.length := by omega
    subst this
    refine Run.ret ?_
    rw [hl, hv]; simp

theorem laws_heldInt64S_run (n : Nat) (k0 : Int) (hk : 0 ≤ k0 ∧ k0 < 1000000000) (hn : n < 4611686018427387904) : Run (fun k => laws_heldInt64S.f k (seqI k0 n) k0) (· = k0 + n) := by
  unfold laws_heldInt64S.f
  have hlen : (seqI k0 n).length = n := by simp [seqI]
  refine Run.loop (L := fun q (s : Int × Int) => laws_heldInt64S.l0 q (seqI k0 n) s.1 s.2) (fun s => (n - s.2).toNat) (fun s => 0 ≤ s.2 ∧ s.2 ≤ n ∧ s.1 = k0 + s.2) ?_ (k0, 0) ⟨by simp only; omega, by simp only; omega, by simp⟩
  rintro ⟨v, i⟩ ⟨h0, h3, hv⟩ ih
  simp only at h0 h3 hv
  simp only [laws_heldInt64S.l0]
  rw [hlen]
  refine Run.ite (fun h => ?_) (fun h => ?_)
  · refine Run.bindE (Run.getI' h0 (by omega)) ?_
    refine Run.no ?_ ?_
    · simp only [seqI, List.getElem_map, List.getElem_range]; omega
    rw [w64_id (x := v + 1) (by omega), w64_id (x := i + 1) (by omega)]
    exact ih (v + 1, i + 1) ⟨by simp only; omega, by simp only; omega, by simp only; omega⟩ (by simp only; omega)
  · exact Run.ret (by omega)

theorem laws_FnExactPlayOut_run (n : Int) (l : List Int) (_ : I64 n) (_ : Big l) : Run (fun k => laws_FnExactPlayOut.f k n l) (· = true) := by
  unfold laws_FnExactPlayOut.f
  refine Run.ite (fun _ => Run.ret rfl) (fun hlen => ?_)
  have hl2 : ((if posCode n l = 0 then (playM n l, (0 : Int)) else ([], posCode n l))).1.length ≤ 1000 := PlayOut_short n l
  refine Run.bindE (laws_toInt64S_run l (by omega)) ?_
  refine Run.bindE (spec_PlayOut_run n l (by omega)) ?_
  refine Run.bindE (laws_toInt64S_run l (by omega)) ?_
  refine Run.bindE (impl_PlayOut_run n l (by omega)) ?_
  refine Run.bindE (laws_eqInt64S_run _ _ (by omega)) ?_
  refine Run.yes (decide_eq_true rfl) (Run.no (fun h => h rfl) ?_)
  refine Run.bindE (laws_toInt64S_run l (by omega)) ?_
  refine Run.bindE (laws_eqInt64S_run _ _ (by omega)) ?_
  refine Run.yes (decide_eq_true rfl) ?_
  refine Run.bindE (laws_markInt64S_run _ 1 (by omega) (by omega)) ?_
  refine Run.no (by omega) ?_
  refine Run.bindE (laws_eqInt64S_run _ _ (by omega)) ?_
  refine Run.yes (decide_eq_true rfl) ?_
  refine Run.bindE (laws_markInt64S_run _ 1 (by omega) (by omega)) ?_
  refine Run.bindE (laws_heldInt64S_run _ 1 (by omega) (by omega)) ?_
  refine Run.no (by omega) (Run.no (fun h => h rfl) ?_)
  refine Run.bindE (laws_toInt64S_run l (by omega)) ?_
  refine Run.bindE (impl_PlayOut_run n l (by omega)) ?_
  refine Run.bindE (laws_eqInt64S_run _ _ (by omega)) ?_
  refine Run.yes (decide_eq_true rfl) (Run.no (fun h => h rfl) ?_)
  refine Run.bindE (laws_heldInt64S_run _ 1 (by omega) (by omega)) ?_
  exact Run.no (by omega) (Run.no (fun h => h rfl) (Run.ret rfl))
end Go.Proofs.Ytfbdcidedjocdaa.P
