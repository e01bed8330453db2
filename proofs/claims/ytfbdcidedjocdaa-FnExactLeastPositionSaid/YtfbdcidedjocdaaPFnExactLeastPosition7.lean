/- What the pure functions come to, one by one (part 7). -/
import Derived.Test.YtfbdcidedjocdaaPFnExactLeastPosition6
import Derived.Test.YtfbdcidedjocdaaGFnExactLeastPosition9
namespace Go.Proofs.Ytfbdcidedjocdaa.P
open Go Go.RowKit Go.Proofs.Ytfbdcidedjocdaa.K Go.Proofs.Ytfbdcidedjocdaa.G
set_option linter.unusedVariables false
set_option linter.unusedSimpArgs false

theorem impl_LeastPosition_run (n : Int) (l : List Int) (hl : l.length < 4611686018427387904) : Run (fun k => impl_LeastPosition.f k n l) (· = (if posCode n l = 0 then (leastM n l, 0) else ([], posCode n l))) := by
  unfold impl_LeastPosition.f
  refine Run.bindE (impl_position_code__always_run n l hl) ?_
  refine Run.ite (fun h => Run.ret (by rw [if_neg h])) (fun h => ?_)
  have hz := Decidable.not_not.mp h
  obtain ⟨h1, h2, h3, h4⟩ := shape_of (posCode_zero hz).1
  have hN : tri n.toNat ≤ 10 := tri_mono (n := 5) (by omega)
  rw [if_pos hz]
  refine Run.bindE (slices_Clone_int64_int64_run l (by omega)) ?_
  have ho := impl_orders_run n.toNat h1 n.toNat [] (by simp)
  rw [h3] at ho
  refine Run.bindE ho ?_
  have hgood := List.all_eq_true.mp (ords_good _ h1)
  have hol := ords_length n.toNat n.toNat h1 []
  have h5d : 5 ^ n.toNat ≤ 5 ^ 5 := Nat.pow_le_pow_right (by omega) h1
  unfold leastM
  generalize hT : ords n.toNat n.toNat [] = T at hgood hol
  refine Run.loop (L := fun q (z : List Int × Int) => impl_LeastPosition.l0 q n l T z.1 z.2) (fun z => (T.length - z.2).toNat) (fun z => 0 ≤ z.2 ∧ z.2 ≤ T.length ∧ z.1.length = l.length ∧ z.1 = (T.take z.2.toNat).foldl (stepP l n.toNat) l) ?_ (l, 0) ⟨by simp only; omega, by simp only; omega, rfl, rfl⟩
  rintro ⟨s, i⟩ ⟨h0, hi3, hsl, hs⟩ ih
  simp only at h0 hi3 hsl hs
  simp only [impl_LeastPosition.l0]
  refine Run.ite (fun h => ?_) (fun h => ?_)
  · rw [w64_id (x := i + 1) (by omega)]
    have ht : T.take (i + 1).toNat = T.take i.toNat ++ [T[i.toNat]'(by omega)] := by
      rw [show (i + 1).toNat = i.toNat + 1 by omega, List.take_succ_eq_append_getElem (by omega)]
    refine Run.bindE (Run.getR' h0 h) ?_
    have hg := (Bool.and_eq_true _ _).mp (hgood _ (List.getElem_mem (l := T) (n := i.toNat) (by omega)))
    generalize T[i.toNat]'(by omega) = p at ht hg ⊢
    have hr := impl_position_renumbered_run n.toNat l p h1 h2 hg.1 hg.2
    rw [h3] at hr
    refine Run.bindE hr ?_
    have hrl : (renumP l p n.toNat).length = l.length := by unfold renumP; rw [sets_length]
    refine Run.bind (slices_Compare_int64_int64_run _ s (by omega) (by omega)) fun r hr => ?_
    refine Run.ite (fun h5 => ?_) (fun h5 => ?_)
    · refine ih (renumP l p n.toNat, i + 1) ⟨by simp only; omega, by simp only; omega, hrl, ?_⟩ (by simp only; omega)
      simp only
      rw [ht, List.foldl_append, ← hs]
      show _ = stepP l n.toNat s p
      unfold stepP
      rw [if_pos (by rw [← hr]; exact decide_eq_true h5)]
    · refine ih (s, i + 1) ⟨by simp only; omega, by simp only; omega, hsl, ?_⟩ (by simp only; omega)
      simp only
      rw [ht, List.foldl_append, ← hs]
      show _ = stepP l n.toNat s p
      unfold stepP
      rw [if_neg (by rw [← hr]; simpa using h5)]
  · refine Run.ret ?_
    rw [List.take_of_length_le (by omega)] at hs
    rw [hs]

theorem laws_eqInt64S_run (a b : List Int) (ha : a.length < 4611686018427387904) : Run (fun k => laws_eqInt64S.f k a b) (· = decide (a = b)) := by
  unfold laws_eqInt64S.f
  refine Run.ite (fun h => ?_) (fun h => ?_)
  · exact Run.ret (decide_eq_false fun e => h (by rw [e])).symm
  have hl : a.length = b.length := by omega
  refine Run.loop (L := fun q (i : Int) => laws_eqInt64S.l0 q a b i) (fun i => (a.length - i).toNat) (fun i => 0 ≤ i ∧ i ≤ a.length ∧ ∀ (j : Nat) (h : j < a.length), (j : Int) < i → a[j] = b[j]'(by omega)) ?_ 0 ⟨by omega, by omega, fun j _ hj => by omega⟩
  rintro i ⟨h0, h3, hJ⟩ ih
  simp only [laws_eqInt64S.l0]
  refine Run.ite (fun h => ?_) (fun h => ?_)
  · refine Run.bindE (Run.getI' h0 h) ?_
    refine Run.bindE (Run.getI' h0 (by omega)) ?_
    refine Run.ite (fun h5 => ?_) (fun h5 => ?_)
    · exact Run.ret (decide_eq_false fun e => h5 (by simp only [e])).symm
    · rw [w64_id (by omega)]
      refine ih (i + 1) ⟨by omega, by omega, fun j hj hji => ?_⟩ (by omega)
      by_cases ej : (j : Int) < i
      · exact hJ j hj ej
      · obtain rfl : j = i.toNat := by omega
        exact Decidable.not_not.mp h5
  · exact Run.ret (decide_eq_true (List.ext_getElem hl fun j h1 h2 => hJ j h1 (by omega))).symm

theorem laws_markInt64S_run (a : List Int) (k0 : Int) (hk : 0 ≤ k0 ∧ k0 < 1000000000) (ha : a.length < 4611686018427387904) : Run (fun k => laws_markInt64S.f k a k0) (· = (k0 + a.length, seqI k0 a.length)) := by
  unfold laws_markInt64S.f
  refine Run.loop (L := fun q (s : List Int × Int × Int) => laws_markInt64S.l0 q s.1 s.2.1 s.2.2) (fun s => (a.length - s.2.2).toNat) (fun s => 0 ≤ s.2.2 ∧ s.2.2 ≤ a.length ∧ s.2.1 = k0 + s.2.2 ∧ s.1 = seqI k0 s.2.2.toNat ++ a.drop s.2.2.toNat) ?_ (a, k0, 0) ⟨by simp only; omega, by simp only; omega, by simp, by simp [seqI]⟩
  rintro ⟨l, v, i⟩ ⟨h0, h3, hv, hl⟩ ih
  simp only at h0 h3 hv hl
  simp only [laws_markInt64S.l0]
  have hlen : l.length = a.length := by rw [hl]; simp [seqI]; omega
  refine Run.ite (fun h => ?_) (fun h => ?_)
  · refine Run.bindE (Run.getI' h0 h) ?_
    rw [w64_id (x := v + 1) (by omega), w64_id (x := i + 1) (by omega)]
    refine ih (_, v + 1, i + 1) ⟨by simp only; omega, by simp only; omega, by simp only; omega, ?_⟩ (by simp only; omega)
    simp only
    have hd : a.drop i.toNat = a[i.toNat]'(by omega) :: a.drop (i.toNat + 1) := List.drop_eq_getElem_cons (by omega)
    rw [hl, hd, set_append (by simp [seqI]), show (i + 1).toNat = i.toNat + 1 by omega]
    simp only [seqI, List.range_succ, List.map_append, List.append_assoc, List.map_cons, List.map_nil, List.singleton_append]
    rw [hv, show ((i.toNat : Nat) : Int) = i by omega]
  · have : i = a.length := by omega
    subst this
    refine Run.ret ?_
    rw [hl, hv]; simp

theorem laws_heldInt64S_run (n : Nat) (k0 : Int) (hk : 0 ≤ k0 ∧ k0 < 1000000000) (hn : n < 4611686018427387904) : Run (fun k => laws_heldInt64S.f k (seqI k0 n) k0) (· = k0 + n) := by
  unfold laws_heldInt64S.f
  have hlen : (seqI k0 n).length = n := by simp [seqI]
  refine Run.loop (L := fun q (s : Int × Int) => laws_heldInt64S.l0 q (seqI k0 n) s.1 s.2) (fun s => (n - s.2).toNat) (fun s => 0 ≤ s.2 ∧ s.2 ≤ n ∧ s.1 = k0 + s.2) ?_ (k0, 0) ⟨by simp only; omega, by simp only; omega, by simp⟩
  rintro ⟨v, i⟩ ⟨h0, h3, hv⟩ ih
  simp only at h0 h3 hv
  simp only [laws_heldInt64S.l0]
  rw [hlen]
  refine Run.ite (fun h => ?_) (fun h => ?_)
  · refine Run.bindE (Run.getI' h0 (by omega)) ?_
    refine Run.no ?_ ?_
    · simp only [seqI, List.getElem_map, List.getElem_range]; omega
    rw [w64_id (x := v + 1) (by omega), w64_id (x := i + 1) (by omega)]
    exact ih (v + 1, i + 1) ⟨by simp only; omega, by simp only; omega, by simp only; omega⟩ (by simp only; omega)
  · exact Run.ret (by omega)

theorem laws_FnExactLeastPosition_run (n : Int) (l : List Int) (_ : I64 n) (_ : Big l) : Run (fun k => laws_FnExactLeastPosition.f k n l) (· = true) := by
  unfold laws_FnExactLeastPosition.f
  refine Run.ite (fun _ => Run.ret rfl) (fun hlen => ?_)
  have hl2 : ((if posCode n l = 0 then (leastM n l, 0) else ([], posCode n l))).1.length ≤ 1000 := LeastPosition_short n l
  refine Run.bindE (laws_toInt64S_run l (by omega)) ?_
  refine Run.bindE (spec_LeastPosition_run n l (by omega)) ?_
  refine Run.bindE (laws_toInt64S_run l (by omega)) ?_
  refine Run.bindE (impl_LeastPosition_run n l (by omega)) ?_
  refine Run.bindE (laws_eqInt64S_run _ _ (by omega)) ?_
  refine Run.yes (decide_eq_true rfl) (Run.no (fun h => h rfl) ?_)
  refine Run.bindE (laws_toInt64S_run l (by omega)) ?_
  refine Run.bindE (laws_eqInt64S_run _ _ (by omega)) ?_
  refine Run.yes (decide_eq_true rfl) ?_
  refine Run.bindE (laws_markInt64S_run _ 1 (by omega) (by omega)) ?_
  refine Run.no (by omega) ?_
  refine Run.bindE (laws_eqInt64S_run _ _ (by omega)) ?_
  refine Run.yes (decide_eq_true rfl) ?_
  refine Run.bindE (laws_markInt64S_run _ 1 (by omega) (by omega)) ?_
  refine Run.bindE (laws_heldInt64S_run _ 1 (by omega) (by omega)) ?_
  refine Run.no (by omega) (Run.no (fun h => h rfl) ?_)
  refine Run.bindE (laws_toInt64S_run l (by omega)) ?_
  refine Run.bindE (impl_LeastPosition_run n l (by omega)) ?_
  refine Run.bindE (laws_eqInt64S_run _ _ (by omega)) ?_
  refine Run.yes (decide_eq_true rfl) (Run.no (fun h => h rfl) ?_)
  refine Run.bindE (laws_heldInt64S_run _ 1 (by omega) (by omega)) ?_
  exact Run.no (by omega) (Run.no (fun h => h rfl) (Run.ret rfl))
end Go.Proofs.Ytfbdcidedjocdaa.P
