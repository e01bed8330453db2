/- What the pure functions come to, one by one (part 5). -/
import Derived.Test.YtfbdcidedjocdaaPFnExactMakeMove4
import Derived.Test.YtfbdcidedjocdaaGFnExactMakeMove8
namespace Go.Proofs.Ytfbdcidedjocdaa.P
open Go Go.RowKit Go.Proofs.Ytfbdcidedjocdaa.K Go.Proofs.Ytfbdcidedjocdaa.G
set_option linter.unusedVariables false
set_option linter.unusedSimpArgs false

theorem impl_position_code__MakeMove_1_run (n : Int) (l : List Int) (e : Int) (hl : l.length < 4611686018427387904) : Run (fun k => impl_position_code__MakeMove_1.f k n l e l) (· = if shapeB n l = true then (if 0 ≤ e ∧ e ≤ (l.length : Int) - 1 then posCode n l else 2) else 2) := by
  unfold impl_position_code__MakeMove_1.f
  refine Run.bindE (impl_position_isShape_run n l hl) ?_
  refine Run.itn (fun h => Run.ret (by rw [if_neg h])) (fun h => ?_)
  rw [if_pos h, posCode, if_pos h]
  obtain ⟨h1, h2, h3, h4⟩ := shape_of h
  refine Run.bindE (impl_MakeMove_1_run e l hl) ?_
  refine Run.itn (fun h5 => Run.ret (by rw [if_neg (fun hq => h5 (decide_eq_true hq))])) (fun h5 => ?_)
  rw [if_pos (of_decide_eq_true h5)]
  have := impl_position_isPosition_run n.toNat l h1 h2
  rw [h3] at this
  refine Run.bindE this ?_
  exact Run.ite (fun h => Run.ret (by rw [if_pos h])) (fun h => Run.ret (by rw [if_neg h]))

theorem impl_position_result_run (n : Int) (l : List Int) (h1 : n.toNat ≤ 5) (h2 : l.length = tri n.toNat) (h3 : ((n.toNat : Nat) : Int) = n) (h4 : allIn l (-1) 1 = true) : Run (fun k => impl_position_result.f k n l) (· = resM n l) := by
  unfold impl_position_result.f
  have hN : tri n.toNat ≤ 10 := tri_mono (n := 5) (by omega)
  have hmv := moverN_range l (by omega)
  refine Run.bindE (impl_position_mover_run n l (by omega)) ?_
  rw [w64_id (x := 1 - moverN l) (by omega), resM]
  have hc := impl_position_triangles_run n.toNat l (1 - moverN l) h1 h2
  rw [h3] at hc
  refine Run.bindE hc ?_
  refine Run.ite (fun h => ?_) (fun h => ?_)
  · refine Run.bindE (impl_position_mover_run n l (by omega)) ?_
    exact Run.ret (by rw [if_pos (by omega)])
  rw [if_neg (by omega)]
  refine Run.bindE (impl_position_many_run n l (-1) (by omega)) ?_
  have hf : (sel (freeE l) l.length).length = manyN l (-1) := free_many h4
  exact Run.ite (fun h => Run.ret (by rw [if_pos (by omega)])) (fun h => Run.ret (by rw [if_neg (by omega)]))

theorem slices_Clone_int64_int64_run (l : List Int) (hl : l.length < 1099511627776) : Run (fun _ => slices_Clone_int64_int64.f l) (· = l) := by
  unfold slices_Clone_int64_int64.f
  refine Run.bindE (Run.concat' (by simp; omega)) ?_
  exact Run.ret (List.nil_append l)

theorem impl_position_moved_run (p : Int) (l : List Int) (e : Nat) (hl : l.length < 1000) (he : e < l.length) : Run (fun k => impl_position_moved.f k p l e) (· = (p, l.set e (moverN l))) := by
  unfold impl_position_moved.f
  refine Run.bindE (slices_Clone_int64_int64_run l (by omega)) ?_
  refine Run.bindE (impl_position_mover_run p l hl) ?_
  refine Run.bindE (Run.getI' (by omega) (by omega)) ?_
  exact Run.ret rfl

theorem impl_MakeMove_run (n : Int) (l : List Int) (e : Int) (hl : l.length < 4611686018427387904) : Run (fun k => impl_MakeMove.f k n l e) (· = makeM n l e) := by
  unfold impl_MakeMove.f
  refine Run.bindE (impl_position_code__MakeMove_1_run n l e hl) ?_
  unfold makeM
  by_cases hs : shapeB n l = true
  · rw [if_pos hs, if_pos hs]
    obtain ⟨h1, h2, h3, h4⟩ := shape_of hs
    have hN : tri n.toNat ≤ 10 := tri_mono (n := 5) (by omega)
    by_cases he : 0 ≤ e ∧ e ≤ (l.length : Int) - 1
    · rw [if_pos he, if_pos he]
      refine Run.itn (fun h => Run.ret (by rw [if_neg h])) (fun h => ?_)
      rw [if_pos h]
      obtain ⟨e, rfl⟩ := Int.eq_ofNat_of_zero_le he.1
      refine Run.bindE (impl_position_result_run n l h1 h2 h3 h4) ?_
      refine Run.ite (fun h => Run.ret (by rw [if_pos (.inl h)])) (fun h => ?_)
      refine Run.bindE (Run.getI' (by omega) (by omega)) ?_
      have eg : l.getD e 0 = l[((e : Int)).toNat]'(by omega) := getD_at (by omega)
      rw [← eg]
      refine Run.ite (fun h => Run.ret (by rw [if_pos (.inr h)])) (fun h' => ?_)
      rw [if_neg (fun hq => hq.elim h h')]
      refine Run.bindE (impl_position_moved_run n l e (by omega) (by omega)) ?_
      exact Run.ret rfl
    · rw [if_neg he, if_neg he]
      exact Run.no (by decide) (Run.ret rfl)
  · rw [if_neg hs, if_neg hs]
    exact Run.no (by decide) (Run.ret rfl)

theorem laws_eqInt64S_run (a b : List Int) (ha : a.length < 4611686018427387904) : Run (fun k => laws_eqInt64S.f k a b) (· = decide (a = b)) := by
  unfold laws_eqInt64S.f
  refine Run.ite (fun h => ?_) (fun h => ?_)
  · exact Run.ret (decide_eq_false fun e => h (by rw [e])).symm
  have hl : a.length = b.length := by omega
  refine Run.loop (L := fun q (i : Int) => laws_eqInt64S.l0 q a b i) (fun i => (a.length - i).toNat) (fun i => 0 ≤ i ∧ i ≤ a.length ∧ ∀ (j : Nat) (h : j < a.length), (j : Int) < i → a[j] = b[j]'(by omega)) ?_ 0 ⟨by omega, by omega, fun j _ hj => by omega⟩
  rintro i ⟨h0, h3, hJ⟩ ih
  simp only [laws_eqInt64S.l0]
  refine Run.ite (fun h => ?_) (fun h => ?_)
  · refine Run.bindE (Run.getI' h0 h) ?_
    refine Run.bindE (Run.getI' h0 (by omega)) ?_
    refine Run.ite (fun h5 => ?_) (fun h5 => ?_)
    · exact Run.ret (decide_eq_false fun e => h5 (by simp only [e])).symm
    · rw [w64_id (by omega)]
      refine ih (i + 1) ⟨by omega, by omega, fun j hj hji => ?_⟩ (by omega)
      by_cases ej : (j : Int) < i
      · exact hJ j hj ej
      · obtain rfl : j = i.toNat := by omega
        exact Decidable.not_not.mp h5
  · exact Run.ret (decide_eq_true (List.ext_getElem hl fun j h1 h2 => hJ j h1 (by omega))).symm

theorem laws_markInt64S_run (a : List Int) (k0 : Int) (hk : 0 ≤ k0 ∧ k0 < 1000000000) (ha : a.length < 4611686018427387904) : Run (fun k => laws_markInt64S.f k a k0) (· = (k0 + a.length, seqI k0 a.length)) := by
  unfold laws_markInt64S.f
  refine Run.loop (L := fun q (s : List Int × Int × Int) => laws_markInt64S.l0 q s.1 s.2.1 s.2.2) (fun s => (a.length - s.2.2).toNat) (fun s => 0 ≤ s.2.2 ∧ s.2.2 ≤ a.length ∧ s.2.1 = k0 + s.2.2 ∧ s.1 = seqI k0 s.2.2.toNat ++ a.drop s.2.2.toNat) ?_ (a, k0, 0) ⟨by simp only; omega, by simp only; omega, by simp, by simp [seqI]⟩
  rintro ⟨l, v, i⟩ ⟨h0, h3, hv, hl⟩ ih
  simp only at h0 h3 hv hl
  simp only [laws_markInt64S.l0]
  have hlen : l.length = a.length := by rw [hl]; simp [seqI]; omega
  refine Run.ite (fun h => ?_) (fun h => ?_)
  · refine Run.bindE (Run.getI' h0 h) ?_
    rw [w64_id (x := v + 1) (by omega), w64_id (x := i + 1) (by omega)]
    refine ih (_, v + 1, i + 1) ⟨by simp only; omega, by simp only; omega, by simp only; omega, ?_⟩ (by simp only; omega)
    simp only
    have hd : a.drop i.toNat = a[i.toNat]'(by omega) :: a.drop (i.toNat + 1) := List.drop_eq_getElem_cons (by omega)
    rw [hl, hd, set_append (by simp [seqI]), show (i + 1).toNat = i.toNat + 1 by omega]
    simp only [seqI, List.range_succ, List.map_append, List.append_assoc, List.map_cons, List.map_nil, List.singleton_append]
    rw [hv, show ((i.toNat : Nat) : Int) = i by omega]
  · have : i = a.length := by omega
    subst this
    refine Run.ret ?_
    rw [hl, hv]; simp

theorem laws_heldInt64S_run (n : Nat) (k0 : Int) (hk : 0 ≤ k0 ∧ k0 < 1000000000) (hn : n < 4611686018427387904) : Run (fun k => laws_heldInt64S.f k (seqI k0 n) k0) (· = k0 + n) := by
  unfold laws_heldInt64S.f
  have hlen : (seqI k0 n).length = n := by simp [seqI]
  refine Run.loop (L := fun q (s : Int × Int) => laws_heldInt64S.l0 q (seqI k0 n) s.1 s.2) (fun s => (n - s.2).toNat) (fun s => 0 ≤ s.2 ∧ s.2 ≤ n ∧ s.1 = k0 + s.2) ?_ (k0, 0) ⟨by simp only; omega, by simp only; omega, by simp⟩
  rintro ⟨v, i⟩ ⟨h0, h3, hv⟩ ih
  simp only at h0 h3 hv
  simp only [laws_heldInt64S.l0]
  rw [hlen]
  refine Run.ite (fun h => ?_) (fun h => ?_)
  · refine Run.bindE (Run.getI' h0 (by omega)) ?_
    refine Run.no ?_ ?_
    · simp only [seqI, List.getElem_map, List.getElem_range]; omega
    rw [w64_id (x := v + 1) (by omega), w64_id (x := i + 1) (by omega)]
    exact ih (v + 1, i + 1) ⟨by simp only; omega, by simp only; omega, by simp only; omega⟩ (by simp only; omega)
  · exact Run.ret (by omega)

theorem laws_FnExactMakeMove_run (n : Int) (l : List Int) (e : Int) (_ : I64 n) (_ : Big l) (_ : I64 e) : Run (fun k => laws_FnExactMakeMove.f k n l e) (· = true) := by
  unfold laws_FnExactMakeMove.f
  refine Run.ite (fun _ => Run.ret rfl) (fun hlen => ?_)
  have hl2 : (makeM n l e).1.length ≤ 1048576 := MakeMove_short n l e hlen
  refine Run.bindE (laws_toInt64S_run l (by omega)) ?_
  refine Run.bindE (spec_MakeMove_run n l e (by omega)) ?_
  refine Run.bindE (laws_toInt64S_run l (by omega)) ?_
  refine Run.bindE (impl_MakeMove_run n l e (by omega)) ?_
  refine Run.bindE (laws_eqInt64S_run _ _ (by omega)) ?_
  refine Run.yes (decide_eq_true rfl) (Run.no (fun h => h rfl) ?_)
  refine Run.bindE (laws_toInt64S_run l (by omega)) ?_
  refine Run.bindE (laws_eqInt64S_run _ _ (by omega)) ?_
  refine Run.yes (decide_eq_true rfl) ?_
  refine Run.bindE (laws_markInt64S_run _ 1 (by omega) (by omega)) ?_
  refine Run.no (by omega) ?_
  refine Run.bindE (laws_eqInt64S_run _ _ (by omega)) ?_
  refine Run.yes (decide_eq_true rfl) ?_
  refine Run.bindE (laws_markInt64S_run _ 1 (by omega) (by omega)) ?_
  refine Run.bindE (laws_heldInt64S_run _ 1 (by omega) (by omega)) ?_
  refine Run.no (by omega) (Run.no (fun h => h rfl) ?_)
  refine Run.bindE (laws_toInt64S_run l (by omega)) ?_
  refine Run.bindE (impl_MakeMove_run n l e (by omega)) ?_
  refine Run.bindE (laws_eqInt64S_run _ _ (by omega)) ?_
  refine Run.yes (decide_eq_true rfl) (Run.no (fun h => h rfl) ?_)
  refine Run.bindE (laws_heldInt64S_run _ 1 (by omega) (by omega)) ?_
  exact Run.no (by omega) (Run.no (fun h => h rfl) (Run.ret rfl))
end Go.Proofs.Ytfbdcidedjocdaa.P
