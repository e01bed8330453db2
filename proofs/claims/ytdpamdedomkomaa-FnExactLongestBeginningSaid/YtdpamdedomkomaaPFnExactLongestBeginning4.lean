/- What the pure functions come to, one by one (part 4). -/
import Derived.Test.YtdpamdedomkomaaPFnExactLongestBeginning3
import Derived.Test.YtdpamdedomkomaaGFnExactLongestBeginning7
namespace Go.Proofs.Ytdpamdedomkomaa.P
open Go Go.RowKit Go.Proofs.Ytdpamdedomkomaa.K Go.Proofs.Ytdpamdedomkomaa.G
set_option linter.unusedVariables false
set_option linter.unusedSimpArgs false

theorem spec_LongestBeginning_run (x : Col) (hx : ByteC x) (l : List Int) (hl : l.length < 4611686018427387904) : Run (fun k => spec_LongestBeginning.f k x l) (· = (if given (isB x) (decide ((l.length : Int) = x.k) && allIn l 1 17) = 0 then ((longM x l x.p.toNat : Int), 0) else (0, given (isB x) (decide ((l.length : Int) = x.k) && allIn l 1 17)))) := by
  unfold spec_LongestBeginning.f
  refine Run.bindE (spec_l05Code_run x hx l hl) ?_
  refine Run.ite (fun h => Run.ret (by rw [if_neg h])) (fun h => ?_)
  have hz := Decidable.not_not.mp h
  rw [if_pos hz]
  obtain ⟨h1, h2⟩ := given_zero hz
  have hc := isB_spec h1
  have h17 := hc.1
  have hk := hc.2.1
  simp only [Bool.and_eq_true, decide_eq_true_eq] at h2
  refine Run.loop (L := fun q (z : List Int × Int) => spec_LongestBeginning.l0 q x l z.1 z.2) (fun z => (x.p - z.2).toNat) (fun z => 0 ≤ z.2 ∧ z.2 ≤ x.p ∧ z.1 = (List.range z.2.toNat).map Int.ofNat ∧ (z.2 = 0 ∨ avB x l z.2.toNat = true)) ?_ ([], 0) ⟨by simp only; omega, by simp only; omega, rfl, .inl rfl⟩
  rintro ⟨o, m⟩ ⟨h0, h3, ho, hJ⟩ ih
  simp only at h0 h3 ho hJ
  subst ho
  simp only [spec_LongestBeginning.l0]
  obtain ⟨m, rfl⟩ := Int.eq_ofNat_of_zero_le h0
  simp only [Int.toNat_natCast] at hJ ih ⊢
  refine Run.ite (fun h => ?_) (fun h => ?_)
  · refine Run.bindE (Run.push' (by simp; omega)) ?_
    have es : (List.range m).map Int.ofNat ++ [(m : Int)] = (List.range (m + 1)).map Int.ofNat := by rw [List.range_succ, List.map_append]; rfl
    rw [es, w64_id (x := (m : Int) + 1) (by omega)]
    refine Run.bindE (spec_l01Part_run x hx (by omega) _ (points_range (by omega) (by omega))) ?_
    have hf : (⟨(((List.range (m + 1)).map Int.ofNat).length : Int), x.k, madeE (fun i j => colr x (((List.range (m + 1)).map Int.ofNat).getD i 0).toNat (((List.range (m + 1)).map Int.ofNat).getD j 0).toNat) ((List.range (m + 1)).map Int.ofNat).length⟩ : Col) = firstC x (m + 1) := rfl
    rw [hf]
    have hfp : (firstC x (m + 1)).p = ((m + 1 : Nat) : Int) := by show (((List.range (m + 1)).map Int.ofNat).length : Int) = _; rw [List.length_map, List.length_range]
    refine Run.bindE (spec_l05Avoids_run (firstC x (m + 1)) (partC_bytes _ _) (by rw [hfp]; omega) (by show 0 ≤ x.k ∧ x.k ≤ 1000; omega) l h2.1 h2.2) ?_
    rw [first_avoids hx]
    refine Run.ite (fun h5 => ?_) (fun h5 => Run.ret ?_)
    · exact ih (_, (m : Int) + 1) ⟨by simp only; omega, by simp only; omega, by simp only; rw [show ((m : Int) + 1).toNat = m + 1 by omega], by simp only; rw [show ((m : Int) + 1).toNat = m + 1 by omega]; exact .inr h5⟩ (by simp only; omega)
    · rw [longM_at (m := m) (by omega) (fun _ => Bool.eq_false_iff.mpr h5) (hJ.imp (fun h => by omega) id)]
  · refine Run.ret ?_
    rw [longM_at (m := m) (n := x.p.toNat) (by omega) (fun h => by omega) (hJ.imp (fun h => by omega) id), show x.p = (m : Int) by omega]

theorem impl_in_run (n low high : Int) : Run (fun _ => impl_in.f n low high) (· = decide (low ≤ n ∧ n ≤ high)) := by
  unfold impl_in.f
  refine Run.ite (fun h => ?_) (fun h => ?_)
  · refine Run.ret (decide_eq_decide.mpr ?_); omega
  · refine Run.ret ((decide_eq_false ?_).symm); omega

theorem impl_Colouring_edges_run (x : Col) (hp : 0 ≤ x.p ∧ x.p ≤ 1000) : Run (fun _ => impl_Colouring_edges.f x) (· = (tri x.p.toNat : Int)) := by
  unfold impl_Colouring_edges.f
  have := tri_int (n := x.p.toNat) (by omega)
  rw [show ((x.p.toNat : Nat) : Int) = x.p by omega] at this
  exact Run.ret this

theorem impl_Colouring_isColouring_run (x : Col) (hx : ByteC x) : Run (fun k => impl_Colouring_isColouring.f k x) (· = isB x) := by
  unfold impl_Colouring_isColouring.f
  refine Run.bindE (impl_in_run _ _ _) ?_
  refine Run.itn (fun h1 => ?_) (fun h1 => ?_)
  · exact Run.ret (decide_eq_false fun h => h1 (decide_eq_true h.1)).symm
  refine Run.bindE (impl_in_run _ _ _) ?_
  refine Run.itn (fun h2 => ?_) (fun h2 => ?_)
  · exact Run.ret (decide_eq_false fun h => h2 (decide_eq_true h.2.1)).symm
  have hp := of_decide_eq_true h1
  have hk := of_decide_eq_true h2
  refine Run.loop (L := fun q (i : Int) => impl_Colouring_isColouring.l0 q x i) (fun i => (136 - i).toNat) (fun i => 0 ≤ i ∧ i ≤ 136 ∧ ∀ j : Nat, (j : Int) < i → (if j < tri x.p.toNat then x.e j < x.k else x.e j = 0)) ?_ 0 ⟨by omega, by omega, fun j hj => by omega⟩
  rintro i ⟨h0, h3, hJ⟩ ih
  simp only [impl_Colouring_isColouring.l0]
  refine Run.ite (fun h => ?_) (fun h => ?_)
  · refine Run.bindE (Run.getB' h0 h) ?_
    have hb := hx i.toNat
    rw [w64_id (x := x.e i.toNat) (by omega)]
    refine Run.ite (fun h5 => ?_) (fun h5 => ?_)
    · refine Run.ret (decide_eq_false fun hc => ?_).symm
      have := hc.2.2 i.toNat (by omega)
      by_cases h6 : i.toNat < tri x.p.toNat
      · rw [if_pos h6] at this; omega
      · rw [if_neg h6] at this; omega
    · refine Run.bindE (impl_Colouring_edges_run x (by omega)) ?_
      rw [w64_id (x := i + 1) (by omega)]
      refine Run.ite (fun h4 => ?_) (fun h4 => ?_)
      · refine Run.ite (fun h7 => ?_) (fun h7 => ?_)
        · refine Run.ret (decide_eq_false fun hc => ?_).symm
          have := hc.2.2 i.toNat (by omega)
          rw [if_neg (by omega)] at this; omega
        · refine ih (i + 1) ⟨by omega, by omega, fun j hj => ?_⟩ (by omega)
          by_cases ej : (j : Int) < i
          · exact hJ j ej
          · obtain rfl : j = i.toNat := by omega
            rw [if_neg (by omega)]; omega
      · refine ih (i + 1) ⟨by omega, by omega, fun j hj => ?_⟩ (by omega)
        by_cases ej : (j : Int) < i
        · exact hJ j ej
        · obtain rfl : j = i.toNat := by omega
          rw [if_pos (by omega)]; omega
  · refine Run.ret (decide_eq_true ⟨hp, hk, fun j hj => hJ j (by omega)⟩).symm

theorem impl_size_int64_run (l : List Int) : Run (fun _ => impl_size_int64.f l) (· = (l.length : Int)) := by
  unfold impl_size_int64.f
  exact Run.ret rfl

theorem impl_areIn_1_run (n lo hi : Int) : Run (fun _ => impl_areIn_1.f n lo hi) (· = !decide (lo ≤ n ∧ n ≤ hi)) := by
  unfold impl_areIn_1.f
  refine Run.bindE (impl_in_run _ _ _) ?_
  exact Run.ret rfl

theorem slices_IndexFunc_int64_int64__areIn_1_run (list : List Int) (lo hi : Int) (hl : list.length < 4611686018427387904) : Run (fun k => slices_IndexFunc_int64_int64__areIn_1.f k list lo hi) (fun r => decide (r ≥ 0) = !allIn list lo hi) := by
  unfold slices_IndexFunc_int64_int64__areIn_1.f
  refine Run.loop (L := fun q (i : Int) => slices_IndexFunc_int64_int64__areIn_1.l0 q list lo hi i) (fun i => (list.length - i).toNat) (fun i => 0 ≤ i ∧ i ≤ list.length ∧ allIn list lo hi = allIn (list.drop i.toNat) lo hi) ?_ 0 ⟨by omega, by omega, rfl⟩
  rintro i ⟨h0, h3, hJ⟩ ih
  simp only [slices_IndexFunc_int64_int64__areIn_1.l0]
  refine Run.ite (fun h => ?_) (fun h => ?_)
  · have hd : list.drop i.toNat = list[i.toNat]'(by omega) :: list.drop (i.toNat + 1) := List.drop_eq_getElem_cons (by omega)
    refine Run.bindE (Run.getI' h0 h) ?_
    rw [w64_id (x := i + 1) (by omega)]
    refine Run.bindE (impl_areIn_1_run _ _ _) ?_
    refine Run.ite (fun h5 => ?_) (fun h5 => ?_)
    · refine Run.ret ?_
      rw [hJ, hd, allIn_cons]
      simp only [Bool.not_eq_true'] at h5
      rw [h5, Bool.false_and, Bool.not_false]
      exact decide_eq_true h0
    · refine ih (i + 1) ⟨by omega, by omega, ?_⟩ (by omega)
      simp only [Bool.not_eq_true', Bool.not_eq_false] at h5
      rw [hJ, hd, show (i + 1).toNat = i.toNat + 1 by omega, allIn_cons, h5, Bool.true_and]
  · refine Run.ret ?_
    rw [hJ, List.drop_eq_nil_of_le (by omega)]; rfl

theorem slices_ContainsFunc_int64_int64__areIn_1_run (list : List Int) (lo hi : Int) (hl : list.length < 4611686018427387904) : Run (fun k => slices_ContainsFunc_int64_int64__areIn_1.f k list lo hi) (· = !allIn list lo hi) := by
  unfold slices_ContainsFunc_int64_int64__areIn_1.f
  refine Run.bind (slices_IndexFunc_int64_int64__areIn_1_run list lo hi hl) fun r hr => ?_
  exact Run.ret hr

theorem impl_areIn_run (list : List Int) (many lo hi : Int) (hl : list.length < 4611686018427387904) : Run (fun k => impl_areIn.f k list many lo hi) (· = (decide ((list.length : Int) = many) && allIn list lo hi)) := by
  unfold impl_areIn.f
  refine Run.bindE (impl_size_int64_run list) ?_
  refine Run.ite (fun h => ?_) (fun h => ?_)
  · refine Run.bindE (slices_ContainsFunc_int64_int64__areIn_1_run list lo hi hl) ?_
    exact Run.ret (by rw [decide_eq_true h, Bool.true_and, Bool.not_not])
  · exact Run.ret (by rw [decide_eq_false h, Bool.false_and])

theorem impl_areForbidden_run (l : List Int) (k0 : Int) (hl : l.length < 4611686018427387904) : Run (fun k => impl_areForbidden.f k l k0) (· = (decide ((l.length : Int) = k0) && allIn l 1 17)) := by
  unfold impl_areForbidden.f
  refine Run.bindE (impl_areIn_run l k0 1 17 hl) ?_
  exact Run.ret rfl

theorem impl_always_run : Run (fun _ => impl_always.f) (· = true) := by
  unfold impl_always.f
  exact Run.ret rfl

theorem impl_Colouring_sizesCode_1__always_run (x : Col) (l : List Int) (hl : l.length < 4611686018427387904) : Run (fun k => impl_Colouring_sizesCode_1__always.f k l x) (· = (decide ((l.length : Int) = x.k) && allIn l 1 17)) := by
  unfold impl_Colouring_sizesCode_1__always.f
  refine Run.bindE (impl_areForbidden_run l x.k hl) ?_
  refine Run.itn (fun h => Run.ret (Bool.eq_false_iff.mpr h).symm) (fun h => ?_)
  rw [h]
  refine Run.bindE impl_always_run ?_
  exact Run.ret rfl

theorem impl_Colouring_code__Colouring_sizesCode_1__always_run (x : Col) (hx : ByteC x) (l : List Int) (hl : l.length < 4611686018427387904) : Run (fun k => impl_Colouring_code__Colouring_sizesCode_1__always.f k x l) (· = given (isB x) (decide ((l.length : Int) = x.k) && allIn l 1 17)) := by
  unfold impl_Colouring_code__Colouring_sizesCode_1__always.f
  refine Run.bindE (impl_Colouring_isColouring_run x hx) ?_
  refine Run.itn (fun h1 => Run.ret (by rw [given, if_neg h1])) (fun h1 => ?_)
  rw [given, if_pos h1]
  refine Run.bindE (impl_Colouring_sizesCode_1__always_run x l hl) ?_
  exact Run.ite (fun h3 => Run.ret (by rw [if_pos h3])) (fun h3 => Run.ret (by rw [if_neg h3]))

theorem impl_Colouring_sizesCode__always_run (x : Col) (hx : ByteC x) (l : List Int) (hl : l.length < 4611686018427387904) : Run (fun k => impl_Colouring_sizesCode__always.f k x l) (· = given (isB x) (decide ((l.length : Int) = x.k) && allIn l 1 17)) := by
  unfold impl_Colouring_sizesCode__always.f
  refine Run.bindE (impl_Colouring_code__Colouring_sizesCode_1__always_run x hx l hl) ?_
  exact Run.ret rfl

theorem impl_LongestBeginning_1_run (i m : Int) : Run (fun _ => impl_LongestBeginning_1.f i m) (· = decide (i < m)) := by
  unfold impl_LongestBeginning_1.f
  exact Run.ret rfl
end Go.Proofs.Ytdpamdedomkomaa.P
