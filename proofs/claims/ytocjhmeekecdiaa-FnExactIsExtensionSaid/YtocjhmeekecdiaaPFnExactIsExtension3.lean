/- What the pure functions come to, one by one (part 3). -/
import Derived.Test.YtocjhmeekecdiaaPFnExactIsExtension2
import Derived.Test.YtocjhmeekecdiaaGFnExactIsExtension7
namespace Go.Proofs.Ytocjhmeekecdiaa.P
open Go Go.RowKit Go.Proofs.Ytocjhmeekecdiaa.K Go.Proofs.Ytocjhmeekecdiaa.G
set_option linter.unusedVariables false
set_option linter.unusedSimpArgs false

theorem spec_IsExtension_run (x : Col) (hx : ByteC x) (l o : List Int) (hl : l.length < 4611686018427387904) (ho : o.length < 4611686018427387904) : Run (fun k => spec_IsExtension.f k x l o) (· = extM x l o) := by
  unfold spec_IsExtension.f
  refine Run.bindE (spec_l05Code_run x hx l hl) ?_
  have two : ∀ b, b = false → isB x = true → extM x l o = (false, 2) ∨ ((decide ((l.length : Int) = x.k) && allIn l 1 17) && (decide ((o.length : Int) = x.p) && allIn o 0 (x.k - 1))) ≠ b := fun b hb h1 => by
    by_cases hq : ((decide ((l.length : Int) = x.k) && allIn l 1 17) && (decide ((o.length : Int) = x.p) && allIn o 0 (x.k - 1))) = b
    · left
      have : extCode x l o = 2 := by rw [extCode, hq, hb, given, if_pos h1]; rfl
      rw [extM, this]; rfl
    · exact .inr hq
  have bad : isB x = true → ((decide ((l.length : Int) = x.k) && allIn l 1 17) && (decide ((o.length : Int) = x.p) && allIn o 0 (x.k - 1))) = false → (false, (2 : Int)) = extM x l o := fun h1 hq => ((two false rfl h1).resolve_right (fun h => h hq)).symm
  refine Run.itn (fun h => Run.ret ?_) (fun h => ?_)
  · by_cases h1 : isB x = true
    · have hz : (decide ((l.length : Int) = x.k) && allIn l 1 17) = false := by
        cases hq : (decide ((l.length : Int) = x.k) && allIn l 1 17) with
        | false => rfl
        | true => rw [hq, given, if_pos h1] at h; exact absurd rfl h
      rw [hz, given, if_pos h1]
      exact bad h1 (by rw [hz, Bool.false_and])
    · have : extCode x l o = 1 := by rw [extCode, given, if_neg h1]; rfl
      rw [given, if_neg h1, extM, this]; rfl
  obtain ⟨h1, hz⟩ := given_zero h
  have hc := isB_spec h1
  have hp := hc.1
  have hk := hc.2.1
  refine Run.ite (fun h3 => Run.ret (bad h1 (by rw [decide_eq_false h3, Bool.false_and, Bool.and_false]))) (fun h3 => ?_)
  have h3 := Decidable.not_not.mp h3
  refine Run.bindE (spec_l01All_run o x.k (by omega) ho) ?_
  refine Run.itn (fun h4 => Run.ret (bad h1 (by rw [Bool.eq_false_iff.mpr h4, Bool.and_false, Bool.and_false]))) (fun h4 => ?_)
  have h0 : given (isB x) ((decide ((l.length : Int) = x.k) && allIn l 1 17) && (decide ((o.length : Int) = x.p) && allIn o 0 (x.k - 1))) = 0 := by rw [hz, h4, decide_eq_true h3, given, if_pos h1]; rfl
  have h2 := (given_zero h0).2
  simp only [Bool.and_eq_true, decide_eq_true_eq] at h2
  refine Run.bindE (spec_l05Avoids_run x hx hp (by omega) l h2.1.1 h2.1.2) ?_
  refine Run.itn (fun h5 => Run.ret ?_) (fun h5 => ?_)
  · have : extCode x l o = 5 := by rw [extCode, if_pos h0, if_neg h5]
    rw [extM, this]; rfl
  refine Run.ite (fun h6 => Run.ret ?_) (fun h6 => ?_)
  · have : extCode x l o = 3 := by rw [extCode, if_pos h0, if_pos h5, if_pos h6]
    rw [extM, this]; rfl
  have : extCode x l o = 0 := by rw [extCode, if_pos h0, if_pos h5, if_neg h6]
  rw [extM, if_pos this]
  refine Run.bindE (spec_l01Put_run x o (by omega) h2.2.1) ?_
  refine Run.bindE (spec_l05Avoids_run _ (rowE_bytes hx) (by show 1 ≤ x.p + 1 ∧ x.p + 1 ≤ 17; omega) (by show 0 ≤ x.k ∧ x.k ≤ 1000; omega) l h2.1.1 h2.1.2) ?_
  exact Run.ret rfl

theorem impl_in_run (n low high : Int) : Run (fun _ => impl_in.f n low high) (· = decide (low ≤ n ∧ n ≤ high)) := by
  unfold impl_in.f
  refine Run.ite (fun h => ?_) (fun h => ?_)
  · refine Run.ret (decide_eq_decide.mpr ?_); omega
  · refine Run.ret ((decide_eq_false ?_).symm); omega

theorem impl_Colouring_edges_run (x : Col) (hp : 0 ≤ x.p ∧ x.p ≤ 1000) : Run (fun _ => impl_Colouring_edges.f x) (· = (tri x.p.toNat : Int)) := by
  unfold impl_Colouring_edges.f
  have := tri_int (n := x.p.toNat) (by omega)
  rw [show ((x.p.toNat : Nat) : Int) = x.p by omega] at this
  exact Run.ret this

theorem impl_Colouring_isColouring_run (x : Col) (hx : ByteC x) : Run (fun k => impl_Colouring_isColouring.f k x) (· = isB x) := by
  unfold impl_Colouring_isColouring.f
  refine Run.bindE (impl_in_run _ _ _) ?_
  refine Run.itn (fun h1 => ?_) (fun h1 => ?_)
  · exact Run.ret (decide_eq_false fun h => h1 (decide_eq_true h.1)).symm
  refine Run.bindE (impl_in_run _ _ _) ?_
  refine Run.itn (fun h2 => ?_) (fun h2 => ?_)
  · exact Run.ret (decide_eq_false fun h => h2 (decide_eq_true h.2.1)).symm
  have hp := of_decide_eq_true h1
  have hk := of_decide_eq_true h2
  refine Run.loop (L := fun q (i : Int) => impl_Colouring_isColouring.l0 q x i) (fun i => (136 - i).toNat) (fun i => 0 ≤ i ∧ i ≤ 136 ∧ ∀ j : Nat, (j : Int) < i → (if j < tri x.p.toNat then x.e j < x.k else x.e j = 0)) ?_ 0 ⟨by omega, by omega, fun j hj => by omega⟩
  rintro i ⟨h0, h3, hJ⟩ ih
  simp only [impl_Colouring_isColouring.l0]
  refine Run.ite (fun h => ?_) (fun h => ?_)
  · refine Run.bindE (Run.getB' h0 h) ?_
    have hb := hx i.toNat
    rw [w64_id (x := x.e i.toNat) (by omega)]
    refine Run.ite (fun h5 => ?_) (fun h5 => ?_)
    · refine Run.ret (decide_eq_false fun hc => ?_).symm
      have := hc.2.2 i.toNat (by omega)
      by_cases h6 : i.toNat < tri x.p.toNat
      · rw [if_pos h6] at this; omega
      · rw [if_neg h6] at this; omega
    · refine Run.bindE (impl_Colouring_edges_run x (by omega)) ?_
      rw [w64_id (x := i + 1) (by omega)]
      refine Run.ite (fun h4 => ?_) (fun h4 => ?_)
      · refine Run.ite (fun h7 => ?_) (fun h7 => ?_)
        · refine Run.ret (decide_eq_false fun hc => ?_).symm
          have := hc.2.2 i.toNat (by omega)
          rw [if_neg (by omega)] at this; omega
        · refine ih (i + 1) ⟨by omega, by omega, fun j hj => ?_⟩ (by omega)
          by_cases ej : (j : Int) < i
          · exact hJ j ej
          · obtain rfl : j = i.toNat := by omega
            rw [if_neg (by omega)]; omega
      · refine ih (i + 1) ⟨by omega, by omega, fun j hj => ?_⟩ (by omega)
        by_cases ej : (j : Int) < i
        · exact hJ j ej
        · obtain rfl : j = i.toNat := by omega
          rw [if_pos (by omega)]; omega
  · refine Run.ret (decide_eq_true ⟨hp, hk, fun j hj => hJ j (by omega)⟩).symm

theorem impl_size_int64_run (l : List Int) : Run (fun _ => impl_size_int64.f l) (· = (l.length : Int)) := by
  unfold impl_size_int64.f
  exact Run.ret rfl

theorem impl_areIn_1_run (n lo hi : Int) : Run (fun _ => impl_areIn_1.f n lo hi) (· = !decide (lo ≤ n ∧ n ≤ hi)) := by
  unfold impl_areIn_1.f
  refine Run.bindE (impl_in_run _ _ _) ?_
  exact Run.ret rfl

theorem slices_IndexFunc_int64_int64__areIn_1_run (list : List Int) (lo hi : Int) (hl : list.length < 4611686018427387904) : Run (fun k => slices_IndexFunc_int64_int64__areIn_1.f k list lo hi) (fun r => decide (r ≥ 0) = !allIn list lo hi) := by
  unfold slices_IndexFunc_int64_int64__areIn_1.f
  refine Run.loop (L := fun q (i : Int) => slices_IndexFunc_int64_int64__areIn_1.l0 q list lo hi i) (fun i => (list.length - i).toNat) (fun i => 0 ≤ i ∧ i ≤ list.length ∧ allIn list lo hi = allIn (list.drop i.toNat) lo hi) ?_ 0 ⟨by omega, by omega, rfl⟩
  rintro i ⟨h0, h3, hJ⟩ ih
  simp only [slices_IndexFunc_int64_int64__areIn_1.l0]
  refine Run.ite (fun h => ?_) (fun h => ?_)
  · have hd : list.drop i.toNat = list[i.toNat]'(by omega) :: list.drop (i.toNat + 1) := List.drop_eq_getElem_cons (by omega)
    refine Run.bindE (Run.getI' h0 h) ?_
    rw [w64_id (x := i + 1) (by omega)]
    refine Run.bindE (impl_areIn_1_run _ _ _) ?_
    refine Run.ite (fun h5 => ?_) (fun h5 => ?_)
    · refine Run.ret ?_
      rw [hJ, hd, allIn_cons]
      simp only [Bool.not_eq_true'] at h5
      rw [h5, Bool.false_and, Bool.not_false]
      exact decide_eq_true h0
    · refine ih (i + 1) ⟨by omega, by omega, ?_⟩ (by omega)
      simp only [Bool.not_eq_true', Bool.not_eq_false] at h5
      rw [hJ, hd, show (i + 1).toNat = i.toNat + 1 by omega, allIn_cons, h5, Bool.true_and]
  · refine Run.ret ?_
    rw [hJ, List.drop_eq_nil_of_le (by omega)]; rfl

theorem slices_ContainsFunc_int64_int64__areIn_1_run (list : List Int) (lo hi : Int) (hl : list.length < 4611686018427387904) : Run (fun k => slices_ContainsFunc_int64_int64__areIn_1.f k list lo hi) (· = !allIn list lo hi) := by
  unfold slices_ContainsFunc_int64_int64__areIn_1.f
  refine Run.bind (slices_IndexFunc_int64_int64__areIn_1_run list lo hi hl) fun r hr => ?_
  exact Run.ret hr

theorem impl_areIn_run (list : List Int) (many lo hi : Int) (hl : list.length < 4611686018427387904) : Run (fun k => impl_areIn.f k list many lo hi) (· = (decide ((list.length : Int) = many) && allIn list lo hi)) := by
  unfold impl_areIn.f
  refine Run.bindE (impl_size_int64_run list) ?_
  refine Run.ite (fun h => ?_) (fun h => ?_)
  · refine Run.bindE (slices_ContainsFunc_int64_int64__areIn_1_run list lo hi hl) ?_
    exact Run.ret (by rw [decide_eq_true h, Bool.true_and, Bool.not_not])
  · exact Run.ret (by rw [decide_eq_false h, Bool.false_and])

theorem impl_areForbidden_run (l : List Int) (k0 : Int) (hl : l.length < 4611686018427387904) : Run (fun k => impl_areForbidden.f k l k0) (· = (decide ((l.length : Int) = k0) && allIn l 1 17)) := by
  unfold impl_areForbidden.f
  refine Run.bindE (impl_areIn_run l k0 1 17 hl) ?_
  exact Run.ret rfl

theorem impl_IsExtension_1_run (x : Col) (hc : IsCol x) (o : List Int) (ho : o.length < 4611686018427387904) : Run (fun k => impl_IsExtension_1.f k o x) (· = (decide ((o.length : Int) = x.p) && allIn o 0 (x.k - 1))) := by
  unfold impl_IsExtension_1.f
  have h2 := hc.2.1
  rw [w64_id (x := x.k - 1) (by omega)]
  refine Run.bindE (impl_areIn_run o x.p 0 (x.k - 1) ho) ?_
  exact Run.ret rfl

theorem impl_Colouring_sizesCode_1__IsExtension_1_run (x : Col) (hc : IsCol x) (l o : List Int) (hl : l.length < 4611686018427387904) (ho : o.length < 4611686018427387904) : Run (fun k => impl_Colouring_sizesCode_1__IsExtension_1.f k l x o) (· = ((decide ((l.length : Int) = x.k) && allIn l 1 17) && (decide ((o.length : Int) = x.p) && allIn o 0 (x.k - 1)))) := by
  unfold impl_Colouring_sizesCode_1__IsExtension_1.f
  refine Run.bindE (impl_areForbidden_run l x.k hl) ?_
  refine Run.itn (fun h => Run.ret (by rw [Bool.eq_false_iff.mpr h, Bool.false_and])) (fun h => ?_)
  rw [h, Bool.true_and]
  refine Run.bindE (impl_IsExtension_1_run x hc o ho) ?_
  exact Run.ret rfl

theorem impl_Colouring_code__Colouring_sizesCode_1__IsExtension_1_run (x : Col) (hx : ByteC x) (l o : List Int) (hl : l.length < 4611686018427387904) (ho : o.length < 4611686018427387904) : Run (fun k => impl_Colouring_code__Colouring_sizesCode_1__IsExtension_1.f k x l o) (· = given (isB x) ((decide ((l.length : Int) = x.k) && allIn l 1 17) && (decide ((o.length : Int) = x.p) && allIn o 0 (x.k - 1)))) := by
  unfold impl_Colouring_code__Colouring_sizesCode_1__IsExtension_1.f
  refine Run.bindE (impl_Colouring_isColouring_run x hx) ?_
  refine Run.itn (fun h1 => Run.ret (by rw [given, if_neg h1])) (fun h1 => ?_)
  rw [given, if_pos h1]
  refine Run.bindE (impl_Colouring_sizesCode_1__IsExtension_1_run x (isB_spec h1) l o hl ho) ?_
  exact Run.ite (fun h3 => Run.ret (by rw [if_pos h3])) (fun h3 => Run.ret (by rw [if_neg h3]))

theorem impl_Colouring_sizesCode__IsExtension_1_run (x : Col) (hx : ByteC x) (l o : List Int) (hl : l.length < 4611686018427387904) (ho : o.length < 4611686018427387904) : Run (fun k => impl_Colouring_sizesCode__IsExtension_1.f k x l o) (· = given (isB x) ((decide ((l.length : Int) = x.k) && allIn l 1 17) && (decide ((o.length : Int) = x.p) && allIn o 0 (x.k - 1)))) := by
  unfold impl_Colouring_sizesCode__IsExtension_1.f
  refine Run.bindE (impl_Colouring_code__Colouring_sizesCode_1__IsExtension_1_run x hx l o hl ho) ?_
  exact Run.ret rfl

theorem impl_Colouring_firstOf_1_run (L : List Int) (m : Int) (o : List Int) : Run (fun _ => impl_Colouring_firstOf_1.f L m o) (fun r => r.1 = decide ((L.length : Int) < m)) := by
  unfold impl_Colouring_firstOf_1.f
  refine Run.bindE (impl_size_int64_run L) ?_
  exact Run.ite (fun h => Run.ret (decide_eq_true h).symm) (fun h => Run.ret (decide_eq_false h).symm)
end Go.Proofs.Ytocjhmeekecdiaa.P
