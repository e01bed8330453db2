/- What the pure functions come to, one by one (part 4). -/
import Derived.Test.YtdpamdedomkomaaPFnExactIsClique3
import Derived.Test.YtdpamdedomkomaaGFnExactIsClique5
namespace Go.Proofs.Ytdpamdedomkomaa.P
open Go Go.RowKit Go.Proofs.Ytdpamdedomkomaa.K Go.Proofs.Ytdpamdedomkomaa.G
set_option linter.unusedVariables false
set_option linter.unusedSimpArgs false

theorem impl_Colouring_isSet_run (x : Col) (hc : IsCol x) (l : List Int) (hl : l.length < 4611686018427387904) : Run (fun k => impl_Colouring_isSet.f k x l) (· = (allIn l 0 (x.p - 1) && adjB l)) := by
  unfold impl_Colouring_isSet.f
  have hp := hc.1
  refine Run.loop (L := fun q (i : Int) => impl_Colouring_isSet.l0 q x l i) (fun i => (l.length - i).toNat) (fun i => 0 ≤ i ∧ i ≤ l.length ∧ allIn l 0 (x.p - 1) = allIn (l.drop i.toNat) 0 (x.p - 1) ∧ ∀ j : Nat, (j : Int) < i - 1 → l.getD j 0 < l.getD (j + 1) 0) ?_ 0 ⟨by omega, by omega, rfl, fun j hj => by omega⟩
  rintro i ⟨h0, h3, hA, hJ⟩ ih
  simp only [impl_Colouring_isSet.l0]
  refine Run.ite (fun h => ?_) (fun h => ?_)
  · have hd : l.drop i.toNat = l[i.toNat]'(by omega) :: l.drop (i.toNat + 1) := List.drop_eq_getElem_cons (by omega)
    refine Run.bindE (Run.getI' h0 h) ?_
    refine Run.bindE (impl_Colouring_has_run x (by omega) _) ?_
    rw [w64_id (x := i + 1) (by omega)]
    refine Run.itn (fun h5 => ?_) (fun h5 => ?_)
    · refine Run.ret ?_
      rw [hA, hd, allIn_cons, Bool.eq_false_iff.mpr h5, Bool.false_and, Bool.false_and]
    have hA' : allIn l 0 (x.p - 1) = allIn (l.drop (i + 1).toNat) 0 (x.p - 1) := by rw [hA, hd, show (i + 1).toNat = i.toNat + 1 by omega, allIn_cons, h5, Bool.true_and]
    refine Run.ite (fun h6 => ?_) (fun h6 => ?_)
    · rw [w64_id (x := i - 1) (by omega)]
      refine Run.bindE (Run.getI' (by omega) (by omega)) ?_
      have e1 : l.getD (i - 1).toNat 0 = l[(i - 1).toNat]'(by omega) := by rw [List.getD_eq_getElem?_getD, List.getElem?_eq_getElem (by omega)]; rfl
      have e2 : l.getD ((i - 1).toNat + 1) 0 = l[i.toNat]'(by omega) := by rw [show (i - 1).toNat + 1 = i.toNat by omega, List.getD_eq_getElem?_getD, List.getElem?_eq_getElem (by omega)]; rfl
      refine Run.ite (fun h7 => ?_) (fun h7 => ?_)
      · refine Run.ret ?_
        have : adjB l = false := decide_eq_false fun hq => by
          have := hq (i - 1).toNat (by omega)
          omega
        rw [this, Bool.and_false]
      · refine ih (i + 1) ⟨by omega, by omega, hA', fun j hj => ?_⟩ (by omega)
        by_cases ej : (j : Int) < i - 1
        · exact hJ j ej
        · obtain rfl : j = (i - 1).toNat := by omega
          omega
    · exact ih (i + 1) ⟨by omega, by omega, hA', fun j hj => by omega⟩ (by omega)
  · refine Run.ret ?_
    have h1 : allIn l 0 (x.p - 1) = true := by rw [hA, List.drop_eq_nil_of_le (by omega)]; rfl
    have h2 : adjB l = true := decide_eq_true fun j hj => hJ j (by omega)
    rw [h1, h2]; rfl

theorem impl_IsClique_1_run (x : Col) (hc : IsCol x) (c : Int) (l : List Int) (hl : l.length < 4611686018427387904) : Run (fun k => impl_IsClique_1.f k x c l) (· = (decide (0 ≤ c ∧ c ≤ x.k - 1) && (allIn l 0 (x.p - 1) && adjB l))) := by
  unfold impl_IsClique_1.f
  refine Run.bindE (impl_Colouring_hasColour_run x (by have := hc.2.1; omega) c) ?_
  refine Run.itn (fun h => Run.ret (by rw [Bool.eq_false_iff.mpr h]; rfl)) (fun h => ?_)
  refine Run.bindE (impl_Colouring_isSet_run x hc l hl) ?_
  exact Run.ret (by rw [h, Bool.true_and])

theorem impl_Colouring_code__IsClique_1_run (x : Col) (hx : ByteC x) (c : Int) (l : List Int) (hl : l.length < 4611686018427387904) : Run (fun k => impl_Colouring_code__IsClique_1.f k x c l) (· = given (isB x) (decide (0 ≤ c ∧ c ≤ x.k - 1) && (allIn l 0 (x.p - 1) && adjB l))) := by
  unfold impl_Colouring_code__IsClique_1.f
  refine Run.bindE (impl_Colouring_isColouring_run x hx) ?_
  refine Run.itn (fun h1 => ?_) (fun h1 => ?_)
  · exact Run.ret (by rw [given, if_neg h1])
  rw [given, if_pos h1]
  refine Run.bindE (impl_IsClique_1_run x (isB_spec h1) c l hl) ?_
  exact Run.ite (fun h3 => Run.ret (by rw [if_pos h3])) (fun h3 => Run.ret (by rw [if_neg h3]))

theorem impl_number_run (i j : Nat) (hi : i ≤ 1000) (hj : j ≤ 1000) : Run (fun _ => impl_number.f i j) (· = (edg i j : Int)) := by
  unfold impl_number.f
  have hm : (max i j) ≤ 1000 := by omega
  have ti := tri_mono hm
  have tt : tri 1000 = 499500 := rfl
  rw [show max (i : Int) (j : Int) = ((max i j : Nat) : Int) by omega, show min (i : Int) (j : Int) = ((min i j : Nat) : Int) by omega]
  refine Run.ret ?_
  rw [tri_int (by omega), w64_id (by omega), edg]
  split
  · rw [show max i j = i by omega, show min i j = j by omega]; rfl
  · rw [show max i j = j by omega, show min i j = i by omega]; rfl

theorem impl_Colouring_at_run (x : Col) (hx : ByteC x) (hp : 0 ≤ x.p ∧ x.p ≤ 17) (i j : Nat) (hi : (i : Int) < x.p) (hj : (j : Int) < x.p) (hn : i ≠ j) : Run (fun _ => impl_Colouring_at.f x i j) (· = colr x i j) := by
  unfold impl_Colouring_at.f
  refine Run.bindE (impl_number_run i j (by omega) (by omega)) ?_
  have := edg_lt136 (i := i) (j := j) (p := x.p.toNat) (by omega) (by omega) (by omega) hn
  refine Run.bindE (Run.getB' (by omega) (by omega)) ?_
  have hb := hx ((edg i j : Nat) : Int).toNat
  exact Run.ret (w64_id (by omega))

theorem impl_Colouring_joins_run (x : Col) (hx : ByteC x) (hp : 0 ≤ x.p ∧ x.p ≤ 17) (i j : Nat) (c : Int) (hi : (i : Int) < x.p) (hj : (j : Int) < x.p) : Run (fun _ => impl_Colouring_joins.f x i j c) (· = joinsB x i c j) := by
  unfold impl_Colouring_joins.f
  refine Run.ite (fun h => ?_) (fun h => ?_)
  · refine Run.bindE (impl_Colouring_at_run x hx hp i j hi hj (by omega)) ?_
    refine Run.ret ?_
    rw [joinsB, decide_eq_true (p := i ≠ j) (by omega), Bool.true_and]
  · refine Run.ret ?_
    rw [joinsB, decide_eq_false (p := i ≠ j) (by omega), Bool.false_and]

theorem impl_Colouring_goesWith_1_run (x : Col) (hx : ByteC x) (hp : 0 ≤ x.p ∧ x.p ≤ 17) (i p : Nat) (c : Int) (hi : (i : Int) < x.p) (hj : (p : Int) < x.p) : Run (fun _ => impl_Colouring_goesWith_1.f i x p c) (· = !joinsB x i c p) := by
  unfold impl_Colouring_goesWith_1.f
  refine Run.bindE (impl_Colouring_joins_run x hx hp i p c hi hj) ?_
  exact Run.ret rfl

theorem slices_IndexFunc_int64_int64__Colouring_goesWith_1_run (x : Col) (hx : ByteC x) (hp : 0 ≤ x.p ∧ x.p ≤ 17) (L : List Nat) (p : Nat) (c : Int) (hL : L.length < 1000000) (hi : ∀ i ∈ L, (i : Int) < x.p) (hj : (p : Int) < x.p) : Run (fun k => slices_IndexFunc_int64_int64__Colouring_goesWith_1.f k (L.map Int.ofNat) x p c) (fun r => decide (r ≥ 0) = !withB x c L p) := by
  unfold slices_IndexFunc_int64_int64__Colouring_goesWith_1.f
  have hl : (L.map Int.ofNat).length = L.length := List.length_map ..
  refine Run.loop (L := fun q (i : Int) => slices_IndexFunc_int64_int64__Colouring_goesWith_1.l0 q (L.map Int.ofNat) x p c i) (fun i => (L.length - i).toNat) (fun i => 0 ≤ i ∧ i ≤ L.length ∧ withB x c L p = withB x c (L.drop i.toNat) p) ?_ 0 ⟨by omega, by omega, rfl⟩
  rintro i ⟨h0, h3, hJ⟩ ih
  simp only [slices_IndexFunc_int64_int64__Colouring_goesWith_1.l0]
  rw [hl]
  refine Run.ite (fun h => ?_) (fun h => ?_)
  · have hd : L.drop i.toNat = L[i.toNat]'(by omega) :: L.drop (i.toNat + 1) := List.drop_eq_getElem_cons (by omega)
    refine Run.bindE (Run.getI' h0 (by omega)) ?_
    rw [w64_id (x := i + 1) (by omega), List.getElem_map]
    refine Run.bindE (impl_Colouring_goesWith_1_run x hx hp _ p c (hi _ (List.getElem_mem _)) hj) ?_
    have hw : withB x c (L.drop i.toNat) p = (joinsB x (L[i.toNat]'(by omega)) c p && withB x c (L.drop (i.toNat + 1)) p) := by rw [hd]; rfl
    refine Run.ite (fun h5 => ?_) (fun h5 => ?_)
    · refine Run.ret ?_
      simp only [Bool.not_eq_true'] at h5
      rw [hJ, hw, h5, Bool.false_and, Bool.not_false]
      exact decide_eq_true h0
    · refine ih (i + 1) ⟨by omega, by omega, ?_⟩ (by omega)
      simp only [Bool.not_eq_true', Bool.not_eq_false] at h5
      rw [hJ, hw, show (i + 1).toNat = i.toNat + 1 by omega, h5, Bool.true_and]
  · refine Run.ret ?_
    rw [hJ, List.drop_eq_nil_of_le (by omega)]; rfl

theorem slices_ContainsFunc_int64_int64__Colouring_goesWith_1_run (x : Col) (hx : ByteC x) (hp : 0 ≤ x.p ∧ x.p ≤ 17) (L : List Nat) (p : Nat) (c : Int) (hL : L.length < 1000000) (hi : ∀ i ∈ L, (i : Int) < x.p) (hj : (p : Int) < x.p) : Run (fun k => slices_ContainsFunc_int64_int64__Colouring_goesWith_1.f k (L.map Int.ofNat) x p c) (· = !withB x c L p) := by
  unfold slices_ContainsFunc_int64_int64__Colouring_goesWith_1.f
  refine Run.bind (slices_IndexFunc_int64_int64__Colouring_goesWith_1_run x hx hp L p c hL hi hj) fun r hr => ?_
  exact Run.ret hr

theorem impl_Colouring_goesWith_run (x : Col) (hx : ByteC x) (hp : 0 ≤ x.p ∧ x.p ≤ 17) (L : List Nat) (p : Nat) (c : Int) (hL : L.length < 1000000) (hi : ∀ i ∈ L, (i : Int) < x.p) (hj : (p : Int) < x.p) : Run (fun k => impl_Colouring_goesWith.f k x c (L.map Int.ofNat) p) (· = withB x c L p) := by
  unfold impl_Colouring_goesWith.f
  refine Run.bindE (slices_ContainsFunc_int64_int64__Colouring_goesWith_1_run x hx hp L p c hL hi hj) ?_
  exact Run.ret (Bool.not_not _)

theorem impl_Colouring_isClique_run (x : Col) (hx : ByteC x) (hp : 0 ≤ x.p ∧ x.p ≤ 17) (c : Int) (L : List Nat) (hL : ∀ v ∈ L, (v : Int) < x.p) (hl : L.length ≤ 17) : Run (fun k => impl_Colouring_isClique.f k x c (L.map Int.ofNat)) (· = cliqueL x c L) := by
  unfold impl_Colouring_isClique.f
  refine Run.loop (L := fun q (i : Int) => impl_Colouring_isClique.l0 q x c (L.map Int.ofNat) i) (fun i => (L.length - i).toNat) (fun i => 0 ≤ i ∧ i ≤ L.length ∧ ∀ a : Nat, (a : Int) < i → ∀ k, k < a → joinsB x (L.getD k 0) c (L.getD a 0) = true) ?_ 0 ⟨by omega, by omega, fun a ha => by omega⟩
  rintro i ⟨h0, h3, hJ⟩ ih
  simp only [impl_Colouring_isClique.l0]
  rw [List.length_map]
  obtain ⟨i, rfl⟩ := Int.eq_ofNat_of_zero_le h0
  refine Run.ite (fun h => ?_) (fun h => ?_)
  · refine Run.bindE (a := (L.getD i 0 : Int)) ((Run.getI' (by omega) (by rw [List.length_map]; omega)).mono fun r e => by
      rw [e, List.getD_eq_getElem?_getD, List.getElem?_eq_getElem (show i < L.length by omega)]; simp) ?_
    refine Run.bind (Q := fun _ => True) (Run.guard (by omega) trivial) fun _ _ => ?_
    have et : ((L.map Int.ofNat).take ((i : Nat) : Int).toNat).drop (0 : Int).toNat = (L.take i).map Int.ofNat := by
      rw [Int.toNat_natCast, ← List.map_take]; rfl
    rw [et]
    have hv : (L.getD i 0 : Int) < x.p := by
      rw [List.getD_eq_getElem?_getD, List.getElem?_eq_getElem (show i < L.length by omega)]; exact hL _ (List.getElem_mem _)
    refine Run.bindE (impl_Colouring_goesWith_run x hx hp (L.take i) (L.getD i 0) c (by simp; omega) (fun u hu => hL u (List.mem_of_mem_take hu)) hv) ?_
    rw [w64_id (x := (i : Int) + 1) (by omega)]
    have hw := withB_take (x := x) (c := c) (L := L) (i := i) (v := L.getD i 0) (by omega)
    refine Run.ite (fun h5 => ?_) (fun h5 => Run.ret ?_)
    · refine ih ((i : Int) + 1) ⟨by omega, by omega, fun a ha k' hk' => ?_⟩ (by omega)
      by_cases e : (a : Int) < i
      · exact hJ a e k' hk'
      · obtain rfl : a = i := by omega
        exact hw.mp h5 k' (by omega)
    · symm
      exact decide_eq_false fun hq => h5 (hw.mpr fun k hk => hq i (by omega) k hk)
  · exact Run.ret (decide_eq_true fun a ha k hk => hJ a (by omega) k hk).symm

theorem impl_IsClique_run (x : Col) (hx : ByteC x) (c : Int) (l : List Int) (hl : l.length < 4611686018427387904) : Run (fun k => impl_IsClique.f k x c l) (· = (if given (isB x) (decide (0 ≤ c ∧ c ≤ x.k - 1) && (allIn l 0 (x.p - 1) && adjB l)) = 0 then (cliqueL x c (l.map Int.toNat), 0) else (false, given (isB x) (decide (0 ≤ c ∧ c ≤ x.k - 1) && (allIn l 0 (x.p - 1) && adjB l))))) := by
  unfold impl_IsClique.f
  refine Run.bindE (impl_Colouring_code__IsClique_1_run x hx c l hl) ?_
  refine Run.ite (fun h => Run.ret (by rw [if_neg h])) (fun h => ?_)
  have hz := Decidable.not_not.mp h
  rw [if_pos hz]
  obtain ⟨h1, h2⟩ := given_zero hz
  have hc := isB_spec h1
  have h17 := hc.1
  simp only [Bool.and_eq_true] at h2
  obtain ⟨L, rfl, hr, hL, hl'⟩ := points_nat (points_of hc h2.2.1 h2.2.2)
  have e : (L.map Int.ofNat).map Int.toNat = L := by rw [List.map_map]; exact (List.map_congr_left fun v _ => rfl).trans (List.map_id L)
  rw [e]
  refine Run.bindE (impl_Colouring_isClique_run x hx (by omega) c L hL hl') ?_
  exact Run.ret rfl
end Go.Proofs.Ytdpamdedomkomaa.P
