/- What the pure functions come to, one by one (part 7). -/
import Derived.Test.YtocjhmeekecdiaaPFnExactFreeChanges6
import Derived.Test.YtocjhmeekecdiaaGFnExactFreeChanges10
namespace Go.Proofs.Ytocjhmeekecdiaa.P
open Go Go.RowKit Go.Proofs.Ytocjhmeekecdiaa.K Go.Proofs.Ytocjhmeekecdiaa.G
set_option linter.unusedVariables false
set_option linter.unusedSimpArgs false

theorem impl_Colouring_extendingCode__always_run (x : Col) (hx : ByteC x) (l : List Int) (hl : l.length < 4611686018427387904) (most : Int) : Run (fun k => impl_Colouring_extendingCode__always.f k x l most) (· = (if given (isB x) (decide ((l.length : Int) = x.k) && allIn l 1 17) = 0 then (if avoidsB x l = true then (if x.p > most then 3 else 0) else 5) else given (isB x) (decide ((l.length : Int) = x.k) && allIn l 1 17))) := by
  unfold impl_Colouring_extendingCode__always.f
  refine Run.bindE (impl_Colouring_sizesCode__always_run x hx l hl) ?_
  refine Run.ite (fun h => Run.ret (by rw [if_neg h])) (fun h => ?_)
  have hz := Decidable.not_not.mp h
  rw [if_pos hz]
  obtain ⟨h1, h2⟩ := given_zero hz
  have hc := isB_spec h1
  have h17 := hc.1
  simp only [Bool.and_eq_true, decide_eq_true_eq] at h2
  refine Run.bindE (impl_Colouring_avoids_run x hx hc.1 (by have := hc.2.1; omega) l h2.1 h2.2) ?_
  refine Run.ite (fun h => ?_) (fun h => Run.ret (by rw [if_neg h]))
  rw [if_pos h]
  exact Run.ite (fun h => Run.ret (by rw [if_pos h])) (fun h => Run.ret (by rw [if_neg h]))

theorem impl_FreeChanges_1_run (x : Col) (hx : ByteC x) (hp : 0 ≤ x.p ∧ x.p ≤ 17) (i j p : Nat) (c : Int) (hi : (i : Int) < x.p) (hj : (j : Int) < x.p) (hq : (p : Int) < x.p) : Run (fun _ => impl_FreeChanges_1.f p x i c j) (· = (joinsB x i c p && joinsB x j c p)) := by
  unfold impl_FreeChanges_1.f
  refine Run.bindE (impl_Colouring_joins_run x hx hp i p c hi hq) ?_
  refine Run.itn (fun h => Run.ret (by rw [Bool.eq_false_iff.mpr h]; rfl)) (fun h => ?_)
  refine Run.bindE (impl_Colouring_joins_run x hx hp j p c hj hq) ?_
  exact Run.ret (by rw [h, Bool.true_and])

theorem impl_Colouring_that__FreeChanges_1_run (x : Col) (hx : ByteC x) (hp : 0 ≤ x.p ∧ x.p ≤ 17) (i j : Nat) (c : Int) (hi : (i : Int) < x.p) (hj : (j : Int) < x.p) : Run (fun k => impl_Colouring_that__FreeChanges_1.f k x i c j) (· = sel (fun t => joinsB x i c t && joinsB x j c t) x.p.toNat) := by
  unfold impl_Colouring_that__FreeChanges_1.f
  refine Run.loop (L := fun q (z : List Int × Int) => impl_Colouring_that__FreeChanges_1.l0 q x i c j z.1 z.2) (fun z => (x.p - z.2).toNat) (fun z => 0 ≤ z.2 ∧ z.2 ≤ x.p ∧ z.1 = sel (fun t => joinsB x i c t && joinsB x j c t) z.2.toNat) ?_ ([], 0) ⟨by simp only; omega, by simp only; omega, rfl⟩
  rintro ⟨l, t⟩ ⟨h0, h3, hl⟩ ih
  simp only at h0 h3 hl
  simp only [impl_Colouring_that__FreeChanges_1.l0]
  obtain ⟨t, rfl⟩ := Int.eq_ofNat_of_zero_le h0
  simp only [Int.toNat_natCast] at hl
  refine Run.ite (fun h => ?_) (fun h => ?_)
  · rw [w64_id (x := (t : Int) + 1) (by omega)]
    refine Run.bindE (impl_FreeChanges_1_run x hx hp i j t c hi hj h) ?_
    refine Run.ite (fun h1 => ?_) (fun h1 => ?_)
    · have hlen := sel_length (fun t => joinsB x i c t && joinsB x j c t) t
      refine Run.bindE (Run.push' (by rw [hl]; omega)) ?_
      refine ih (_, (t : Int) + 1) ⟨by simp only; omega, by simp only; omega, ?_⟩ (by simp only; omega)
      simp only
      rw [show ((t : Int) + 1).toNat = t + 1 by omega, sel_yes h1, hl]
    · refine ih (_, (t : Int) + 1) ⟨by simp only; omega, by simp only; omega, ?_⟩ (by simp only; omega)
      simp only
      rw [show ((t : Int) + 1).toNat = t + 1 by omega, sel_no h1, hl]
  · refine Run.ret ?_
    rw [hl, show x.p.toNat = t by omega]

theorem impl_Colouring_hasClique_run (x : Col) (hx : ByteC x) (hp : 0 ≤ x.p ∧ x.p ≤ 17) (c : Int) : ∀ (m : Nat) (L : List Nat), (∀ i ∈ L, (i : Int) < x.p) → L.length ≤ 1000 →
    Run (fun k => impl_Colouring_hasClique.f k x c (m : Int) (L.map Int.ofNat)) (· = !decide (cnum (fun i j => joinsB x i c j) L m = 0)) := by
  intro m
  induction m with
  | zero =>
    intro L hL hl
    refine Run.step ?_
    simp only [impl_Colouring_hasClique.f]
    exact Run.yes (by omega) (Run.ret rfl)
  | succ m ihm =>
    intro L hL hl
    refine Run.step ?_
    simp only [impl_Colouring_hasClique.f]
    refine Run.no (by omega) ?_
    refine Run.bindE (impl_size_int64_run _) ?_
    rw [List.length_map]
    refine Run.ite (fun h => Run.ret ?_) (fun h => ?_)
    · rw [cnum_short _ _ L (m + 1) (Nat.le_refl _) (by omega)]; rfl
    by_cases hm : m > 1000000
    · omega
    refine Run.loop (L := fun q (i : Int) => impl_Colouring_hasClique.l0 q x c ((m + 1 : Nat) : Int) (L.map Int.ofNat) i) (fun i => (L.length - i).toNat) (fun i => 0 ≤ i ∧ i ≤ L.length ∧ cnum (fun i j => joinsB x i c j) L (m + 1) = cnum (fun i j => joinsB x i c j) (L.drop i.toNat) (m + 1)) ?_ 0 ⟨by omega, by omega, rfl⟩
    rintro i ⟨h0, h3, hc⟩ ih
    simp only [impl_Colouring_hasClique.l0]
    rw [List.length_map]
    obtain ⟨i, rfl⟩ := Int.eq_ofNat_of_zero_le h0
    simp only [Int.toNat_natCast] at ih hc ⊢
    refine Run.ite (fun hi => ?_) (fun hi => Run.ret ?_)
    · have hil : i < L.length := by omega
      have hd : L.drop i = L[i] :: L.drop (i + 1) := List.drop_eq_getElem_cons hil
      refine Run.bindE (a := (L[i] : Int)) ((Run.getI' (by omega) (by rw [List.length_map]; omega)).mono fun r e => by rw [e]; simp) ?_
      rw [w64_id (x := (i : Int) + 1) (by omega)]
      refine Run.bind (Q := fun _ => True) (Run.guard (by omega) trivial) fun _ _ => ?_
      have er : ((L.map Int.ofNat).take (L.length : Int).toNat).drop ((i : Int) + 1).toNat = (L.drop (i + 1)).map Int.ofNat := by
        rw [List.take_of_length_le (by rw [List.length_map]; omega), show ((i : Int) + 1).toNat = i + 1 by omega, List.map_drop]
      generalize hR : L.drop (i + 1) = R at *
      have hRl : R.length ≤ L.length := by rw [← hR, List.length_drop]; omega
      have hRm : ∀ j ∈ R, (j : Int) < x.p := fun j hj => hL j (List.mem_of_mem_drop (hR ▸ hj))
      refine Run.loop (L := fun q (z : List Int × Int) => impl_Colouring_hasClique.l1 q x c ((m + 1 : Nat) : Int) (L.map Int.ofNat) i L[i] z.1 z.2) (fun z => (R.length - z.2).toNat) (fun z => 0 ≤ z.2 ∧ z.2 ≤ R.length ∧ z.1 = ((R.take z.2.toNat).filter (joinsB x L[i] c)).map Int.ofNat) ?_ ([], 0) ⟨by simp only; omega, by simp only; omega, rfl⟩
      rintro ⟨o, j⟩ ⟨g0, g3, ho⟩ ih2
      simp only at g0 g3 ho
      subst ho
      simp only [impl_Colouring_hasClique.l1]
      rw [List.length_map, w64_id (x := (i : Int) + 1) (by omega), er, List.length_map]
      obtain ⟨j, rfl⟩ := Int.eq_ofNat_of_zero_le g0
      simp only [Int.toNat_natCast] at ih2 ⊢
      refine Run.ite (fun hj => ?_) (fun hj => ?_)
      · have hjl : j < R.length := by omega
        have ht := List.take_succ_eq_append_getElem hjl
        refine Run.bindE (a := (R[j] : Int)) ((Run.getI' (by omega) (by rw [List.length_map]; omega)).mono fun r e => by rw [e]; simp) ?_
        refine Run.bindE (impl_Colouring_joins_run x hx hp L[i] R[j] c (by have := hL _ (List.getElem_mem hil); omega) (by have := hRm _ (List.getElem_mem hjl); omega)) ?_
        rw [w64_id (x := (j : Int) + 1) (by omega)]
        refine Run.ite (fun hq => ?_) (fun hq => ?_)
        · have hfl := List.length_filter_le (joinsB x L[i] c) (R.take j)
          rw [List.length_take] at hfl
          refine Run.bindE (Run.push' (by rw [List.length_map]; omega)) ?_
          refine ih2 (_, (j : Int) + 1) ⟨by simp only; omega, by simp only; omega, ?_⟩ (by simp only; omega)
          simp only
          rw [show ((j : Int) + 1).toNat = j + 1 by omega, ht, List.filter_append, List.filter_cons_of_pos hq, List.filter_nil, List.map_append]; rfl
        · refine ih2 (_, (j : Int) + 1) ⟨by simp only; omega, by simp only; omega, ?_⟩ (by simp only; omega)
          simp only
          rw [show ((j : Int) + 1).toNat = j + 1 by omega, ht, List.filter_append, List.filter_cons_of_neg hq, List.filter_nil, List.append_nil]
      · rw [List.take_of_length_le (by omega), w64_id (x := ((m + 1 : Nat) : Int) - 1) (by omega), show ((m + 1 : Nat) : Int) - 1 = (m : Int) by omega]
        refine Run.bindE (ihm (R.filter (joinsB x L[i] c)) (fun j hj => hRm j (List.mem_filter.mp hj).1) (by have := List.length_filter_le (joinsB x L[i] c) R; omega)) ?_
        replace hc : cnum (fun i j => joinsB x i c j) L (m + 1) = cnum (fun i j => joinsB x i c j) (R.filter (joinsB x L[i] c)) m + cnum (fun i j => joinsB x i c j) R (m + 1) := by rw [hc, hd]; rfl
        refine Run.ite (fun hq => Run.ret ?_) (fun hq => ?_)
        · have hne : cnum (fun i j => joinsB x i c j) (R.filter (joinsB x L[i] c)) m ≠ 0 := by simpa using hq
          rw [decide_eq_false (show ¬ cnum (fun i j => joinsB x i c j) L (m + 1) = 0 by omega)]; rfl
        · have hz : cnum (fun i j => joinsB x i c j) (R.filter (joinsB x L[i] c)) m = 0 := by simpa using hq
          refine ih ((i : Int) + 1) ⟨by omega, by omega, ?_⟩ (by omega)
          rw [show ((i : Int) + 1).toNat = i + 1 by omega, hR]; omega
    · rw [hc, List.drop_eq_nil_of_le (by omega), cnum_nil]; rfl
end Go.Proofs.Ytocjhmeekecdiaa.P
