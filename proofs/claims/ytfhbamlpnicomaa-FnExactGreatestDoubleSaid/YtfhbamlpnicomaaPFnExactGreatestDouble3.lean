/- What the pure functions come to, one by one (part 3). -/
import Derived.Test.YtfhbamlpnicomaaPFnExactGreatestDouble2
import Derived.Test.YtfhbamlpnicomaaGFnExactGreatestDouble6
namespace Go.Proofs.Ytfhbamlpnicomaa.P
open Go Go.RowKit Go.Proofs.Ytfhbamlpnicomaa.K Go.Proofs.Ytfhbamlpnicomaa.G
set_option linter.unusedVariables false
set_option linter.unusedSimpArgs false

theorem impl_Colouring_double_1_run (x : Col) (hx : ByteC x) (hp : 0 ≤ x.p ∧ x.p ≤ 17) (t i j : Nat) (c : Int) (hi : (i : Int) < x.p) (hj : (j : Int) < x.p) (ht : (t : Int) < x.p) : Run (fun _ => impl_Colouring_double_1.f t x i c j) (· = (joinsB x i c t && joinsB x j c t)) := by
  unfold impl_Colouring_double_1.f
  refine Run.bindE (impl_Colouring_joins_run x hx hp i t c hi ht) ?_
  refine Run.ite (fun h => ?_) (fun h => ?_)
  · refine Run.bindE (impl_Colouring_joins_run x hx hp j t c hj ht) ?_
    exact Run.ret (by rw [h, Bool.true_and])
  · exact Run.ret (by rw [Bool.eq_false_iff.mpr h, Bool.false_and])

theorem impl_Colouring_that__Colouring_double_1_run (x : Col) (hx : ByteC x) (hp : 0 ≤ x.p ∧ x.p ≤ 17) (i j : Nat) (c : Int) (hi : (i : Int) < x.p) (hj : (j : Int) < x.p) : Run (fun k => impl_Colouring_that__Colouring_double_1.f k x i c j) (· = sel (fun t => joinsB x i c t && joinsB x j c t) x.p.toNat) := by
  unfold impl_Colouring_that__Colouring_double_1.f
  refine Run.loop (L := fun q (z : List Int × Int) => impl_Colouring_that__Colouring_double_1.l0 q x i c j z.1 z.2) (fun z => (x.p - z.2).toNat) (fun z => 0 ≤ z.2 ∧ z.2 ≤ x.p ∧ z.1 = sel (fun t => joinsB x i c t && joinsB x j c t) z.2.toNat) ?_ ([], 0) ⟨by simp only; omega, by simp only; omega, rfl⟩
  rintro ⟨l, t⟩ ⟨h0, h3, hl⟩ ih
  simp only at h0 h3 hl
  simp only [impl_Colouring_that__Colouring_double_1.l0]
  obtain ⟨t, rfl⟩ := Int.eq_ofNat_of_zero_le h0
  simp only [Int.toNat_natCast] at hl
  refine Run.ite (fun h => ?_) (fun h => ?_)
  · rw [w64_id (x := (t : Int) + 1) (by omega)]
    refine Run.bindE (impl_Colouring_double_1_run x hx hp t i j c hi hj h) ?_
    refine Run.ite (fun h1 => ?_) (fun h1 => ?_)
    · have hlen := sel_length (fun t => joinsB x i c t && joinsB x j c t) t
      refine Run.bindE (Run.push' (by rw [hl]; omega)) ?_
      refine ih (_, (t : Int) + 1) ⟨by simp only; omega, by simp only; omega, ?_⟩ (by simp only; omega)
      simp only
      rw [show ((t : Int) + 1).toNat = t + 1 by omega, sel_yes h1, hl]
    · refine ih (_, (t : Int) + 1) ⟨by simp only; omega, by simp only; omega, ?_⟩ (by simp only; omega)
      simp only
      rw [show ((t : Int) + 1).toNat = t + 1 by omega, sel_no h1, hl]
  · refine Run.ret ?_
    rw [hl, show x.p.toNat = t by omega]

theorem impl_size_int64_run (l : List Int) : Run (fun _ => impl_size_int64.f l) (· = (l.length : Int)) := by
  unfold impl_size_int64.f
  exact Run.ret rfl

theorem impl_Colouring_double_run (x : Col) (hx : ByteC x) (hp : 0 ≤ x.p ∧ x.p ≤ 17) (c : Int) (book : Bool) : Run (fun k => impl_Colouring_double.f k x c book) (· = dAll x c book x.p.toNat) := by
  unfold impl_Colouring_double.f
  refine Run.loop (L := fun q (z : List Int × Int × Int) => impl_Colouring_double.l0 q x c book z.1 z.2.1 z.2.2) (fun z => (x.p - z.2.2).toNat) (fun z => 0 ≤ z.2.2 ∧ z.2.2 ≤ x.p ∧ (z.1, z.2.1) = dAll x c book z.2.2.toNat) ?_ ([], -1, 0) ⟨by simp only; omega, by simp only; omega, rfl⟩
  rintro ⟨b, m, i⟩ ⟨h0, h3, hs⟩ ih
  simp only at h0 h3 hs
  simp only [impl_Colouring_double.l0]
  obtain ⟨i, rfl⟩ := Int.eq_ofNat_of_zero_le h0
  simp only [Int.toNat_natCast] at ih hs ⊢
  refine Run.ite (fun h => ?_) (fun h => ?_)
  · rw [w64_id (x := (i : Int) + 1) (by omega)]
    refine Run.loop (L := fun q (z : Int × List Int × Int) => impl_Colouring_double.l1 q x c book i z.1 z.2.1 z.2.2) (fun z => (x.p - z.1).toNat) (fun z => (i : Int) + 1 ≤ z.1 ∧ z.1 ≤ x.p ∧ (z.2.1, z.2.2) = dRow x c book i (dAll x c book i) (z.1.toNat - (i + 1))) ?_ ((i : Int) + 1, b, m) ⟨by simp only; omega, by simp only; omega, by simp only; rw [show ((i : Int) + 1).toNat - (i + 1) = 0 by omega]; exact hs⟩
    rintro ⟨j, b, m⟩ ⟨g0, g3, hs⟩ ih2
    simp only at g0 g3 hs
    simp only [impl_Colouring_double.l1]
    obtain ⟨j, rfl⟩ := Int.eq_ofNat_of_zero_le (show 0 ≤ j by omega)
    simp only [Int.toNat_natCast] at ih2 hs ⊢
    refine Run.ite (fun h' => ?_) (fun h' => ?_)
    · have hsucc : ((j : Int) + 1).toNat - (i + 1) = (j - (i + 1)) + 1 := by omega
      have hj : i + 1 + (j - (i + 1)) = j := by omega
      rw [w64_id (x := (j : Int) + 1) (by omega)]
      have yes : dOk x c book i j = true → (cm x c i j : Int) > m → Run (fun q => impl_Colouring_double.l1 q x c book i ((j : Int) + 1) [(i : Int), (j : Int)] (cm x c i j : Int)) (· = dAll x c book x.p.toNat) := fun h1 h2 => by
        refine ih2 ((j : Int) + 1, _, _) ⟨by simp only; omega, by simp only; omega, ?_⟩ (by simp only; omega)
        simp only
        rw [hsucc, dRow, ← hs, hj, dStep, if_pos ⟨h1, h2⟩]
      have no : ¬ (dOk x c book i j = true ∧ (cm x c i j : Int) > m) → Run (fun q => impl_Colouring_double.l1 q x c book i ((j : Int) + 1) b m) (· = dAll x c book x.p.toNat) := fun hq => by
        refine ih2 ((j : Int) + 1, _, _) ⟨by simp only; omega, by simp only; omega, ?_⟩ (by simp only; omega)
        simp only
        rw [hsucc, dRow, ← hs, hj, dStep, if_neg hq]
      refine Run.ite (fun h1 => ?_) (fun h1 => ?_)
      · refine Run.bindE (impl_Colouring_joins_run x hx hp i j c h h') ?_
        refine Run.itn (fun h2 => no (fun hq => h2 ?_)) (fun h2 => ?_)
        · have := hq.1
          rw [dOk, h1] at this
          simpa using this
        refine Run.bindE (impl_Colouring_that__Colouring_double_1_run x hx hp i j c h h') ?_
        refine Run.bindE (impl_size_int64_run _) ?_
        exact Run.ite (fun h3 => yes (by rw [dOk, h2, Bool.or_true]) h3) (fun h3 => no (fun hq => h3 hq.2))
      · refine Run.bindE (impl_Colouring_that__Colouring_double_1_run x hx hp i j c h h') ?_
        refine Run.bindE (impl_size_int64_run _) ?_
        exact Run.ite (fun h3 => yes (by rw [dOk, Bool.eq_false_iff.mpr h1]; rfl) h3) (fun h3 => no (fun hq => h3 hq.2))
    · rw [w64_id (x := (i : Int) + 1) (by omega)]
      refine ih (_, _, (i : Int) + 1) ⟨by simp only; omega, by simp only; omega, ?_⟩ (by simp only; omega)
      simp only
      rw [show ((i : Int) + 1).toNat = i + 1 by omega, dAll, hs, show j - (i + 1) = x.p.toNat - (i + 1) by omega]
  · refine Run.ret ?_
    rw [hs, show x.p.toNat = i by omega]

theorem impl_Colouring_greatestDouble_run (x : Col) (hx : ByteC x) (c : Int) (book : Bool) : Run (fun k => impl_Colouring_greatestDouble.f k x c book) (· = doubleM x c book) := by
  unfold impl_Colouring_greatestDouble.f
  refine Run.bindE (impl_Colouring_colourCode_run x hx c true) ?_
  rw [Bool.and_true, doubleM]
  refine Run.ite (fun h => Run.ret (by rw [if_neg h])) (fun h => ?_)
  have hz := Decidable.not_not.mp h
  have h17 := (isB_spec (given_zero hz).1).1
  rw [if_pos hz]
  refine Run.bindE (impl_Colouring_double_run x hx (by omega) c book) ?_
  exact Run.ite (fun h => Run.ret (by rw [if_pos h])) (fun h => Run.ret (by rw [if_neg h]))

theorem impl_GreatestDouble_run (x : Col) (hx : ByteC x) (c : Int) : Run (fun k => impl_GreatestDouble.f k x c) (· = doubleM x c false) := by
  unfold impl_GreatestDouble.f
  refine Run.bindE (impl_Colouring_greatestDouble_run x hx c false) ?_
  exact Run.ret rfl

theorem laws_eqInt64S_run (a b : List Int) (ha : a.length < 4611686018427387904) : Run (fun k => laws_eqInt64S.f k a b) (· = decide (a = b)) := by
  unfold laws_eqInt64S.f
  refine Run.ite (fun h => ?_) (fun h => ?_)
  · exact Run.ret (decide_eq_false fun e => h (by rw [e])).symm
  have hl : a.length = b.length := by omega
  refine Run.loop (L := fun q (i : Int) => laws_eqInt64S.l0 q a b i) (fun i => (a.length - i).toNat) (fun i => 0 ≤ i ∧ i ≤ a.length ∧ ∀ (j : Nat) (h : j < a.length), (j : Int) < i → a[j] = b[j]'(by omega)) ?_ 0 ⟨by omega, by omega, fun j _ hj => by omega⟩
  rintro i ⟨h0, h3, hJ⟩ ih
  simp only [laws_eqInt64S.l0]
  refine Run.ite (fun h => ?_) (fun h => ?_)
  · refine Run.bindE (Run.getI' h0 h) ?_
    refine Run.bindE (Run.getI' h0 (by omega)) ?_
    refine Run.ite (fun h5 => ?_) (fun h5 => ?_)
    · exact Run.ret (decide_eq_false fun e => h5 (by simp only [e])).symm
    · rw [w64_id (by omega)]
      refine ih (i + 1) ⟨by omega, by omega, fun j hj hji => ?_⟩ (by omega)
      by_cases ej : (j : Int) < i
      · exact hJ j hj ej
      · obtain rfl : j = i.toNat := by omega
        exact Decidable.not_not.mp h5
  · exact Run.ret (decide_eq_true (List.ext_getElem hl fun j h1 h2 => hJ j h1 (by omega))).symm

theorem laws_markInt64S_run (a : List Int) (k0 : Int) (hk : 0 ≤ k0 ∧ k0 < 1000000000) (ha : a.length < 4611686018427387904) : Run (fun k => laws_markInt64S.f k a k0) (· = (k0 + a.length, seqI k0 a.length)) := by
  unfold laws_markInt64S.f
  refine Run.loop (L := fun q (s : List Int × Int × Int) => laws_markInt64S.l0 q s.1 s.2.1 s.2.2) (fun s => (a.length - s.2.2).toNat) (fun s => 0 ≤ s.2.2 ∧ s.2.2 ≤ a.length ∧ s.2.1 = k0 + s.2.2 ∧ s.1 = seqI k0 s.2.2.toNat ++ a.drop s.2.2.toNat) ?_ (a, k0, 0) ⟨by simp only; omega, by simp only; omega, by simp, by simp [seqI]⟩
  rintro ⟨l, v, i⟩ ⟨h0, h3, hv, hl⟩ ih
  simp only at h0 h3 hv hl
  simp only [laws_markInt64S.l0]
  have hlen : l.length = a.length := by rw [hl]; simp [seqI]; omega
  refine Run.ite (fun h => ?_) (fun h => ?_)
  · refine Run.bindE (Run.getI' h0 h) ?_
    rw [w64_id (x := v + 1) (by omega), w64_id (x := i + 1) (by omega)]
    refine ih (_, v + 1, i + 1) ⟨by simp only; omega, by simp only; omega, by simp only; omega, ?_⟩ (by simp only; omega)
    simp only
    have hd : a.drop i.toNat = a[i.toNat]'(by omega) :: a.drop (i.toNat + 1) := List.drop_eq_getElem_cons (by omega)
    rw [hl, hd, set_append (by simp [seqI]), show (i + 1).toNat = i.toNat + 1 by omega]
    simp only [seqI, List.range_succ, List.map_append, List.append_assoc, List.map_cons, List.map_nil, List.singleton_append]
    rw [hv, show ((i.toNat : Nat) : Int) = i by omega]
  · have : i = a.length := by omega
    subst this
    refine Run.ret ?_
    rw [hl, hv]; simp

theorem laws_heldInt64S_run (n : Nat) (k0 : Int) (hk : 0 ≤ k0 ∧ k0 < 1000000000) (hn : n < 4611686018427387904) : Run (fun k => laws_heldInt64S.f k (seqI k0 n) k0) (· = k0 + n) := by
  unfold laws_heldInt64S.f
  have hlen : (seqI k0 n).length = n := by simp [seqI]
  refine Run.loop (L := fun q (s : Int × Int) => laws_heldInt64S.l0 q (seqI k0 n) s.1 s.2) (fun s => (n - s.2).toNat) (fun s => 0 ≤ s.2 ∧ s.2 ≤ n ∧ s.1 = k0 + s.2) ?_ (k0, 0) ⟨by simp only; omega, by simp only; omega, by simp⟩
  rintro ⟨v, i⟩ ⟨h0, h3, hv⟩ ih
  simp only at h0 h3 hv
  simp only [laws_heldInt64S.l0]
  rw [hlen]
  refine Run.ite (fun h => ?_) (fun h => ?_)
  · refine Run.bindE (Run.getI' h0 (by omega)) ?_
    refine Run.no ?_ ?_
    · simp only [seqI, List.getElem_map, List.getElem_range]; omega
    rw [w64_id (x := v + 1) (by omega), w64_id (x := i + 1) (by omega)]
    exact ih (v + 1, i + 1) ⟨by simp only; omega, by simp only; omega, by simp only; omega⟩ (by simp only; omega)
  · exact Run.ret (by omega)

theorem laws_FnExactGreatestDouble_run (x : Col) (c : Int) (hx : ByteC x) (_ : I64 c) : Run (fun k => laws_FnExactGreatestDouble.f k x c) (· = true) := by
  unfold laws_FnExactGreatestDouble.f
  have hx' := cutC_bytes hx
  have hlen := doubleM_short (cutC x) c false
  refine Run.bindE (laws_toColouring_run x) ?_
  refine Run.bindE (spec_GreatestDouble_run _ hx' c) ?_
  refine Run.bindE (laws_toColouring_run x) ?_
  refine Run.bindE (impl_GreatestDouble_run _ hx' c) ?_
  refine Run.bindE (laws_eqInt64S_run _ _ (by omega)) ?_
  refine Run.yes (decide_eq_true rfl) (Run.no (fun h => h rfl) (Run.no (fun h => h rfl) ?_))
  refine Run.bindE (laws_markInt64S_run _ 1 (by omega) (by omega)) ?_
  refine Run.bindE (laws_heldInt64S_run _ 1 (by omega) (by omega)) ?_
  refine Run.no (by omega) (Run.no (fun h => h rfl) ?_)
  refine Run.bindE (laws_toColouring_run x) ?_
  refine Run.bindE (impl_GreatestDouble_run _ hx' c) ?_
  refine Run.bindE (laws_eqInt64S_run _ _ (by omega)) ?_
  refine Run.yes (decide_eq_true rfl) (Run.no (fun h => h rfl) (Run.no (fun h => h rfl) ?_))
  refine Run.bindE (laws_heldInt64S_run _ 1 (by omega) (by omega)) ?_
  exact Run.no (by omega) (Run.no (fun h => h rfl) (Run.ret rfl))
end Go.Proofs.Ytfhbamlpnicomaa.P
