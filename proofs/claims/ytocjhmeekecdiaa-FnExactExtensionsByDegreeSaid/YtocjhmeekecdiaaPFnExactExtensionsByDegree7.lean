/- What the pure functions come to, one by one (part 7). -/
import Derived.Test.YtocjhmeekecdiaaPFnExactExtensionsByDegree6
import Derived.Test.YtocjhmeekecdiaaGFnExactExtensionsByDegree10
namespace Go.Proofs.Ytocjhmeekecdiaa.P
open Go Go.RowKit Go.Proofs.Ytocjhmeekecdiaa.K Go.Proofs.Ytocjhmeekecdiaa.G
set_option linter.unusedVariables false
set_option linter.unusedSimpArgs false

theorem impl_ExtensionsByDegree_1_run (L : List Nat) (s : List Int) (hL : L.length ≤ 1000) (hs : L.length < s.length) : Run (fun k => impl_ExtensionsByDegree_1.f k (L.map Int.ofNat) s) (· = (true, incE s L)) := by
  unfold impl_ExtensionsByDegree_1.f
  refine Run.loop (L := fun q (z : Int × Int) => impl_ExtensionsByDegree_1.l0 q (L.map Int.ofNat) s z.1 z.2) (fun z => (L.length - z.2).toNat) (fun z => 0 ≤ z.2 ∧ z.2 ≤ L.length ∧ z.1 = (cnt (zeroB L) z.2.toNat : Int)) ?_ (0, 0) ⟨by simp only; omega, by simp only; omega, rfl⟩
  rintro ⟨m, i⟩ ⟨h0, h3, hm⟩ ih
  simp only at h0 h3 hm
  subst hm
  simp only [impl_ExtensionsByDegree_1.l0]
  rw [List.length_map]
  obtain ⟨i, rfl⟩ := Int.eq_ofNat_of_zero_le h0
  simp only [Int.toNat_natCast] at ih ⊢
  have hc := cnt_le (zeroB L) i
  refine Run.ite (fun h => ?_) (fun h => ?_)
  · rw [w64_id (x := (i : Int) + 1) (by omega), w64_id (x := (cnt (zeroB L) i : Int) + 1) (by omega)]
    refine Run.bindE (a := (L.getD i 0 : Int)) ((Run.getI' (by omega) (by rw [List.length_map]; omega)).mono fun r e => by rw [e, List.getD_eq_getElem?_getD, List.getElem?_eq_getElem (show i < L.length by omega)]; simp) ?_
    refine Run.ite (fun h5 => ?_) (fun h5 => ?_)
    · refine ih (_, (i : Int) + 1) ⟨by simp only; omega, by simp only; omega, ?_⟩ (by simp only; omega)
      simp only
      have hz : zeroB L i = true := decide_eq_true (by omega)
      rw [show ((i : Int) + 1).toNat = i + 1 by omega, cnt_succ, if_pos hz]; omega
    · refine ih (_, (i : Int) + 1) ⟨by simp only; omega, by simp only; omega, ?_⟩ (by simp only; omega)
      simp only
      have hz : ¬ zeroB L i = true := fun hq => by have := of_decide_eq_true hq; omega
      rw [show ((i : Int) + 1).toNat = i + 1 by omega, cnt_succ, if_neg hz]; rfl
  · obtain rfl : i = L.length := by omega
    have hc0 : cnt (zeroB L) L.length = cnt0 L := rfl
    rw [hc0] at hc ⊢
    refine Run.bindE (a := s.getD (cnt0 L) 0) ((Run.getI' (by omega) (by omega)).mono fun r e => by rw [e]; exact (getD_at (by omega)).symm) ?_
    refine Run.bind (Q := fun _ => True) ((Run.getI' (by omega) (by omega)).mono fun _ _ => trivial) fun _ _ => ?_
    exact Run.ret rfl

theorem impl_Colouring_hasClique_run (x : Col) (hx : ByteC x) (hp : 0 ≤ x.p ∧ x.p ≤ 17) (c : Int) : ∀ (m : Nat) (L : List Nat), (∀ i ∈ L, (i : Int) < x.p) → L.length ≤ 1000 →
    Run (fun k => impl_Colouring_hasClique.f k x c (m : Int) (L.map Int.ofNat)) (· = !decide (cnum (fun i j => joinsB x i c j) L m = 0)) := by
  intro m
  induction m with
  | zero =>
    intro L hL hl
    refine Run.step ?_
    simp only [impl_Colouring_hasClique.f]
    exact Run.yes (by omega) (Run.ret rfl)
  | succ m ihm =>
    intro L hL hl
    refine Run.step ?_
    simp only [impl_Colouring_hasClique.f]
    refine Run.no (by omega) ?_
    refine Run.bindE (impl_size_int64_run _) ?_
    rw [List.length_map]
    refine Run.ite (fun h => Run.ret ?_) (fun h => ?_)
    · rw [cnum_short _ _ L (m + 1) (Nat.le_refl _) (by omega)]; rfl
    by_cases hm : m > 1000000
    · omega
    refine Run.loop (L := fun q (i : Int) => impl_Colouring_hasClique.l0 q x c ((m + 1 : Nat) : Int) (L.map Int.ofNat) i) (fun i => (L.length - i).toNat) (fun i => 0 ≤ i ∧ i ≤ L.length ∧ cnum (fun i j => joinsB x i c j) L (m + 1) = cnum (fun i j => joinsB x i c j) (L.drop i.toNat) (m + 1)) ?_ 0 ⟨by omega, by omega, rfl⟩
    rintro i ⟨h0, h3, hc⟩ ih
    simp only [impl_Colouring_hasClique.l0]
    rw [List.length_map]
    obtain ⟨i, rfl⟩ := Int.eq_ofNat_of_zero_le h0
    simp only [Int.toNat_natCast] at ih hc ⊢
    refine Run.ite (fun hi => ?_) (fun hi => Run.ret ?_)
    · have hil : i < L.length := by omega
      have hd : L.drop i = L[i] :: L.drop (i + 1) := List.drop_eq_getElem_cons hil
      refine Run.bindE (a := (L[i] : Int)) ((Run.getI' (by omega) (by rw [List.length_map]; omega)).mono fun r e => by rw [e]; simp) ?_
      rw [w64_id (x := (i : Int) + 1) (by omega)]
      refine Run.bind (Q := fun _ => True) (Run.guard (by omega) trivial) fun _ _ => ?_
      have er : ((L.map Int.ofNat).take (L.length : Int).toNat).drop ((i : Int) + 1).toNat = (L.drop (i + 1)).map Int.ofNat := by
        rw [List.take_of_length_le (by rw [List.length_map]; omega), show ((i : Int) + 1).toNat = i + 1 by omega, List.map_drop]
      generalize hR : L.drop (i + 1) = R at *
      have hRl : R.length ≤ L.length := by rw [← hR, List.length_drop]; omega
      have hRm : ∀ j ∈ R, (j : Int) < x.p := fun j hj => hL j (List.mem_of_mem_drop (hR ▸ hj))
      refine Run.loop (L := fun q (z : List Int × Int) => impl_Colouring_hasClique.l1 q x c ((m + 1 : Nat) : Int) (L.map Int.ofNat) i L[i] z.1 z.2) (fun z => (R.length - z.2).toNat) (fun z => 0 ≤ z.2 ∧ z.2 ≤ R.length ∧ z.1 = ((R.take z.2.toNat).filter (joinsB x L[i] c)).map Int.ofNat) ?_ ([], 0) ⟨by simp only; omega, by simp only; omega, rfl⟩
      rintro ⟨o, j⟩ ⟨g0, g3, ho⟩ ih2
      simp only at g0 g3 ho
      subst ho
      simp only [impl_Colouring_hasClique.l1]
      rw [List.length_map, w64_id (x := (i : Int) + 1) (by omega), er, List.length_map]
      obtain ⟨j, rfl⟩ := Int.eq_ofNat_of_zero_le g0
      simp only [Int.toNat_natCast] at ih2 ⊢
      refine Run.ite (fun hj => ?_) (fun hj => ?_)
      · have hjl : j < R.length := by omega
        have ht := List.take_succ_eq_append_getElem hjl
        refine Run.bindE (a := (R[j] : Int)) ((Run.getI' (by omega) (by rw [List.length_map]; omega)).mono fun r e => by rw [e]; simp) ?_
        refine Run.bindE (impl_Colouring_joins_run x hx hp L[i] R[j] c (by have := hL _ (List.getElem_mem hil); omega) (by have := hRm _ (List.getElem_mem hjl); omega)) ?_
        rw [w64_id (x := (j : Int) + 1) (by omega)]
        refine Run.ite (fun hq => ?_) (fun hq => ?_)
        · have hfl := List.length_filter_le (joinsB x L[i] c) (R.take j)
          rw [List.length_take] at hfl
          refine Run.bindE (Run.push' (by rw [List.length_map]; omega)) ?_
          refine ih2 (_, (j : Int) + 1) ⟨by simp only; omega, by simp only; omega, ?_⟩ (by simp only; omega)
          simp only
          rw [show ((j : Int) + 1).toNat = j + 1 by omega, ht, List.filter_append, List.filter_cons_of_pos hq, List.filter_nil, List.map_append]; rfl
        · refine ih2 (_, (j : Int) + 1) ⟨by simp only; omega, by simp only; omega, ?_⟩ (by simp only; omega)
          simp only
          rw [show ((j : Int) + 1).toNat = j + 1 by omega, ht, List.filter_append, List.filter_cons_of_neg hq, List.filter_nil, List.append_nil]
      · rw [List.take_of_length_le (by omega), w64_id (x := ((m + 1 : Nat) : Int) - 1) (by omega), show ((m + 1 : Nat) : Int) - 1 = (m : Int) by omega]
        refine Run.bindE (ihm (R.filter (joinsB x L[i] c)) (fun j hj => hRm j (List.mem_filter.mp hj).1) (by have := List.length_filter_le (joinsB x L[i] c) R; omega)) ?_
        replace hc : cnum (fun i j => joinsB x i c j) L (m + 1) = cnum (fun i j => joinsB x i c j) (R.filter (joinsB x L[i] c)) m + cnum (fun i j => joinsB x i c j) R (m + 1) := by rw [hc, hd]; rfl
        refine Run.ite (fun hq => Run.ret ?_) (fun hq => ?_)
        · have hne : cnum (fun i j => joinsB x i c j) (R.filter (joinsB x L[i] c)) m ≠ 0 := by simpa using hq
          rw [decide_eq_false (show ¬ cnum (fun i j => joinsB x i c j) L (m + 1) = 0 by omega)]; rfl
        · have hz : cnum (fun i j => joinsB x i c j) (R.filter (joinsB x L[i] c)) m = 0 := by simpa using hq
          refine ih ((i : Int) + 1) ⟨by omega, by omega, ?_⟩ (by omega)
          rw [show ((i : Int) + 1).toNat = i + 1 by omega, hR]; omega
    · rw [hc, List.drop_eq_nil_of_le (by omega), cnum_nil]; rfl
end Go.Proofs.Ytocjhmeekecdiaa.P
