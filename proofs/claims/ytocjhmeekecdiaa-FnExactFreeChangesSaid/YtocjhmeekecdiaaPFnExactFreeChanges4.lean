/- What the pure functions come to, one by one (part 4). -/
import Derived.Test.YtocjhmeekecdiaaPFnExactFreeChanges3
import Derived.Test.YtocjhmeekecdiaaGFnExactFreeChanges10
namespace Go.Proofs.Ytocjhmeekecdiaa.P
open Go Go.RowKit Go.Proofs.Ytocjhmeekecdiaa.K Go.Proofs.Ytocjhmeekecdiaa.G
set_option linter.unusedVariables false
set_option linter.unusedSimpArgs false

theorem spec_FreeChanges_run (x : Col) (hx : ByteC x) (l : List Int) (hl : l.length < 4611686018427387904) : Run (fun k => spec_FreeChanges.f k x l) (· = freeR x l) := by
  unfold spec_FreeChanges.f
  refine Run.bindE (spec_l05Given_run x hx l hl) ?_
  rw [freeR]
  refine Run.ite (fun h => Run.ret (by rw [if_neg h])) (fun h => ?_)
  have hz := Decidable.not_not.mp h
  rw [if_pos hz]
  obtain ⟨h1, h2, _⟩ := exCode_zero hz
  obtain ⟨h4, h5⟩ := given_zero h1
  have hc := isB_spec h4
  have h17 := hc.1
  have hk := hc.2.1
  simp only [Bool.and_eq_true, decide_eq_true_eq] at h5
  have hs := avoids_two h17.1 h5.2 h2
  refine Run.loop (L := fun q (z : List (List Int) × Int) => spec_FreeChanges.l0 q x l z.1 z.2) (fun z => (x.p - z.2).toNat) (fun z => 0 ≤ z.2 ∧ z.2 ≤ x.p ∧ z.1 = frI x l z.2.toNat) ?_ ([], 0) ⟨by simp only; omega, by simp only; omega, rfl⟩
  rintro ⟨o, i⟩ ⟨g0, g3, ho⟩ ih
  simp only at g0 g3 ho
  subst ho
  simp only [spec_FreeChanges.l0]
  obtain ⟨i, rfl⟩ := Int.eq_ofNat_of_zero_le g0
  simp only [Int.toNat_natCast] at ih ⊢
  refine Run.ite (fun hi => ?_) (fun hi => Run.ret (by rw [show x.p.toNat = i by omega]))
  have hiL := frI_length x l hk.2 h17.2 i
  rw [w64_id (x := (i : Int) + 1) (by omega)]
  refine Run.loop (L := fun q (z : List (List Int) × Int) => spec_FreeChanges.l1 q x l i z.1 z.2) (fun z => (x.p - z.2).toNat) (fun z => ∃ d : Nat, i + 1 + d ≤ x.p.toNat ∧ z = (frI x l i ++ frJ x l i d, ((i + 1 + d : Nat) : Int))) ?_ (frI x l i, (i : Int) + 1) ⟨0, by omega, by rw [frJ, List.append_nil]; rfl⟩
  rintro _ ⟨d, hd, rfl⟩ ih1
  simp only [spec_FreeChanges.l1]
  have hdL := frJ_length x l i hk.2 d
  refine Run.ite (fun hj => ?_) (fun hj => ?_)
  · generalize hJ : i + 1 + d = j at *
    refine Run.loop (L := fun q (z : List (List Int) × Int) => spec_FreeChanges.l2 q x l i j z.1 z.2) (fun z => (x.k - z.2).toNat) (fun z => 0 ≤ z.2 ∧ z.2 ≤ x.k ∧ z.1 = frI x l i ++ frJ x l i d ++ frC x l i j z.2.toNat) ?_ (_, 0) ⟨by simp only; omega, by simp only; omega, by simp only; rw [show (0 : Int).toNat = 0 by rfl, frC, List.append_nil]⟩
    rintro ⟨o, c⟩ ⟨c0, c3, ho⟩ ih2
    simp only at c0 c3 ho
    subst ho
    simp only [spec_FreeChanges.l2]
    obtain ⟨c, rfl⟩ := Int.eq_ofNat_of_zero_le c0
    simp only [Int.toNat_natCast] at ih2 ⊢
    refine Run.ite (fun hcc => ?_) (fun hcc => ?_)
    · have hcL := frC_length x l i j c
      rw [w64_id (x := (c : Int) + 1) (by omega)]
      have hlc : 2 ≤ l.getD c 0 ∧ l.getD c 0 ≤ 17 := by rw [getD_at (show c < l.length by omega)]; exact hs _ (List.getElem_mem _)
      have yes : freeC x l i j c = true → Run (fun q => spec_FreeChanges.l2 q x l i j (frI x l i ++ frJ x l i d ++ frC x l i j c ++ [[(i : Int), (j : Int), (c : Int)]]) ((c : Int) + 1)) (· = (frI x l x.p.toNat, 0)) := fun hf => ih2 (_, (c : Int) + 1) ⟨by simp only; omega, by simp only; omega, by simp only; rw [show ((c : Int) + 1).toNat = c + 1 by omega, frC, if_pos hf, List.append_assoc]⟩ (by simp only; omega)
      have no : freeC x l i j c = false → Run (fun q => spec_FreeChanges.l2 q x l i j (frI x l i ++ frJ x l i d ++ frC x l i j c) ((c : Int) + 1)) (· = (frI x l x.p.toNat, 0)) := fun hf => ih2 (_, (c : Int) + 1) ⟨by simp only; omega, by simp only; omega, by simp only; rw [show ((c : Int) + 1).toNat = c + 1 by omega, frC, if_neg (Bool.eq_false_iff.mp hf), List.append_nil]⟩ (by simp only; omega)
      have hlen : (frI x l i ++ frJ x l i d ++ frC x l i j c).length ≤ 2000 := by rw [List.length_append, List.length_append]; omega
      refine Run.bindE (spec_l01At_run x hx (by omega) i j (by omega) (by omega) (by omega)) ?_
      refine Run.ite (fun h6 => no (by unfold freeC; rw [decide_eq_false (fun hn => hn h6.symm), Bool.false_and])) (fun h6 => ?_)
      have e6 : decide (colr x i j ≠ (c : Int)) = true := decide_eq_true (fun h => h6 h.symm)
      have hg : Run (fun _ => K.getI l (c : Int)) (· = l.getD c 0) := (Run.getI' (by omega) (by omega)).mono fun r e => by rw [e]; exact (getD_at (by omega)).symm
      refine Run.bindE hg ?_
      have hm2 : (2 : Nat) ^ x.p.toNat ≤ 2 ^ 17 := Nat.pow_le_pow_right (by omega) (by omega)
      have hlt : ∀ g, mask g x.p.toNat < 2 ^ 17 := fun g => Nat.lt_of_lt_of_le (mask_lt g _) hm2
      have hl1 := hlt (joinsB x i c)
      have hl2 := hlt (joinsB x j c)
      refine Run.ite (fun h7 => ?_) (fun h7 => ?_)
      · refine Run.bindE hg ?_
        refine Run.yes (by omega) (no ?_)
        unfold freeC
        rw [show (l.getD c 0).toNat - 2 = 0 by omega, cnum_zero]
        simp
      · refine Run.bindE hg ?_
        refine Run.bindE (spec_l01Around_run x hx (by omega) i c (by omega)) ?_
        refine Run.bindE (spec_l01Around_run x hx (by omega) j c (by omega)) ?_
        rw [and64 (by omega) (by omega), mask_and, w64_id (x := l.getD c 0 - 2) (by omega), show l.getD c 0 - 2 = (((l.getD c 0).toNat - 2 : Nat) : Int) by omega]
        refine Run.bindE (spec_l03Clique_run x hx (by omega) c x.p.toNat (by omega) ((l.getD c 0).toNat - 2) _ (by omega)) ?_
        refine Run.ite (fun h8 => no ?_) (fun h8 => ?_)
        · have h9 : decide (cnum (fun a b => joinsB x a c b) (upF (fun p => joinsB x i c p && joinsB x j c p) 0 x.p.toNat) ((l.getD c 0).toNat - 2) = 0) = false := by simpa using h8
          unfold freeC
          rw [h9, Bool.and_false]
        · have h9 : decide (cnum (fun a b => joinsB x a c b) (upF (fun p => joinsB x i c p && joinsB x j c p) 0 x.p.toNat) ((l.getD c 0).toNat - 2) = 0) = true := by simpa using h8
          refine Run.bindE (Run.concatR' (by simp only [List.length_singleton]; omega)) ?_
          exact yes (by unfold freeC; rw [e6, h9]; rfl)
    · subst hJ
      rw [show ((i + 1 + d : Nat) : Int) + 1 = ((i + 1 + (d + 1) : Nat) : Int) by omega, w64_id (by omega)]
      refine ih1 (_, ((i + 1 + (d + 1) : Nat) : Int)) ⟨d + 1, by omega, ?_⟩ (by simp only; omega)
      rw [frJ, List.append_assoc, show x.k.toNat = c by omega]
  · rw [w64_id (x := (i : Int) + 1) (by omega)]
    refine ih (_, (i : Int) + 1) ⟨by simp only; omega, by simp only; omega, ?_⟩ (by simp only; omega)
    simp only
    rw [show ((i : Int) + 1).toNat = i + 1 by omega, frI, show x.p.toNat - (i + 1) = d by omega]

theorem impl_in_run (n low high : Int) : Run (fun _ => impl_in.f n low high) (· = decide (low ≤ n ∧ n ≤ high)) := by
  unfold impl_in.f
  refine Run.ite (fun h => ?_) (fun h => ?_)
  · refine Run.ret (decide_eq_decide.mpr ?_); omega
  · refine Run.ret ((decide_eq_false ?_).symm); omega

theorem impl_Colouring_edges_run (x : Col) (hp : 0 ≤ x.p ∧ x.p ≤ 1000) : Run (fun _ => impl_Colouring_edges.f x) (· = (tri x.p.toNat : Int)) := by
  unfold impl_Colouring_edges.f
  have := tri_int (n := x.p.toNat) (by omega)
  rw [show ((x.p.toNat : Nat) : Int) = x.p by omega] at this
  exact Run.ret this

theorem impl_Colouring_isColouring_run (x : Col) (hx : ByteC x) : Run (fun k => impl_Colouring_isColouring.f k x) (· = isB x) := by
  unfold impl_Colouring_isColouring.f
  refine Run.bindE (impl_in_run _ _ _) ?_
  refine Run.itn (fun h1 => ?_) (fun h1 => ?_)
  · exact Run.ret (decide_eq_false fun h => h1 (decide_eq_true h.1)).symm
  refine Run.bindE (impl_in_run _ _ _) ?_
  refine Run.itn (fun h2 => ?_) (fun h2 => ?_)
  · exact Run.ret (decide_eq_false fun h => h2 (decide_eq_true h.2.1)).symm
  have hp := of_decide_eq_true h1
  have hk := of_decide_eq_true h2
  refine Run.loop (L := fun q (i : Int) => impl_Colouring_isColouring.l0 q x i) (fun i => (136 - i).toNat) (fun i => 0 ≤ i ∧ i ≤ 136 ∧ ∀ j : Nat, (j : Int) < i → (if j < tri x.p.toNat then x.e j < x.k else x.e j = 0)) ?_ 0 ⟨by omega, by omega, fun j hj => by omega⟩
  rintro i ⟨h0, h3, hJ⟩ ih
  simp only [impl_Colouring_isColouring.l0]
  refine Run.ite (fun h => ?_) (fun h => ?_)
  · refine Run.bindE (Run.getB' h0 h) ?_
    have hb := hx i.toNat
    rw [w64_id (x := x.e i.toNat) (by omega)]
    refine Run.ite (fun h5 => ?_) (fun h5 => ?_)
    · refine Run.ret (decide_eq_false fun hc => ?_).symm
      have := hc.2.2 i.toNat (by omega)
      by_cases h6 : i.toNat < tri x.p.toNat
      · rw [if_pos h6] at this; omega
      · rw [if_neg h6] at this; omega
    · refine Run.bindE (impl_Colouring_edges_run x (by omega)) ?_
      rw [w64_id (x := i + 1) (by omega)]
      refine Run.ite (fun h4 => ?_) (fun h4 => ?_)
      · refine Run.ite (fun h7 => ?_) (fun h7 => ?_)
        · refine Run.ret (decide_eq_false fun hc => ?_).symm
          have := hc.2.2 i.toNat (by omega)
          rw [if_neg (by omega)] at this; omega
        · refine ih (i + 1) ⟨by omega, by omega, fun j hj => ?_⟩ (by omega)
          by_cases ej : (j : Int) < i
          · exact hJ j ej
          · obtain rfl : j = i.toNat := by omega
            rw [if_neg (by omega)]; omega
      · refine ih (i + 1) ⟨by omega, by omega, fun j hj => ?_⟩ (by omega)
        by_cases ej : (j : Int) < i
        · exact hJ j ej
        · obtain rfl : j = i.toNat := by omega
          rw [if_pos (by omega)]; omega
  · refine Run.ret (decide_eq_true ⟨hp, hk, fun j hj => hJ j (by omega)⟩).symm

theorem impl_size_int64_run (l : List Int) : Run (fun _ => impl_size_int64.f l) (· = (l.length : Int)) := by
  unfold impl_size_int64.f
  exact Run.ret rfl

theorem impl_areIn_1_run (n lo hi : Int) : Run (fun _ => impl_areIn_1.f n lo hi) (· = !decide (lo ≤ n ∧ n ≤ hi)) := by
  unfold impl_areIn_1.f
  refine Run.bindE (impl_in_run _ _ _) ?_
  exact Run.ret rfl

theorem slices_IndexFunc_int64_int64__areIn_1_run (list : List Int) (lo hi : Int) (hl : list.length < 4611686018427387904) : Run (fun k => slices_IndexFunc_int64_int64__areIn_1.f k list lo hi) (fun r => decide (r ≥ 0) = !allIn list lo hi) := by
  unfold slices_IndexFunc_int64_int64__areIn_1.f
  refine Run.loop (L := fun q (i : Int) => slices_IndexFunc_int64_int64__areIn_1.l0 q list lo hi i) (fun i => (list.length - i).toNat) (fun i => 0 ≤ i ∧ i ≤ list.length ∧ allIn list lo hi = allIn (list.drop i.toNat) lo hi) ?_ 0 ⟨by omega, by omega, rfl⟩
  rintro i ⟨h0, h3, hJ⟩ ih
  simp only [slices_IndexFunc_int64_int64__areIn_1.l0]
  refine Run.ite (fun h => ?_) (fun h => ?_)
  · have hd : list.drop i.toNat = list[i.toNat]'(by omega) :: list.drop (i.toNat + 1) := List.drop_eq_getElem_cons (by omega)
    refine Run.bindE (Run.getI' h0 h) ?_
    rw [w64_id (x := i + 1) (by omega)]
    refine Run.bindE (impl_areIn_1_run _ _ _) ?_
    refine Run.ite (fun h5 => ?_) (fun h5 => ?_)
    · refine Run.ret ?_
      rw [hJ, hd, allIn_cons]
      simp only [Bool.not_eq_true'] at h5
      rw [h5, Bool.false_and, Bool.not_false]
      exact decide_eq_true h0
    · refine ih (i + 1) ⟨by omega, by omega, ?_⟩ (by omega)
      simp only [Bool.not_eq_true', Bool.not_eq_false] at h5
      rw [hJ, hd, show (i + 1).toNat = i.toNat + 1 by omega, allIn_cons, h5, Bool.true_and]
  · refine Run.ret ?_
    rw [hJ, List.drop_eq_nil_of_le (by omega)]; rfl

theorem slices_ContainsFunc_int64_int64__areIn_1_run (list : List Int) (lo hi : Int) (hl : list.length < 4611686018427387904) : Run (fun k => slices_ContainsFunc_int64_int64__areIn_1.f k list lo hi) (· = !allIn list lo hi) := by
  unfold slices_ContainsFunc_int64_int64__areIn_1.f
  refine Run.bind (slices_IndexFunc_int64_int64__areIn_1_run list lo hi hl) fun r hr => ?_
  exact Run.ret hr

theorem impl_areIn_run (list : List Int) (many lo hi : Int) (hl : list.length < 4611686018427387904) : Run (fun k => impl_areIn.f k list many lo hi) (· = (decide ((list.length : Int) = many) && allIn list lo hi)) := by
  unfold impl_areIn.f
  refine Run.bindE (impl_size_int64_run list) ?_
  refine Run.ite (fun h => ?_) (fun h => ?_)
  · refine Run.bindE (slices_ContainsFunc_int64_int64__areIn_1_run list lo hi hl) ?_
    exact Run.ret (by rw [decide_eq_true h, Bool.true_and, Bool.not_not])
  · exact Run.ret (by rw [decide_eq_false h, Bool.false_and])
end Go.Proofs.Ytocjhmeekecdiaa.P
