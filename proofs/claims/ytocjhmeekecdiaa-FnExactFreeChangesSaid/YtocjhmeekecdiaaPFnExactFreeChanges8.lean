/- What the pure functions come to, one by one (part 8). -/
import Derived.Test.YtocjhmeekecdiaaPFnExactFreeChanges7
import Derived.Test.YtocjhmeekecdiaaGFnExactFreeChanges10
namespace Go.Proofs.Ytocjhmeekecdiaa.P
open Go Go.RowKit Go.Proofs.Ytocjhmeekecdiaa.K Go.Proofs.Ytocjhmeekecdiaa.G
set_option linter.unusedVariables false
set_option linter.unusedSimpArgs false

theorem impl_FreeChanges_run (x : Col) (hx : ByteC x) (l : List Int) (hl : l.length < 4611686018427387904) : Run (fun k => impl_FreeChanges.f k x l) (· = freeR x l) := by
  unfold impl_FreeChanges.f
  refine Run.bindE (impl_Colouring_extendingCode__always_run x hx l hl 17) ?_
  show Run (fun k => if exCode x l 17 ≠ 0 then some (([] : List (List Int)), exCode x l 17) else _) _
  rw [freeR]
  refine Run.ite (fun h => Run.ret (by rw [if_neg h])) (fun h => ?_)
  have hz := Decidable.not_not.mp h
  rw [if_pos hz]
  obtain ⟨h1, h2, _⟩ := exCode_zero hz
  obtain ⟨h4, h5⟩ := given_zero h1
  have hc := isB_spec h4
  have h17 := hc.1
  have hk := hc.2.1
  simp only [Bool.and_eq_true, decide_eq_true_eq] at h5
  have hs := avoids_two h17.1 h5.2 h2
  refine Run.loop (L := fun q (z : List (List Int) × Int) => impl_FreeChanges.l0 q x l z.1 z.2) (fun z => (x.p - z.2).toNat) (fun z => 0 ≤ z.2 ∧ z.2 ≤ x.p ∧ z.1 = frI x l z.2.toNat) ?_ ([], 0) ⟨by simp only; omega, by simp only; omega, rfl⟩
  rintro ⟨o, i⟩ ⟨g0, g3, ho⟩ ih
  simp only at g0 g3 ho
  subst ho
  simp only [impl_FreeChanges.l0]
  obtain ⟨i, rfl⟩ := Int.eq_ofNat_of_zero_le g0
  simp only [Int.toNat_natCast] at ih ⊢
  refine Run.ite (fun hi => ?_) (fun hi => Run.ret (by rw [show x.p.toNat = i by omega]))
  have hiL := frI_length x l hk.2 h17.2 i
  rw [w64_id (x := (i : Int) + 1) (by omega)]
  refine Run.loop (L := fun q (z : List (List Int) × Int) => impl_FreeChanges.l1 q x l i z.2 z.1) (fun z => (x.p - z.2).toNat) (fun z => ∃ d : Nat, i + 1 + d ≤ x.p.toNat ∧ z = (frI x l i ++ frJ x l i d, ((i + 1 + d : Nat) : Int))) ?_ (frI x l i, (i : Int) + 1) ⟨0, by omega, by rw [frJ, List.append_nil]; rfl⟩
  rintro _ ⟨d, hd, rfl⟩ ih1
  simp only [impl_FreeChanges.l1]
  have hdL := frJ_length x l i hk.2 d
  refine Run.ite (fun hj => ?_) (fun hj => ?_)
  · generalize hJ : i + 1 + d = j at *
    refine Run.loop (L := fun q (z : List (List Int) × Int) => impl_FreeChanges.l2 q x l i j z.1 z.2) (fun z => (x.k - z.2).toNat) (fun z => 0 ≤ z.2 ∧ z.2 ≤ x.k ∧ z.1 = frI x l i ++ frJ x l i d ++ frC x l i j z.2.toNat) ?_ (_, 0) ⟨by simp only; omega, by simp only; omega, by simp only; rw [show (0 : Int).toNat = 0 by rfl, frC, List.append_nil]⟩
    rintro ⟨o, c⟩ ⟨c0, c3, ho⟩ ih2
    simp only at c0 c3 ho
    subst ho
    simp only [impl_FreeChanges.l2]
    obtain ⟨c, rfl⟩ := Int.eq_ofNat_of_zero_le c0
    simp only [Int.toNat_natCast] at ih2 ⊢
    refine Run.ite (fun hcc => ?_) (fun hcc => ?_)
    · have hcL := frC_length x l i j c
      rw [w64_id (x := (c : Int) + 1) (by omega)]
      have hlc : 2 ≤ l.getD c 0 ∧ l.getD c 0 ≤ 17 := by rw [getD_at (show c < l.length by omega)]; exact hs _ (List.getElem_mem _)
      have yes : freeC x l i j c = true → Run (fun q => impl_FreeChanges.l2 q x l i j (frI x l i ++ frJ x l i d ++ frC x l i j c ++ [[(i : Int), (j : Int), (c : Int)]]) ((c : Int) + 1)) (· = (frI x l x.p.toNat, 0)) := fun hf => ih2 (_, (c : Int) + 1) ⟨by simp only; omega, by simp only; omega, by simp only; rw [show ((c : Int) + 1).toNat = c + 1 by omega, frC, if_pos hf, List.append_assoc]⟩ (by simp only; omega)
      have no : freeC x l i j c = false → Run (fun q => impl_FreeChanges.l2 q x l i j (frI x l i ++ frJ x l i d ++ frC x l i j c) ((c : Int) + 1)) (· = (frI x l x.p.toNat, 0)) := fun hf => ih2 (_, (c : Int) + 1) ⟨by simp only; omega, by simp only; omega, by simp only; rw [show ((c : Int) + 1).toNat = c + 1 by omega, frC, if_neg (Bool.eq_false_iff.mp hf), List.append_nil]⟩ (by simp only; omega)
      have hlen : (frI x l i ++ frJ x l i d ++ frC x l i j c).length ≤ 2000 := by rw [List.length_append, List.length_append]; omega
      refine Run.bindE (impl_Colouring_that__FreeChanges_1_run x hx (by omega) i j c (by omega) (by omega)) ?_
      refine Run.bindE (impl_Colouring_at_run x hx (by omega) i j (by omega) (by omega) (by omega)) ?_
      refine Run.itn (fun h6 => no (by unfold freeC; rw [decide_eq_false h6, Bool.false_and])) (fun h6 => ?_)
      have e6 : decide (colr x i j ≠ (c : Int)) = true := decide_eq_true h6
      have hg : Run (fun _ => K.getI l (c : Int)) (· = l.getD c 0) := (Run.getI' (by omega) (by omega)).mono fun r e => by rw [e]; exact (getD_at (by omega)).symm
      refine Run.bindE hg ?_
      rw [w64_id (x := l.getD c 0 - 2) (by omega), show l.getD c 0 - 2 = (((l.getD c 0).toNat - 2 : Nat) : Int) by omega, sel_upF]
      have hup := upF_length (fun t => joinsB x i c t && joinsB x j c t) 0 x.p.toNat
      refine Run.bindE (impl_Colouring_hasClique_run x hx (by omega) c ((l.getD c 0).toNat - 2) _ (fun p hp => by have := (mem_upF.mp hp).1; omega) (by omega)) ?_
      refine Run.ite (fun h8 => no ?_) (fun h8 => ?_)
      · have h9 : decide (cnum (fun a b => joinsB x a c b) (upF (fun p => joinsB x i c p && joinsB x j c p) 0 x.p.toNat) ((l.getD c 0).toNat - 2) = 0) = false := by simpa using h8
        unfold freeC
        rw [h9, Bool.and_false]
      · have h9 : decide (cnum (fun a b => joinsB x a c b) (upF (fun p => joinsB x i c p && joinsB x j c p) 0 x.p.toNat) ((l.getD c 0).toNat - 2) = 0) = true := by simpa using h8
        refine Run.bindE (Run.concatR' (by simp only [List.length_singleton]; omega)) ?_
        exact yes (by unfold freeC; rw [e6, h9]; rfl)
    · subst hJ
      rw [show ((i + 1 + d : Nat) : Int) + 1 = ((i + 1 + (d + 1) : Nat) : Int) by omega, w64_id (by omega)]
      refine ih1 (_, ((i + 1 + (d + 1) : Nat) : Int)) ⟨d + 1, by omega, ?_⟩ (by simp only; omega)
      rw [frJ, List.append_assoc, show x.k.toNat = c by omega]
  · rw [w64_id (x := (i : Int) + 1) (by omega)]
    refine ih (_, (i : Int) + 1) ⟨by simp only; omega, by simp only; omega, ?_⟩ (by simp only; omega)
    simp only
    rw [show ((i : Int) + 1).toNat = i + 1 by omega, frI, show x.p.toNat - (i + 1) = d by omega]

theorem laws_eqInt64S_run (a b : List Int) (ha : a.length < 4611686018427387904) : Run (fun k => laws_eqInt64S.f k a b) (· = decide (a = b)) := by
  unfold laws_eqInt64S.f
  refine Run.ite (fun h => ?_) (fun h => ?_)
  · exact Run.ret (decide_eq_false fun e => h (by rw [e])).symm
  have hl : a.length = b.length := by omega
  refine Run.loop (L := fun q (i : Int) => laws_eqInt64S.l0 q a b i) (fun i => (a.length - i).toNat) (fun i => 0 ≤ i ∧ i ≤ a.length ∧ ∀ (j : Nat) (h : j < a.length), (j : Int) < i → a[j] = b[j]'(by omega)) ?_ 0 ⟨by omega, by omega, fun j _ hj => by omega⟩
  rintro i ⟨h0, h3, hJ⟩ ih
  simp only [laws_eqInt64S.l0]
  refine Run.ite (fun h => ?_) (fun h => ?_)
  · refine Run.bindE (Run.getI' h0 h) ?_
    refine Run.bindE (Run.getI' h0 (by omega)) ?_
    refine Run.ite (fun h5 => ?_) (fun h5 => ?_)
    · exact Run.ret (decide_eq_false fun e => h5 (by simp only [e])).symm
    · rw [w64_id (by omega)]
      refine ih (i + 1) ⟨by omega, by omega, fun j hj hji => ?_⟩ (by omega)
      by_cases ej : (j : Int) < i
      · exact hJ j hj ej
      · obtain rfl : j = i.toNat := by omega
        exact Decidable.not_not.mp h5
  · exact Run.ret (decide_eq_true (List.ext_getElem hl fun j h1 h2 => hJ j h1 (by omega))).symm

theorem laws_eqInt64SS_run (a : List (List Int)) (ha : Short a) : Run (fun k => laws_eqInt64SS.f k a a) (· = true) := by
  unfold laws_eqInt64SS.f
  refine Run.no (fun h => h rfl) ?_
  have h1 := ha.1
  refine Run.loop (L := fun q (i : Int) => laws_eqInt64SS.l0 q a a i) (fun i => (a.length - i).toNat) (fun i => 0 ≤ i ∧ i ≤ a.length) ?_ 0 ⟨by omega, by omega⟩
  rintro i ⟨h0, h3⟩ ih
  simp only [laws_eqInt64SS.l0]
  refine Run.ite (fun h => ?_) (fun h => Run.ret rfl)
  refine Run.bindE (Run.getR' h0 h) ?_
  refine Run.bindE (Run.getR' h0 h) ?_
  have hl := ha.2 _ (List.getElem_mem (l := a) (n := i.toNat) (by omega))
  refine Run.bindE (laws_eqInt64S_run _ _ (by omega)) ?_
  rw [w64_id (x := i + 1) (by omega)]
  exact Run.yes (decide_eq_true rfl) (ih (i + 1) ⟨by omega, by omega⟩ (by omega))

theorem laws_markInt64S_run (a : List Int) (k0 : Int) (hk : 0 ≤ k0 ∧ k0 < 1000000000) (ha : a.length < 4611686018427387904) : Run (fun k => laws_markInt64S.f k a k0) (· = (k0 + a.length, seqI k0 a.length)) := by
  unfold laws_markInt64S.f
  refine Run.loop (L := fun q (s : List Int × Int × Int) => laws_markInt64S.l0 q s.1 s.2.1 s.2.2) (fun s => (a.length - s.2.2).toNat) (fun s => 0 ≤ s.2.2 ∧ s.2.2 ≤ a.length ∧ s.2.1 = k0 + s.2.2 ∧ s.1 = seqI k0 s.2.2.toNat ++ a.drop s.2.2.toNat) ?_ (a, k0, 0) ⟨by simp only; omega, by simp only; omega, by simp, by simp [seqI]⟩
  rintro ⟨l, v, i⟩ ⟨h0, h3, hv, hl⟩ ih
  simp only at h0 h3 hv hl
  simp only [laws_markInt64S.l0]
  have hlen : l.length = a.length := by rw [hl]; simp [seqI]; omega
  refine Run.ite (fun h => ?_) (fun h => ?_)
  · refine Run.bindE (Run.getI' h0 h) ?_
    rw [w64_id (x := v + 1) (by omega), w64_id (x := i + 1) (by omega)]
    refine ih (_, v + 1, i + 1) ⟨by simp only; omega, by simp only; omega, by simp only; omega, ?_⟩ (by simp only; omega)
    simp only
    have hd : a.drop i.toNat = a[i.toNat]'(by omega) :: a.drop (i.toNat + 1) := List.drop_eq_getElem_cons (by omega)
    rw [hl, hd, set_append (by simp [seqI]), show (i + 1).toNat = i.toNat + 1 by omega]
    simp only [seqI, List.range_succ, List.map_append, List.append_assoc, List.map_cons, List.map_nil, List.singleton_append]
    rw [hv, show ((i.toNat : Nat) : Int) = i by omega]
  · have : i = a.length := by omega
    subst this
    refine Run.ret ?_
    rw [hl, hv]; simp

theorem laws_markInt64SS_run (a : List (List Int)) (ha : Short a) : Run (fun k => laws_markInt64SS.f k a 1) (· = (1 + (totR a : Int), markR 1 a)) := by
  unfold laws_markInt64SS.f
  have h1 := ha.1
  refine Run.loop (L := fun q (z : List (List Int) × Int × Int) => laws_markInt64SS.l0 q z.1 z.2.1 z.2.2) (fun z => (a.length - z.2.2).toNat) (fun z => ∃ i : Nat, i ≤ a.length ∧ z = (markR 1 (a.take i) ++ a.drop i, 1 + (totR (a.take i) : Int), (i : Int))) ?_ (a, 1, 0) ⟨0, Nat.zero_le _, by simp [markR, totR]⟩
  rintro _ ⟨i, hi, rfl⟩ ih
  simp only [laws_markInt64SS.l0]
  have ht := ha.take i
  have hlen : (markR 1 (a.take i) ++ a.drop i).length = a.length := by rw [List.length_append, markR_length, List.length_take, List.length_drop]; omega
  have hml : (markR 1 (a.take i)).length = i := by rw [markR_length, List.length_take]; omega
  rw [hlen]
  refine Run.ite (fun h => ?_) (fun h => Run.ret ?_)
  · have hil : i < a.length := by omega
    have hd : a.drop i = a[i] :: a.drop (i + 1) := List.drop_eq_getElem_cons hil
    have hg : (markR 1 (a.take i) ++ a.drop i)[((i : Int)).toNat]'(by rw [hlen]; omega) = a[i] := by
      rw [List.getElem_append_right (by rw [hml]; omega)]
      simp only [Int.toNat_natCast, hml, Nat.sub_self, List.getElem_drop, Nat.add_zero]
    refine Run.bindE (a := a[i]) ((Run.getR' (by omega) (by rw [hlen]; omega)).mono fun r e => by rw [e]; exact hg) ?_
    have hl := ha.2 _ (List.getElem_mem hil)
    refine Run.bindE (laws_markInt64S_run _ _ (by omega) (by omega)) ?_
    rw [w64_id (x := (i : Int) + 1) (by omega)]
    refine ih (_, _, (i : Int) + 1) ⟨i + 1, by omega, ?_⟩ (by simp only; omega)
    have hts := List.take_succ_eq_append_getElem hil
    rw [hts, markR_append, totR_append, totR_cons]
    simp only [Int.toNat_natCast]
    refine Prod.ext ?_ (Prod.ext ?_ ?_)
    · simp only
      rw [hd, List.set_append_right _ _ (by omega), hml, Nat.sub_self, List.set_cons_zero, List.append_assoc]
      rfl
    · simp only [totR, List.map_nil, List.sum_nil]; omega
    · simp only; omega
  · obtain rfl : i = a.length := by omega
    rw [List.take_of_length_le (Nat.le_refl _), List.drop_of_length_le (Nat.le_refl _), List.append_nil]
end Go.Proofs.Ytocjhmeekecdiaa.P
