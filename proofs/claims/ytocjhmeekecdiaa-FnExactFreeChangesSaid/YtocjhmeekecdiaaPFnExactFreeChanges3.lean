/- What the pure functions come to, one by one (part 3). -/
import Derived.Test.YtocjhmeekecdiaaPFnExactFreeChanges2
import Derived.Test.YtocjhmeekecdiaaGFnExactFreeChanges10
namespace Go.Proofs.Ytocjhmeekecdiaa.P
open Go Go.RowKit Go.Proofs.Ytocjhmeekecdiaa.K Go.Proofs.Ytocjhmeekecdiaa.G
set_option linter.unusedVariables false
set_option linter.unusedSimpArgs false

theorem spec_l03Clique_run (x : Col) (hx : ByteC x) (hp : 0 ≤ x.p ∧ x.p ≤ 17) (c : Int) (n : Nat) (hn : (n : Int) = x.p) : ∀ (m : Nat) (f : Nat → Bool), m ≤ 100 →
    Run (fun k => spec_l03Clique.f k x c (mask f n : Int) m) (· = !decide (cnum (fun i j => joinsB x i c j) (upF f 0 n) m = 0)) := by
  intro m
  induction m with
  | zero =>
    intro f _
    refine Run.step ?_
    simp only [spec_l03Clique.f]
    exact Run.yes rfl (Run.ret rfl)
  | succ m ihm =>
    intro f hm
    have hm2 : (2 : Nat) ^ n ≤ 2 ^ 17 := Nat.pow_le_pow_right (by omega) (by omega)
    have hlt : ∀ g, mask g n < 2 ^ 17 := fun g => Nat.lt_of_lt_of_le (mask_lt g n) hm2
    refine Run.step ?_
    simp only [spec_l03Clique.f]
    refine Run.no (by omega) ?_
    refine Run.bindE (spec_l01Ones_run _ (by have := hlt f; omega)) ?_
    rw [cnt_mask_upF (by omega)]
    refine Run.ite (fun h => Run.ret ?_) (fun h => ?_)
    · rw [cnum_short _ _ _ _ (Nat.le_refl _) (by omega)]; rfl
    refine Run.loop (L := fun q (z : Int × Int) => spec_l03Clique.l0 q x c ((m + 1 : Nat) : Int) z.1 z.2) (fun z => (x.p - z.2).toNat) (fun z => 0 ≤ z.2 ∧ z.2 ≤ x.p ∧ z.1 = (mask (fun j => f j && decide (z.2.toNat ≤ j)) n : Int) ∧ cnum (fun i j => joinsB x i c j) (upF f 0 n) (m + 1) = cnum (fun i j => joinsB x i c j) (upF f z.2.toNat n) (m + 1)) ?_ (_, 0) ⟨by simp only; omega, by simp only; omega, by simp only; congr 1; exact mask_congr fun j _ => by simp, rfl⟩
    rintro ⟨s, i⟩ ⟨h0, h3, hs, hc⟩ ih
    simp only at h0 h3 hs hc
    simp only [spec_l03Clique.l0]
    rw [hs]
    obtain ⟨i, rfl⟩ := Int.eq_ofNat_of_zero_le h0
    simp only [Int.toNat_natCast] at ih hs hc ⊢
    refine Run.ite (fun hi => ?_) (fun hi => ?_)
    · have hl := hlt (fun j => f j && decide (i ≤ j))
      rw [w64_id (x := (i : Int) + 1) (by omega), wu64_id (by omega)]
      have hb := bit64z (a := mask (fun j => f j && decide (i ≤ j)) n) (n := i) (by omega) (by omega)
      rw [testBit_mask, decide_eq_true (show i < n by omega), Bool.true_and, decide_eq_true (Nat.le_refl i), Bool.and_true] at hb
      refine Run.ite (fun hz => ?_) (fun hz => ?_)
      · have hf := hb.mp hz
        refine ih (_, (i : Int) + 1) ⟨by simp only; omega, by simp only; omega, ?_, ?_⟩ (by simp only; omega)
        · simp only
          rw [show ((i : Int) + 1).toNat = i + 1 by omega]
          congr 1
          exact mask_congr fun j _ => by
            by_cases e : j = i
            · subst e; rw [hf]; rfl
            · congr 1; exact decide_eq_decide.mpr (by omega)
        · simp only
          rw [show ((i : Int) + 1).toNat = i + 1 by omega, hc, upF_no (by omega) (by rw [hf]; simp)]
      · have hf : f i = true := by
          cases hq : f i with
          | true => rfl
          | false => exact absurd (hb.mpr hq) hz
        have hw := mask_without (f := fun j => f j && decide (i ≤ j)) (n := n) (i := i) (by omega) (by simp [hf])
        have hg : mask (fun j => (f j && decide (i ≤ j)) && decide (j ≠ i)) n = mask (fun j => f j && decide (i + 1 ≤ j)) n := mask_congr fun j _ => by
          rw [Bool.and_assoc]
          congr 1
          rw [← Bool.decide_and]
          exact decide_eq_decide.mpr (by omega)
        rw [hg] at hw
        have hl2 := hlt (fun j => f j && decide (i + 1 ≤ j))
        have es : w64 ((mask (fun j => f j && decide (i ≤ j)) n : Int) - shlI .i64 1 (i : Int)) = (mask (fun j => f j && decide (i + 1 ≤ j)) n : Int) := by
          rw [shl64 (by omega), w64_id (by omega)]; omega
        rw [es]
        refine Run.bindE (spec_l01Around_run x hx hp i c hi) ?_
        have hm' := hlt (joinsB x i c)
        rw [show x.p.toNat = n by omega, and64 (by omega) (by omega), mask_and, w64_id (x := ((m + 1 : Nat) : Int) - 1) (by omega), show ((m + 1 : Nat) : Int) - 1 = (m : Int) by omega]
        refine Run.bindE (ihm _ (by omega)) ?_
        have e2 : upF (fun j => (f j && decide (i + 1 ≤ j)) && joinsB x i c j) 0 n = (upF f (i + 1) n).filter (joinsB x i c) := by
          rw [upF_filter, ← upF_from (f := fun j => f j && joinsB x i c j) (by omega)]
          exact upF_congr fun j _ _ => by
            cases f j <;> cases joinsB x i c j <;> cases decide (i + 1 ≤ j) <;> rfl
        rw [e2]
        rw [upF_yes (by omega) hf, cnum_cons] at hc
        refine Run.ite (fun hq => Run.ret ?_) (fun hq => ?_)
        · have hne : ¬ (cnum (fun i j => joinsB x i c j) ((upF f (i + 1) n).filter (joinsB x i c)) m = 0) := by simpa using hq
          rw [hc]
          symm
          rw [Bool.not_eq_true', decide_eq_false_iff_not]
          exact fun hz' => hne (Nat.eq_zero_of_add_eq_zero_right hz')
        · refine ih (_, (i : Int) + 1) ⟨by simp only; omega, by simp only; omega, by simp only; rw [show ((i : Int) + 1).toNat = i + 1 by omega], ?_⟩ (by simp only; omega)
          simp only
          have hz' : cnum (fun i j => joinsB x i c j) ((upF f (i + 1) n).filter (joinsB x i c)) m = 0 := by simpa using hq
          rw [show ((i : Int) + 1).toNat = i + 1 by omega]
          exact hc.trans (by rw [hz', Nat.zero_add])
    · refine Run.ret ?_
      rw [hc, upF_end _ (by omega), cnum_nil]; rfl

theorem spec_l05Avoids_run (x : Col) (hx : ByteC x) (hp : 1 ≤ x.p ∧ x.p ≤ 17) (hk : 0 ≤ x.k ∧ x.k ≤ 1000) (l : List Int) (hl : (l.length : Int) = x.k) (hs : allIn l 1 17 = true) : Run (fun k => spec_l05Avoids.f k x l) (· = avoidsB x l) := by
  unfold spec_l05Avoids.f
  refine Run.loop (L := fun q (i : Int) => spec_l05Avoids.l0 q x l i) (fun i => (x.k - i).toNat) (fun i => 0 ≤ i ∧ i ≤ x.k ∧ ∀ j : Nat, (j : Int) < i → hasClique x j (l.getD j 0).toNat = false) ?_ 0 ⟨by omega, by omega, fun j hj => by omega⟩
  rintro i ⟨h0, h3, hJ⟩ ih
  simp only [spec_l05Avoids.l0]
  obtain ⟨i, rfl⟩ := Int.eq_ofNat_of_zero_le h0
  refine Run.ite (fun h => ?_) (fun h => ?_)
  · refine Run.bindE (Run.getI' h0 (by omega)) ?_
    have eg : l.getD i 0 = l[((i : Int)).toNat]'(by omega) := getD_at (by omega)
    have hm := allIn_mem hs _ (List.getElem_mem (l := l) (n := ((i : Int)).toNat) (by omega))
    rw [← eg] at hm ⊢
    have hmt := mask_true x.p.toNat
    have hm2 : (2 : Nat) ^ x.p.toNat ≤ 2 ^ 17 := Nat.pow_le_pow_right (by omega) (by omega)
    have ef : w64 (shlI .i64 1 (wu64 x.p) - 1) = (mask (fun _ => true) x.p.toNat : Int) := by
      rw [wu64_id (by omega), show x.p = ((x.p.toNat : Nat) : Int) by omega, shl64 (by omega), w64_id (by omega)]
      simp only [Int.toNat_natCast]; omega
    rw [ef, w64_id (x := (i : Int) + 1) (by omega)]
    have hc := spec_l03Clique_run x hx (by omega) (i : Int) x.p.toNat (by omega) (l.getD i 0).toNat (fun _ => true) (by omega)
    rw [show (((l.getD i 0).toNat : Nat) : Int) = l.getD i 0 by omega] at hc
    refine Run.bindE hc ?_
    have he : (!decide (cnum (fun a b => joinsB x a i b) (upF (fun _ => true) 0 x.p.toNat) (l.getD i 0).toNat = 0)) = hasClique x i (l.getD i 0).toNat := rfl
    rw [he]
    refine Run.ite (fun h5 => ?_) (fun h5 => ?_)
    · refine Run.ret (decide_eq_false fun hq => ?_).symm
      have := hq i (by omega)
      rw [this] at h5; cases h5
    · refine ih ((i : Int) + 1) ⟨by omega, by omega, fun j hj => ?_⟩ (by omega)
      by_cases ej : (j : Int) < i
      · exact hJ j ej
      · obtain rfl : j = i := by omega
        exact Bool.eq_false_iff.mpr h5
  · exact Run.ret (decide_eq_true fun j hj => hJ j (by omega)).symm

theorem spec_l05Given_run (x : Col) (hx : ByteC x) (l : List Int) (hl : l.length < 4611686018427387904) : Run (fun k => spec_l05Given.f k x l) (· = exCode x l 17) := by
  unfold spec_l05Given.f
  refine Run.bindE (spec_l05Code_run x hx l hl) ?_
  rw [exCode]
  refine Run.ite (fun h => ?_) (fun h => Run.ret (by rw [if_neg h]))
  rw [if_pos h]
  obtain ⟨h4, h5⟩ := given_zero h
  have hc := isB_spec h4
  have h17 := hc.1
  simp only [Bool.and_eq_true, decide_eq_true_eq] at h5
  refine Run.bindE (spec_l05Avoids_run x hx hc.1 (by have := hc.2.1; omega) l h5.1 h5.2) ?_
  exact Run.ite (fun h7 => Run.ret (by rw [if_pos h7, if_neg (show ¬ x.p > 17 by omega), h])) (fun h7 => Run.ret (by rw [if_neg h7]))
end Go.Proofs.Ytocjhmeekecdiaa.P
