/- What the pure functions come to, one by one (part 6). -/
import Derived.Test.YtkceneefhbdifaaPFnCircularCounts5
import Derived.Test.YtkceneefhbdifaaGFnCircularCounts10
namespace Go.Proofs.Ytkceneefhbdifaa.P
open Go Go.RowKit Go.Proofs.Ytkceneefhbdifaa.K Go.Proofs.Ytkceneefhbdifaa.G
set_option linter.unusedVariables false
set_option linter.unusedSimpArgs false

theorem spec_l01At_run (x : Col) (hx : ByteC x) (hp : 0 ≤ x.p ∧ x.p ≤ 17) (i j : Nat) (hi : (i : Int) < x.p) (hj : (j : Int) < x.p) (hn : i ≠ j) : Run (fun _ => spec_l01At.f x i j) (· = colr x i j) := by
  unfold spec_l01At.f
  refine Run.bindE (spec_l01Edge_run i j (by omega) (by omega)) ?_
  have := edg_lt136 (i := i) (j := j) (p := x.p.toNat) (by omega) (by omega) (by omega) hn
  refine Run.bindE (Run.getB' (by omega) (by omega)) ?_
  have hb := hx ((edg i j : Nat) : Int).toNat
  exact Run.ret (w64_id (by omega))

theorem spec_l01Around_run (x : Col) (hx : ByteC x) (hp : 0 ≤ x.p ∧ x.p ≤ 17) (i : Nat) (c : Int) (hi : (i : Int) < x.p) : Run (fun k => spec_l01Around.f k x i c) (· = (mask (joinsB x i c) x.p.toNat : Int)) := by
  unfold spec_l01Around.f
  refine Run.loop (L := fun q (s : Int × Int) => spec_l01Around.l0 q x i c s.1 s.2) (fun s => (x.p - s.2).toNat) (fun s => 0 ≤ s.2 ∧ s.2 ≤ x.p ∧ s.1 = (mask (joinsB x i c) s.2.toNat : Int)) ?_ (0, 0) ⟨by simp only; omega, by simp only; omega, rfl⟩
  rintro ⟨s, j⟩ ⟨h0, h3, hs⟩ ih
  simp only at h0 h3 hs
  simp only [spec_l01Around.l0]
  obtain ⟨j, rfl⟩ := Int.eq_ofNat_of_zero_le h0
  simp only [Int.toNat_natCast] at hs
  refine Run.ite (fun h => ?_) (fun h => ?_)
  · have hm := mask_lt (joinsB x i c) j
    have hm2 : (2 : Nat) ^ j ≤ 2 ^ 17 := Nat.pow_le_pow_right (by omega) (by omega)
    rw [w64_id (x := (j : Int) + 1) (by omega)]
    refine Run.ite (fun h1 => ?_) (fun h1 => ?_)
    · refine Run.bindE (spec_l01At_run x hx hp i j hi h (by omega)) ?_
      refine Run.ite (fun h2 => ?_) (fun h2 => ?_)
      · have hj : joinsB x i c j = true := by rw [joinsB, decide_eq_true (p := i ≠ j) (by omega), h2]; simp
        rw [wu64_id (by omega), shl64 (by omega), hs, or64 (by omega) (by omega)]
        refine ih (_, (j : Int) + 1) ⟨by simp only; omega, by simp only; omega, ?_⟩ (by simp only; omega)
        simp only
        rw [show ((j : Int) + 1).toNat = j + 1 by omega, mask, if_pos hj]
      · have hj : ¬ joinsB x i c j = true := by rw [joinsB, decide_eq_false h2]; simp
        refine ih (_, (j : Int) + 1) ⟨by simp only; omega, by simp only; omega, ?_⟩ (by simp only; omega)
        simp only
        rw [show ((j : Int) + 1).toNat = j + 1 by omega, mask, if_neg hj, hs]
    · have hj : ¬ joinsB x i c j = true := by rw [joinsB, decide_eq_false (p := i ≠ j) (by omega)]; simp
      refine ih (_, (j : Int) + 1) ⟨by simp only; omega, by simp only; omega, ?_⟩ (by simp only; omega)
      simp only
      rw [show ((j : Int) + 1).toNat = j + 1 by omega, mask, if_neg hj, hs]
  · refine Run.ret ?_
    rw [hs, show x.p.toNat = j by omega]

theorem spec_l01Ones_run (s : Nat) (hs : s < 2 ^ 62) : Run (fun k => spec_l01Ones.f k (s : Int)) (· = (cnt s.testBit 62 : Int)) := by
  unfold spec_l01Ones.f
  refine Run.loop (L := fun q (z : Int × Int) => spec_l01Ones.l0 q z.1 z.2) (fun z => z.1.toNat) (fun z => ∃ v a n : Nat, z = ((v : Int), (a : Int)) ∧ v < 2 ^ n ∧ n ≤ 62 ∧ a ≤ 62 - n ∧ a + cnt v.testBit n = cnt s.testBit 62) ?_ (s, 0) ⟨s, 0, 62, rfl, hs, by omega, by omega, by omega⟩
  rintro _ ⟨v, a, n, rfl, hv, hn, ha, hc⟩ ih
  simp only [spec_l01Ones.l0]
  refine Run.ite (fun h => ?_) (fun h => ?_)
  · have hn0 : n ≠ 0 := by intro h0; subst h0; simp at hv; omega
    obtain ⟨n, rfl⟩ : ∃ m, n = m + 1 := ⟨n - 1, by omega⟩
    have hb : (2 : Nat) ^ (n + 1) ≤ 2 ^ 62 := Nat.pow_le_pow_right (by omega) hn
    have hp : (2 : Nat) ^ (n + 1) = 2 ^ n * 2 := Nat.pow_succ ..
    have e1 : Int.tdiv (v : Int) 2 = ((v / 2 : Nat) : Int) := rfl
    have e2 : Int.tmod (v : Int) 2 = ((v % 2 : Nat) : Int) := rfl
    rw [cnt_half] at hc
    rw [e1, e2, w64_id (x := ((v / 2 : Nat) : Int)) (by omega), w64_id (x := (a : Int) + ((v % 2 : Nat) : Int)) (by omega)]
    refine ih (((v / 2 : Nat) : Int), ((a + v % 2 : Nat) : Int)) ⟨v / 2, a + v % 2, n, rfl, by omega, by omega, by omega, by omega⟩ (by simp only; omega)
  · obtain rfl : v = 0 := by omega
    refine Run.ret ?_
    have : cnt (0 : Nat).testBit n = 0 := by
      unfold cnt
      rw [sel_congr (g := fun _ => false) fun j _ => by simp]
      have : sel (fun _ => false) n = [] := by simp [sel]
      rw [this]; rfl
    omega

theorem spec_l03Clique_run (x : Col) (hx : ByteC x) (hp : 0 ≤ x.p ∧ x.p ≤ 17) (c : Int) (n : Nat) (hn : (n : Int) = x.p) : ∀ (m : Nat) (f : Nat → Bool), m ≤ 100 →
    Run (fun k => spec_l03Clique.f k x c (mask f n : Int) m) (· = !decide (cnum (fun i j => joinsB x i c j) (upF f 0 n) m = 0)) := by
  intro m
  induction m with
  | zero =>
    intro f _
    refine Run.step ?_
    simp only [spec_l03Clique.f]
    exact Run.yes rfl (Run.ret rfl)
  | succ m ihm =>
    intro f hm
    have hm2 : (2 : Nat) ^ n ≤ 2 ^ 17 := Nat.pow_le_pow_right (by omega) (by omega)
    have hlt : ∀ g, mask g n < 2 ^ 17 := fun g => Nat.lt_of_lt_of_le (mask_lt g n) hm2
    refine Run.step ?_
    simp only [spec_l03Clique.f]
    refine Run.no (by omega) ?_
    refine Run.bindE (spec_l01Ones_run _ (by have := hlt f; omega)) ?_
    rw [cnt_mask_upF (by omega)]
    refine Run.ite (fun h => Run.ret ?_) (fun h => ?_)
    · rw [cnum_short _ _ _ _ (Nat.le_refl _) (by omega)]; rfl
    refine Run.loop (L := fun q (z : Int × Int) => spec_l03Clique.l0 q x c ((m + 1 : Nat) : Int) z.1 z.2) (fun z => (x.p - z.2).toNat) (fun z => 0 ≤ z.2 ∧ z.2 ≤ x.p ∧ z.1 = (mask (fun j => f j && decide (z.2.toNat ≤ j)) n : Int) ∧ cnum (fun i j => joinsB x i c j) (upF f 0 n) (m + 1) = cnum (fun i j => joinsB x i c j) (upF f z.2.toNat n) (m + 1)) ?_ (_, 0) ⟨by simp only; omega, by simp only; omega, by simp only; congr 1; exact mask_congr fun j _ => by simp, rfl⟩
    rintro ⟨s, i⟩ ⟨h0, h3, hs, hc⟩ ih
    simp only at h0 h3 hs hc
    simp only [spec_l03Clique.l0]
    rw [hs]
    obtain ⟨i, rfl⟩ := Int.eq_ofNat_of_zero_le h0
    simp only [Int.toNat_natCast] at ih hs hc ⊢
    refine Run.ite (fun hi => ?_) (fun hi => ?_)
    · have hl := hlt (fun j => f j && decide (i ≤ j))
      rw [w64_id (x := (i : Int) + 1) (by omega), wu64_id (by omega)]
      have hb := bit64z (a := mask (fun j => f j && decide (i ≤ j)) n) (n := i) (by omega) (by omega)
      rw [testBit_mask, decide_eq_true (show i < n by omega), Bool.true_and, decide_eq_true (Nat.le_refl i), Bool.and_true] at hb
      refine Run.ite (fun hz => ?_) (fun hz => ?_)
      · have hf := hb.mp hz
        refine ih (_, (i : Int) + 1) ⟨by simp only; omega, by simp only; omega, ?_, ?_⟩ (by simp only; omega)
        · simp only
          rw [show ((i : Int) + 1).toNat = i + 1 by omega]
          congr 1
          exact mask_congr fun j _ => by
            by_cases e : j = i
            · subst e; rw [hf]; rfl
            · congr 1; exact decide_eq_decide.mpr (by omega)
        · simp only
          rw [show ((i : Int) + 1).toNat = i + 1 by omega, hc, upF_no (by omega) (by rw [hf]; simp)]
      · have hf : f i = true := by
          cases hq : f i with
          | true => rfl
          | false => exact absurd (hb.mpr hq) hz
        have hw := mask_without (f := fun j => f j && decide (i ≤ j)) (n := n) (i := i) (by omega) (by simp [hf])
        have hg : mask (fun j => (f j && decide (i ≤ j)) && decide (j ≠ i)) n = mask (fun j => f j && decide (i + 1 ≤ j)) n := mask_congr fun j _ => by
          rw [Bool.and_assoc]
          congr 1
          rw [← Bool.decide_and]
          exact decide_eq_decide.mpr (by omega)
        rw [hg] at hw
        have hl2 := hlt (fun j => f j && decide (i + 1 ≤ j))
        have es : w64 ((mask (fun j => f j && decide (i ≤ j)) n : Int) - shlI .i64 1 (i : Int)) = (mask (fun j => f j && decide (i + 1 ≤ j)) n : Int) := by
          rw [shl64 (by omega), w64_id (by omega)]; omega
        rw [es]
        refine Run.bindE (spec_l01Around_run x hx hp i c hi) ?_
        have hm' := hlt (joinsB x i c)
        rw [show x.p.toNat = n by omega, and64 (by omega) (by omega), mask_and, w64_id (x := ((m + 1 : Nat) : Int) - 1) (by omega), show ((m + 1 : Nat) : Int) - 1 = (m : Int) by omega]
        refine Run.bindE (ihm _ (by omega)) ?_
        have e2 : upF (fun j => (f j && decide (i + 1 ≤ j)) && joinsB x i c j) 0 n = (upF f (i + 1) n).filter (joinsB x i c) := by
          rw [upF_filter, ← upF_from (f := fun j => f j && joinsB x i c j) (by omega)]
          exact upF_congr fun j _ _ => by
            cases f j <;> cases joinsB x i c j <;> cases decide (i + 1 ≤ j) <;> rfl
        rw [e2]
        rw [upF_yes (by omega) hf, cnum_cons] at hc
        refine Run.ite (fun hq => Run.ret ?_) (fun hq => ?_)
        · have hne : ¬ (cnum (fun i j => joinsB x i c j) ((upF f (i + 1) n).filter (joinsB x i c)) m = 0) := by simpa using hq
          rw [hc]
          symm
          rw [Bool.not_eq_true', decide_eq_false_iff_not]
          exact fun hz' => hne (Nat.eq_zero_of_add_eq_zero_right hz')
        · refine ih (_, (i : Int) + 1) ⟨by simp only; omega, by simp only; omega, by simp only; rw [show ((i : Int) + 1).toNat = i + 1 by omega], ?_⟩ (by simp only; omega)
          simp only
          have hz' : cnum (fun i j => joinsB x i c j) ((upF f (i + 1) n).filter (joinsB x i c)) m = 0 := by simpa using hq
          rw [show ((i : Int) + 1).toNat = i + 1 by omega]
          exact hc.trans (by rw [hz', Nat.zero_add])
    · refine Run.ret ?_
      rw [hc, upF_end _ (by omega), cnum_nil]; rfl

theorem spec_l03Avoids_run (n v : Nat) (hn : 2 ≤ n ∧ n ≤ 13) (l : List Int) (hl : twoB l = true) : Run (fun k => spec_l03Avoids.f k (circC n (bitsL (n / 2) v)) l) (· = goodC n l v) := by
  unfold spec_l03Avoids.f goodC
  obtain ⟨hc, hb⟩ := circC_col (n := n) (v := v) (by omega)
  have hnn : (circC n (bitsL (n / 2) v)).p = (n : Int) := rfl
  unfold twoB at hl
  rw [Bool.and_eq_true, decide_eq_true_eq] at hl
  have hclq : ∀ (c m : Nat), hasClique (circC n (bitsL (n / 2) v)) c (m + 1) = !decide (cnum (fun i j => joinsB (circC n (bitsL (n / 2) v)) i c j) (upF (joinsB (circC n (bitsL (n / 2) v)) 0 c) 0 n) m = 0) := fun c m => by
    have h := circ_zero (n := n) (v := v) (c : Int) (by omega) m
    show (!decide (cnum _ (upF (fun _ => true) 0 ((n : Int)).toNat) (m + 1) = 0)) = _
    rw [Int.toNat_natCast]
    congr 1
    exact decide_eq_decide.mpr ⟨fun h1 => Decidable.byContradiction fun h2 => h.mpr h2 h1, fun h1 => Decidable.byContradiction fun h2 => h.mp h2 h1⟩
  have cl := fun c => spec_l03Clique_run (circC n (bitsL (n / 2) v)) hb (by rw [hnn]; omega) c n hnn.symm
  have ar := fun c => spec_l01Around_run (circC n (bitsL (n / 2) v)) hb (by rw [hnn]; omega) 0 c (by rw [hnn]; omega)
  have hpn : (circC n (bitsL (n / 2) v)).p.toNat = n := by rw [hnn]; omega
  generalize circC n (bitsL (n / 2) v) = x at *
  refine Run.loop (L := fun q (i : Int) => spec_l03Avoids.l0 q x l i) (fun i => (2 - i).toNat) (fun i => 0 ≤ i ∧ i ≤ 2 ∧ ∀ j : Nat, (j : Int) < i → hasClique x j (l.getD j 0).toNat = false) ?_ 0 ⟨by omega, by omega, fun j hj => by omega⟩
  rintro i ⟨h0, h3, hJ⟩ ih
  simp only [spec_l03Avoids.l0]
  obtain ⟨i, rfl⟩ := Int.eq_ofNat_of_zero_le h0
  refine Run.ite (fun h => ?_) (fun h => ?_)
  · refine Run.bindE (Run.getI' h0 (by omega)) ?_
    have eg : l.getD i 0 = l[((i : Int)).toNat]'(by omega) := getD_at (by omega)
    have hm := allIn_mem hl.2 _ (List.getElem_mem (l := l) (n := ((i : Int)).toNat) (by omega))
    rw [← eg] at hm ⊢
    have ha := ar (i : Int)
    refine Run.bindE ha ?_
    obtain ⟨m, hmm⟩ : ∃ m : Nat, (l.getD i 0).toNat = m + 1 := ⟨(l.getD i 0).toNat - 1, by omega⟩
    rw [w64_id (x := l.getD i 0 - 1) (by omega), show l.getD i 0 - 1 = (m : Int) by omega, hpn]
    refine Run.bindE (cl (i : Int) m _ (by omega)) ?_
    rw [← hclq i m, ← hmm, w64_id (x := (i : Int) + 1) (by omega)]
    refine Run.ite (fun h5 => ?_) (fun h5 => ?_)
    · refine Run.ret (decide_eq_false fun hq => ?_).symm
      have := hq i (by omega)
      rw [this] at h5; cases h5
    · refine ih ((i : Int) + 1) ⟨by omega, by omega, fun j hj => ?_⟩ (by omega)
      by_cases ej : (j : Int) < i
      · exact hJ j ej
      · obtain rfl : j = i := by omega
        exact Bool.eq_false_iff.mpr h5
  · exact Run.ret (decide_eq_true fun j hj => hJ j (by omega)).symm
end Go.Proofs.Ytkceneefhbdifaa.P
