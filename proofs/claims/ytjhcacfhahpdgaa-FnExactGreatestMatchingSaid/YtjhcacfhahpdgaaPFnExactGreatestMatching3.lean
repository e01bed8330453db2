/- What the pure functions come to, one by one (part 3). -/
import Derived.Test.YtjhcacfhahpdgaaPFnExactGreatestMatching2
import Derived.Test.YtjhcacfhahpdgaaGFnExactGreatestMatching8
namespace Go.Proofs.Ytjhcacfhahpdgaa.P
open Go Go.RowKit Go.Proofs.Ytjhcacfhahpdgaa.K Go.Proofs.Ytjhcacfhahpdgaa.G
set_option linter.unusedVariables false
set_option linter.unusedSimpArgs false

theorem spec_l04Match_run (x : Col) (c : Int) (hp : 0 ≤ x.p ∧ x.p ≤ 17) : ∀ (f S : Nat) (K : List Int), S < 2 ^ x.p.toNat → S < f → MTab (fun i j => joinsB x i c j) x.p.toNat K → Run (fun k => spec_l04Match.f k (rowsM x c x.p.toNat) K (S : Int)) (fun r => r.1 = (mM (fun i j => joinsB x i c j) x.p.toNat S : Int) ∧ MTab (fun i j => joinsB x i c j) x.p.toNat r.2)
  | 0, _, _, _, h, _ => by omega
  | f + 1, S, K, hS, hf, hK => by
    refine Run.step ?_
    simp only [spec_l04Match.f]
    have hm2 : (2 : Nat) ^ x.p.toNat ≤ 2 ^ 17 := Nat.pow_le_pow_right (by omega) (by omega)
    have hlen : ∀ K', MTab (fun i j => joinsB x i c j) x.p.toNat K' → (S : Int) < K'.length := fun K' h => by rw [h.len]; omega
    refine Run.ite (fun h => ?_) (fun h0 => ?_)
    · refine Run.ret ⟨?_, hK⟩
      rw [show S = 0 by omega, mM_zero]; rfl
    have hS0 : S ≠ 0 := by omega
    refine Run.bindE (Run.getI' (by omega) (hlen K hK)) ?_
    have eg : K.getD S 0 = K[((S : Nat) : Int).toNat]'(by have := hlen K hK; omega) := getD_at (by have := hlen K hK; omega)
    rw [← eg]
    refine Run.ite (fun h => ?_) (fun _ => ?_)
    · refine Run.bindE (Run.getI' (by omega) (hlen K hK)) ?_
      rw [← eg]
      exact Run.ret ⟨hK.val S hS h, hK⟩
    obtain ⟨l1, l2⟩ := low_in hS0 hS
    have hmm := mM_eq (G := fun i j => joinsB x i c j) hS0 hS
    have h0e : lowS S x.p.toNat = lowS S x.p.toNat := rfl
    refine Run.loop (L := fun q (z : Int) => spec_l04Match.l0 q (rowsM x c x.p.toNat) K (S : Int) z) (fun z => (x.p - z).toNat) (fun z => 0 ≤ z ∧ z ≤ x.p ∧ upF S.testBit z.toNat x.p.toNat = upF S.testBit 0 x.p.toNat) ?_ 0 ⟨by omega, by omega, rfl⟩
    rintro j ⟨j0, j1, hj⟩ ih
    obtain ⟨j, rfl⟩ := Int.eq_ofNat_of_zero_le j0
    simp only [Int.toNat_natCast] at ih hj ⊢
    simp only [spec_l04Match.l0]
    have hne := upF_some hS0 hS
    have hjn : j < x.p.toNat := by
      apply Decidable.byContradiction
      intro hn
      rw [upF_end S.testBit (p := j) (by omega)] at hj
      exact hne hj.symm
    rw [wu64_id (x := (j : Int)) (by omega), w64_id (x := (j : Int) + 1) (by omega)]
    refine Run.ite (fun h => ?_) (fun h => ?_)
    · rw [bit64z (by omega) (by omega)] at h
      refine ih ((j : Int) + 1) ⟨by omega, by omega, ?_⟩ (by omega)
      rw [show ((j : Int) + 1).toNat = j + 1 by omega, ← hj, upF_no (f := S.testBit) hjn (by rw [h]; simp)]
    have hb : S.testBit j = true := by
      cases hb : S.testBit j with
      | true => rfl
      | false => exact absurd ((bit64z (by omega) (by omega)).mpr hb) h
    have el : lowS S x.p.toNat = j := by unfold lowS; rw [← hj, upF_yes (f := S.testBit) hjn hb]; rfl
    rw [el] at hmm
    rw [shl64 (by omega), rm_xor (n := x.p.toNat) (by omega) hS (by omega)]
    have hR := rm_lt hS hb
    refine Run.bind (spec_l04Match_run x c hp f (S ^^^ 2 ^ j) K (by omega) (by omega) hK) fun r hr => ?_
    obtain ⟨hr1, hr2⟩ := hr
    refine Run.loop (L := fun q (z : List Int × Int × Int) => spec_l04Match.l1 q (rowsM x c x.p.toNat) (S : Int) (j : Int) z.1 z.2.1 z.2.2) (fun z => (x.p - z.2.2).toNat)
      (fun z => (j : Int) + 1 ≤ z.2.2 ∧ z.2.2 ≤ x.p ∧ MTab (fun i j => joinsB x i c j) x.p.toNat z.1 ∧ ∃ a : Nat, z.2.1 = a ∧ (upF (fun p => (S ^^^ 2 ^ j).testBit p && joinsB x j c p) z.2.2.toNat x.p.toNat).foldl (fun a p => max a (mM (fun i j => joinsB x i c j) x.p.toNat (S ^^^ 2 ^ j ^^^ 2 ^ p) + 1)) a = mM (fun i j => joinsB x i c j) x.p.toNat S) ?_ (r.2, r.1, (j : Int) + 1) ⟨by simp only; omega, by simp only; omega, hr2, _, hr1, by simp only; rw [show ((j : Int) + 1).toNat = j + 1 by omega]; exact hmm.symm⟩
    rintro ⟨K', b, p⟩ ⟨p0, p1, hK', a, ha, hfo⟩ ih2
    simp only at p0 p1 hK' ha hfo
    obtain ⟨p, rfl⟩ := Int.eq_ofNat_of_zero_le (show 0 ≤ p by omega)
    simp only [Int.toNat_natCast] at ih2 hfo ⊢
    subst ha
    simp only [spec_l04Match.l1, rowsM_length]
    refine Run.ite (fun hpn => ?_) (fun hpn => ?_)
    · have hpn' : p < x.p.toNat := by omega
      have no : ¬ ((S ^^^ 2 ^ j).testBit p && joinsB x j c p) = true → Run (fun q => spec_l04Match.l1 q (rowsM x c x.p.toNat) (S : Int) (j : Int) K' (a : Int) ((p : Int) + 1)) (fun r => r.1 = (mM (fun i j => joinsB x i c j) x.p.toNat S : Int) ∧ MTab (fun i j => joinsB x i c j) x.p.toNat r.2) := fun hq => by
        refine ih2 (K', (a : Int), (p : Int) + 1) ⟨by simp only; omega, by simp only; omega, hK', a, rfl, ?_⟩ (by simp only; omega)
        simp only
        rw [show ((p : Int) + 1).toNat = p + 1 by omega]
        rw [upF_no (f := fun p => (S ^^^ 2 ^ j).testBit p && joinsB x j c p) hpn' hq] at hfo
        exact hfo
      rw [w64_id (x := (p : Int) + 1) (by omega), wu64_id (x := (p : Int)) (by omega)]
      rw [wu64_id (x := (j : Int)) (by omega), shl64 (by omega), rm_xor (n := x.p.toNat) (by omega) hS (by omega)]
      refine Run.ite (fun h1 => ?_) (fun h1 => no (fun hq => h1 ((bit64 (by omega) (by omega)).mpr ((Bool.and_eq_true _ _).mp hq).1)))
      have hb1 := (bit64 (by omega) (by omega)).mp h1
      refine Run.bindE (Run.getI' (by omega) (by rw [rowsM_length]; omega)) ?_
      rw [rowsM_at]
      have hml := Nat.lt_of_lt_of_le (mask_lt (joinsB x j c) x.p.toNat) hm2
      refine Run.ite (fun h2 => ?_) (fun h2 => no (fun hq => h2 ((bit64 (by omega) (by omega)).mpr (by rw [testBit_mask, decide_eq_true hpn', Bool.true_and]; exact ((Bool.and_eq_true _ _).mp hq).2)))) 
      have hb2 := (bit64 (by omega) (by omega)).mp h2
      rw [testBit_mask, decide_eq_true hpn', Bool.true_and] at hb2
      rw [shl64 (by omega), rm_xor (n := x.p.toNat) (by omega) (by omega) (by omega)]
      have hR2 := rm_lt (n := x.p.toNat) (by omega) hb1
      refine Run.bind (spec_l04Match_run x c hp f (S ^^^ 2 ^ j ^^^ 2 ^ p) K' (by omega) (by omega) hK') fun r' hr' => ?_
      obtain ⟨hs1, hs2⟩ := hr'
      have hle := mM_le (fun i j => joinsB x i c j) x.p.toNat (S ^^^ 2 ^ j ^^^ 2 ^ p)
      rw [hs1, w64_id (by omega)]
      refine ih2 (r'.2, _, (p : Int) + 1) ⟨by simp only; omega, by simp only; omega, hs2, max a (mM (fun i j => joinsB x i c j) x.p.toNat (S ^^^ 2 ^ j ^^^ 2 ^ p) + 1), by simp only; omega, ?_⟩ (by simp only; omega)
      simp only
      rw [show ((p : Int) + 1).toNat = p + 1 by omega]
      rw [upF_yes (f := fun p => (S ^^^ 2 ^ j).testBit p && joinsB x j c p) hpn' (by simp only [hb1, hb2]; rfl), List.foldl_cons] at hfo
      exact hfo
    · rw [upF_end _ (p := p) (by omega), List.foldl_nil] at hfo
      refine Run.bindE (Run.getI' (by omega) (hlen K' hK')) ?_
      refine Run.ret ⟨by rw [hfo], ?_⟩
      simp only [Int.toNat_natCast]
      rw [hfo]
      exact hK'.put hS
end Go.Proofs.Ytjhcacfhahpdgaa.P
