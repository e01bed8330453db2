/- What the pure functions come to, one by one (part 5). -/
import Derived.Test.YtjhcacfhahpdgaaPFnExactGreatestMatching4
import Derived.Test.YtjhcacfhahpdgaaGFnExactGreatestMatching8
namespace Go.Proofs.Ytjhcacfhahpdgaa.P
open Go Go.RowKit Go.Proofs.Ytjhcacfhahpdgaa.K Go.Proofs.Ytjhcacfhahpdgaa.G
set_option linter.unusedVariables false
set_option linter.unusedSimpArgs false

theorem impl_Colouring_hasColour_run (x : Col) (hp : 1 ≤ x.k ∧ x.k ≤ 1000) (c : Int) : Run (fun _ => impl_Colouring_hasColour.f x c) (· = decide (0 ≤ c ∧ c ≤ x.k - 1)) := by
  unfold impl_Colouring_hasColour.f
  rw [w64_id (x := x.k - 1) (by omega)]
  refine Run.bindE (impl_in_run _ _ _) ?_
  exact Run.ret rfl

theorem impl_Colouring_colourCode_1_run (x : Col) (hc : IsCol x) (c : Int) (b : Bool) : Run (fun _ => impl_Colouring_colourCode_1.f x c b) (· = (decide (0 ≤ c ∧ c ≤ x.k - 1) && b)) := by
  unfold impl_Colouring_colourCode_1.f
  have h2 := hc.2.1
  refine Run.bindE (impl_Colouring_hasColour_run x (by omega) c) ?_
  refine Run.ite (fun h => ?_) (fun h => ?_)
  · exact Run.ret (by rw [h, Bool.true_and])
  · exact Run.ret (by rw [Bool.eq_false_iff.mpr h, Bool.false_and])

theorem impl_Colouring_code__Colouring_colourCode_1_run (x : Col) (hx : ByteC x) (c : Int) (b : Bool) : Run (fun k => impl_Colouring_code__Colouring_colourCode_1.f k x c b) (· = given (isB x) (decide (0 ≤ c ∧ c ≤ x.k - 1) && b)) := by
  unfold impl_Colouring_code__Colouring_colourCode_1.f
  refine Run.bindE (impl_Colouring_isColouring_run x hx) ?_
  refine Run.itn (fun h1 => ?_) (fun h1 => ?_)
  · exact Run.ret (by rw [given, if_neg h1])
  rw [given, if_pos h1]
  refine Run.bindE (impl_Colouring_colourCode_1_run x (isB_spec h1) c b) ?_
  exact Run.ite (fun h3 => Run.ret (by rw [if_pos h3])) (fun h3 => Run.ret (by rw [if_neg h3]))

theorem impl_Colouring_colourCode_run (x : Col) (hx : ByteC x) (c : Int) (b : Bool) : Run (fun k => impl_Colouring_colourCode.f k x c b) (· = given (isB x) (decide (0 ≤ c ∧ c ≤ x.k - 1) && b)) := by
  unfold impl_Colouring_colourCode.f
  refine Run.bindE (impl_Colouring_code__Colouring_colourCode_1_run x hx c b) ?_
  exact Run.ret rfl

theorem impl_number_run (i j : Nat) (hi : i ≤ 1000) (hj : j ≤ 1000) : Run (fun _ => impl_number.f i j) (· = (edg i j : Int)) := by
  unfold impl_number.f
  have hm : (max i j) ≤ 1000 := by omega
  have ti := tri_mono hm
  have tt : tri 1000 = 499500 := rfl
  rw [show max (i : Int) (j : Int) = ((max i j : Nat) : Int) by omega, show min (i : Int) (j : Int) = ((min i j : Nat) : Int) by omega]
  refine Run.ret ?_
  rw [tri_int (by omega), w64_id (by omega), edg]
  split
  · rw [show max i j = i by omega, show min i j = j by omega]; rfl
  · rw [show max i j = j by omega, show min i j = i by omega]; rfl

theorem impl_Colouring_at_run (x : Col) (hx : ByteC x) (hp : 0 ≤ x.p ∧ x.p ≤ 17) (i j : Nat) (hi : (i : Int) < x.p) (hj : (j : Int) < x.p) (hn : i ≠ j) : Run (fun _ => impl_Colouring_at.f x i j) (· = colr x i j) := by
  unfold impl_Colouring_at.f
  refine Run.bindE (impl_number_run i j (by omega) (by omega)) ?_
  have := edg_lt136 (i := i) (j := j) (p := x.p.toNat) (by omega) (by omega) (by omega) hn
  refine Run.bindE (Run.getB' (by omega) (by omega)) ?_
  have hb := hx ((edg i j : Nat) : Int).toNat
  exact Run.ret (w64_id (by omega))

theorem impl_Colouring_joins_run (x : Col) (hx : ByteC x) (hp : 0 ≤ x.p ∧ x.p ≤ 17) (i j : Nat) (c : Int) (hi : (i : Int) < x.p) (hj : (j : Int) < x.p) : Run (fun _ => impl_Colouring_joins.f x i j c) (· = joinsB x i c j) := by
  unfold impl_Colouring_joins.f
  refine Run.ite (fun h => ?_) (fun h => ?_)
  · refine Run.bindE (impl_Colouring_at_run x hx hp i j hi hj (by omega)) ?_
    refine Run.ret ?_
    rw [joinsB, decide_eq_true (p := i ≠ j) (by omega), Bool.true_and]
  · refine Run.ret ?_
    rw [joinsB, decide_eq_false (p := i ≠ j) (by omega), Bool.false_and]

theorem impl_matcher_behind_run (x : Col) (hx : ByteC x) (c : Int) (hp : 0 ≤ x.p ∧ x.p ≤ 17) : ∀ (f S : Nat) (M : List (Int × Int)), S < 2 ^ x.p.toNat → S < f → MMem (fun i j => joinsB x i c j) x.p.toNat M → Run (fun k => impl_matcher_behind.f k x c M (S : Int)) (fun r => r.1 = (mM (fun i j => joinsB x i c j) x.p.toNat S : Int) ∧ MMem (fun i j => joinsB x i c j) x.p.toNat r.2)
  | 0, _, _, _, h, _ => by omega
  | f + 1, S, M, hS, hf, hM => by
    refine Run.step ?_
    simp only [impl_matcher_behind.f]
    have hm2 : (2 : Nat) ^ x.p.toNat ≤ 2 ^ 17 := Nat.pow_le_pow_right (by omega) (by omega)
    refine Run.ite (fun h => ?_) (fun h0 => ?_)
    · refine Run.ret ⟨?_, hM⟩
      rw [show S = 0 by omega, mM_zero]; rfl
    have hS0 : S ≠ 0 := by omega
    refine Run.ite (fun hk => ?_) (fun _ => ?_)
    · refine Run.ret ⟨?_, hM⟩
      obtain ⟨v, hv⟩ := Option.isSome_iff_exists.mp hk
      rw [hv]
      exact hM S hS v hv
    obtain ⟨l1, l2⟩ := low_in hS0 hS
    have hmm := mM_eq (G := fun i j => joinsB x i c j) hS0 hS
    refine Run.loop (L := fun q (z : Int) => impl_matcher_behind.l0 q x c M (S : Int) z) (fun z => (x.p - z).toNat) (fun z => 0 ≤ z ∧ z ≤ x.p ∧ upF S.testBit z.toNat x.p.toNat = upF S.testBit 0 x.p.toNat) ?_ 0 ⟨by omega, by omega, rfl⟩
    rintro j ⟨j0, j1, hj⟩ ih
    obtain ⟨j, rfl⟩ := Int.eq_ofNat_of_zero_le j0
    simp only [Int.toNat_natCast] at ih hj ⊢
    simp only [impl_matcher_behind.l0]
    have hne := upF_some hS0 hS
    have hjn : j < x.p.toNat := by
      apply Decidable.byContradiction
      intro hn
      rw [upF_end S.testBit (p := j) (by omega)] at hj
      exact hne hj.symm
    refine Run.bind (Q := fun _ => True) (Run.guard (by omega) trivial) fun _ _ => ?_
    rw [w64_id (x := (j : Int) + 1) (by omega)]
    refine Run.ite (fun h => ?_) (fun h => ?_)
    · rw [bit64z (by omega) (by omega)] at h
      refine ih ((j : Int) + 1) ⟨by omega, by omega, ?_⟩ (by omega)
      rw [show ((j : Int) + 1).toNat = j + 1 by omega, ← hj, upF_no (f := S.testBit) hjn (by rw [h]; simp)]
    have hb : S.testBit j = true := by
      cases hb : S.testBit j with
      | true => rfl
      | false => exact absurd ((bit64z (by omega) (by omega)).mpr hb) h
    have el : lowS S x.p.toNat = j := by unfold lowS; rw [← hj, upF_yes (f := S.testBit) hjn hb]; rfl
    rw [el] at hmm
    refine Run.bind (Q := fun _ => True) (Run.guard (by omega) trivial) fun _ _ => ?_
    rw [shl64 (by omega), rm_andNot (n := x.p.toNat) (by omega) hS hb]
    have hR := rm_lt hS hb
    refine Run.bind (impl_matcher_behind_run x hx c hp f (S ^^^ 2 ^ j) M (by omega) (by omega) hM) fun r hr => ?_
    obtain ⟨hr1, hr2⟩ := hr
    refine Run.loop (L := fun q (z : List (Int × Int) × Int × Int) => impl_matcher_behind.l1 q x c (S : Int) (j : Int) z.1 z.2.1 z.2.2) (fun z => (x.p - z.2.2).toNat)
      (fun z => (j : Int) + 1 ≤ z.2.2 ∧ z.2.2 ≤ x.p ∧ MMem (fun i j => joinsB x i c j) x.p.toNat z.1 ∧ ∃ a : Nat, z.2.1 = a ∧ (upF (fun p => (S ^^^ 2 ^ j).testBit p && joinsB x j c p) z.2.2.toNat x.p.toNat).foldl (fun a p => max a (mM (fun i j => joinsB x i c j) x.p.toNat (S ^^^ 2 ^ j ^^^ 2 ^ p) + 1)) a = mM (fun i j => joinsB x i c j) x.p.toNat S) ?_ (r.2, r.1, (j : Int) + 1) ⟨by simp only; omega, by simp only; omega, hr2, _, hr1, by simp only; rw [show ((j : Int) + 1).toNat = j + 1 by omega]; exact hmm.symm⟩
    rintro ⟨M', b, p⟩ ⟨p0, p1, hM', a, ha, hfo⟩ ih2
    simp only at p0 p1 hM' ha hfo
    obtain ⟨p, rfl⟩ := Int.eq_ofNat_of_zero_le (show 0 ≤ p by omega)
    simp only [Int.toNat_natCast] at ih2 hfo ⊢
    subst ha
    simp only [impl_matcher_behind.l1]
    refine Run.ite (fun hpn => ?_) (fun hpn => ?_)
    · have hpn' : p < x.p.toNat := by omega
      have no : ¬ ((S ^^^ 2 ^ j).testBit p && joinsB x j c p) = true → Run (fun q => impl_matcher_behind.l1 q x c (S : Int) (j : Int) M' (a : Int) ((p : Int) + 1)) (fun r => r.1 = (mM (fun i j => joinsB x i c j) x.p.toNat S : Int) ∧ MMem (fun i j => joinsB x i c j) x.p.toNat r.2) := fun hq => by
        refine ih2 (M', (a : Int), (p : Int) + 1) ⟨by simp only; omega, by simp only; omega, hM', a, rfl, ?_⟩ (by simp only; omega)
        simp only
        rw [show ((p : Int) + 1).toNat = p + 1 by omega]
        rw [upF_no (f := fun p => (S ^^^ 2 ^ j).testBit p && joinsB x j c p) hpn' hq] at hfo
        exact hfo
      rw [w64_id (x := (p : Int) + 1) (by omega)]
      rw [shl64 (n := j) (by omega), rm_andNot (n := x.p.toNat) (by omega) hS hb]
      refine Run.bind (Q := fun _ => True) (Run.guard (by omega) trivial) fun _ _ => ?_
      refine Run.ite (fun h1 => ?_) (fun h1 => no (fun hq => h1 ((bit64 (by omega) (by omega)).mpr ((Bool.and_eq_true _ _).mp hq).1)))
      have hb1 := (bit64 (by omega) (by omega)).mp h1
      refine Run.bindE (impl_Colouring_joins_run x hx hp j p c (by omega) (by omega)) ?_
      refine Run.ite (fun hb2 => ?_) (fun h2 => no (fun hq => h2 ((Bool.and_eq_true _ _).mp hq).2))
      refine Run.bind (Q := fun _ => True) (Run.guard (by omega) trivial) fun _ _ => ?_
      rw [shl64 (by omega), rm_andNot (n := x.p.toNat) (by omega) (by omega) hb1]
      have hR2 := rm_lt (n := x.p.toNat) (by omega) hb1
      refine Run.bind (impl_matcher_behind_run x hx c hp f (S ^^^ 2 ^ j ^^^ 2 ^ p) M' (by omega) (by omega) hM') fun r' hr' => ?_
      obtain ⟨hs1, hs2⟩ := hr'
      have hle := mM_le (fun i j => joinsB x i c j) x.p.toNat (S ^^^ 2 ^ j ^^^ 2 ^ p)
      rw [hs1, w64_id (by omega)]
      refine ih2 (r'.2, _, (p : Int) + 1) ⟨by simp only; omega, by simp only; omega, hs2, max a (mM (fun i j => joinsB x i c j) x.p.toNat (S ^^^ 2 ^ j ^^^ 2 ^ p) + 1), by simp only; omega, ?_⟩ (by simp only; omega)
      simp only
      rw [show ((p : Int) + 1).toNat = p + 1 by omega]
      rw [upF_yes (f := fun p => (S ^^^ 2 ^ j).testBit p && joinsB x j c p) hpn' (by simp only [hb1, hb2]; rfl), List.foldl_cons] at hfo
      exact hfo
    · rw [upF_end _ (p := p) (by omega), List.foldl_nil] at hfo
      refine Run.ret ⟨by rw [hfo], ?_⟩
      rw [hfo]
      exact hM'.put
end Go.Proofs.Ytjhcacfhahpdgaa.P
