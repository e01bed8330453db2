/- What the pure functions come to, one by one (part 3). -/
import Derived.Test.YtbgniopmmankdaaPFnExactIsSelfAlike2
import Derived.Test.YtbgniopmmankdaaGFnExactIsSelfAlike9
namespace Go.Proofs.Ytbgniopmmankdaa.P
open Go Go.RowKit Go.Proofs.Ytbgniopmmankdaa.K Go.Proofs.Ytbgniopmmankdaa.G
set_option linter.unusedVariables false
set_option linter.unusedSimpArgs false

theorem spec_l01Around_run (x : Col) (hx : ByteC x) (hp : 0 ≤ x.p ∧ x.p ≤ 17) (i : Nat) (c : Int) (hi : (i : Int) < x.p) : Run (fun k => spec_l01Around.f k x i c) (· = (mask (joinsB x i c) x.p.toNat : Int)) := by
  unfold spec_l01Around.f
  refine Run.loop (L := fun q (s : Int × Int) => spec_l01Around.l0 q x i c s.1 s.2) (fun s => (x.p - s.2).toNat) (fun s => 0 ≤ s.2 ∧ s.2 ≤ x.p ∧ s.1 = (mask (joinsB x i c) s.2.toNat : Int)) ?_ (0, 0) ⟨by simp only; omega, by simp only; omega, rfl⟩
  rintro ⟨s, j⟩ ⟨h0, h3, hs⟩ ih
  simp only at h0 h3 hs
  simp only [spec_l01Around.l0]
  obtain ⟨j, rfl⟩ := Int.eq_ofNat_of_zero_le h0
  simp only [Int.toNat_natCast] at hs
  refine Run.ite (fun h => ?_) (fun h => ?_)
  · have hm := mask_lt (joinsB x i c) j
    have hm2 : (2 : Nat) ^ j ≤ 2 ^ 17 := Nat.pow_le_pow_right (by omega) (by omega)
    rw [w64_id (x := (j : Int) + 1) (by omega)]
    refine Run.ite (fun h1 => ?_) (fun h1 => ?_)
    · refine Run.bindE (spec_l01At_run x hx hp i j hi h (by omega)) ?_
      refine Run.ite (fun h2 => ?_) (fun h2 => ?_)
      · have hj : joinsB x i c j = true := by rw [joinsB, decide_eq_true (p := i ≠ j) (by omega), h2]; simp
        rw [wu64_id (by omega), shl64 (by omega), hs, or64 (by omega) (by omega)]
        refine ih (_, (j : Int) + 1) ⟨by simp only; omega, by simp only; omega, ?_⟩ (by simp only; omega)
        simp only
        rw [show ((j : Int) + 1).toNat = j + 1 by omega, mask, if_pos hj]
      · have hj : ¬ joinsB x i c j = true := by rw [joinsB, decide_eq_false h2]; simp
        refine ih (_, (j : Int) + 1) ⟨by simp only; omega, by simp only; omega, ?_⟩ (by simp only; omega)
        simp only
        rw [show ((j : Int) + 1).toNat = j + 1 by omega, mask, if_neg hj, hs]
    · have hj : ¬ joinsB x i c j = true := by rw [joinsB, decide_eq_false (p := i ≠ j) (by omega)]; simp
      refine ih (_, (j : Int) + 1) ⟨by simp only; omega, by simp only; omega, ?_⟩ (by simp only; omega)
      simp only
      rw [show ((j : Int) + 1).toNat = j + 1 by omega, mask, if_neg hj, hs]
  · refine Run.ret ?_
    rw [hs, show x.p.toNat = j by omega]

theorem spec_l01Ones_run (s : Nat) (hs : s < 2 ^ 62) : Run (fun k => spec_l01Ones.f k (s : Int)) (· = (cnt s.testBit 62 : Int)) := by
  unfold spec_l01Ones.f
  refine Run.loop (L := fun q (z : Int × Int) => spec_l01Ones.l0 q z.1 z.2) (fun z => z.1.toNat) (fun z => ∃ v a n : Nat, z = ((v : Int), (a : Int)) ∧ v < 2 ^ n ∧ n ≤ 62 ∧ a ≤ 62 - n ∧ a + cnt v.testBit n = cnt s.testBit 62) ?_ (s, 0) ⟨s, 0, 62, rfl, hs, by omega, by omega, by omega⟩
  rintro _ ⟨v, a, n, rfl, hv, hn, ha, hc⟩ ih
  simp only [spec_l01Ones.l0]
  refine Run.ite (fun h => ?_) (fun h => ?_)
  · have hn0 : n ≠ 0 := by intro h0; subst h0; simp at hv; omega
    obtain ⟨n, rfl⟩ : ∃ m, n = m + 1 := ⟨n - 1, by omega⟩
    have hb : (2 : Nat) ^ (n + 1) ≤ 2 ^ 62 := Nat.pow_le_pow_right (by omega) hn
    have hp : (2 : Nat) ^ (n + 1) = 2 ^ n * 2 := Nat.pow_succ ..
    have e1 : Int.tdiv (v : Int) 2 = ((v / 2 : Nat) : Int) := rfl
    have e2 : Int.tmod (v : Int) 2 = ((v % 2 : Nat) : Int) := rfl
    rw [cnt_half] at hc
    rw [e1, e2, w64_id (x := ((v / 2 : Nat) : Int)) (by omega), w64_id (x := (a : Int) + ((v % 2 : Nat) : Int)) (by omega)]
    refine ih (((v / 2 : Nat) : Int), ((a + v % 2 : Nat) : Int)) ⟨v / 2, a + v % 2, n, rfl, by omega, by omega, by omega, by omega⟩ (by simp only; omega)
  · obtain rfl : v = 0 := by omega
    refine Run.ret ?_
    have : cnt (0 : Nat).testBit n = 0 := by
      unfold cnt
      rw [sel_congr (g := fun _ => false) fun j _ => by simp]
      have : sel (fun _ => false) n = [] := by simp [sel]
      rw [this]; rfl
    omega

theorem spec_l06Types_run (x : Col) (hx : ByteC x) (hc : IsCol x) : Run (fun k => spec_l06Types.f k x) (· = (List.range x.p.toNat).map fun i => (enc x i x.k.toNat : Int)) := by
  unfold spec_l06Types.f
  have hp := hc.1
  have hk := hc.2.1
  have hm2 : (2 : Nat) ^ x.p.toNat ≤ 2 ^ 17 := Nat.pow_le_pow_right (by omega) (by omega)
  refine Run.loop (L := fun q (z : List Int × Int) => spec_l06Types.l0 q x z.1 z.2) (fun z => (x.p - z.2).toNat) (fun z => 0 ≤ z.2 ∧ z.2 ≤ x.p ∧ z.1 = (List.range z.2.toNat).map fun i => (enc x i x.k.toNat : Int)) ?_ ([], 0) ⟨by simp only; omega, by simp only; omega, rfl⟩
  rintro ⟨l, i⟩ ⟨i0, i1, hl⟩ ih
  simp only at i0 i1 hl
  obtain ⟨i, rfl⟩ := Int.eq_ofNat_of_zero_le i0
  simp only [Int.toNat_natCast] at ih hl ⊢
  simp only [spec_l06Types.l0]
  refine Run.ite (fun hi => ?_) (fun hi => Run.ret (by rw [hl, show i = x.p.toNat by omega]))
  refine Run.loop (L := fun q (z : Int × Int) => spec_l06Types.l1 q x l (i : Int) z.1 z.2) (fun z => (x.k - z.2).toNat) (fun z => 0 ≤ z.2 ∧ z.2 ≤ x.k ∧ z.1 = (enc x i z.2.toNat : Int)) ?_ (0, 0) ⟨by simp only; omega, by simp only; omega, rfl⟩
  rintro ⟨o, c⟩ ⟨c0, c1, ho⟩ ih2
  simp only at c0 c1 ho
  obtain ⟨c, rfl⟩ := Int.eq_ofNat_of_zero_le c0
  simp only [Int.toNat_natCast] at ih2 ho ⊢
  subst ho
  simp only [spec_l06Types.l1]
  have hel := enc_lt (x := x) (by omega) i c
  have h18 : 18 ^ c ≤ 18 ^ 4 := Nat.pow_le_pow_right (by omega) (by omega)
  have h4 : (18 : Nat) ^ 4 = 104976 := rfl
  refine Run.ite (fun hcn => ?_) (fun hcn => ?_)
  · refine Run.bindE (spec_l01Around_run x hx (by omega) i c hi) ?_
    have hml := Nat.lt_of_lt_of_le (mask_lt (joinsB x i c) x.p.toNat) hm2
    refine Run.bindE (spec_l01Ones_run _ (by omega)) ?_
    rw [cnt_mask (by omega)]
    have hd := degC_lt (x := x) (by omega) c i
    unfold degC at hd
    rw [w64_id (x := (enc x i c : Int) * 18) (by omega), w64_id (by omega), w64_id (x := (c : Int) + 1) (by omega)]
    refine ih2 (_, (c : Int) + 1) ⟨by simp only; omega, by simp only; omega, ?_⟩ (by simp only; omega)
    simp only
    rw [show ((c : Int) + 1).toNat = c + 1 by omega, enc, degC]
    omega
  · refine Run.bindE (Run.push' (by rw [hl]; simp; omega)) ?_
    rw [w64_id (x := (i : Int) + 1) (by omega)]
    refine ih (_, (i : Int) + 1) ⟨by simp only; omega, by simp only; omega, ?_⟩ (by simp only; omega)
    simp only
    rw [show ((i : Int) + 1).toNat = i + 1 by omega, List.range_succ, List.map_append, hl, show c = x.k.toNat by omega]
    rfl
end Go.Proofs.Ytbgniopmmankdaa.P
