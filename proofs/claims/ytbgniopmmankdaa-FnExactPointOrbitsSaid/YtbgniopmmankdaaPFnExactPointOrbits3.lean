/- What the pure functions come to, one by one (part 3). -/
import Derived.Test.YtbgniopmmankdaaPFnExactPointOrbits2
import Derived.Test.YtbgniopmmankdaaGFnExactPointOrbits11
namespace Go.Proofs.Ytbgniopmmankdaa.P
open Go Go.RowKit Go.Proofs.Ytbgniopmmankdaa.K Go.Proofs.Ytbgniopmmankdaa.G
set_option linter.unusedVariables false
set_option linter.unusedSimpArgs false

theorem spec_l06Types_run (x : Col) (hx : ByteC x) (hc : IsCol x) : Run (fun k => spec_l06Types.f k x) (· = (List.range x.p.toNat).map fun i => (enc x i x.k.toNat : Int)) := by
  unfold spec_l06Types.f
  have hp := hc.1
  have hk := hc.2.1
  have hm2 : (2 : Nat) ^ x.p.toNat ≤ 2 ^ 17 := Nat.pow_le_pow_right (by omega) (by omega)
  refine Run.loop (L := fun q (z : List Int × Int) => spec_l06Types.l0 q x z.1 z.2) (fun z => (x.p - z.2).toNat) (fun z => 0 ≤ z.2 ∧ z.2 ≤ x.p ∧ z.1 = (List.range z.2.toNat).map fun i => (enc x i x.k.toNat : Int)) ?_ ([], 0) ⟨by simp only; omega, by simp only; omega, rfl⟩
  rintro ⟨l, i⟩ ⟨i0, i1, hl⟩ ih
  simp only at i0 i1 hl
  obtain ⟨i, rfl⟩ := Int.eq_ofNat_of_zero_le i0
  simp only [Int.toNat_natCast] at ih hl ⊢
  simp only [spec_l06Types.l0]
  refine Run.ite (fun hi => ?_) (fun hi => Run.ret (by rw [hl, show i = x.p.toNat by omega]))
  refine Run.loop (L := fun q (z : Int × Int) => spec_l06Types.l1 q x l (i : Int) z.1 z.2) (fun z => (x.k - z.2).toNat) (fun z => 0 ≤ z.2 ∧ z.2 ≤ x.k ∧ z.1 = (enc x i z.2.toNat : Int)) ?_ (0, 0) ⟨by simp only; omega, by simp only; omega, rfl⟩
  rintro ⟨o, c⟩ ⟨c0, c1, ho⟩ ih2
  simp only at c0 c1 ho
  obtain ⟨c, rfl⟩ := Int.eq_ofNat_of_zero_le c0
  simp only [Int.toNat_natCast] at ih2 ho ⊢
  subst ho
  simp only [spec_l06Types.l1]
  have hel := enc_lt (x := x) (by omega) i c
  have h18 : 18 ^ c ≤ 18 ^ 4 := Nat.pow_le_pow_right (by omega) (by omega)
  have h4 : (18 : Nat) ^ 4 = 104976 := rfl
  refine Run.ite (fun hcn => ?_) (fun hcn => ?_)
  · refine Run.bindE (spec_l01Around_run x hx (by omega) i c hi) ?_
    have hml := Nat.lt_of_lt_of_le (mask_lt (joinsB x i c) x.p.toNat) hm2
    refine Run.bindE (spec_l01Ones_run _ (by omega)) ?_
    rw [cnt_mask (by omega)]
    have hd := degC_lt (x := x) (by omega) c i
    unfold degC at hd
    rw [w64_id (x := (enc x i c : Int) * 18) (by omega), w64_id (by omega), w64_id (x := (c : Int) + 1) (by omega)]
    refine ih2 (_, (c : Int) + 1) ⟨by simp only; omega, by simp only; omega, ?_⟩ (by simp only; omega)
    simp only
    rw [show ((c : Int) + 1).toNat = c + 1 by omega, enc, degC]
    omega
  · refine Run.bindE (Run.push' (by rw [hl]; simp; omega)) ?_
    rw [w64_id (x := (i : Int) + 1) (by omega)]
    refine ih (_, (i : Int) + 1) ⟨by simp only; omega, by simp only; omega, ?_⟩ (by simp only; omega)
    simp only
    rw [show ((i : Int) + 1).toNat = i + 1 by omega, List.range_succ, List.map_append, hl, show c = x.k.toNat by omega]
    rfl

theorem spec_l01Own_run (l : List Int) (hl : l.length < 1099511627776) : Run (fun _ => spec_l01Own.f l) (· = l) := by
  unfold spec_l01Own.f
  refine Run.bindE (Run.concat' (by simp; omega)) ?_
  exact Run.ret (List.nil_append l)
end Go.Proofs.Ytbgniopmmankdaa.P
