/- What the pure functions come to, one by one (part 6). -/
import Derived.Test.YtjhcacfhahpdgaaPFnExactFirstCycle5
import Derived.Test.YtjhcacfhahpdgaaGFnExactFirstCycle8
namespace Go.Proofs.Ytjhcacfhahpdgaa.P
open Go Go.RowKit Go.Proofs.Ytjhcacfhahpdgaa.K Go.Proofs.Ytjhcacfhahpdgaa.G
set_option linter.unusedVariables false
set_option linter.unusedSimpArgs false

theorem spec_l04First_run (x : Col) (hx : ByteC x) (c : Int) (hp : 1 ≤ x.p ∧ x.p ≤ 17) (m : Nat) (hm : 3 ≤ m ∧ m ≤ 17) : Run (fun k => spec_l04First.f k x c (m : Int)) (fun r => r.2 = (fstCyc (fun i j => joinsB x i c j) x.p.toNat m 0).isSome ∧ (r.2 = true → r.1 = listO (fstCyc (fun i j => joinsB x i c j) x.p.toNat m 0))) := by
  unfold spec_l04First.f
  refine Run.bindE (spec_l02Rows_run x hx (by omega) c) ?_
  refine Run.bindE (spec_l04Has_run x hx c hp m hm.1) ?_
  rw [fstCyc_ring hm.1]
  refine Run.ite (fun h => ?_) (fun h => Run.ret ⟨(Bool.eq_false_iff.mpr h).symm, fun h => by cases h⟩)
  refine Run.loop (L := fun q (z : Int) => spec_l04First.l0 q x (m : Int) (rowsM x c x.p.toNat) z) (fun z => (x.p - z).toNat) (fun z => 0 ≤ z ∧ z ≤ x.p ∧ fstCyc (fun i j => joinsB x i c j) x.p.toNat m z.toNat = fstCyc (fun i j => joinsB x i c j) x.p.toNat m 0) ?_ 0 ⟨by omega, by omega, rfl⟩
  rintro p ⟨p0, p1, hT⟩ ih
  obtain ⟨p, rfl⟩ := Int.eq_ofNat_of_zero_le p0
  simp only [Int.toNat_natCast] at ih hT ⊢
  simp only [spec_l04First.l0]
  refine Run.ite (fun hpn => ?_) (fun hpn => ?_)
  rotate_left
  · have h1 := fstCyc_ring (G := fun i j => joinsB x i c j) (n := x.p.toNat) hm.1
    rw [← hT, fstCyc_end hm.1 (by omega), h] at h1
    cases h1
  have hpn' : p < x.p.toNat := by omega
  have hone : shlI .i64 1 (wu64 (p : Int)) = (mask (fun j => [p].contains j) x.p.toNat : Int) := by
    rw [wu64_id (by omega), shl64 (by omega)]
    congr 1
    apply Nat.eq_of_testBit_eq
    intro j
    rw [Nat.testBit_two_pow, testBit_mask]
    by_cases e : p = j
    · subst e; simp [hpn']
    · simp [e]; intro _ e2; exact absurd e2.symm e
  rw [hone]
  refine Run.bind (spec_l04Cycle_run x c hp m hm (m - 1) [p] (by simp) (by rw [List.length_singleton]; omega) (fun v hv => by rw [List.mem_singleton.mp hv]; exact hpn')) fun r hr => ?_
  obtain ⟨hr1, hr2⟩ := hr
  rw [w64_id (x := (p : Int) + 1) (by omega)]
  rw [fstCyc_step hpn'] at hT
  cases hcy : cyc (fun i j => joinsB x i c j) x.p.toNat (m - 1) [p] with
  | none =>
    rw [hcy] at hT hr1
    refine Run.no (by rw [hr1]; simp) ?_
    exact ih ((p : Int) + 1) ⟨by omega, by omega, by rw [show ((p : Int) + 1).toNat = p + 1 by omega]; exact hT⟩ (by omega)
  | some M =>
    rw [hcy] at hT hr1 hr2
    rw [← hT]
    exact Run.yes hr1 (Run.ret ⟨h.symm, fun _ => hr2 hr1⟩)

theorem spec_FirstCycle_run (x : Col) (hx : ByteC x) (c m : Int) : Run (fun k => spec_FirstCycle.f k x c m) (· = fyR x c m) := by
  unfold spec_FirstCycle.f fyR
  refine Run.bindE (spec_l01Given_run x hx c [] (by simp)) ?_
  have eo : (decide (0 ≤ c ∧ c ≤ x.k - 1) && allIn [] 0 (x.p - 1)) = decide (0 ≤ c ∧ c ≤ x.k - 1) := by simp [allIn]
  rw [eo]
  refine Run.ite (fun h => ?_) (fun h => ?_)
  rotate_left
  · have hne : given (isB x) (decide (0 ≤ c ∧ c ≤ x.k - 1)) ≠ 0 := h
    have e : patB x c (decide (3 ≤ m ∧ m ≤ 17)) = given (isB x) (decide (0 ≤ c ∧ c ≤ x.k - 1)) := by
      unfold patB given at *
      by_cases h1 : isB x = true
      · rw [if_pos h1] at *
        by_cases h2 : decide (0 ≤ c ∧ c ≤ x.k - 1) = true
        · rw [if_pos h2] at hne; exact absurd rfl hne
        · rw [if_neg h2, Bool.eq_false_iff.mpr h2, Bool.false_and]; simp [h1]
      · rw [if_neg h1, if_neg h1]; rfl
    rw [e, if_neg hne]
    exact Run.ret rfl
  obtain ⟨z1, z2⟩ := given_zero h
  refine Run.bindE (spec_l01In_run _ _ _) ?_
  refine Run.ite (fun h2 => ?_) (fun h2 => ?_)
  rotate_left
  · have e : patB x c (decide (3 ≤ m ∧ m ≤ 17)) = 2 := by
      unfold patB given
      rw [z2, Bool.eq_false_iff.mpr h2, if_pos z1]; rfl
    rw [e, if_neg (by decide)]
    exact Run.ret rfl
  have e : patB x c (decide (3 ≤ m ∧ m ≤ 17)) = patC x c := by unfold patB patC; rw [h2, Bool.and_true]
  rw [e]
  refine Run.bindE (spec_l04Code_run x hx c) ?_
  refine Run.ite (fun h3 => Run.ret (by rw [if_neg h3])) (fun h3 => ?_)
  have hz := Decidable.not_not.mp h3
  have hp := patC_zero hz
  rw [decide_eq_true_eq] at h2
  rw [if_pos hz]
  have hf := spec_l04First_run x hx c (by omega) m.toNat (by omega)
  rw [show ((m.toNat : Nat) : Int) = m by omega] at hf
  refine Run.bind hf fun r hr => ?_
  obtain ⟨hr1, hr2⟩ := hr
  have hnil := listO_nil (G := fun i j => joinsB x i c j) (n := x.p.toNat) (m := m.toNat) (by omega)
  rw [← fstCyc_ring (by omega), ← hr1] at hnil
  refine Run.ite (fun h4 => Run.ret ?_) (fun h4 => Run.ret ?_)
  · rw [if_neg (fun hh => by rw [hnil.mp hh] at h4; cases h4), hr2 h4]
  · rw [if_pos (hnil.mpr (Bool.eq_false_iff.mpr h4))]

theorem impl_in_run (n low high : Int) : Run (fun _ => impl_in.f n low high) (· = decide (low ≤ n ∧ n ≤ high)) := by
  unfold impl_in.f
  refine Run.ite (fun h => ?_) (fun h => ?_)
  · refine Run.ret (decide_eq_decide.mpr ?_); omega
  · refine Run.ret ((decide_eq_false ?_).symm); omega

theorem impl_Colouring_edges_run (x : Col) (hp : 0 ≤ x.p ∧ x.p ≤ 1000) : Run (fun _ => impl_Colouring_edges.f x) (· = (tri x.p.toNat : Int)) := by
  unfold impl_Colouring_edges.f
  have := tri_int (n := x.p.toNat) (by omega)
  rw [show ((x.p.toNat : Nat) : Int) = x.p by omega] at this
  exact Run.ret this

theorem impl_Colouring_isColouring_run (x : Col) (hx : ByteC x) : Run (fun k => impl_Colouring_isColouring.f k x) (· = isB x) := by
  unfold impl_Colouring_isColouring.f
  refine Run.bindE (impl_in_run _ _ _) ?_
  refine Run.itn (fun h1 => ?_) (fun h1 => ?_)
  · exact Run.ret (decide_eq_false fun h => h1 (decide_eq_true h.1)).symm
  refine Run.bindE (impl_in_run _ _ _) ?_
  refine Run.itn (fun h2 => ?_) (fun h2 => ?_)
  · exact Run.ret (decide_eq_false fun h => h2 (decide_eq_true h.2.1)).symm
  have hp := of_decide_eq_true h1
  have hk := of_decide_eq_true h2
  refine Run.loop (L := fun q (i : Int) => impl_Colouring_isColouring.l0 q x i) (fun i => (136 - i).toNat) (fun i => 0 ≤ i ∧ i ≤ 136 ∧ ∀ j : Nat, (j : Int) < i → (if j < tri x.p.toNat then x.e j < x.k else x.e j = 0)) ?_ 0 ⟨by omega, by omega, fun j hj => by omega⟩
  rintro i ⟨h0, h3, hJ⟩ ih
  simp only [impl_Colouring_isColouring.l0]
  refine Run.ite (fun h => ?_) (fun h => ?_)
  · refine Run.bindE (Run.getB' h0 h) ?_
    have hb := hx i.toNat
    rw [w64_id (x := x.e i.toNat) (by omega)]
    refine Run.ite (fun h5 => ?_) (fun h5 => ?_)
    · refine Run.ret (decide_eq_false fun hc => ?_).symm
      have := hc.2.2 i.toNat (by omega)
      by_cases h6 : i.toNat < tri x.p.toNat
      · rw [if_pos h6] at this; omega
      · rw [if_neg h6] at this; omega
    · refine Run.bindE (impl_Colouring_edges_run x (by omega)) ?_
      rw [w64_id (x := i + 1) (by omega)]
      refine Run.ite (fun h4 => ?_) (fun h4 => ?_)
      · refine Run.ite (fun h7 => ?_) (fun h7 => ?_)
        · refine Run.ret (decide_eq_false fun hc => ?_).symm
          have := hc.2.2 i.toNat (by omega)
          rw [if_neg (by omega)] at this; omega
        · refine ih (i + 1) ⟨by omega, by omega, fun j hj => ?_⟩ (by omega)
          by_cases ej : (j : Int) < i
          · exact hJ j ej
          · obtain rfl : j = i.toNat := by omega
            rw [if_neg (by omega)]; omega
      · refine ih (i + 1) ⟨by omega, by omega, fun j hj => ?_⟩ (by omega)
        by_cases ej : (j : Int) < i
        · exact hJ j ej
        · obtain rfl : j = i.toNat := by omega
          rw [if_pos (by omega)]; omega
  · refine Run.ret (decide_eq_true ⟨hp, hk, fun j hj => hJ j (by omega)⟩).symm

theorem impl_Colouring_hasColour_run (x : Col) (hp : 1 ≤ x.k ∧ x.k ≤ 1000) (c : Int) : Run (fun _ => impl_Colouring_hasColour.f x c) (· = decide (0 ≤ c ∧ c ≤ x.k - 1)) := by
  unfold impl_Colouring_hasColour.f
  rw [w64_id (x := x.k - 1) (by omega)]
  refine Run.bindE (impl_in_run _ _ _) ?_
  exact Run.ret rfl

theorem impl_Colouring_colourCode_1_run (x : Col) (hc : IsCol x) (c : Int) (b : Bool) : Run (fun _ => impl_Colouring_colourCode_1.f x c b) (· = (decide (0 ≤ c ∧ c ≤ x.k - 1) && b)) := by
  unfold impl_Colouring_colourCode_1.f
  have h2 := hc.2.1
  refine Run.bindE (impl_Colouring_hasColour_run x (by omega) c) ?_
  refine Run.ite (fun h => ?_) (fun h => ?_)
  · exact Run.ret (by rw [h, Bool.true_and])
  · exact Run.ret (by rw [Bool.eq_false_iff.mpr h, Bool.false_and])

theorem impl_Colouring_code__Colouring_colourCode_1_run (x : Col) (hx : ByteC x) (c : Int) (b : Bool) : Run (fun k => impl_Colouring_code__Colouring_colourCode_1.f k x c b) (· = given (isB x) (decide (0 ≤ c ∧ c ≤ x.k - 1) && b)) := by
  unfold impl_Colouring_code__Colouring_colourCode_1.f
  refine Run.bindE (impl_Colouring_isColouring_run x hx) ?_
  refine Run.itn (fun h1 => ?_) (fun h1 => ?_)
  · exact Run.ret (by rw [given, if_neg h1])
  rw [given, if_pos h1]
  refine Run.bindE (impl_Colouring_colourCode_1_run x (isB_spec h1) c b) ?_
  exact Run.ite (fun h3 => Run.ret (by rw [if_pos h3])) (fun h3 => Run.ret (by rw [if_neg h3]))

theorem impl_Colouring_colourCode_run (x : Col) (hx : ByteC x) (c : Int) (b : Bool) : Run (fun k => impl_Colouring_colourCode.f k x c b) (· = given (isB x) (decide (0 ≤ c ∧ c ≤ x.k - 1) && b)) := by
  unfold impl_Colouring_colourCode.f
  refine Run.bindE (impl_Colouring_code__Colouring_colourCode_1_run x hx c b) ?_
  exact Run.ret rfl

theorem impl_Colouring_patternCode_run (x : Col) (hx : ByteC x) (c : Int) : Run (fun k => impl_Colouring_patternCode.f k x c true) (· = patC x c) := by
  unfold impl_Colouring_patternCode.f patC
  refine Run.bindE (impl_Colouring_colourCode_run x hx c true) ?_
  rw [Bool.and_true]
  refine Run.ite (fun h => ?_) (fun h => Run.ret (by rw [if_neg h]))
  rw [if_pos h]
  exact Run.ite (fun h2 => Run.ret (by rw [if_pos h2])) (fun h2 => Run.ret (by rw [if_neg h2]; exact h))

theorem impl_size_int64_run (l : List Int) : Run (fun _ => impl_size_int64.f l) (· = (l.length : Int)) := by
  unfold impl_size_int64.f
  exact Run.ret rfl

theorem impl_number_run (i j : Nat) (hi : i ≤ 1000) (hj : j ≤ 1000) : Run (fun _ => impl_number.f i j) (· = (edg i j : Int)) := by
  unfold impl_number.f
  have hm : (max i j) ≤ 1000 := by omega
  have ti := tri_mono hm
  have tt : tri 1000 = 499500 := rfl
  rw [show max (i : Int) (j : Int) = ((max i j : Nat) : Int) by omega, show min (i : Int) (j : Int) = ((min i j : Nat) : Int) by omega]
  refine Run.ret ?_
  rw [tri_int (by omega), w64_id (by omega), edg]
  split
  · rw [show max i j = i by omega, show min i j = j by omega]; rfl
  · rw [show max i j = j by omega, show min i j = i by omega]; rfl

theorem impl_Colouring_at_run (x : Col) (hx : ByteC x) (hp : 0 ≤ x.p ∧ x.p ≤ 17) (i j : Nat) (hi : (i : Int) < x.p) (hj : (j : Int) < x.p) (hn : i ≠ j) : Run (fun _ => impl_Colouring_at.f x i j) (· = colr x i j) := by
  unfold impl_Colouring_at.f
  refine Run.bindE (impl_number_run i j (by omega) (by omega)) ?_
  have := edg_lt136 (i := i) (j := j) (p := x.p.toNat) (by omega) (by omega) (by omega) hn
  refine Run.bindE (Run.getB' (by omega) (by omega)) ?_
  have hb := hx ((edg i j : Nat) : Int).toNat
  exact Run.ret (w64_id (by omega))

theorem impl_Colouring_joins_run (x : Col) (hx : ByteC x) (hp : 0 ≤ x.p ∧ x.p ≤ 17) (i j : Nat) (c : Int) (hi : (i : Int) < x.p) (hj : (j : Int) < x.p) : Run (fun _ => impl_Colouring_joins.f x i j c) (· = joinsB x i c j) := by
  unfold impl_Colouring_joins.f
  refine Run.ite (fun h => ?_) (fun h => ?_)
  · refine Run.bindE (impl_Colouring_at_run x hx hp i j hi hj (by omega)) ?_
    refine Run.ret ?_
    rw [joinsB, decide_eq_true (p := i ≠ j) (by omega), Bool.true_and]
  · refine Run.ret ?_
    rw [joinsB, decide_eq_false (p := i ≠ j) (by omega), Bool.false_and]
end Go.Proofs.Ytjhcacfhahpdgaa.P
