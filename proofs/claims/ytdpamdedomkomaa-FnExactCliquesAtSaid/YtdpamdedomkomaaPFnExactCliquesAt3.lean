/- What the pure functions come to, one by one (part 3). -/
import Derived.Test.YtdpamdedomkomaaPFnExactCliquesAt2
import Derived.Test.YtdpamdedomkomaaGFnExactCliquesAt5
namespace Go.Proofs.Ytdpamdedomkomaa.P
open Go Go.RowKit Go.Proofs.Ytdpamdedomkomaa.K Go.Proofs.Ytdpamdedomkomaa.G
set_option linter.unusedVariables false
set_option linter.unusedSimpArgs false

theorem spec_l02Count_run (x : Col) (hp : 0 ≤ x.p ∧ x.p ≤ 17) (c : Int) (n : Nat) (hn : (n : Int) = x.p) : ∀ (m : Nat) (f : Nat → Bool), m ≤ 100 →
    Run (fun k => spec_l02Count.f k (rowsM x c n) (mask f n : Int) m) (· = (cnum (fun i j => joinsB x i c j) (upF f 0 n) m : Int)) := by
  intro m
  induction m with
  | zero =>
    intro f _
    refine Run.step ?_
    simp only [spec_l02Count.f]
    exact Run.yes rfl (Run.ret rfl)
  | succ m ihm =>
    intro f hm
    have hm2 : (2 : Nat) ^ n ≤ 2 ^ 17 := Nat.pow_le_pow_right (by omega) (by omega)
    have hlt : ∀ g, mask g n < 2 ^ 17 := fun g => Nat.lt_of_lt_of_le (mask_lt g n) hm2
    have hcp : ∀ (g : Nat → Bool) (p m : Nat), cnum (fun i j => joinsB x i c j) (upF g p n) m ≤ 2 ^ 17 := fun g p m => cnum_pow (by have := upF_length g p n; omega)
    refine Run.step ?_
    simp only [spec_l02Count.f]
    refine Run.no (by omega) ?_
    refine Run.loop (L := fun q (z : Int × Int × Int) => spec_l02Count.l0 q (rowsM x c n) ((m + 1 : Nat) : Int) z.1 z.2.1 z.2.2) (fun z => (n - z.2.2).toNat) (fun z => ∃ i t : Nat, z = ((mask (fun j => f j && decide (i ≤ j)) n : Int), (t : Int), (i : Int)) ∧ i ≤ n ∧ t + cnum (fun i j => joinsB x i c j) (upF f i n) (m + 1) = cnum (fun i j => joinsB x i c j) (upF f 0 n) (m + 1)) ?_ (_, 0, 0) ⟨0, 0, by
      simp only [Nat.zero_le, decide_true, Bool.and_true]; rfl, Nat.zero_le _, Nat.zero_add _⟩
    rintro _ ⟨i, t, rfl, hi, ht⟩ ih
    simp only [spec_l02Count.l0]
    rw [rowsM_length]
    have hl := hlt (fun j => f j && decide (i ≤ j))
    have htot := hcp f 0 (m + 1)
    refine Run.ite (fun hi' => ?_) (fun hi' => ?_)
    · refine Run.bindE (spec_l01Ones_run _ (by omega)) ?_
      rw [cnt_mask_upF (by omega), upF_from (by omega)]
      refine Run.ite (fun h => ?_) (fun h => ?_)
      · rw [w64_id (x := (i : Int) + 1) (by omega), wu64_id (by omega)]
        have hb := bit64 (a := mask (fun j => f j && decide (i ≤ j)) n) (n := i) (by omega) (by omega)
        rw [testBit_mask, decide_eq_true (show i < n by omega), Bool.true_and, decide_eq_true (Nat.le_refl i), Bool.and_true] at hb
        have hg : mask (fun j => (f j && decide (i ≤ j)) && decide (j ≠ i)) n = mask (fun j => f j && decide (i + 1 ≤ j)) n := mask_congr fun j _ => by
          rw [Bool.and_assoc]
          congr 1
          rw [← Bool.decide_and]
          exact decide_eq_decide.mpr (by omega)
        refine Run.ite (fun hz => ?_) (fun hz => ?_)
        · have hf := hb.mp hz
          have hl2 := hlt (fun j => f j && decide (i + 1 ≤ j))
          have hpi : 2 ^ i < 2 ^ 63 := Nat.pow_lt_pow_right (by omega) (by omega)
          have es : bitop .xor .i64 (mask (fun j => f j && decide (i ≤ j)) n : Int) (shlI .i64 1 (i : Int)) = (mask (fun j => f j && decide (i + 1 ≤ j)) n : Int) := by
            rw [shl64 (by omega), xor64 (by omega) hpi, mask_xor (by omega) (by simp [hf]), hg]
          refine Run.bindE (Run.getI' (by omega) (by rw [rowsM_length]; omega)) ?_
          rw [rowsM_at, es]
          have hm' : mask (joinsB x i c) x.p.toNat < 2 ^ 17 := by rw [show x.p.toNat = n by omega]; exact hlt _
          rw [and64 (by omega) (by omega), show x.p.toNat = n by omega, mask_and, w64_id (x := ((m + 1 : Nat) : Int) - 1) (by omega), show ((m + 1 : Nat) : Int) - 1 = (m : Int) by omega]
          refine Run.bindE (ihm _ (by omega)) ?_
          have e2 : upF (fun j => (f j && decide (i + 1 ≤ j)) && joinsB x i c j) 0 n = (upF f (i + 1) n).filter (joinsB x i c) := by
            rw [upF_filter, ← upF_from (f := fun j => f j && joinsB x i c j) (by omega)]
            exact upF_congr fun j _ _ => by
              cases f j <;> cases joinsB x i c j <;> cases decide (i + 1 ≤ j) <;> rfl
          rw [e2]
          rw [upF_yes (by omega) hf, cnum_cons] at ht
          replace ht : t + (cnum (fun i j => joinsB x i c j) ((upF f (i + 1) n).filter (joinsB x i c)) m + cnum (fun i j => joinsB x i c j) (upF f (i + 1) n) (m + 1)) = cnum (fun i j => joinsB x i c j) (upF f 0 n) (m + 1) := ht
          rw [w64_id (by omega)]
          refine ih (_, _, (i : Int) + 1) ⟨i + 1, t + cnum (fun i j => joinsB x i c j) ((upF f (i + 1) n).filter (joinsB x i c)) m, by simp only [Int.natCast_add]; rfl, by omega, by omega⟩ (by simp only; omega)
        · have hf : ¬ f i = true := fun h => hz (hb.mpr h)
          rw [upF_no (by omega) hf] at ht
          refine ih (_, _, (i : Int) + 1) ⟨i + 1, t, ?_, by omega, ht⟩ (by simp only; omega)
          simp only [Int.natCast_add]
          congr 2
          exact mask_congr fun j _ => by
            by_cases e : j = i
            · subst e; rw [Bool.eq_false_iff.mpr hf]; rfl
            · congr 1; exact decide_eq_decide.mpr (by omega)
      · refine Run.ret ?_
        rw [cnum_short _ _ _ (m + 1) (Nat.le_refl _) (by omega)] at ht
        rw [← ht]; rfl
    · refine Run.ret ?_
      rw [upF_end _ (by omega), cnum_nil] at ht
      rw [← ht]; rfl

theorem spec_CliquesAt_run (x : Col) (hx : ByteC x) (c v m : Int) : Run (fun k => spec_CliquesAt.f k x c v m) (· = atM x c v m) := by
  unfold spec_CliquesAt.f
  refine Run.bindE (spec_l01Given_run x hx c [v] (by simp)) ?_
  have eo : (decide (0 ≤ c ∧ c ≤ x.k - 1) && allIn [v] 0 (x.p - 1)) = (decide (0 ≤ c ∧ c ≤ x.k - 1) && decide (0 ≤ v ∧ v ≤ x.p - 1)) := by simp [allIn]
  rw [eo, atM]
  refine Run.ite (fun h => ?_) (fun h => ?_)
  · obtain ⟨h1, h2⟩ := given_zero h
    have h17 := (isB_spec h1).1
    refine Run.bindE (spec_l01In_run _ _ _) ?_
    rw [h1, h2, Bool.true_and]
    simp only [Bool.and_eq_true, decide_eq_true_eq] at h2
    refine Run.ite (fun h3 => ?_) (fun h3 => ?_)
    · rw [h3, given, if_pos rfl, if_pos rfl, if_pos rfl]
      have hm := of_decide_eq_true h3
      refine Run.bindE (spec_l02Rows_run x hx (by omega) c) ?_
      obtain ⟨v, rfl⟩ := Int.eq_ofNat_of_zero_le h2.2.1
      refine Run.bindE (Run.getI' (by omega) (by rw [rowsM_length]; omega)) ?_
      rw [rowsM_at, w64_id (x := m - 1) (by omega)]
      have hr := spec_l02Count_run x (by omega) c x.p.toNat (by omega) (m.toNat - 1) (joinsB x v c) (by omega)
      rw [show ((m.toNat - 1 : Nat) : Int) = m - 1 by omega] at hr
      refine Run.bindE hr ?_
      exact Run.ret rfl
    · rw [Bool.eq_false_iff.mpr h3, given, if_pos rfl, if_neg (by decide), if_neg (by decide)]
      exact Run.ret rfl
  · have e : given (isB x) (decide (0 ≤ c ∧ c ≤ x.k - 1) && decide (0 ≤ v ∧ v ≤ x.p - 1) && decide (1 ≤ m ∧ m ≤ 17)) = given (isB x) (decide (0 ≤ c ∧ c ≤ x.k - 1) && decide (0 ≤ v ∧ v ≤ x.p - 1)) := by
      unfold given at h ⊢
      by_cases h1 : isB x = true
      · rw [if_pos h1] at h
        rw [if_pos h1, if_pos h1]
        cases h2 : (decide (0 ≤ c ∧ c ≤ x.k - 1) && decide (0 ≤ v ∧ v ≤ x.p - 1)) with
        | true => rw [h2] at h; exact absurd rfl h
        | false => rfl
      · rw [if_neg h1, if_neg h1]
    rw [e, if_neg h]
    exact Run.ret rfl

theorem impl_in_run (n low high : Int) : Run (fun _ => impl_in.f n low high) (· = decide (low ≤ n ∧ n ≤ high)) := by
  unfold impl_in.f
  refine Run.ite (fun h => ?_) (fun h => ?_)
  · refine Run.ret (decide_eq_decide.mpr ?_); omega
  · refine Run.ret ((decide_eq_false ?_).symm); omega

theorem impl_Colouring_edges_run (x : Col) (hp : 0 ≤ x.p ∧ x.p ≤ 1000) : Run (fun _ => impl_Colouring_edges.f x) (· = (tri x.p.toNat : Int)) := by
  unfold impl_Colouring_edges.f
  have := tri_int (n := x.p.toNat) (by omega)
  rw [show ((x.p.toNat : Nat) : Int) = x.p by omega] at this
  exact Run.ret this

theorem impl_Colouring_isColouring_run (x : Col) (hx : ByteC x) : Run (fun k => impl_Colouring_isColouring.f k x) (· = isB x) := by
  unfold impl_Colouring_isColouring.f
  refine Run.bindE (impl_in_run _ _ _) ?_
  refine Run.itn (fun h1 => ?_) (fun h1 => ?_)
  · exact Run.ret (decide_eq_false fun h => h1 (decide_eq_true h.1)).symm
  refine Run.bindE (impl_in_run _ _ _) ?_
  refine Run.itn (fun h2 => ?_) (fun h2 => ?_)
  · exact Run.ret (decide_eq_false fun h => h2 (decide_eq_true h.2.1)).symm
  have hp := of_decide_eq_true h1
  have hk := of_decide_eq_true h2
  refine Run.loop (L := fun q (i : Int) => impl_Colouring_isColouring.l0 q x i) (fun i => (136 - i).toNat) (fun i => 0 ≤ i ∧ i ≤ 136 ∧ ∀ j : Nat, (j : Int) < i → (if j < tri x.p.toNat then x.e j < x.k else x.e j = 0)) ?_ 0 ⟨by omega, by omega, fun j hj => by omega⟩
  rintro i ⟨h0, h3, hJ⟩ ih
  simp only [impl_Colouring_isColouring.l0]
  refine Run.ite (fun h => ?_) (fun h => ?_)
  · refine Run.bindE (Run.getB' h0 h) ?_
    have hb := hx i.toNat
    rw [w64_id (x := x.e i.toNat) (by omega)]
    refine Run.ite (fun h5 => ?_) (fun h5 => ?_)
    · refine Run.ret (decide_eq_false fun hc => ?_).symm
      have := hc.2.2 i.toNat (by omega)
      by_cases h6 : i.toNat < tri x.p.toNat
      · rw [if_pos h6] at this; omega
      · rw [if_neg h6] at this; omega
    · refine Run.bindE (impl_Colouring_edges_run x (by omega)) ?_
      rw [w64_id (x := i + 1) (by omega)]
      refine Run.ite (fun h4 => ?_) (fun h4 => ?_)
      · refine Run.ite (fun h7 => ?_) (fun h7 => ?_)
        · refine Run.ret (decide_eq_false fun hc => ?_).symm
          have := hc.2.2 i.toNat (by omega)
          rw [if_neg (by omega)] at this; omega
        · refine ih (i + 1) ⟨by omega, by omega, fun j hj => ?_⟩ (by omega)
          by_cases ej : (j : Int) < i
          · exact hJ j ej
          · obtain rfl : j = i.toNat := by omega
            rw [if_neg (by omega)]; omega
      · refine ih (i + 1) ⟨by omega, by omega, fun j hj => ?_⟩ (by omega)
        by_cases ej : (j : Int) < i
        · exact hJ j ej
        · obtain rfl : j = i.toNat := by omega
          rw [if_pos (by omega)]; omega
  · refine Run.ret (decide_eq_true ⟨hp, hk, fun j hj => hJ j (by omega)⟩).symm

theorem impl_Colouring_hasColour_run (x : Col) (hp : 1 ≤ x.k ∧ x.k ≤ 1000) (c : Int) : Run (fun _ => impl_Colouring_hasColour.f x c) (· = decide (0 ≤ c ∧ c ≤ x.k - 1)) := by
  unfold impl_Colouring_hasColour.f
  rw [w64_id (x := x.k - 1) (by omega)]
  refine Run.bindE (impl_in_run _ _ _) ?_
  exact Run.ret rfl

theorem impl_Colouring_has_run (x : Col) (hp : 1 ≤ x.p ∧ x.p ≤ 1000) (i : Int) : Run (fun _ => impl_Colouring_has.f x i) (· = decide (0 ≤ i ∧ i ≤ x.p - 1)) := by
  unfold impl_Colouring_has.f
  rw [w64_id (x := x.p - 1) (by omega)]
  refine Run.bindE (impl_in_run _ _ _) ?_
  exact Run.ret rfl

theorem impl_CliquesAt_1_run (x : Col) (hc : IsCol x) (c v m : Int) : Run (fun _ => impl_CliquesAt_1.f x c v m) (· = (decide (0 ≤ c ∧ c ≤ x.k - 1) && decide (0 ≤ v ∧ v ≤ x.p - 1) && decide (1 ≤ m ∧ m ≤ 17))) := by
  unfold impl_CliquesAt_1.f
  refine Run.bindE (impl_Colouring_hasColour_run x (by have := hc.2.1; omega) c) ?_
  refine Run.itn (fun h => Run.ret (by rw [Bool.eq_false_iff.mpr h]; rfl)) (fun h => ?_)
  refine Run.bindE (impl_Colouring_has_run x (by have := hc.1; omega) v) ?_
  rw [h, Bool.true_and]
  refine Run.itn (fun h => Run.ret (by rw [Bool.eq_false_iff.mpr h]; rfl)) (fun h => ?_)
  refine Run.bindE (impl_in_run _ _ _) ?_
  exact Run.ret (by rw [h, Bool.true_and])

theorem impl_Colouring_code__CliquesAt_1_run (x : Col) (hx : ByteC x) (c v m : Int) : Run (fun k => impl_Colouring_code__CliquesAt_1.f k x c v m) (· = given (isB x) (decide (0 ≤ c ∧ c ≤ x.k - 1) && decide (0 ≤ v ∧ v ≤ x.p - 1) && decide (1 ≤ m ∧ m ≤ 17))) := by
  unfold impl_Colouring_code__CliquesAt_1.f
  refine Run.bindE (impl_Colouring_isColouring_run x hx) ?_
  refine Run.itn (fun h1 => ?_) (fun h1 => ?_)
  · exact Run.ret (by rw [given, if_neg h1])
  rw [given, if_pos h1]
  refine Run.bindE (impl_CliquesAt_1_run x (isB_spec h1) c v m) ?_
  exact Run.ite (fun h3 => Run.ret (by rw [if_pos h3])) (fun h3 => Run.ret (by rw [if_neg h3]))

theorem impl_size_int64_run (l : List Int) : Run (fun _ => impl_size_int64.f l) (· = (l.length : Int)) := by
  unfold impl_size_int64.f
  exact Run.ret rfl
end Go.Proofs.Ytdpamdedomkomaa.P
