/- What the pure functions come to, one by one (part 3). -/
import Derived.Test.YtdpamdedomkomaaPFnExactCountTriangles2
import Derived.Test.YtdpamdedomkomaaGFnExactCountTriangles6
namespace Go.Proofs.Ytdpamdedomkomaa.P
open Go Go.RowKit Go.Proofs.Ytdpamdedomkomaa.K Go.Proofs.Ytdpamdedomkomaa.G
set_option linter.unusedVariables false
set_option linter.unusedSimpArgs false

theorem spec_l02Count_run (x : Col) (hp : 0 ≤ x.p ∧ x.p ≤ 17) (c : Int) (n : Nat) (hn : (n : Int) = x.p) : ∀ (m : Nat) (f : Nat → Bool), m ≤ 100 →
    Run (fun k => spec_l02Count.f k (rowsM x c n) (mask f n : Int) m) (· = (cnum (fun i j => joinsB x i c j) (upF f 0 n) m : Int)) := by
  intro m
  induction m with
  | zero =>
    intro f _
    refine Run.step ?_
    simp only [spec_l02Count.f]
    exact Run.yes rfl (Run.ret rfl)
  | succ m ihm =>
    intro f hm
    have hm2 : (2 : Nat) ^ n ≤ 2 ^ 17 := Nat.pow_le_pow_right (by omega) (by omega)
    have hlt : ∀ g, mask g n < 2 ^ 17 := fun g => Nat.lt_of_lt_of_le (mask_lt g n) hm2
    have hcp : ∀ (g : Nat → Bool) (p m : Nat), cnum (fun i j => joinsB x i c j) (upF g p n) m ≤ 2 ^ 17 := fun g p m => cnum_pow (by have := upF_length g p n; omega)
    refine Run.step ?_
    simp only [spec_l02Count.f]
    refine Run.no (by omega) ?_
    refine Run.loop (L := fun q (z : Int × Int × Int) => spec_l02Count.l0 q (rowsM x c n) ((m + 1 : Nat) : Int) z.1 z.2.1 z.2.2) (fun z => (n - z.2.2).toNat) (fun z => ∃ i t : Nat, z = ((mask (fun j => f j && decide (i ≤ j)) n : Int), (t : Int), (i : Int)) ∧ i ≤ n ∧ t + cnum (fun i j => joinsB x i c j) (upF f i n) (m + 1) = cnum (fun i j => joinsB x i c j) (upF f 0 n) (m + 1)) ?_ (_, 0, 0) ⟨0, 0, by
      simp only [Nat.zero_le, decide_true, Bool.and_true]; rfl, Nat.zero_le _, Nat.zero_add _⟩
    rintro _ ⟨i, t, rfl, hi, ht⟩ ih
    simp only [spec_l02Count.l0]
    rw [rowsM_length]
    have hl := hlt (fun j => f j && decide (i ≤ j))
    have htot := hcp f 0 (m + 1)
    refine Run.ite (fun hi' => ?_) (fun hi' => ?_)
    · refine Run.bindE (spec_l01Ones_run _ (by omega)) ?_
      rw [cnt_mask_upF (by omega), upF_from (by omega)]
      refine Run.ite (fun h => ?_) (fun h => ?_)
      · rw [w64_id (x := (i : Int) + 1) (by omega), wu64_id (by omega)]
        have hb := bit64 (a := mask (fun j => f j && decide (i ≤ j)) n) (n := i) (by omega) (by omega)
        rw [testBit_mask, decide_eq_true (show i < n by omega), Bool.true_and, decide_eq_true (Nat.le_refl i), Bool.and_true] at hb
        have hg : mask (fun j => (f j && decide (i ≤ j)) && decide (j ≠ i)) n = mask (fun j => f j && decide (i + 1 ≤ j)) n := mask_congr fun j _ => by
          rw [Bool.and_assoc]
          congr 1
          rw [← Bool.decide_and]
          exact decide_eq_decide.mpr (by omega)
        refine Run.ite (fun hz => ?_) (fun hz => ?_)
        · have hf := hb.mp hz
          have hl2 := hlt (fun j => f j && decide (i + 1 ≤ j))
          have hpi : 2 ^ i < 2 ^ 63 := Nat.pow_lt_pow_right (by omega) (by omega)
          have es : bitop .xor .i64 (mask (fun j => f j && decide (i ≤ j)) n : Int) (shlI .i64 1 (i : Int)) = (mask (fun j => f j && decide (i + 1 ≤ j)) n : Int) := by
            rw [shl64 (by omega), xor64 (by omega) hpi, mask_xor (by omega) (by simp [hf]), hg]
          refine Run.bindE (Run.getI' (by omega) (by rw [rowsM_length]; omega)) ?_
          rw [rowsM_at, es]
          have hm' : mask (joinsB x i c) x.p.toNat < 2 ^ 17 := by rw [show x.p.toNat = n by omega]; exact hlt _
          rw [and64 (by omega) (by omega), show x.p.toNat = n by omega, mask_and, w64_id (x := ((m + 1 : Nat) : Int) - 1) (by omega), show ((m + 1 : Nat) : Int) - 1 = (m : Int) by omega]
          refine Run.bindE (ihm _ (by omega)) ?_
          have e2 : upF (fun j => (f j && decide (i + 1 ≤ j)) && joinsB x i c j) 0 n = (upF f (i + 1) n).filter (joinsB x i c) := by
            rw [upF_filter, ← upF_from (f := fun j => f j && joinsB x i c j) (by omega)]
            exact upF_congr fun j _ _ => by
              cases f j <;> cases joinsB x i c j <;> cases decide (i + 1 ≤ j) <;> rfl
          rw [e2]
          rw [upF_yes (by omega) hf, cnum_cons] at ht
          replace ht : t + (cnum (fun i j => joinsB x i c j) ((upF f (i + 1) n).filter (joinsB x i c)) m + cnum (fun i j => joinsB x i c j) (upF f (i + 1) n) (m + 1)) = cnum (fun i j => joinsB x i c j) (upF f 0 n) (m + 1) := ht
          rw [w64_id (by omega)]
          refine ih (_, _, (i : Int) + 1) ⟨i + 1, t + cnum (fun i j => joinsB x i c j) ((upF f (i + 1) n).filter (joinsB x i c)) m, by simp only [Int.natCast_add]; rfl, by omega, by omega⟩ (by simp only; omega)
        · have hf : ¬ f i = true := fun h => hz (hb.mpr h)
          rw [upF_no (by omega) hf] at ht
          refine ih (_, _, (i : Int) + 1) ⟨i + 1, t, ?_, by omega, ht⟩ (by simp only; omega)
          simp only [Int.natCast_add]
          congr 2
          exact mask_congr fun j _ => by
            by_cases e : j = i
            · subst e; rw [Bool.eq_false_iff.mpr hf]; rfl
            · congr 1; exact decide_eq_decide.mpr (by omega)
      · refine Run.ret ?_
        rw [cnum_short _ _ _ (m + 1) (Nat.le_refl _) (by omega)] at ht
        rw [← ht]; rfl
    · refine Run.ret ?_
      rw [upF_end _ (by omega), cnum_nil] at ht
      rw [← ht]; rfl

theorem spec_CountTriangles_run (x : Col) (hx : ByteC x) : Run (fun k => spec_CountTriangles.f k x) (· = triM x) := by
  unfold spec_CountTriangles.f
  rw [triM]
  refine Run.bindE (spec_l01Is_run x hx) ?_
  refine Run.itn (fun h1 => Run.ret (by rw [if_neg h1])) (fun h1 => ?_)
  rw [if_pos h1]
  have hk := (isB_spec h1).2.1
  have h17 := (isB_spec h1).1
  refine Run.loop (L := fun q (z : List Int × Int) => spec_CountTriangles.l0 q x z.1 z.2) (fun z => (x.k - z.2).toNat) (fun z => 0 ≤ z.2 ∧ z.2 ≤ x.k ∧ z.1 = trisM x z.2.toNat) ?_ ([], 0) ⟨by simp only; omega, by simp only; omega, rfl⟩
  rintro ⟨l, j⟩ ⟨h0, h3, hl⟩ ih
  simp only at h0 h3 hl
  subst hl
  simp only [spec_CountTriangles.l0]
  obtain ⟨j, rfl⟩ := Int.eq_ofNat_of_zero_le h0
  simp only [Int.toNat_natCast] at ih ⊢
  refine Run.ite (fun h => ?_) (fun h => ?_)
  · rw [w64_id (x := (j : Int) + 1) (by omega)]
    refine Run.bindE (spec_l02Rows_run x hx (by omega) j) ?_
    rw [all_mask (by omega)]
    refine Run.bindE (spec_l02Count_run x (by omega) j x.p.toNat (by omega) 3 (fun _ => true) (by omega)) ?_
    refine Run.bindE (Run.push' (by rw [trisM_length]; omega)) ?_
    refine ih (_, (j : Int) + 1) ⟨by simp only; omega, by simp only; omega, ?_⟩ (by simp only; omega)
    simp only
    rw [show ((j : Int) + 1).toNat = j + 1 by omega, trisM_succ]
  · refine Run.ret ?_
    rw [show x.k.toNat = j by omega]

theorem impl_in_run (n low high : Int) : Run (fun _ => impl_in.f n low high) (· = decide (low ≤ n ∧ n ≤ high)) := by
  unfold impl_in.f
  refine Run.ite (fun h => ?_) (fun h => ?_)
  · refine Run.ret (decide_eq_decide.mpr ?_); omega
  · refine Run.ret ((decide_eq_false ?_).symm); omega

theorem impl_Colouring_edges_run (x : Col) (hp : 0 ≤ x.p ∧ x.p ≤ 1000) : Run (fun _ => impl_Colouring_edges.f x) (· = (tri x.p.toNat : Int)) := by
  unfold impl_Colouring_edges.f
  have := tri_int (n := x.p.toNat) (by omega)
  rw [show ((x.p.toNat : Nat) : Int) = x.p by omega] at this
  exact Run.ret this

theorem impl_Colouring_isColouring_run (x : Col) (hx : ByteC x) : Run (fun k => impl_Colouring_isColouring.f k x) (· = isB x) := by
  unfold impl_Colouring_isColouring.f
  refine Run.bindE (impl_in_run _ _ _) ?_
  refine Run.itn (fun h1 => ?_) (fun h1 => ?_)
  · exact Run.ret (decide_eq_false fun h => h1 (decide_eq_true h.1)).symm
  refine Run.bindE (impl_in_run _ _ _) ?_
  refine Run.itn (fun h2 => ?_) (fun h2 => ?_)
  · exact Run.ret (decide_eq_false fun h => h2 (decide_eq_true h.2.1)).symm
  have hp := of_decide_eq_true h1
  have hk := of_decide_eq_true h2
  refine Run.loop (L := fun q (i : Int) => impl_Colouring_isColouring.l0 q x i) (fun i => (136 - i).toNat) (fun i => 0 ≤ i ∧ i ≤ 136 ∧ ∀ j : Nat, (j : Int) < i → (if j < tri x.p.toNat then x.e j < x.k else x.e j = 0)) ?_ 0 ⟨by omega, by omega, fun j hj => by omega⟩
  rintro i ⟨h0, h3, hJ⟩ ih
  simp only [impl_Colouring_isColouring.l0]
  refine Run.ite (fun h => ?_) (fun h => ?_)
  · refine Run.bindE (Run.getB' h0 h) ?_
    have hb := hx i.toNat
    rw [w64_id (x := x.e i.toNat) (by omega)]
    refine Run.ite (fun h5 => ?_) (fun h5 => ?_)
    · refine Run.ret (decide_eq_false fun hc => ?_).symm
      have := hc.2.2 i.toNat (by omega)
      by_cases h6 : i.toNat < tri x.p.toNat
      · rw [if_pos h6] at this; omega
      · rw [if_neg h6] at this; omega
    · refine Run.bindE (impl_Colouring_edges_run x (by omega)) ?_
      rw [w64_id (x := i + 1) (by omega)]
      refine Run.ite (fun h4 => ?_) (fun h4 => ?_)
      · refine Run.ite (fun h7 => ?_) (fun h7 => ?_)
        · refine Run.ret (decide_eq_false fun hc => ?_).symm
          have := hc.2.2 i.toNat (by omega)
          rw [if_neg (by omega)] at this; omega
        · refine ih (i + 1) ⟨by omega, by omega, fun j hj => ?_⟩ (by omega)
          by_cases ej : (j : Int) < i
          · exact hJ j ej
          · obtain rfl : j = i.toNat := by omega
            rw [if_neg (by omega)]; omega
      · refine ih (i + 1) ⟨by omega, by omega, fun j hj => ?_⟩ (by omega)
        by_cases ej : (j : Int) < i
        · exact hJ j ej
        · obtain rfl : j = i.toNat := by omega
          rw [if_pos (by omega)]; omega
  · refine Run.ret (decide_eq_true ⟨hp, hk, fun j hj => hJ j (by omega)⟩).symm

theorem impl_always_run : Run (fun _ => impl_always.f) (· = true) := by
  unfold impl_always.f
  exact Run.ret rfl

theorem impl_Colouring_code__always_run (x : Col) (hx : ByteC x) : Run (fun k => impl_Colouring_code__always.f k x) (· = given (isB x) true) := by
  unfold impl_Colouring_code__always.f
  refine Run.bindE (impl_Colouring_isColouring_run x hx) ?_
  refine Run.itn (fun h1 => ?_) (fun h1 => ?_)
  · exact Run.ret (by rw [given, if_neg h1])
  rw [given, if_pos h1]
  refine Run.bindE (impl_always_run) ?_
  exact Run.ite (fun h3 => Run.ret (by rw [if_pos h3])) (fun h3 => Run.ret (by rw [if_neg h3]))

theorem impl_size_int64_run (l : List Int) : Run (fun _ => impl_size_int64.f l) (· = (l.length : Int)) := by
  unfold impl_size_int64.f
  exact Run.ret rfl

theorem impl_anyList_run (l : List Int) : Run (fun _ => impl_anyList.f l) (· = true) := by
  unfold impl_anyList.f
  exact Run.ret rfl

theorem impl_Colouring_countThat_1__anyList_run (L : List Nat) (m s : Int) : Run (fun _ => impl_Colouring_countThat_1__anyList.f (L.map Int.ofNat) m s) (· = (true, if decide ((L.length : Int) = m) = true then w64 (s + 1) else s)) := by
  unfold impl_Colouring_countThat_1__anyList.f
  refine Run.bindE (impl_size_int64_run _) ?_
  rw [List.length_map]
  refine Run.ite (fun h => ?_) (fun h => ?_)
  · refine Run.bindE (impl_anyList_run _) ?_
    exact Run.yes rfl (Run.ret (by rw [if_pos (decide_eq_true h)]))
  · exact Run.ret (by rw [if_neg (by simpa using h)])

theorem impl_number_run (i j : Nat) (hi : i ≤ 1000) (hj : j ≤ 1000) : Run (fun _ => impl_number.f i j) (· = (edg i j : Int)) := by
  unfold impl_number.f
  have hm : (max i j) ≤ 1000 := by omega
  have ti := tri_mono hm
  have tt : tri 1000 = 499500 := rfl
  rw [show max (i : Int) (j : Int) = ((max i j : Nat) : Int) by omega, show min (i : Int) (j : Int) = ((min i j : Nat) : Int) by omega]
  refine Run.ret ?_
  rw [tri_int (by omega), w64_id (by omega), edg]
  split
  · rw [show max i j = i by omega, show min i j = j by omega]; rfl
  · rw [show max i j = j by omega, show min i j = i by omega]; rfl

theorem impl_Colouring_at_run (x : Col) (hx : ByteC x) (hp : 0 ≤ x.p ∧ x.p ≤ 17) (i j : Nat) (hi : (i : Int) < x.p) (hj : (j : Int) < x.p) (hn : i ≠ j) : Run (fun _ => impl_Colouring_at.f x i j) (· = colr x i j) := by
  unfold impl_Colouring_at.f
  refine Run.bindE (impl_number_run i j (by omega) (by omega)) ?_
  have := edg_lt136 (i := i) (j := j) (p := x.p.toNat) (by omega) (by omega) (by omega) hn
  refine Run.bindE (Run.getB' (by omega) (by omega)) ?_
  have hb := hx ((edg i j : Nat) : Int).toNat
  exact Run.ret (w64_id (by omega))
end Go.Proofs.Ytdpamdedomkomaa.P
