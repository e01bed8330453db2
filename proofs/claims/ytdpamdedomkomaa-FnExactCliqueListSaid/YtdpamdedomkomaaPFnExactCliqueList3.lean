/- What the pure functions come to, one by one (part 3). -/
import Derived.Test.YtdpamdedomkomaaPFnExactCliqueList2
import Derived.Test.YtdpamdedomkomaaGFnExactCliqueList8
namespace Go.Proofs.Ytdpamdedomkomaa.P
open Go Go.RowKit Go.Proofs.Ytdpamdedomkomaa.K Go.Proofs.Ytdpamdedomkomaa.G
set_option linter.unusedVariables false
set_option linter.unusedSimpArgs false

theorem spec_l01Ones_run (s : Nat) (hs : s < 2 ^ 62) : Run (fun k => spec_l01Ones.f k (s : Int)) (· = (cnt s.testBit 62 : Int)) := by
  unfold spec_l01Ones.f
  refine Run.loop (L := fun q (z : Int × Int) => spec_l01Ones.l0 q z.1 z.2) (fun z => z.1.toNat) (fun z => ∃ v a n : Nat, z = ((v : Int), (a : Int)) ∧ v < 2 ^ n ∧ n ≤ 62 ∧ a ≤ 62 - n ∧ a + cnt v.testBit n = cnt s.testBit 62) ?_ (s, 0) ⟨s, 0, 62, rfl, hs, by omega, by omega, by omega⟩
  rintro _ ⟨v, a, n, rfl, hv, hn, ha, hc⟩ ih
  simp only [spec_l01Ones.l0]
  refine Run.ite (fun h => ?_) (fun h => ?_)
  · have hn0 : n ≠ 0 := by intro h0; subst h0; simp at hv; omega
    obtain ⟨n, rfl⟩ : ∃ m, n = m + 1 := ⟨n - 1, by omega⟩
    have hb : (2 : Nat) ^ (n + 1) ≤ 2 ^ 62 := Nat.pow_le_pow_right (by omega) hn
    have hp : (2 : Nat) ^ (n + 1) = 2 ^ n * 2 := Nat.pow_succ ..
    have e1 : Int.tdiv (v : Int) 2 = ((v / 2 : Nat) : Int) := rfl
    have e2 : Int.tmod (v : Int) 2 = ((v % 2 : Nat) : Int) := rfl
    rw [cnt_half] at hc
    rw [e1, e2, w64_id (x := ((v / 2 : Nat) : Int)) (by omega), w64_id (x := (a : Int) + ((v % 2 : Nat) : Int)) (by omega)]
    refine ih (((v / 2 : Nat) : Int), ((a + v % 2 : Nat) : Int)) ⟨v / 2, a + v % 2, n, rfl, by omega, by omega, by omega, by omega⟩ (by simp only; omega)
  · obtain rfl : v = 0 := by omega
    refine Run.ret ?_
    have : cnt (0 : Nat).testBit n = 0 := by
      unfold cnt
      rw [sel_congr (g := fun _ => false) fun j _ => by simp]
      have : sel (fun _ => false) n = [] := by simp [sel]
      rw [this]; rfl
    omega

theorem spec_l02Go_run (x : Col) (hp : 0 ≤ x.p ∧ x.p ≤ 17) (c : Int) (n : Nat) (hn : (n : Int) = x.p) (m : Int) (most : Nat) (hmost : most ≤ 1000000) : ∀ (d : Nat) (L : List Nat) (f : Nat → Bool) (out : List (List Int)), (L.length : Int) + d = m → d + L.length ≤ 1000 → out.length < most →
    Run (fun k => spec_l02Go.f k (rowsM x c n) (L.map Int.ofNat) (mask f n : Int) m out most) (· = (out ++ asI (clq (fun i j => joinsB x i c j) d L (upF f 0 n))).take most) := by
  have hm2 : (2 : Nat) ^ n ≤ 2 ^ 17 := Nat.pow_le_pow_right (by omega) (by omega)
  have hlt : ∀ g, mask g n < 2 ^ 17 := fun g => Nat.lt_of_lt_of_le (mask_lt g n) hm2
  intro d
  induction d with
  | zero =>
    intro L f out hd hdl ho
    refine Run.step ?_
    simp only [spec_l02Go.f]
    rw [List.length_map]
    refine Run.yes (by omega) ?_
    refine Run.bindE (spec_l01Own_run _ (by rw [List.length_map]; omega)) ?_
    refine Run.bindE (Run.concatR' (by simp; omega)) ?_
    refine Run.ret ?_
    rw [List.take_of_length_le (by simp [asI, clq]; omega)]; rfl
  | succ d ihd =>
    intro L f out hd hdl ho
    refine Run.step ?_
    simp only [spec_l02Go.f]
    rw [List.length_map]
    refine Run.no (by omega) ?_
    have hl := hlt f
    refine Run.bindE (spec_l01Ones_run _ (by omega)) ?_
    have hF := upF_length f 0 n
    rw [cnt_mask_upF (by omega), w64_id (by omega)]
    refine Run.ite (fun h => Run.ret ?_) (fun h => ?_)
    · rw [clq_empty (cnum_short _ _ _ (d + 1) (Nat.le_refl _) (by omega)), List.take_of_length_le (by simp [asI]; omega)]
      simp [asI]
    refine Run.loop (L := fun q (z : List (List Int) × Int) => spec_l02Go.l0 q (rowsM x c n) (L.map Int.ofNat) (mask f n : Int) m most z.1 z.2) (fun z => (n - z.2).toNat) (fun z => 0 ≤ z.2 ∧ z.2 ≤ n ∧ z.1.length ≤ most ∧ (out ++ asI (clq (fun i j => joinsB x i c j) (d + 1) L (upF f 0 n))).take most = (z.1 ++ asI (clq (fun i j => joinsB x i c j) (d + 1) L (upF f z.2.toNat n))).take most) ?_ (_, 0) ⟨by simp only; omega, by simp only; omega, by simp only; omega, rfl⟩
    rintro ⟨o, p⟩ ⟨h0, h3, hol, hc⟩ ih
    simp only at h0 h3 hol hc
    simp only [spec_l02Go.l0]
    rw [rowsM_length]
    obtain ⟨p, rfl⟩ := Int.eq_ofNat_of_zero_le h0
    simp only [Int.toNat_natCast] at hc ih
    refine Run.ite (fun hi => ?_) (fun hi => ?_)
    · refine Run.ite (fun ho' => ?_) (fun ho' => Run.ret ?_)
      · rw [w64_id (x := (p : Int) + 1) (by omega), wu64_id (by omega)]
        have hb := bit64 (a := mask f n) (n := p) (by omega) (by omega)
        rw [testBit_mask, decide_eq_true (show p < n by omega), Bool.true_and] at hb
        refine Run.ite (fun hz => ?_) (fun hz => ?_)
        · have hf := hb.mp hz
          refine Run.bindE (Run.getI' (by omega) (by rw [rowsM_length]; omega)) ?_
          rw [rowsM_at]
          have hm' : mask (joinsB x p c) x.p.toNat < 2 ^ 17 := by rw [show x.p.toNat = n by omega]; exact hlt _
          have hl2 := hlt (fun j => f j && joinsB x p c j)
          have hl3 := hlt (fun j => (f j && joinsB x p c j) && decide (p ≤ j))
          refine Run.bindE (spec_l01Own_run _ (by rw [List.length_map]; omega)) ?_
          refine Run.bindE (Run.push' (by rw [List.length_map]; omega)) ?_
          rw [and64 (by omega) (by omega), show x.p.toNat = n by omega, mask_and, shr64 (by omega), shl64g (by omega) (by rw [mask_shift]; omega), mask_shift]
          rw [show L.map Int.ofNat ++ [(p : Int)] = (L ++ [p]).map Int.ofNat by simp]
          refine Run.bindE (ihd (L ++ [p]) _ o (by rw [List.length_append, List.length_singleton]; omega) (by rw [List.length_append, List.length_singleton]; omega) (by omega)) ?_
          have e2 : upF (fun j => (f j && joinsB x p c j) && decide (p ≤ j)) 0 n = (upF f (p + 1) n).filter (joinsB x p c) := by
            rw [upF_filter, upF_from (by omega), upF_no (by omega) (by simp [joinsB])]
          rw [e2]
          rw [upF_yes (by omega) hf, clq_cons, asI_append, ← List.append_assoc] at hc
          refine ih (_, (p : Int) + 1) ⟨by simp only; omega, by simp only; omega, ?_, ?_⟩ (by simp only; omega)
          · simp only; rw [List.length_take]; omega
          · simp only
            rw [show ((p : Int) + 1).toNat = p + 1 by omega, take_take_append]
            exact hc
        · have hf : ¬ f p = true := fun h => hz (hb.mpr h)
          rw [upF_no (by omega) hf] at hc
          exact ih (_, (p : Int) + 1) ⟨by simp only; omega, by simp only; omega, hol, by simp only; rw [show ((p : Int) + 1).toNat = p + 1 by omega]; exact hc⟩ (by simp only; omega)
      · rw [hc, List.take_append_of_le_length (by omega), List.take_of_length_le (by omega)]
    · refine Run.ret ?_
      rw [upF_end f (p := p) (n := n) (by omega), clq_nil] at hc
      rw [hc]
      show o = (o ++ []).take most
      rw [List.append_nil, List.take_of_length_le (by omega)]

theorem spec_l02List_run (x : Col) (hx : ByteC x) (hp : 0 ≤ x.p ∧ x.p ≤ 17) (c : Int) (m : Nat) (hm : m ≤ 1000) (most : Nat) (h0 : 0 < most) (hmost : most ≤ 1000000) : Run (fun k => spec_l02List.f k x c m most) (· = (asI (clq (fun i j => joinsB x i c j) m [] (upF (fun _ => true) 0 x.p.toNat))).take most) := by
  unfold spec_l02List.f
  refine Run.bindE (spec_l02Rows_run x hx hp c) ?_
  rw [all_mask hp]
  refine Run.bindE (spec_l02Go_run x hp c x.p.toNat (by omega) m most hmost m [] (fun _ => true) [] (by simp) (by simp; omega) h0) ?_
  exact Run.ret rfl

theorem spec_CliqueList_run (x : Col) (hx : ByteC x) (c m : Int) : Run (fun k => spec_CliqueList.f k x c m) (· = clM x c m) := by
  unfold spec_CliqueList.f
  refine Run.bindE (spec_l01Given_run x hx c [] (by simp)) ?_
  have eo : (decide (0 ≤ c ∧ c ≤ x.k - 1) && allIn [] 0 (x.p - 1)) = decide (0 ≤ c ∧ c ≤ x.k - 1) := by simp [allIn]
  rw [eo, clM]
  refine Run.ite (fun h => ?_) (fun h => ?_)
  · obtain ⟨h1, h2⟩ := given_zero h
    have h17 := (isB_spec h1).1
    refine Run.bindE (spec_l01In_run _ _ _) ?_
    rw [h1, h2, Bool.true_and]
    refine Run.ite (fun h3 => ?_) (fun h3 => ?_)
    · rw [h3, given, if_pos rfl, if_pos rfl, if_pos rfl]
      have hm := of_decide_eq_true h3
      have hr := spec_l02List_run x hx (by omega) c m.toNat (by omega) 201 (by omega) (by omega)
      rw [show ((m.toNat : Nat) : Int) = m by omega] at hr
      refine Run.bindE hr ?_
      unfold listR
      rw [List.length_take, asI_length]
      refine Run.ite (fun h => Run.ret ?_) (fun h => Run.ret ?_)
      · rw [if_neg (by omega)]
      · rw [if_pos (by omega), List.take_of_length_le (by rw [asI_length]; omega)]
    · rw [Bool.eq_false_iff.mpr h3, given, if_pos rfl, if_neg (by decide), if_neg (by decide)]
      exact Run.ret rfl
  · have e : given (isB x) (decide (0 ≤ c ∧ c ≤ x.k - 1) && decide (1 ≤ m ∧ m ≤ 17)) = given (isB x) (decide (0 ≤ c ∧ c ≤ x.k - 1)) := by
      unfold given at h ⊢
      by_cases h1 : isB x = true
      · rw [if_pos h1] at h
        rw [if_pos h1, if_pos h1]
        cases h2 : decide (0 ≤ c ∧ c ≤ x.k - 1) with
        | true => rw [h2] at h; exact absurd rfl h
        | false => rfl
      · rw [if_neg h1, if_neg h1]
    rw [e, if_neg h]
    exact Run.ret rfl

theorem impl_in_run (n low high : Int) : Run (fun _ => impl_in.f n low high) (· = decide (low ≤ n ∧ n ≤ high)) := by
  unfold impl_in.f
  refine Run.ite (fun h => ?_) (fun h => ?_)
  · refine Run.ret (decide_eq_decide.mpr ?_); omega
  · refine Run.ret ((decide_eq_false ?_).symm); omega

theorem impl_Colouring_edges_run (x : Col) (hp : 0 ≤ x.p ∧ x.p ≤ 1000) : Run (fun _ => impl_Colouring_edges.f x) (· = (tri x.p.toNat : Int)) := by
  unfold impl_Colouring_edges.f
  have := tri_int (n := x.p.toNat) (by omega)
  rw [show ((x.p.toNat : Nat) : Int) = x.p by omega] at this
  exact Run.ret this

theorem impl_Colouring_isColouring_run (x : Col) (hx : ByteC x) : Run (fun k => impl_Colouring_isColouring.f k x) (· = isB x) := by
  unfold impl_Colouring_isColouring.f
  refine Run.bindE (impl_in_run _ _ _) ?_
  refine Run.itn (fun h1 => ?_) (fun h1 => ?_)
  · exact Run.ret (decide_eq_false fun h => h1 (decide_eq_true h.1)).symm
  refine Run.bindE (impl_in_run _ _ _) ?_
  refine Run.itn (fun h2 => ?_) (fun h2 => ?_)
  · exact Run.ret (decide_eq_false fun h => h2 (decide_eq_true h.2.1)).symm
  have hp := of_decide_eq_true h1
  have hk := of_decide_eq_true h2
  refine Run.loop (L := fun q (i : Int) => impl_Colouring_isColouring.l0 q x i) (fun i => (136 - i).toNat) (fun i => 0 ≤ i ∧ i ≤ 136 ∧ ∀ j : Nat, (j : Int) < i → (if j < tri x.p.toNat then x.e j < x.k else x.e j = 0)) ?_ 0 ⟨by omega, by omega, fun j hj => by omega⟩
  rintro i ⟨h0, h3, hJ⟩ ih
  simp only [impl_Colouring_isColouring.l0]
  refine Run.ite (fun h => ?_) (fun h => ?_)
  · refine Run.bindE (Run.getB' h0 h) ?_
    have hb := hx i.toNat
    rw [w64_id (x := x.e i.toNat) (by omega)]
    refine Run.ite (fun h5 => ?_) (fun h5 => ?_)
    · refine Run.ret (decide_eq_false fun hc => ?_).symm
      have := hc.2.2 i.toNat (by omega)
      by_cases h6 : i.toNat < tri x.p.toNat
      · rw [if_pos h6] at this; omega
      · rw [if_neg h6] at this; omega
    · refine Run.bindE (impl_Colouring_edges_run x (by omega)) ?_
      rw [w64_id (x := i + 1) (by omega)]
      refine Run.ite (fun h4 => ?_) (fun h4 => ?_)
      · refine Run.ite (fun h7 => ?_) (fun h7 => ?_)
        · refine Run.ret (decide_eq_false fun hc => ?_).symm
          have := hc.2.2 i.toNat (by omega)
          rw [if_neg (by omega)] at this; omega
        · refine ih (i + 1) ⟨by omega, by omega, fun j hj => ?_⟩ (by omega)
          by_cases ej : (j : Int) < i
          · exact hJ j ej
          · obtain rfl : j = i.toNat := by omega
            rw [if_neg (by omega)]; omega
      · refine ih (i + 1) ⟨by omega, by omega, fun j hj => ?_⟩ (by omega)
        by_cases ej : (j : Int) < i
        · exact hJ j ej
        · obtain rfl : j = i.toNat := by omega
          rw [if_pos (by omega)]; omega
  · refine Run.ret (decide_eq_true ⟨hp, hk, fun j hj => hJ j (by omega)⟩).symm

theorem impl_Colouring_hasColour_run (x : Col) (hp : 1 ≤ x.k ∧ x.k ≤ 1000) (c : Int) : Run (fun _ => impl_Colouring_hasColour.f x c) (· = decide (0 ≤ c ∧ c ≤ x.k - 1)) := by
  unfold impl_Colouring_hasColour.f
  rw [w64_id (x := x.k - 1) (by omega)]
  refine Run.bindE (impl_in_run _ _ _) ?_
  exact Run.ret rfl
end Go.Proofs.Ytdpamdedomkomaa.P
