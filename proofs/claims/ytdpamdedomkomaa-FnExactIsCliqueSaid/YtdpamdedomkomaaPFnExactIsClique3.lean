/- What the pure functions come to, one by one (part 3). -/
import Derived.Test.YtdpamdedomkomaaPFnExactIsClique2
import Derived.Test.YtdpamdedomkomaaGFnExactIsClique5
namespace Go.Proofs.Ytdpamdedomkomaa.P
open Go Go.RowKit Go.Proofs.Ytdpamdedomkomaa.K Go.Proofs.Ytdpamdedomkomaa.G
set_option linter.unusedVariables false
set_option linter.unusedSimpArgs false

theorem spec_l01Points_run (s : Nat) (hs : s < 2 ^ 62) : Run (fun k => spec_l01Points.f k (s : Int)) (· = sel s.testBit 62) := by
  unfold spec_l01Points.f
  refine Run.loop (L := fun q (z : List Int × Int) => spec_l01Points.l0 q s z.1 z.2) (fun z => (62 - z.2).toNat) (fun z => 0 ≤ z.2 ∧ z.2 ≤ 62 ∧ z.1 = sel s.testBit z.2.toNat) ?_ ([], 0) ⟨by simp only; omega, by simp only; omega, rfl⟩
  rintro ⟨l, j⟩ ⟨h0, h3, hl⟩ ih
  simp only at h0 h3 hl
  simp only [spec_l01Points.l0]
  obtain ⟨j, rfl⟩ := Int.eq_ofNat_of_zero_le h0
  simp only [Int.toNat_natCast] at hl
  refine Run.ite (fun h => ?_) (fun h => ?_)
  · rw [w64_id (x := (j : Int) + 1) (by omega), wu64_id (by omega)]
    have hb := bit64 (a := s) (n := j) (by omega) (by omega)
    refine Run.ite (fun h1 => ?_) (fun h1 => ?_)
    · have hlen := sel_length s.testBit j
      refine Run.bindE (Run.push' (by rw [hl]; omega)) ?_
      refine ih (_, (j : Int) + 1) ⟨by simp only; omega, by simp only; omega, ?_⟩ (by simp only; omega)
      simp only
      rw [show ((j : Int) + 1).toNat = j + 1 by omega, sel_yes (hb.mp h1), hl]
    · refine ih (_, (j : Int) + 1) ⟨by simp only; omega, by simp only; omega, ?_⟩ (by simp only; omega)
      simp only
      rw [show ((j : Int) + 1).toNat = j + 1 by omega, sel_no (fun h => h1 (hb.mpr h)), hl]
  · refine Run.ret ?_
    rw [hl, show j = 62 by omega]

theorem spec_l01Edge_run (i j : Nat) (hi : i ≤ 1000) (hj : j ≤ 1000) : Run (fun _ => spec_l01Edge.f i j) (· = (edg i j : Int)) := by
  unfold spec_l01Edge.f
  have ti := tri_mono hi
  have tj := tri_mono hj
  have tt : tri 1000 = 499500 := rfl
  refine Run.ite (fun h => ?_) (fun h => ?_)
  · refine Run.ret ?_
    rw [tri_int (by omega), w64_id (by omega), edg, if_pos (by omega)]; rfl
  · refine Run.ret ?_
    rw [tri_int (by omega), w64_id (by omega), edg, if_neg (by omega)]; rfl

theorem spec_l01At_run (x : Col) (hx : ByteC x) (hp : 0 ≤ x.p ∧ x.p ≤ 17) (i j : Nat) (hi : (i : Int) < x.p) (hj : (j : Int) < x.p) (hn : i ≠ j) : Run (fun _ => spec_l01At.f x i j) (· = colr x i j) := by
  unfold spec_l01At.f
  refine Run.bindE (spec_l01Edge_run i j (by omega) (by omega)) ?_
  have := edg_lt136 (i := i) (j := j) (p := x.p.toNat) (by omega) (by omega) (by omega) hn
  refine Run.bindE (Run.getB' (by omega) (by omega)) ?_
  have hb := hx ((edg i j : Nat) : Int).toNat
  exact Run.ret (w64_id (by omega))

theorem spec_l02Clique_run (x : Col) (hx : ByteC x) (hp : 0 ≤ x.p ∧ x.p ≤ 17) (c : Int) (L : List Nat) (hr : List.Pairwise (· < ·) L) (hL : ∀ v ∈ L, (v : Int) < x.p) (hl : L.length ≤ 17) : Run (fun k => spec_l02Clique.f k x c (mask (fun j => L.contains j) x.p.toNat : Int)) (· = cliqueL x c L) := by
  unfold spec_l02Clique.f
  have hm2 : (2 : Nat) ^ x.p.toNat ≤ 2 ^ 17 := Nat.pow_le_pow_right (by omega) (by omega)
  have hlt := Nat.lt_of_lt_of_le (mask_lt (fun j => L.contains j) x.p.toNat) hm2
  refine Run.bindE (spec_l01Points_run _ (by omega)) ?_
  rw [sel_mask (by omega), sel_contains hr fun v hv => by have := hL v hv; omega]
  have at_ : ∀ (i : Nat) (h : i < L.length), (L.map Int.ofNat)[((i : Nat) : Int).toNat]'(by simpa using h) = (L.getD i 0 : Int) := fun i h => by
    rw [List.getD_eq_getElem?_getD, List.getElem?_eq_getElem h]; simp
  have lt_ : ∀ (i : Nat), i < L.length → (L.getD i 0 : Int) < x.p := fun i h => by
    rw [List.getD_eq_getElem?_getD, List.getElem?_eq_getElem h]; exact hL _ (List.getElem_mem h)
  refine Run.loop (L := fun q (i : Int) => spec_l02Clique.l0 q x c (L.map Int.ofNat) i) (fun i => (L.length - i).toNat) (fun i => 0 ≤ i ∧ i ≤ L.length ∧ ∀ a : Nat, (a : Int) < i → ∀ k, k < a → joinsB x (L.getD k 0) c (L.getD a 0) = true) ?_ 0 ⟨by omega, by omega, fun a ha => by omega⟩
  rintro i ⟨h0, h3, hJ⟩ ih
  simp only [spec_l02Clique.l0]
  rw [List.length_map]
  obtain ⟨i, rfl⟩ := Int.eq_ofNat_of_zero_le h0
  refine Run.ite (fun h => ?_) (fun h => ?_)
  · refine Run.loop (L := fun q (k : Int) => spec_l02Clique.l1 q x c (L.map Int.ofNat) i k) (fun k => (i - k).toNat) (fun k => 0 ≤ k ∧ k ≤ i ∧ ∀ a : Nat, (a : Int) < k → joinsB x (L.getD a 0) c (L.getD i 0) = true) ?_ 0 ⟨by omega, by omega, fun a ha => by omega⟩
    rintro k ⟨g0, g3, hK⟩ ih2
    simp only [spec_l02Clique.l1]
    obtain ⟨k, rfl⟩ := Int.eq_ofNat_of_zero_le g0
    refine Run.ite (fun h' => ?_) (fun h' => ?_)
    · refine Run.bindE (a := (L.getD k 0 : Int)) ((Run.getI' (by omega) (by rw [List.length_map]; omega)).mono fun r e => by rw [e]; exact at_ k (by omega)) ?_
      refine Run.bindE (a := (L.getD i 0 : Int)) ((Run.getI' (by omega) (by rw [List.length_map]; omega)).mono fun r e => by rw [e]; exact at_ i (by omega)) ?_
      have hne : L.getD k 0 ≠ L.getD i 0 := by
        rw [List.getD_eq_getElem?_getD, List.getElem?_eq_getElem (show k < L.length by omega), List.getD_eq_getElem?_getD, List.getElem?_eq_getElem (show i < L.length by omega)]
        have := List.pairwise_iff_getElem.mp hr k i (by omega) (by omega) (by omega)
        simp only [Option.getD_some]; omega
      refine Run.bindE (spec_l01At_run x hx hp _ _ (lt_ k (by omega)) (lt_ i (by omega)) hne) ?_
      rw [w64_id (x := (k : Int) + 1) (by omega)]
      refine Run.ite (fun h5 => Run.ret ?_) (fun h5 => ?_)
      · symm
        refine decide_eq_false fun hq => ?_
        have := hq i (by omega) k (by omega)
        unfold joinsB at this
        rw [decide_eq_false h5, Bool.and_false] at this; cases this
      · refine ih2 ((k : Int) + 1) ⟨by omega, by omega, fun a ha => ?_⟩ (by omega)
        by_cases e : (a : Int) < k
        · exact hK a e
        · obtain rfl : a = k := by omega
          unfold joinsB
          rw [decide_eq_true hne, decide_eq_true (Decidable.not_not.mp h5)]; rfl
    · rw [w64_id (x := (i : Int) + 1) (by omega)]
      refine ih ((i : Int) + 1) ⟨by omega, by omega, fun a ha k' hk' => ?_⟩ (by omega)
      by_cases e : (a : Int) < i
      · exact hJ a e k' hk'
      · obtain rfl : a = i := by omega
        exact hK k' (by omega)
  · exact Run.ret (decide_eq_true fun a ha k hk => hJ a (by omega) k hk).symm

theorem spec_IsClique_run (x : Col) (hx : ByteC x) (c : Int) (l : List Int) (hl : l.length < 4611686018427387904) : Run (fun k => spec_IsClique.f k x c l) (· = (if given (isB x) (decide (0 ≤ c ∧ c ≤ x.k - 1) && (allIn l 0 (x.p - 1) && adjB l)) = 0 then (cliqueL x c (l.map Int.toNat), 0) else (false, given (isB x) (decide (0 ≤ c ∧ c ≤ x.k - 1) && (allIn l 0 (x.p - 1) && adjB l))))) := by
  unfold spec_IsClique.f
  refine Run.bindE (spec_l01Given_run x hx c [] (by simp)) ?_
  have eo : (decide (0 ≤ c ∧ c ≤ x.k - 1) && allIn [] 0 (x.p - 1)) = decide (0 ≤ c ∧ c ≤ x.k - 1) := by simp [allIn]
  rw [eo]
  refine Run.ite (fun h => ?_) (fun h => ?_)
  · have e : given (isB x) (decide (0 ≤ c ∧ c ≤ x.k - 1) && (allIn l 0 (x.p - 1) && adjB l)) = given (isB x) (decide (0 ≤ c ∧ c ≤ x.k - 1)) := by
      unfold given at h ⊢
      by_cases h1 : isB x = true
      · rw [if_pos h1] at h
        rw [if_pos h1, if_pos h1]
        cases h2 : decide (0 ≤ c ∧ c ≤ x.k - 1) with
        | true => rw [h2] at h; exact absurd rfl h
        | false => rfl
      · rw [if_neg h1, if_neg h1]
    rw [e, if_neg h]
    exact Run.ret rfl
  have hz := Decidable.not_not.mp h
  obtain ⟨h1, h2⟩ := given_zero hz
  rw [h2, Bool.true_and]
  refine Run.bindE (spec_l01Set_run x hx l hl) ?_
  refine Run.ite (fun h => Run.ret (by rw [if_neg h])) (fun h => ?_)
  have hz := Decidable.not_not.mp h
  rw [if_pos hz]
  obtain ⟨h1, h2⟩ := given_zero hz
  have hc := isB_spec h1
  have h17 := hc.1
  simp only [Bool.and_eq_true] at h2
  obtain ⟨L, rfl, hr, hL, hl'⟩ := points_nat (points_of hc h2.1 h2.2)
  have e : (L.map Int.ofNat).map Int.toNat = L := by rw [List.map_map]; exact (List.map_congr_left fun v _ => rfl).trans (List.map_id L)
  rw [e]
  refine Run.bindE (spec_l01Bits_run x.p.toNat (by omega) L (fun v hv => by have := hL v hv; omega) (by omega)) ?_
  refine Run.bindE (spec_l02Clique_run x hx (by omega) c L hr hL hl') ?_
  exact Run.ret rfl

theorem impl_in_run (n low high : Int) : Run (fun _ => impl_in.f n low high) (· = decide (low ≤ n ∧ n ≤ high)) := by
  unfold impl_in.f
  refine Run.ite (fun h => ?_) (fun h => ?_)
  · refine Run.ret (decide_eq_decide.mpr ?_); omega
  · refine Run.ret ((decide_eq_false ?_).symm); omega

theorem impl_Colouring_edges_run (x : Col) (hp : 0 ≤ x.p ∧ x.p ≤ 1000) : Run (fun _ => impl_Colouring_edges.f x) (· = (tri x.p.toNat : Int)) := by
  unfold impl_Colouring_edges.f
  have := tri_int (n := x.p.toNat) (by omega)
  rw [show ((x.p.toNat : Nat) : Int) = x.p by omega] at this
  exact Run.ret this

theorem impl_Colouring_isColouring_run (x : Col) (hx : ByteC x) : Run (fun k => impl_Colouring_isColouring.f k x) (· = isB x) := by
  unfold impl_Colouring_isColouring.f
  refine Run.bindE (impl_in_run _ _ _) ?_
  refine Run.itn (fun h1 => ?_) (fun h1 => ?_)
  · exact Run.ret (decide_eq_false fun h => h1 (decide_eq_true h.1)).symm
  refine Run.bindE (impl_in_run _ _ _) ?_
  refine Run.itn (fun h2 => ?_) (fun h2 => ?_)
  · exact Run.ret (decide_eq_false fun h => h2 (decide_eq_true h.2.1)).symm
  have hp := of_decide_eq_true h1
  have hk := of_decide_eq_true h2
  refine Run.loop (L := fun q (i : Int) => impl_Colouring_isColouring.l0 q x i) (fun i => (136 - i).toNat) (fun i => 0 ≤ i ∧ i ≤ 136 ∧ ∀ j : Nat, (j : Int) < i → (if j < tri x.p.toNat then x.e j < x.k else x.e j = 0)) ?_ 0 ⟨by omega, by omega, fun j hj => by omega⟩
  rintro i ⟨h0, h3, hJ⟩ ih
  simp only [impl_Colouring_isColouring.l0]
  refine Run.ite (fun h => ?_) (fun h => ?_)
  · refine Run.bindE (Run.getB' h0 h) ?_
    have hb := hx i.toNat
    rw [w64_id (x := x.e i.toNat) (by omega)]
    refine Run.ite (fun h5 => ?_) (fun h5 => ?_)
    · refine Run.ret (decide_eq_false fun hc => ?_).symm
      have := hc.2.2 i.toNat (by omega)
      by_cases h6 : i.toNat < tri x.p.toNat
      · rw [if_pos h6] at this; omega
      · rw [if_neg h6] at this; omega
    · refine Run.bindE (impl_Colouring_edges_run x (by omega)) ?_
      rw [w64_id (x := i + 1) (by omega)]
      refine Run.ite (fun h4 => ?_) (fun h4 => ?_)
      · refine Run.ite (fun h7 => ?_) (fun h7 => ?_)
        · refine Run.ret (decide_eq_false fun hc => ?_).symm
          have := hc.2.2 i.toNat (by omega)
          rw [if_neg (by omega)] at this; omega
        · refine ih (i + 1) ⟨by omega, by omega, fun j hj => ?_⟩ (by omega)
          by_cases ej : (j : Int) < i
          · exact hJ j ej
          · obtain rfl : j = i.toNat := by omega
            rw [if_neg (by omega)]; omega
      · refine ih (i + 1) ⟨by omega, by omega, fun j hj => ?_⟩ (by omega)
        by_cases ej : (j : Int) < i
        · exact hJ j ej
        · obtain rfl : j = i.toNat := by omega
          rw [if_pos (by omega)]; omega
  · refine Run.ret (decide_eq_true ⟨hp, hk, fun j hj => hJ j (by omega)⟩).symm

theorem impl_Colouring_hasColour_run (x : Col) (hp : 1 ≤ x.k ∧ x.k ≤ 1000) (c : Int) : Run (fun _ => impl_Colouring_hasColour.f x c) (· = decide (0 ≤ c ∧ c ≤ x.k - 1)) := by
  unfold impl_Colouring_hasColour.f
  rw [w64_id (x := x.k - 1) (by omega)]
  refine Run.bindE (impl_in_run _ _ _) ?_
  exact Run.ret rfl

theorem impl_Colouring_has_run (x : Col) (hp : 1 ≤ x.p ∧ x.p ≤ 1000) (i : Int) : Run (fun _ => impl_Colouring_has.f x i) (· = decide (0 ≤ i ∧ i ≤ x.p - 1)) := by
  unfold impl_Colouring_has.f
  rw [w64_id (x := x.p - 1) (by omega)]
  refine Run.bindE (impl_in_run _ _ _) ?_
  exact Run.ret rfl
end Go.Proofs.Ytdpamdedomkomaa.P
