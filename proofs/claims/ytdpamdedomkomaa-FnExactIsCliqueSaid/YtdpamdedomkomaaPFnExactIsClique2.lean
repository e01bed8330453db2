/- What the pure functions come to, one by one (part 2). -/
import Derived.Test.YtdpamdedomkomaaPFnExactIsClique00
import Derived.Test.YtdpamdedomkomaaGFnExactIsClique5
namespace Go.Proofs.Ytdpamdedomkomaa.P
open Go Go.RowKit Go.Proofs.Ytdpamdedomkomaa.K Go.Proofs.Ytdpamdedomkomaa.G
set_option linter.unusedVariables false
set_option linter.unusedSimpArgs false

theorem laws_toByteA136_run (e : Nat → Int) : Run (fun k => laws_toByteA136.f k e) (· = cut e) := by
  unfold laws_toByteA136.f
  refine Run.loop (L := fun q (s : (Nat → Int) × Int) => laws_toByteA136.l0 q e s.1 s.2) (fun s => (136 - s.2).toNat) (fun s => 0 ≤ s.2 ∧ s.2 ≤ 136 ∧ s.1 = fun (j : Nat) => if (j : Int) < s.2 then e j else 0) ?_ (_, 0) ⟨by omega, by omega, by funext j; rw [if_neg]; show ¬ ((j : Int) < 0); omega⟩
  rintro ⟨s, i⟩ ⟨h0, h1, hs⟩ ih
  simp only at h0 h1 hs
  simp only [laws_toByteA136.l0]
  refine Run.ite (fun h => ?_) (fun h => ?_)
  · refine Run.bindE (Run.getB' h0 h) ?_
    refine Run.bindE (Run.getB' h0 h) ?_
    rw [w64_id (by omega)]
    refine ih (_, i + 1) ⟨by simp only; omega, by simp only; omega, ?_⟩ (by simp only; omega)
    funext j
    show upd s i.toNat (e i.toNat) j = if (j : Int) < i + 1 then e j else 0
    by_cases e1 : j = i.toNat
    · rw [e1, upd_same, if_pos (by omega)]
    · rw [upd_other e1, hs]
      show (if (j : Int) < i then e j else 0) = _
      by_cases e2 : (j : Int) < i
      · rw [if_pos e2, if_pos (by omega)]
      · rw [if_neg e2, if_neg (by omega)]
  · refine Run.ret ?_
    rw [hs]
    funext j
    show (if (j : Int) < i then e j else 0) = cut e j
    unfold cut
    by_cases e2 : (j : Int) < i
    · rw [if_pos e2, if_pos (by omega)]
    · rw [if_neg e2, if_neg (by omega)]

theorem laws_toColouring_run (x : Col) : Run (fun k => laws_toColouring.f k x) (· = cutC x) := by
  unfold laws_toColouring.f
  refine Run.bindE (laws_toByteA136_run _) ?_
  exact Run.ret rfl

theorem laws_toInt64S_run (a : List Int) (ha : a.length ≤ 1048576) : Run (fun k => laws_toInt64S.f k a) (· = a) := by
  unfold laws_toInt64S.f
  refine Run.bind (Q := fun _ => True) (Run.guard (by omega) trivial) fun _ _ => ?_
  refine Run.loop (L := fun q (s : List Int × Int) => laws_toInt64S.l0 q a s.1 s.2) (fun s => (a.length - s.2).toNat) (fun s => 0 ≤ s.2 ∧ s.2 ≤ a.length ∧ s.1.length = a.length ∧ s.1.take s.2.toNat = a.take s.2.toNat) ?_ (_, 0) ⟨by simp only; omega, by simp only; omega, by simp, by simp⟩
  rintro ⟨l, i⟩ ⟨h0, h3, hv, hl⟩ ih
  simp only at h0 h3 hv hl
  simp only [laws_toInt64S.l0]
  refine Run.ite (fun h => ?_) (fun h => ?_)
  · refine Run.bindE (Run.getI' h0 h) ?_
    refine Run.bindE (Run.getI' h0 (by omega)) ?_
    rw [w64_id (by omega)]
    refine ih (_, i + 1) ⟨by simp only; omega, by simp only; omega, by simpa using hv, ?_⟩ (by simp only; omega)
    simp only
    rw [show (i + 1).toNat = i.toNat + 1 by omega, List.take_succ_eq_append_getElem (by simpa using by omega), List.take_succ_eq_append_getElem (by omega), List.take_set_of_le (Nat.le_refl _), hl]
    simp
  · have : i = a.length := by omega
    subst this
    refine Run.ret ?_
    rw [List.take_of_length_le (by omega), List.take_of_length_le (by omega)] at hl
    exact hl

theorem spec_l01In_run (n low high : Int) : Run (fun _ => spec_l01In.f n low high) (· = decide (low ≤ n ∧ n ≤ high)) := by
  unfold spec_l01In.f
  refine Run.ite (fun h => ?_) (fun h => ?_)
  · refine Run.ret (decide_eq_decide.mpr ?_); omega
  · refine Run.ret ((decide_eq_false ?_).symm); omega

theorem spec_l01Is_run (x : Col) (hx : ByteC x) : Run (fun k => spec_l01Is.f k x) (· = isB x) := by
  unfold spec_l01Is.f
  refine Run.bindE (spec_l01In_run _ _ _) ?_
  refine Run.itn (fun h1 => ?_) (fun h1 => ?_)
  · exact Run.ret (decide_eq_false fun h => h1 (decide_eq_true h.1)).symm
  refine Run.bindE (spec_l01In_run _ _ _) ?_
  refine Run.itn (fun h2 => ?_) (fun h2 => ?_)
  · exact Run.ret (decide_eq_false fun h => h2 (decide_eq_true h.2.1)).symm
  have hp := of_decide_eq_true h1
  have hk := of_decide_eq_true h2
  refine Run.loop (L := fun q (i : Int) => spec_l01Is.l0 q x i) (fun i => (136 - i).toNat) (fun i => 0 ≤ i ∧ i ≤ 136 ∧ ∀ j : Nat, (j : Int) < i → (if j < tri x.p.toNat then x.e j < x.k else x.e j = 0)) ?_ 0 ⟨by omega, by omega, fun j hj => by omega⟩
  rintro i ⟨h0, h3, hJ⟩ ih
  simp only [spec_l01Is.l0]
  have et : w64 (Int.tdiv (w64 (x.p * (w64 (x.p - 1)))) 2) = (tri x.p.toNat : Int) := by
    have := tri_int (n := x.p.toNat) (by omega)
    rwa [show ((x.p.toNat : Nat) : Int) = x.p by omega] at this
  refine Run.ite (fun h => ?_) (fun h => ?_)
  · rw [et]
    refine Run.ite (fun h4 => ?_) (fun h4 => ?_)
    · refine Run.bindE (Run.getB' h0 h) ?_
      have hb := hx i.toNat
      rw [w64_id (by omega)]
      refine Run.ite (fun h5 => ?_) (fun h5 => ?_)
      · refine Run.ret (decide_eq_false fun hc => ?_).symm
        have := hc.2.2 i.toNat (by omega)
        rw [if_pos (by omega)] at this; omega
      · rw [w64_id (by omega)]
        refine ih (i + 1) ⟨by omega, by omega, fun j hj => ?_⟩ (by omega)
        by_cases ej : (j : Int) < i
        · exact hJ j ej
        · obtain rfl : j = i.toNat := by omega
          rw [if_pos (by omega)]; omega
    · refine Run.bindE (Run.getB' h0 h) ?_
      refine Run.ite (fun h5 => ?_) (fun h5 => ?_)
      · refine Run.ret (decide_eq_false fun hc => ?_).symm
        have := hc.2.2 i.toNat (by omega)
        rw [if_neg (by omega)] at this; omega
      · rw [w64_id (by omega)]
        refine ih (i + 1) ⟨by omega, by omega, fun j hj => ?_⟩ (by omega)
        by_cases ej : (j : Int) < i
        · exact hJ j ej
        · obtain rfl : j = i.toNat := by omega
          rw [if_neg (by omega)]; omega
  · refine Run.ret (decide_eq_true ⟨hp, hk, fun j hj => hJ j (by omega)⟩).symm

theorem spec_l01All_run (list : List Int) (c : Int) (hc : 0 ≤ c ∧ c < 1000000000) (hl : list.length < 4611686018427387904) : Run (fun k => spec_l01All.f k list c) (· = allIn list 0 (c - 1)) := by
  unfold spec_l01All.f
  refine Run.loop (L := fun q (i : Int) => spec_l01All.l0 q list c i) (fun i => (list.length - i).toNat) (fun i => 0 ≤ i ∧ i ≤ list.length ∧ allIn list 0 (c - 1) = allIn (list.drop i.toNat) 0 (c - 1)) ?_ 0 ⟨by omega, by omega, rfl⟩
  rintro i ⟨h0, h3, hJ⟩ ih
  simp only [spec_l01All.l0]
  refine Run.ite (fun h => ?_) (fun h => ?_)
  · have hd : list.drop i.toNat = list[i.toNat]'(by omega) :: list.drop (i.toNat + 1) := List.drop_eq_getElem_cons (by omega)
    refine Run.bindE (Run.getI' h0 h) ?_
    rw [w64_id (x := c - 1) (by omega), w64_id (x := i + 1) (by omega)]
    refine Run.bindE (spec_l01In_run _ _ _) ?_
    refine Run.ite (fun h5 => ?_) (fun h5 => ?_)
    · refine ih (i + 1) ⟨by omega, by omega, ?_⟩ (by omega)
      rw [hJ, hd, show (i + 1).toNat = i.toNat + 1 by omega, allIn_cons, h5, Bool.true_and]
    · refine Run.ret ?_
      rw [hJ, hd, allIn_cons, Bool.eq_false_iff.mpr h5, Bool.false_and]
  · refine Run.ret ?_
    rw [hJ, List.drop_eq_nil_of_le (by omega)]; rfl

theorem spec_l01Given_run (x : Col) (hx : ByteC x) (c : Int) (points : List Int) (hl : points.length < 4611686018427387904) :
    Run (fun k => spec_l01Given.f k x c points) (· = given (isB x) (decide (0 ≤ c ∧ c ≤ x.k - 1) && allIn points 0 (x.p - 1))) := by
  unfold spec_l01Given.f
  refine Run.bindE (spec_l01Is_run x hx) ?_
  refine Run.itn (fun h1 => ?_) (fun h1 => ?_)
  · exact Run.ret (by rw [given, if_neg h1])
  have hc := isB_spec h1
  rw [given, if_pos h1, w64_id (x := x.k - 1) (by have := hc.2.1; omega)]
  refine Run.bindE (spec_l01In_run _ _ _) ?_
  refine Run.itn (fun h2 => ?_) (fun h2 => ?_)
  · exact Run.ret (by rw [Bool.eq_false_iff.mpr h2]; rfl)
  refine Run.bindE (spec_l01All_run points x.p (by have := hc.1; omega) hl) ?_
  rw [h2, Bool.true_and]
  exact Run.ite (fun h3 => Run.ret (by rw [if_pos h3])) (fun h3 => Run.ret (by rw [if_neg h3]))

theorem spec_l01Set_run (x : Col) (hx : ByteC x) (l : List Int) (hl : l.length < 4611686018427387904) : Run (fun k => spec_l01Set.f k x l) (· = given (isB x) (allIn l 0 (x.p - 1) && adjB l)) := by
  unfold spec_l01Set.f
  refine Run.bindE (spec_l01Given_run x hx 0 l hl) ?_
  refine Run.ite (fun h => ?_) (fun h => ?_)
  · refine Run.ret ?_
    unfold given at h ⊢
    by_cases h1 : isB x = true
    · rw [if_pos h1] at h
      rw [if_pos h1, if_pos h1]
      have hk := (isB_spec h1).2.1
      have e0 : decide ((0 : Int) ≤ 0 ∧ 0 ≤ x.k - 1) = true := decide_eq_true (by omega)
      rw [e0, Bool.true_and] at h ⊢
      cases ha : allIn l 0 (x.p - 1) with
      | true => rw [ha] at h; exact absurd rfl h
      | false => rfl
    · rw [if_neg h1, if_neg h1]
  obtain ⟨h1, h2⟩ := given_zero (Decidable.not_not.mp h)
  simp only [Bool.and_eq_true] at h2
  rw [given, if_pos h1, h2.2, Bool.true_and]
  by_cases hl0 : l.length = 0
  · refine Run.step ?_
    simp only [spec_l01Set.l0]
    refine Run.no (by omega) (Run.ret ?_)
    rw [if_pos]; exact decide_eq_true (fun j hj => by omega)
  refine Run.loop (L := fun q (i : Int) => spec_l01Set.l0 q l i) (fun i => (l.length - i).toNat) (fun i => 1 ≤ i ∧ i ≤ l.length ∧ ∀ j : Nat, (j : Int) < i - 1 → l.getD j 0 < l.getD (j + 1) 0) ?_ 1 ⟨by omega, by omega, fun j hj => by omega⟩
  rintro i ⟨h0, h3, hJ⟩ ih
  simp only [spec_l01Set.l0]
  refine Run.ite (fun h => ?_) (fun h => ?_)
  · refine Run.bindE (Run.getI' (by omega) h) ?_
    rw [w64_id (x := i - 1) (by omega), w64_id (x := i + 1) (by omega)]
    refine Run.bindE (Run.getI' (by omega) (by omega)) ?_
    have e1 : l.getD (i - 1).toNat 0 = l[(i - 1).toNat]'(by omega) := by rw [List.getD_eq_getElem?_getD, List.getElem?_eq_getElem (by omega)]; rfl
    have e2 : l.getD ((i - 1).toNat + 1) 0 = l[i.toNat]'(by omega) := by rw [show (i - 1).toNat + 1 = i.toNat by omega, List.getD_eq_getElem?_getD, List.getElem?_eq_getElem (by omega)]; rfl
    refine Run.ite (fun h5 => ?_) (fun h5 => ?_)
    · refine Run.ret ?_
      rw [if_neg]
      intro hq
      have := of_decide_eq_true hq (i - 1).toNat (by omega)
      omega
    · refine ih (i + 1) ⟨by omega, by omega, fun j hj => ?_⟩ (by omega)
      by_cases ej : (j : Int) < i - 1
      · exact hJ j ej
      · obtain rfl : j = (i - 1).toNat := by omega
        omega
  · refine Run.ret ?_
    rw [if_pos]
    exact decide_eq_true fun j hj => hJ j (by omega)

theorem spec_l01Bits_run (n : Nat) (hn : n ≤ 17) (L : List Nat) (hL : ∀ v ∈ L, v < n) (hl : L.length ≤ 1000) : Run (fun k => spec_l01Bits.f k (L.map Int.ofNat)) (· = (mask (fun j => L.contains j) n : Int)) := by
  unfold spec_l01Bits.f
  have hm2 : (2 : Nat) ^ n ≤ 2 ^ 17 := Nat.pow_le_pow_right (by omega) (by omega)
  refine Run.loop (L := fun q (z : Int × Int) => spec_l01Bits.l0 q (L.map Int.ofNat) z.1 z.2) (fun z => (L.length - z.2).toNat) (fun z => 0 ≤ z.2 ∧ z.2 ≤ L.length ∧ z.1 = (mask (fun j => (L.take z.2.toNat).contains j) n : Int)) ?_ (0, 0) ⟨by simp only; omega, by simp only; omega, by
    have : mask (fun j => (L.take 0).contains j) n = 0 := by
      apply Nat.eq_of_testBit_eq; intro j; rw [testBit_mask]; simp
    show (0 : Int) = (mask (fun j => (L.take 0).contains j) n : Int)
    rw [this]; rfl⟩
  rintro ⟨s, i⟩ ⟨h0, h3, hs⟩ ih
  simp only at h0 h3 hs
  simp only [spec_l01Bits.l0]
  rw [List.length_map]
  obtain ⟨i, rfl⟩ := Int.eq_ofNat_of_zero_le h0
  simp only [Int.toNat_natCast] at hs
  refine Run.ite (fun h => ?_) (fun h => ?_)
  · have hi : i < L.length := by omega
    refine Run.bindE (a := (L[i] : Int)) ((Run.getI' (by omega) (by rw [List.length_map]; omega)).mono fun r e => by rw [e]; simp) ?_
    have hv := hL _ (List.getElem_mem hi)
    have hlt := Nat.lt_of_lt_of_le (mask_lt (fun j => (L.take i).contains j) n) hm2
    have hpi : 2 ^ L[i] < 2 ^ 63 := Nat.pow_lt_pow_right (by omega) (by omega)
    rw [w64_id (x := (i : Int) + 1) (by omega), hs, wu64_id (by omega), shl64 (by omega), or64 (by omega) hpi, mask_or hv]
    refine ih (_, (i : Int) + 1) ⟨by simp only; omega, by simp only; omega, ?_⟩ (by simp only; omega)
    simp only
    rw [show ((i : Int) + 1).toNat = i + 1 by omega]
    congr 1
    exact mask_congr fun j _ => by
      rw [List.take_succ_eq_append_getElem hi, Bool.eq_iff_iff, Bool.or_eq_true, decide_eq_true_eq, List.contains_iff_mem, List.contains_iff_mem, List.mem_append, List.mem_singleton]
  · refine Run.ret ?_
    rw [hs, List.take_of_length_le (by omega)]
end Go.Proofs.Ytdpamdedomkomaa.P
