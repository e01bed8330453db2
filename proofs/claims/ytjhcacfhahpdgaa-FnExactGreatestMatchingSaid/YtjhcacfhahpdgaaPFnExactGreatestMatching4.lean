/- What the pure functions come to, one by one (part 4). -/
import Derived.Test.YtjhcacfhahpdgaaPFnExactGreatestMatching3
import Derived.Test.YtjhcacfhahpdgaaGFnExactGreatestMatching8
namespace Go.Proofs.Ytjhcacfhahpdgaa.P
open Go Go.RowKit Go.Proofs.Ytjhcacfhahpdgaa.K Go.Proofs.Ytjhcacfhahpdgaa.G
set_option linter.unusedVariables false
set_option linter.unusedSimpArgs false

theorem spec_l04Matching_run (x : Col) (hx : ByteC x) (hp : 0 ≤ x.p ∧ x.p ≤ 17) (c : Int) : Run (fun k => spec_l04Matching.f k x c) (· = matM x c) := by
  unfold spec_l04Matching.f
  have hm2 : (2 : Nat) ^ x.p.toNat ≤ 2 ^ 17 := Nat.pow_le_pow_right (by omega) (by omega)
  have hpos : 0 < 2 ^ x.p.toNat := Nat.pow_pos (by omega)
  refine Run.bindE (spec_l02Rows_run x hx hp c) ?_
  have hsh : shlI .i64 1 (wu64 x.p) = ((2 ^ x.p.toNat : Nat) : Int) := by
    rw [wu64_id (by omega)]
    exact (congrArg (shlI .i64 1) (show x.p = ((x.p.toNat : Nat) : Int) by omega)).trans (shl64 (by omega))
  rw [hsh]
  generalize hA : 2 ^ x.p.toNat = A at hm2 hpos hsh
  refine Run.bind (Q := fun _ => True) (Run.guard (by omega) trivial) fun _ _ => ?_
  rw [Int.toNat_natCast]
  refine Run.loop (L := fun q (z : List Int × Int) => spec_l04Matching.l0 q x (rowsM x c x.p.toNat) z.1 z.2) (fun z => (A - z.2).toNat) (fun z => 0 ≤ z.2 ∧ z.2 ≤ A ∧ z.1 = List.replicate z.2.toNat (-1) ++ List.replicate (A - z.2.toNat) 0) ?_ (List.replicate A 0, 0) ⟨by simp only; omega, by simp only; omega, rfl⟩
  rintro ⟨L, t⟩ ⟨i0, i1, hL⟩ ih0
  simp only at i0 i1 hL
  obtain ⟨t, rfl⟩ := Int.eq_ofNat_of_zero_le i0
  simp only [Int.toNat_natCast] at ih0 hL ⊢
  simp only [spec_l04Matching.l0]
  have hLl : L.length = A := by rw [hL]; simp; omega
  refine Run.ite (fun h => ?_) (fun h => ?_)
  · rw [w64_id (x := (t : Int) + 1) (by omega)]
    refine Run.bindE (Run.getI' (by omega) h) ?_
    refine ih0 (L.set ((t : Int)).toNat (-1), (t : Int) + 1) ⟨by simp only; omega, by simp only; omega, ?_⟩ (by simp only; omega)
    simp only
    rw [hL, show ((t : Int) + 1).toNat = t + 1 by omega, show ((t : Int)).toNat = t by omega]
    rw [show A - t = (A - (t + 1)) + 1 by omega, List.replicate_succ, List.set_append_right _ _ (by rw [List.length_replicate]; exact Nat.le_refl _), List.length_replicate, Nat.sub_self, List.set_cons_zero, List.replicate_succ', List.append_assoc]
    rfl
  have hL2 : L = List.replicate (2 ^ x.p.toNat) (-1) := by rw [hL, show t = A by omega, Nat.sub_self, List.replicate_zero, List.append_nil, hA]
  have hmt := mask_true x.p.toNat
  have hall : w64 (((A : Nat) : Int) - 1) = (mask (fun _ => true) x.p.toNat : Int) := by rw [w64_id (by omega)]; omega
  rw [show shlI .i64 1 (wu64 x.p) = ((A : Nat) : Int) from hsh, hall]
  refine Run.loop (L := fun q (z : List Int × List (List Int) × Int × Int) => spec_l04Matching.l1 q x (rowsM x c x.p.toNat) z.1 z.2.1 z.2.2.1 z.2.2.2) (fun z => (x.p - z.2.2.2).toNat)
    (fun z => 0 ≤ z.2.2.2 ∧ z.2.2.2 ≤ x.p ∧ MTab (fun i j => joinsB x i c j) x.p.toNat z.1 ∧ z.2.1.length ≤ z.2.2.2.toNat ∧ ∃ S : Nat, z.2.2.1 = S ∧ S < 2 ^ x.p.toNat ∧ z.2.1 ++ matF (fun i j => joinsB x i c j) x.p.toNat (x.p.toNat - z.2.2.2.toNat) z.2.2.2.toNat S = matM x c) ?_ (L, [], _, 0)
    ⟨by simp only; omega, by simp only; omega, by rw [hL2]; exact mtab_new _ _, Nat.zero_le _, _, rfl, by omega, by rfl⟩
  rintro ⟨K, out, b, i⟩ ⟨i0, i1, hK, ho, S, hb, hS, hT⟩ ih
  simp only at i0 i1 hK ho hb hS hT
  subst hb
  obtain ⟨i, rfl⟩ := Int.eq_ofNat_of_zero_le i0
  simp only [Int.toNat_natCast] at ih ho hT ⊢
  simp only [spec_l04Matching.l1]
  refine Run.ite (fun hi => ?_) (fun hi => ?_)
  rotate_left
  · refine Run.ret ?_
    rw [show x.p.toNat - i = 0 by omega, matF, List.append_nil] at hT
    exact hT
  rw [show x.p.toNat - i = (x.p.toNat - (i + 1)) + 1 by omega, matF] at hT
  have hpi : (2 : Nat) ^ i ≤ 2 ^ 17 := Nat.pow_le_pow_right (by omega) (by omega)
  rw [w64_id (x := (i : Int) + 1) (by omega), wu64_id (x := (i : Int)) (by omega), shl64 (by omega), and64 (by omega) (by omega)]
  have next : ∀ K' out' (S' : Nat), MTab (fun i j => joinsB x i c j) x.p.toNat K' → out'.length ≤ i + 1 → S' < 2 ^ x.p.toNat → out' ++ matF (fun i j => joinsB x i c j) x.p.toNat (x.p.toNat - (i + 1)) (i + 1) S' = matM x c → Run (fun q => spec_l04Matching.l1 q x (rowsM x c x.p.toNat) K' out' (S' : Int) ((i : Int) + 1)) (· = matM x c) := fun K' out' S' h1 h2 h3 h4 => by
    refine ih (K', out', (S' : Int), (i : Int) + 1) ⟨by simp only; omega, by simp only; omega, h1, by simp only; omega, S', rfl, h3, ?_⟩ (by simp only; omega)
    simp only
    rw [show ((i : Int) + 1).toNat = i + 1 by omega]
    exact h4
  refine Run.ite (fun h => ?_) (fun h => ?_)
  · cases hbit : S.testBit i with
    | true => rw [bit_one hbit] at h; have : 0 < 2 ^ i := Nat.pow_pos (by omega); omega
    | false =>
      rw [if_neg (by rw [hbit]; simp)] at hT
      exact next K out S hK (by omega) hS hT
  have hbit : S.testBit i = true := by
    cases hbit : S.testBit i with
    | true => rfl
    | false => rw [bit_none hbit] at h; exact absurd rfl h
  rw [if_pos hbit] at hT
  have hR := rm_lt hS hbit
  refine Run.loop (L := fun q (z : List Int × Int) => spec_l04Matching.l2 q x (rowsM x c x.p.toNat) out (S : Int) (i : Int) z.1 z.2) (fun z => (x.p - z.2).toNat)
    (fun z => (i : Int) + 1 ≤ z.2 ∧ z.2 ≤ x.p ∧ MTab (fun i j => joinsB x i c j) x.p.toNat z.1 ∧ upF (mPick (fun i j => joinsB x i c j) x.p.toNat S i) z.2.toNat x.p.toNat = upF (mPick (fun i j => joinsB x i c j) x.p.toNat S i) (i + 1) x.p.toNat) ?_ (K, (i : Int) + 1) ⟨by simp only; omega, by simp only; omega, hK, by simp only; rw [show ((i : Int) + 1).toNat = i + 1 by omega]⟩
  rintro ⟨K', p⟩ ⟨p0, p1, hK', hu⟩ ih2
  simp only at p0 p1 hK' hu
  obtain ⟨p, rfl⟩ := Int.eq_ofNat_of_zero_le (show 0 ≤ p by omega)
  simp only [Int.toNat_natCast] at ih2 hu ⊢
  simp only [spec_l04Matching.l2]
  rw [wu64_id (x := (i : Int)) (by omega), shl64 (n := i) (by omega), rm_xor (n := x.p.toNat) (by omega) hS (by omega), w64_id (x := (i : Int) + 1) (by omega)]
  refine Run.ite (fun hpn => ?_) (fun hpn => ?_)
  · have hpn' : p < x.p.toNat := by omega
    have no : ∀ K'', MTab (fun i j => joinsB x i c j) x.p.toNat K'' → ¬ mPick (fun i j => joinsB x i c j) x.p.toNat S i p = true → Run (fun q => spec_l04Matching.l2 q x (rowsM x c x.p.toNat) out (S : Int) (i : Int) K'' ((p : Int) + 1)) (· = matM x c) := fun K'' h1 hq => by
      refine ih2 (K'', (p : Int) + 1) ⟨by simp only; omega, by simp only; omega, h1, ?_⟩ (by simp only; omega)
      simp only
      rw [show ((p : Int) + 1).toNat = p + 1 by omega, ← hu, upF_no hpn' hq]
    rw [w64_id (x := (p : Int) + 1) (by omega), wu64_id (x := (p : Int)) (by omega)]
    refine Run.ite (fun h1 => ?_) (fun h1 => no K' hK' fun hq => ?_)
    rotate_left
    · unfold mPick at hq
      rw [Bool.and_eq_true, Bool.and_eq_true] at hq
      exact h1 ((bit64 (by omega) (by omega)).mpr hq.1.1)
    have hb1 := (bit64 (by omega) (by omega)).mp h1
    refine Run.bindE (Run.getI' (by omega) (by rw [rowsM_length]; omega)) ?_
    rw [rowsM_at]
    have hml := Nat.lt_of_lt_of_le (mask_lt (joinsB x i c) x.p.toNat) (show 2 ^ x.p.toNat ≤ 2 ^ 17 by omega)
    refine Run.ite (fun h2 => ?_) (fun h2 => no K' hK' fun hq => ?_)
    rotate_left
    · unfold mPick at hq
      rw [Bool.and_eq_true, Bool.and_eq_true] at hq
      exact h2 ((bit64 (by omega) (by omega)).mpr (by rw [testBit_mask, decide_eq_true hpn', Bool.true_and]; exact hq.1.2))
    have hb2 := (bit64 (by omega) (by omega)).mp h2
    rw [testBit_mask, decide_eq_true hpn', Bool.true_and] at hb2
    rw [shl64 (n := p) (by omega), rm_xor (n := x.p.toNat) (by omega) (by omega) (by omega)]
    have hR2 := rm_lt (n := x.p.toNat) (by omega) hb1
    refine Run.bind (spec_l04Match_run x c hp (S + 1) (S ^^^ 2 ^ i ^^^ 2 ^ p) K' (by omega) (by omega) hK') fun r hr => ?_
    obtain ⟨hr1, hr2⟩ := hr
    refine Run.bind (spec_l04Match_run x c hp (S + 1) S r.2 hS (by omega) hr2) fun r' hr' => ?_
    obtain ⟨hs1, hs2⟩ := hr'
    have hle := mM_le (fun i j => joinsB x i c j) x.p.toNat (S ^^^ 2 ^ i ^^^ 2 ^ p)
    rw [hr1, hs1, w64_id (by omega)]
    have hiff : mPick (fun i j => joinsB x i c j) x.p.toNat S i p = decide (mM (fun i j => joinsB x i c j) x.p.toNat (S ^^^ 2 ^ i ^^^ 2 ^ p) + 1 = mM (fun i j => joinsB x i c j) x.p.toNat S) := by unfold mPick; simp only [hb1, hb2]; rfl
    refine Run.ite (fun h3 => ?_) (fun h3 => no _ hs2 fun hq => h3 (by rw [hiff, decide_eq_true_eq] at hq; omega))
    refine Run.bindE (Run.concatR' (by simp only [List.length_singleton]; omega)) ?_
    have hu1 := hu
    rw [upF_yes hpn' (by rw [hiff]; exact decide_eq_true (by omega))] at hu1
    rw [← hu1] at hT
    simp only at hT
    exact next _ _ _ hs2 (by rw [List.length_append, List.length_singleton]; omega) (by omega) (by rw [List.append_assoc]; exact hT)
  · rw [upF_end _ (p := p) (by omega)] at hu
    rw [← hu] at hT
    exact next K' out _ hK' (by omega) (by omega) hT

theorem spec_GreatestMatching_run (x : Col) (hx : ByteC x) (c : Int) : Run (fun k => spec_GreatestMatching.f k x c) (· = gmM x c) := by
  unfold spec_GreatestMatching.f gmM
  refine Run.bindE (spec_l01Given_run x hx c [] (by simp)) ?_
  have eo : (decide (0 ≤ c ∧ c ≤ x.k - 1) && allIn [] 0 (x.p - 1)) = decide (0 ≤ c ∧ c ≤ x.k - 1) := by simp [allIn]
  rw [eo]
  refine Run.ite (fun h => ?_) (fun h => ?_)
  · exact Run.ret (by rw [if_neg h])
  have hz := Decidable.not_not.mp h
  have h17 := (isB_spec (given_zero hz).1).1
  rw [if_pos hz]
  refine Run.bindE (spec_l04Matching_run x hx (by omega) c) ?_
  exact Run.ret rfl

theorem impl_in_run (n low high : Int) : Run (fun _ => impl_in.f n low high) (· = decide (low ≤ n ∧ n ≤ high)) := by
  unfold impl_in.f
  refine Run.ite (fun h => ?_) (fun h => ?_)
  · refine Run.ret (decide_eq_decide.mpr ?_); omega
  · refine Run.ret ((decide_eq_false ?_).symm); omega

theorem impl_Colouring_edges_run (x : Col) (hp : 0 ≤ x.p ∧ x.p ≤ 1000) : Run (fun _ => impl_Colouring_edges.f x) (· = (tri x.p.toNat : Int)) := by
  unfold impl_Colouring_edges.f
  have := tri_int (n := x.p.toNat) (by omega)
  rw [show ((x.p.toNat : Nat) : Int) = x.p by omega] at this
  exact Run.ret this

theorem impl_Colouring_isColouring_run (x : Col) (hx : ByteC x) : Run (fun k => impl_Colouring_isColouring.f k x) (· = isB x) := by
  unfold impl_Colouring_isColouring.f
  refine Run.bindE (impl_in_run _ _ _) ?_
  refine Run.itn (fun h1 => ?_) (fun h1 => ?_)
  · exact Run.ret (decide_eq_false fun h => h1 (decide_eq_true h.1)).symm
  refine Run.bindE (impl_in_run _ _ _) ?_
  refine Run.itn (fun h2 => ?_) (fun h2 => ?_)
  · exact Run.ret (decide_eq_false fun h => h2 (decide_eq_true h.2.1)).symm
  have hp := of_decide_eq_true h1
  have hk := of_decide_eq_true h2
  refine Run.loop (L := fun q (i : Int) => impl_Colouring_isColouring.l0 q x i) (fun i => (136 - i).toNat) (fun i => 0 ≤ i ∧ i ≤ 136 ∧ ∀ j : Nat, (j : Int) < i → (if j < tri x.p.toNat then x.e j < x.k else x.e j = 0)) ?_ 0 ⟨by omega, by omega, fun j hj => by omega⟩
  rintro i ⟨h0, h3, hJ⟩ ih
  simp only [impl_Colouring_isColouring.l0]
  refine Run.ite (fun h => ?_) (fun h => ?_)
  · refine Run.bindE (Run.getB' h0 h) ?_
    have hb := hx i.toNat
    rw [w64_id (x := x.e i.toNat) (by omega)]
    refine Run.ite (fun h5 => ?_) (fun h5 => ?_)
    · refine Run.ret (decide_eq_false fun hc => ?_).symm
      have := hc.2.2 i.toNat (by omega)
      by_cases h6 : i.toNat < tri x.p.toNat
      · rw [if_pos h6] at this; omega
      · rw [if_neg h6] at this; omega
    · refine Run.bindE (impl_Colouring_edges_run x (by omega)) ?_
      rw [w64_id (x := i + 1) (by omega)]
      refine Run.ite (fun h4 => ?_) (fun h4 => ?_)
      · refine Run.ite (fun h7 => ?_) (fun h7 => ?_)
        · refine Run.ret (decide_eq_false fun hc => ?_).symm
          have := hc.2.2 i.toNat (by omega)
          rw [if_neg (by omega)] at this; omega
        · refine ih (i + 1) ⟨by omega, by omega, fun j hj => ?_⟩ (by omega)
          by_cases ej : (j : Int) < i
          · exact hJ j ej
          · obtain rfl : j = i.toNat := by omega
            rw [if_neg (by omega)]; omega
      · refine ih (i + 1) ⟨by omega, by omega, fun j hj => ?_⟩ (by omega)
        by_cases ej : (j : Int) < i
        · exact hJ j ej
        · obtain rfl : j = i.toNat := by omega
          rw [if_pos (by omega)]; omega
  · refine Run.ret (decide_eq_true ⟨hp, hk, fun j hj => hJ j (by omega)⟩).symm
end Go.Proofs.Ytjhcacfhahpdgaa.P
