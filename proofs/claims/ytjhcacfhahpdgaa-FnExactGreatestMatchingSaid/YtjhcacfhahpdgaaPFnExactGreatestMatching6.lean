/- What the pure functions come to, one by one (part 6). -/
import Derived.Test.YtjhcacfhahpdgaaPFnExactGreatestMatching5
import Derived.Test.YtjhcacfhahpdgaaGFnExactGreatestMatching8
namespace Go.Proofs.Ytjhcacfhahpdgaa.P
open Go Go.RowKit Go.Proofs.Ytjhcacfhahpdgaa.K Go.Proofs.Ytjhcacfhahpdgaa.G
set_option linter.unusedVariables false
set_option linter.unusedSimpArgs false

theorem impl_Colouring_matching_run (x : Col) (hx : ByteC x) (hp : 0 ≤ x.p ∧ x.p ≤ 17) (c : Int) : Run (fun k => impl_Colouring_matching.f k x c) (· = matM x c) := by
  unfold impl_Colouring_matching.f
  have hm2 : (2 : Nat) ^ x.p.toNat ≤ 2 ^ 17 := Nat.pow_le_pow_right (by omega) (by omega)
  have hpos : 0 < 2 ^ x.p.toNat := Nat.pow_pos (by omega)
  refine Run.bind (Q := fun _ => True) (Run.guard (by omega) trivial) fun _ _ => ?_
  have hall := all_mask (x := x) hp
  rw [wu64_id (by omega)] at hall
  have hmt := mask_true x.p.toNat
  rw [hall]
  refine Run.loop (L := fun q (z : List (List Int) × List (Int × Int) × Int × Int) => impl_Colouring_matching.l0 q x c z.1 z.2.1 z.2.2.1 z.2.2.2) (fun z => (x.p - z.2.2.2).toNat)
    (fun z => 0 ≤ z.2.2.2 ∧ z.2.2.2 ≤ x.p ∧ MMem (fun i j => joinsB x i c j) x.p.toNat z.2.1 ∧ z.1.length ≤ z.2.2.2.toNat ∧ ∃ S : Nat, z.2.2.1 = S ∧ S < 2 ^ x.p.toNat ∧ z.1 ++ matF (fun i j => joinsB x i c j) x.p.toNat (x.p.toNat - z.2.2.2.toNat) z.2.2.2.toNat S = matM x c) ?_ ([], [], _, 0)
    ⟨by simp only; omega, by simp only; omega, mmem_nil _ _, Nat.zero_le _, _, rfl, by omega, by rfl⟩
  rintro ⟨out, M, b, i⟩ ⟨i0, i1, hM, ho, S, hb, hS, hT⟩ ih
  simp only at i0 i1 hM ho hb hS hT
  subst hb
  obtain ⟨i, rfl⟩ := Int.eq_ofNat_of_zero_le i0
  simp only [Int.toNat_natCast] at ih ho hT ⊢
  simp only [impl_Colouring_matching.l0]
  refine Run.ite (fun hi => ?_) (fun hi => ?_)
  rotate_left
  · refine Run.ret ?_
    rw [show x.p.toNat - i = 0 by omega, matF, List.append_nil] at hT
    exact hT
  rw [show x.p.toNat - i = (x.p.toNat - (i + 1)) + 1 by omega, matF] at hT
  refine Run.bind (Q := fun _ => True) (Run.guard (by omega) trivial) fun _ _ => ?_
  rw [w64_id (x := (i : Int) + 1) (by omega)]
  have next : ∀ M' out' (S' : Nat), MMem (fun i j => joinsB x i c j) x.p.toNat M' → out'.length ≤ i + 1 → S' < 2 ^ x.p.toNat → out' ++ matF (fun i j => joinsB x i c j) x.p.toNat (x.p.toNat - (i + 1)) (i + 1) S' = matM x c → Run (fun q => impl_Colouring_matching.l0 q x c out' M' (S' : Int) ((i : Int) + 1)) (· = matM x c) := fun M' out' S' h1 h2 h3 h4 => by
    refine ih (out', M', (S' : Int), (i : Int) + 1) ⟨by simp only; omega, by simp only; omega, h1, by simp only; omega, S', rfl, h3, ?_⟩ (by simp only; omega)
    simp only
    rw [show ((i : Int) + 1).toNat = i + 1 by omega]
    exact h4
  refine Run.ite (fun h => ?_) (fun h => ?_)
  · rw [bit64z (by omega) (by omega)] at h
    rw [if_neg (by rw [h]; simp)] at hT
    exact next M out S hM (by omega) hS hT
  have hbit : S.testBit i = true := by
    cases hb : S.testBit i with
    | true => rfl
    | false => exact absurd ((bit64z (by omega) (by omega)).mpr hb) h
  rw [if_pos hbit] at hT
  have hR := rm_lt hS hbit
  refine Run.bind (Q := fun _ => True) (Run.guard (by omega) trivial) fun _ _ => ?_
  refine Run.bind (impl_matcher_behind_run x hx c hp (S + 1) S M hS (by omega) hM) fun r0 hr0 => ?_
  obtain ⟨ha1, ha2⟩ := hr0
  refine Run.loop (L := fun q (z : List (Int × Int) × Int) => impl_Colouring_matching.l1 q x c out (S : Int) (i : Int) r0 z.1 z.2) (fun z => (x.p - z.2).toNat)
    (fun z => (i : Int) + 1 ≤ z.2 ∧ z.2 ≤ x.p ∧ MMem (fun i j => joinsB x i c j) x.p.toNat z.1 ∧ upF (mPick (fun i j => joinsB x i c j) x.p.toNat S i) z.2.toNat x.p.toNat = upF (mPick (fun i j => joinsB x i c j) x.p.toNat S i) (i + 1) x.p.toNat) ?_ (r0.2, (i : Int) + 1) ⟨by simp only; omega, by simp only; omega, ha2, by simp only; rw [show ((i : Int) + 1).toNat = i + 1 by omega]⟩
  rintro ⟨M', p⟩ ⟨p0, p1, hM', hu⟩ ih2
  simp only at p0 p1 hM' hu
  obtain ⟨p, rfl⟩ := Int.eq_ofNat_of_zero_le (show 0 ≤ p by omega)
  simp only [Int.toNat_natCast] at ih2 hu ⊢
  simp only [impl_Colouring_matching.l1]
  rw [shl64 (n := i) (by omega), rm_andNot (n := x.p.toNat) (by omega) hS hbit, w64_id (x := (i : Int) + 1) (by omega)]
  refine Run.ite (fun hpn => ?_) (fun hpn => ?_)
  · have hpn' : p < x.p.toNat := by omega
    have no : ∀ M'', MMem (fun i j => joinsB x i c j) x.p.toNat M'' → ¬ mPick (fun i j => joinsB x i c j) x.p.toNat S i p = true → Run (fun q => impl_Colouring_matching.l1 q x c out (S : Int) (i : Int) r0 M'' ((p : Int) + 1)) (· = matM x c) := fun M'' h1 hq => by
      refine ih2 (M'', (p : Int) + 1) ⟨by simp only; omega, by simp only; omega, h1, ?_⟩ (by simp only; omega)
      simp only
      rw [show ((p : Int) + 1).toNat = p + 1 by omega, ← hu, upF_no hpn' hq]
    refine Run.bind (Q := fun _ => True) (Run.guard (by omega) trivial) fun _ _ => ?_
    rw [w64_id (x := (p : Int) + 1) (by omega)]
    refine Run.ite (fun h1 => ?_) (fun h1 => no M' hM' fun hq => ?_)
    rotate_left
    · unfold mPick at hq
      rw [Bool.and_eq_true, Bool.and_eq_true] at hq
      exact h1 ((bit64 (by omega) (by omega)).mpr hq.1.1)
    have hb1 := (bit64 (by omega) (by omega)).mp h1
    refine Run.bindE (impl_Colouring_joins_run x hx hp i p c (by omega) (by omega)) ?_
    refine Run.ite (fun hb2 => ?_) (fun h2 => no M' hM' fun hq => ?_)
    rotate_left
    · unfold mPick at hq
      rw [Bool.and_eq_true, Bool.and_eq_true] at hq
      exact h2 hq.1.2
    refine Run.bind (Q := fun _ => True) (Run.guard (by omega) trivial) fun _ _ => ?_
    rw [shl64 (n := p) (by omega), rm_andNot (n := x.p.toNat) (by omega) (by omega) hb1]
    have hR2 := rm_lt (n := x.p.toNat) (by omega) hb1
    refine Run.bind (impl_matcher_behind_run x hx c hp (S + 1) (S ^^^ 2 ^ i ^^^ 2 ^ p) M' (by omega) (by omega) hM') fun r hr => ?_
    obtain ⟨hr1, hr2⟩ := hr
    have hle := mM_le (fun i j => joinsB x i c j) x.p.toNat (S ^^^ 2 ^ i ^^^ 2 ^ p)
    rw [hr1, ha1, w64_id (by omega)]
    have hiff : mPick (fun i j => joinsB x i c j) x.p.toNat S i p = decide (mM (fun i j => joinsB x i c j) x.p.toNat (S ^^^ 2 ^ i ^^^ 2 ^ p) + 1 = mM (fun i j => joinsB x i c j) x.p.toNat S) := by unfold mPick; simp only [hb1, hb2]; rfl
    refine Run.ite (fun h3 => ?_) (fun h3 => no _ hr2 fun hq => h3 (by rw [hiff, decide_eq_true_eq] at hq; omega))
    refine Run.bind (Q := fun _ => True) (Run.guard (by omega) trivial) fun _ _ => ?_
    refine Run.bindE (Run.concatR' (by simp only [List.length_singleton]; omega)) ?_
    have hu1 := hu
    rw [upF_yes hpn' (by rw [hiff]; exact decide_eq_true (by omega))] at hu1
    rw [← hu1] at hT
    simp only at hT
    exact next _ _ _ hr2 (by rw [List.length_append, List.length_singleton]; omega) (by omega) (by rw [List.append_assoc]; exact hT)
  · rw [upF_end _ (p := p) (by omega)] at hu
    rw [← hu] at hT
    exact next M' out _ hM' (by omega) (by omega) hT

theorem impl_GreatestMatching_run (x : Col) (hx : ByteC x) (c : Int) : Run (fun k => impl_GreatestMatching.f k x c) (· = gmM x c) := by
  unfold impl_GreatestMatching.f gmM
  refine Run.bindE (impl_Colouring_colourCode_run x hx c true) ?_
  rw [Bool.and_true]
  refine Run.ite (fun h => ?_) (fun h => ?_)
  · exact Run.ret (by rw [if_neg h])
  have hz := Decidable.not_not.mp h
  have h17 := (isB_spec (given_zero hz).1).1
  rw [if_pos hz]
  refine Run.bindE (impl_Colouring_matching_run x hx (by omega) c) ?_
  exact Run.ret rfl

theorem laws_eqInt64S_run (a b : List Int) (ha : a.length < 4611686018427387904) : Run (fun k => laws_eqInt64S.f k a b) (· = decide (a = b)) := by
  unfold laws_eqInt64S.f
  refine Run.ite (fun h => ?_) (fun h => ?_)
  · exact Run.ret (decide_eq_false fun e => h (by rw [e])).symm
  have hl : a.length = b.length := by omega
  refine Run.loop (L := fun q (i : Int) => laws_eqInt64S.l0 q a b i) (fun i => (a.length - i).toNat) (fun i => 0 ≤ i ∧ i ≤ a.length ∧ ∀ (j : Nat) (h : j < a.length), (j : Int) < i → a[j] = b[j]'(by omega)) ?_ 0 ⟨by omega, by omega, fun j _ hj => by omega⟩
  rintro i ⟨h0, h3, hJ⟩ ih
  simp only [laws_eqInt64S.l0]
  refine Run.ite (fun h => ?_) (fun h => ?_)
  · refine Run.bindE (Run.getI' h0 h) ?_
    refine Run.bindE (Run.getI' h0 (by omega)) ?_
    refine Run.ite (fun h5 => ?_) (fun h5 => ?_)
    · exact Run.ret (decide_eq_false fun e => h5 (by simp only [e])).symm
    · rw [w64_id (by omega)]
      refine ih (i + 1) ⟨by omega, by omega, fun j hj hji => ?_⟩ (by omega)
      by_cases ej : (j : Int) < i
      · exact hJ j hj ej
      · obtain rfl : j = i.toNat := by omega
        exact Decidable.not_not.mp h5
  · exact Run.ret (decide_eq_true (List.ext_getElem hl fun j h1 h2 => hJ j h1 (by omega))).symm

theorem laws_eqInt64SS_run (a : List (List Int)) (ha : Short a) : Run (fun k => laws_eqInt64SS.f k a a) (· = true) := by
  unfold laws_eqInt64SS.f
  refine Run.no (fun h => h rfl) ?_
  have h1 := ha.1
  refine Run.loop (L := fun q (i : Int) => laws_eqInt64SS.l0 q a a i) (fun i => (a.length - i).toNat) (fun i => 0 ≤ i ∧ i ≤ a.length) ?_ 0 ⟨by omega, by omega⟩
  rintro i ⟨h0, h3⟩ ih
  simp only [laws_eqInt64SS.l0]
  refine Run.ite (fun h => ?_) (fun h => Run.ret rfl)
  refine Run.bindE (Run.getR' h0 h) ?_
  refine Run.bindE (Run.getR' h0 h) ?_
  have hl := ha.2 _ (List.getElem_mem (l := a) (n := i.toNat) (by omega))
  refine Run.bindE (laws_eqInt64S_run _ _ (by omega)) ?_
  rw [w64_id (x := i + 1) (by omega)]
  exact Run.yes (decide_eq_true rfl) (ih (i + 1) ⟨by omega, by omega⟩ (by omega))

theorem laws_markInt64S_run (a : List Int) (k0 : Int) (hk : 0 ≤ k0 ∧ k0 < 1000000000) (ha : a.length < 4611686018427387904) : Run (fun k => laws_markInt64S.f k a k0) (· = (k0 + a.length, seqI k0 a.length)) := by
  unfold laws_markInt64S.f
  refine Run.loop (L := fun q (s : List Int × Int × Int) => laws_markInt64S.l0 q s.1 s.2.1 s.2.2) (fun s => (a.length - s.2.2).toNat) (fun s => 0 ≤ s.2.2 ∧ s.2.2 ≤ a.length ∧ s.2.1 = k0 + s.2.2 ∧ s.1 = seqI k0 s.2.2.toNat ++ a.drop s.2.2.toNat) ?_ (a, k0, 0) ⟨by simp only; omega, by simp only; omega, by simp, by simp [seqI]⟩
  rintro ⟨l, v, i⟩ ⟨h0, h3, hv, hl⟩ ih
  simp only at h0 h3 hv hl
  simp only [laws_markInt64S.l0]
  have hlen : l.length = a.length := by rw [hl]; simp [seqI]; omega
  refine Run.ite (fun h => ?_) (fun h => ?_)
  · refine Run.bindE (Run.getI' h0 h) ?_
    rw [w64_id (x := v + 1) (by omega), w64_id (x := i + 1) (by omega)]
    refine ih (_, v + 1, i + 1) ⟨by simp only; omega, by simp only; omega, by simp only; omega, ?_⟩ (by simp only; omega)
    simp only
    have hd : a.drop i.toNat = a[i.toNat]'(by omega) :: a.drop (i.toNat + 1) := List.drop_eq_getElem_cons (by omega)
    rw [hl, hd, set_append (by simp [seqI]), show (i + 1).toNat = i.toNat + 1 by omega]
    simp only [seqI, List.range_succ, List.map_append, List.append_assoc, List.map_cons, List.map_nil, List.singleton_append]
    rw [hv, show ((i.toNat : Nat) : Int) = i by omega]
  · have : i = a.length := by omega
    subst this
    refine Run.ret ?_
    rw [hl, hv]; simp
end Go.Proofs.Ytjhcacfhahpdgaa.P
