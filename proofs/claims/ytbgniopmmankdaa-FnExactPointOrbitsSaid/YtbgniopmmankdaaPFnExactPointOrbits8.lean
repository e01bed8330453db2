/- What the pure functions come to, one by one (part 8). -/
import Derived.Test.YtbgniopmmankdaaPFnExactPointOrbits7
import Derived.Test.YtbgniopmmankdaaGFnExactPointOrbits11
namespace Go.Proofs.Ytbgniopmmankdaa.P
open Go Go.RowKit Go.Proofs.Ytbgniopmmankdaa.K Go.Proofs.Ytbgniopmmankdaa.G
set_option linter.unusedVariables false
set_option linter.unusedSimpArgs false

theorem slices_IndexFunc_int64_int64__PointOrbits_1_run (x : Col) (hx : ByteC x) (hc : IsCol x) (j : Nat) (hj : j < x.p.toNat) : Run (fun k => slices_IndexFunc_int64_int64__PointOrbits_1.f k (orbI (orbs (autoB x) j)) x j)
    (fun r => (r = -1 ∧ ¬ ((leads (autoB x) j).any fun l => autoB x l j) = true) ∨ ∃ (k : Nat) (hk : k < (leads (autoB x) j).length), r = (k : Int) ∧ autoB x ((leads (autoB x) j)[k]) j = true ∧ ∀ a (ha : a < k), ¬ autoB x ((leads (autoB x) j)[a]'(by omega)) j = true) := by
  unfold slices_IndexFunc_int64_int64__PointOrbits_1.f
  have hp := hc.1
  have hlen : (orbI (orbs (autoB x) j)).length = (leads (autoB x) j).length := by rw [orbI_len]; unfold orbs; rw [List.length_map]
  have hll := leads_len (autoB x) j
  refine Run.loop (L := fun q (i : Int) => slices_IndexFunc_int64_int64__PointOrbits_1.l0 q (orbI (orbs (autoB x) j)) x j i) (fun i => (x.p - i).toNat) (fun i => 0 ≤ i ∧ i ≤ (leads (autoB x) j).length ∧ ∀ (a : Nat) (h : a < (leads (autoB x) j).length), (a : Int) < i → ¬ autoB x ((leads (autoB x) j)[a]) j = true) ?_ 0 ⟨by omega, by omega, fun a _ h => by omega⟩
  rintro i ⟨h0, h3, hJ⟩ ih
  obtain ⟨i, rfl⟩ := Int.eq_ofNat_of_zero_le h0
  simp only [slices_IndexFunc_int64_int64__PointOrbits_1.l0]
  rw [hlen]
  refine Run.ite (fun h => ?_) (fun h => ?_)
  · have hil : i < (leads (autoB x) j).length := by omega
    refine Run.bindE (Run.getR' (by omega) (by rw [hlen]; exact h)) ?_
    simp only [Int.toNat_natCast]
    have hmem := List.getElem_mem hil
    have hlt := leads_lt _ _ _ hmem
    obtain ⟨r, hr⟩ := orb_head (ldr_lead hmem) hlt
    have e : (orbI (orbs (autoB x) j))[i]'(by rw [hlen]; exact hil) = ((leads (autoB x) j)[i] :: r).map Int.ofNat := by
      rw [← hr]; simp [orbI, orbs]
    rw [e]
    refine Run.bindE (impl_PointOrbits_1_run x hx hc _ j r (by omega) hj) ?_
    refine Run.ite (fun hb => Run.ret (.inr ⟨i, hil, rfl, hb, fun a ha => hJ a (by omega) (by omega)⟩)) (fun hb => ?_)
    rw [w64_id (x := (i : Int) + 1) (by omega)]
    refine ih ((i : Int) + 1) ⟨by omega, by omega, fun a ha1 ha2 => ?_⟩ (by omega)
    by_cases e2 : a = i
    · subst e2; exact hb
    · exact hJ a ha1 (by omega)
  · refine Run.ret (.inl ⟨rfl, fun hany => ?_⟩)
    obtain ⟨l, hl, hR⟩ := List.any_eq_true.mp hany
    obtain ⟨a, ha, rfl⟩ := List.mem_iff_getElem.mp hl
    exact hJ a ha (by omega) hR

theorem impl_PointOrbits_run (x : Col) (hx : ByteC x) : Run (fun k => impl_PointOrbits.f k x) (· = poR x) := by
  unfold impl_PointOrbits.f poR
  refine Run.bindE (impl_Colouring_code__always_run x hx) ?_
  by_cases h : isB x = true
  rotate_left
  · have : given (isB x) true = 1 := by rw [given, if_neg h]
    rw [this, if_neg h]
    exact Run.yes (by decide) (Run.ret rfl)
  have : given (isB x) true = 0 := by rw [given, if_pos h]; rfl
  rw [this, if_pos h]
  refine Run.no (by decide) ?_
  have hc := isB_spec h
  have hp := hc.1
  refine Run.loop (L := fun q (z : List (List Int) × Int) => impl_PointOrbits.l0 q x z.1 z.2) (fun z => (x.p - z.2).toNat) (fun z => 0 ≤ z.2 ∧ z.2 ≤ x.p ∧ z.1 = orbI (orbs (autoB x) z.2.toNat)) ?_ ([], 0) ⟨by simp only; omega, by simp only; omega, rfl⟩
  rintro ⟨o, j⟩ ⟨j0, j1, ho⟩ ih
  simp only at j0 j1 ho
  obtain ⟨j, rfl⟩ := Int.eq_ofNat_of_zero_le j0
  simp only [Int.toNat_natCast] at ih ho ⊢
  subst ho
  simp only [impl_PointOrbits.l0]
  refine Run.ite (fun hj => ?_) (fun hj => Run.ret (by rw [show j = x.p.toNat by omega]))
  have hjn : j < x.p.toNat := by omega
  have hol := orbs_len (autoB x) j
  rw [w64_id (x := (j : Int) + 1) (by omega)]
  refine Run.bind (slices_IndexFunc_int64_int64__PointOrbits_1_run x hx hc j hjn) fun r hr => ?_
  have ev : ((j : Int) + 1).toNat = j + 1 := by omega
  rcases hr with ⟨rfl, hno⟩ | ⟨k, hk, rfl, hy, hn⟩
  · refine Run.yes (by omega) ?_
    refine Run.bindE (Run.concatR' (by rw [orbI_len]; simp; omega)) ?_
    refine ih (_, (j : Int) + 1) ⟨by simp only; omega, by simp only; omega, ?_⟩ (by simp only; omega)
    simp only
    rw [ev, orbs_new hno]
    unfold orbI
    rw [List.map_append]; rfl
  · refine Run.no (by omega) ?_
    have hlen : (orbI (orbs (autoB x) j)).length = (leads (autoB x) j).length := by rw [orbI_len]; unfold orbs; rw [List.length_map]
    have e : (orbI (orbs (autoB x) j))[k]'(by rw [hlen]; exact hk) = (orb (autoB x) j ((leads (autoB x) j)[k])).map Int.ofNat := by simp [orbI, orbs]
    have hrow := orb_len (autoB x) j ((leads (autoB x) j)[k])
    refine Run.bindE (Run.getR' (by omega) (by rw [hlen]; omega)) ?_
    simp only [Int.toNat_natCast]
    rw [e]
    refine Run.bindE (Run.push' (by rw [List.length_map]; omega)) ?_
    refine Run.bind (Q := fun _ => True) ((Run.getR' (by omega) (by rw [hlen]; omega)).mono fun _ _ => trivial) fun _ _ => ?_
    refine ih (_, (j : Int) + 1) ⟨by simp only; omega, by simp only; omega, ?_⟩ (by simp only; omega)
    simp only
    rw [ev, orbs_old hk hy hn]
    unfold orbI
    rw [List.map_set, List.map_append]; rfl

theorem laws_eqInt64S_run (a b : List Int) (ha : a.length < 4611686018427387904) : Run (fun k => laws_eqInt64S.f k a b) (· = decide (a = b)) := by
  unfold laws_eqInt64S.f
  refine Run.ite (fun h => ?_) (fun h => ?_)
  · exact Run.ret (decide_eq_false fun e => h (by rw [e])).symm
  have hl : a.length = b.length := by omega
  refine Run.loop (L := fun q (i : Int) => laws_eqInt64S.l0 q a b i) (fun i => (a.length - i).toNat) (fun i => 0 ≤ i ∧ i ≤ a.length ∧ ∀ (j : Nat) (h : j < a.length), (j : Int) < i → a[j] = b[j]'(by omega)) ?_ 0 ⟨by omega, by omega, fun j _ hj => by omega⟩
  rintro i ⟨h0, h3, hJ⟩ ih
  simp only [laws_eqInt64S.l0]
  refine Run.ite (fun h => ?_) (fun h => ?_)
  · refine Run.bindE (Run.getI' h0 h) ?_
    refine Run.bindE (Run.getI' h0 (by omega)) ?_
    refine Run.ite (fun h5 => ?_) (fun h5 => ?_)
    · exact Run.ret (decide_eq_false fun e => h5 (by simp only [e])).symm
    · rw [w64_id (by omega)]
      refine ih (i + 1) ⟨by omega, by omega, fun j hj hji => ?_⟩ (by omega)
      by_cases ej : (j : Int) < i
      · exact hJ j hj ej
      · obtain rfl : j = i.toNat := by omega
        exact Decidable.not_not.mp h5
  · exact Run.ret (decide_eq_true (List.ext_getElem hl fun j h1 h2 => hJ j h1 (by omega))).symm

theorem laws_eqInt64SS_run (a : List (List Int)) (ha : Short a) : Run (fun k => laws_eqInt64SS.f k a a) (· = true) := by
  unfold laws_eqInt64SS.f
  refine Run.no (fun h => h rfl) ?_
  have h1 := ha.1
  refine Run.loop (L := fun q (i : Int) => laws_eqInt64SS.l0 q a a i) (fun i => (a.length - i).toNat) (fun i => 0 ≤ i ∧ i ≤ a.length) ?_ 0 ⟨by omega, by omega⟩
  rintro i ⟨h0, h3⟩ ih
  simp only [laws_eqInt64SS.l0]
  refine Run.ite (fun h => ?_) (fun h => Run.ret rfl)
  refine Run.bindE (Run.getR' h0 h) ?_
  refine Run.bindE (Run.getR' h0 h) ?_
  have hl := ha.2 _ (List.getElem_mem (l := a) (n := i.toNat) (by omega))
  refine Run.bindE (laws_eqInt64S_run _ _ (by omega)) ?_
  rw [w64_id (x := i + 1) (by omega)]
  exact Run.yes (decide_eq_true rfl) (ih (i + 1) ⟨by omega, by omega⟩ (by omega))

theorem laws_markInt64S_run (a : List Int) (k0 : Int) (hk : 0 ≤ k0 ∧ k0 < 1000000000) (ha : a.length < 4611686018427387904) : Run (fun k => laws_markInt64S.f k a k0) (· = (k0 + a.length, seqI k0 a.length)) := by
  unfold laws_markInt64S.f
  refine Run.loop (L := fun q (s : List Int × Int × Int) => laws_markInt64S.l0 q s.1 s.2.1 s.2.2) (fun s => (a.length - s.2.2).toNat) (fun s => 0 ≤ s.2.2 ∧ s.2.2 ≤ a.length ∧ s.2.1 = k0 + s.2.2 ∧ s.1 = seqI k0 s.2.2.toNat ++ a.drop s.2.2.toNat) ?_ (a, k0, 0) ⟨by simp only; omega, by simp only; omega, by simp, by simp [seqI]⟩
  rintro ⟨l, v, i⟩ ⟨h0, h3, hv, hl⟩ ih
  simp only at h0 h3 hv hl
  simp only [laws_markInt64S.l0]
  have hlen : l.length = a.length := by rw [hl]; simp [seqI]; omega
  refine Run.ite (fun h => ?_) (fun h => ?_)
  · refine Run.bindE (Run.getI' h0 h) ?_
    rw [w64_id (x := v + 1) (by omega), w64_id (x := i + 1) (by omega)]
    refine ih (_, v + 1, i + 1) ⟨by simp only; omega, by simp only; omega, by simp only; omega, ?_⟩ (by simp only; omega)
    simp only
    have hd : a.drop i.toNat = a[i.toNat]'(by omega) :: a.drop (i.toNat + 1) := List.drop_eq_getElem_cons (by omega)
    rw [hl, hd, set_append (by simp [seqI]), show (i + 1).toNat = i.toNat + 1 by omega]
    simp only [seqI, List.range_succ, List.map_append, List.append_assoc, List.map_cons, List.map_nil, List.singleton_append]
    rw [hv, show ((i.toNat : Nat) : Int) = i by omega]
  · have : i = a.length := by omega
    subst this
    refine Run.ret ?_
    rw [hl, hv]; simp

theorem laws_markInt64SS_run (a : List (List Int)) (ha : Short a) : Run (fun k => laws_markInt64SS.f k a 1) (· = (1 + (totR a : Int), markR 1 a)) := by
  unfold laws_markInt64SS.f
  have h1 := ha.1
  refine Run.loop (L := fun q (z : List (List Int) × Int × Int) => laws_markInt64SS.l0 q z.1 z.2.1 z.2.2) (fun z => (a.length - z.2.2).toNat) (fun z => ∃ i : Nat, i ≤ a.length ∧ z = (markR 1 (a.take i) ++ a.drop i, 1 + (totR (a.take i) : Int), (i : Int))) ?_ (a, 1, 0) ⟨0, Nat.zero_le _, by simp [markR, totR]⟩
  rintro _ ⟨i, hi, rfl⟩ ih
  simp only [laws_markInt64SS.l0]
  have ht := ha.take i
  have hlen : (markR 1 (a.take i) ++ a.drop i).length = a.length := by rw [List.length_append, markR_length, List.length_take, List.length_drop]; omega
  have hml : (markR 1 (a.take i)).length = i := by rw [markR_length, List.length_take]; omega
  rw [hlen]
  refine Run.ite (fun h => ?_) (fun h => Run.ret ?_)
  · have hil : i < a.length := by omega
    have hd : a.drop i = a[i] :: a.drop (i + 1) := List.drop_eq_getElem_cons hil
    have hg : (markR 1 (a.take i) ++ a.drop i)[((i : Int)).toNat]'(by rw [hlen]; omega) = a[i] := by
      rw [List.getElem_append_right (by rw [hml]; omega)]
      simp only [Int.toNat_natCast, hml, Nat.sub_self, List.getElem_drop, Nat.add_zero]
    refine Run.bindE (a := a[i]) ((Run.getR' (by omega) (by rw [hlen]; omega)).mono fun r e => by rw [e]; exact hg) ?_
    have hl := ha.2 _ (List.getElem_mem hil)
    refine Run.bindE (laws_markInt64S_run _ _ (by omega) (by omega)) ?_
    rw [w64_id (x := (i : Int) + 1) (by omega)]
    refine ih (_, _, (i : Int) + 1) ⟨i + 1, by omega, ?_⟩ (by simp only; omega)
    have hts := List.take_succ_eq_append_getElem hil
    rw [hts, markR_append, totR_append, totR_cons]
    simp only [Int.toNat_natCast]
    refine Prod.ext ?_ (Prod.ext ?_ ?_)
    · simp only
      rw [hd, List.set_append_right _ _ (by omega), hml, Nat.sub_self, List.set_cons_zero, List.append_assoc]
      rfl
    · simp only [totR, List.map_nil, List.sum_nil]; omega
    · simp only; omega
  · obtain rfl : i = a.length := by omega
    rw [List.take_of_length_le (Nat.le_refl _), List.drop_of_length_le (Nat.le_refl _), List.append_nil]

theorem laws_heldInt64S_run (n : Nat) (k0 : Int) (hk : 0 ≤ k0 ∧ k0 < 1000000000) (hn : n < 4611686018427387904) : Run (fun k => laws_heldInt64S.f k (seqI k0 n) k0) (· = k0 + n) := by
  unfold laws_heldInt64S.f
  have hlen : (seqI k0 n).length = n := by simp [seqI]
  refine Run.loop (L := fun q (s : Int × Int) => laws_heldInt64S.l0 q (seqI k0 n) s.1 s.2) (fun s => (n - s.2).toNat) (fun s => 0 ≤ s.2 ∧ s.2 ≤ n ∧ s.1 = k0 + s.2) ?_ (k0, 0) ⟨by simp only; omega, by simp only; omega, by simp⟩
  rintro ⟨v, i⟩ ⟨h0, h3, hv⟩ ih
  simp only at h0 h3 hv
  simp only [laws_heldInt64S.l0]
  rw [hlen]
  refine Run.ite (fun h => ?_) (fun h => ?_)
  · refine Run.bindE (Run.getI' h0 (by omega)) ?_
    refine Run.no ?_ ?_
    · simp only [seqI, List.getElem_map, List.getElem_range]; omega
    rw [w64_id (x := v + 1) (by omega), w64_id (x := i + 1) (by omega)]
    exact ih (v + 1, i + 1) ⟨by simp only; omega, by simp only; omega, by simp only; omega⟩ (by simp only; omega)
  · exact Run.ret (by omega)
end Go.Proofs.Ytbgniopmmankdaa.P
