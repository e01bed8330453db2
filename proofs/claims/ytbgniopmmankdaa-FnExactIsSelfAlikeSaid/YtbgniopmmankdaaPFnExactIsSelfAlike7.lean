/- What the pure functions come to, one by one (part 7). -/
import Derived.Test.YtbgniopmmankdaaPFnExactIsSelfAlike6
import Derived.Test.YtbgniopmmankdaaGFnExactIsSelfAlike9
namespace Go.Proofs.Ytbgniopmmankdaa.P
open Go Go.RowKit Go.Proofs.Ytbgniopmmankdaa.K Go.Proofs.Ytbgniopmmankdaa.G
set_option linter.unusedVariables false
set_option linter.unusedSimpArgs false

theorem impl_newTracer_run (x y : Col) (hx : ByteC x) (hc : IsCol x) (hy : ByteC y) (hcy : IsCol y) (hyp : y.p = x.p) (hyk : y.k = x.k) (order : List Int) : Run (fun k => impl_newTracer.f k x y order) (fun r => r.1 = order ∧ ∀ i j, i < x.p.toNat → j < x.p.toNat → r.2 (i * 17 + j) = tp2 x y i j) := by
  unfold impl_newTracer.f
  have hp := hc.1
  refine Run.no (fun h => h hyp.symm) (Run.no (fun h => h hyk.symm) ?_)
  refine Run.loop (L := fun q (z : List Int × (Nat → Bool) × Int) => impl_newTracer.l0 q x y z.1 z.2.1 z.2.2) (fun z => (x.p - z.2.2).toNat) (fun z => 0 ≤ z.2.2 ∧ z.2.2 ≤ x.p ∧ z.1 = order ∧ ∀ i j : Nat, (i : Int) < z.2.2 → j < x.p.toNat → z.2.1 (i * 17 + j) = tp2 x y i j) ?_ (order, _, 0) ⟨by simp only; omega, by simp only; omega, rfl, fun i j h => by simp only at h; omega⟩
  rintro ⟨o, g, i⟩ ⟨i0, i1, ho, hg⟩ ih
  simp only at i0 i1 ho hg
  subst ho
  obtain ⟨i, rfl⟩ := Int.eq_ofNat_of_zero_le i0
  simp only [impl_newTracer.l0]
  refine Run.ite (fun hi => ?_) (fun hi => Run.ret ⟨rfl, fun a b ha hb => hg a b (by omega) hb⟩)
  refine Run.loop (L := fun q (z : List Int × (Nat → Bool) × Int) => impl_newTracer.l1 q x y (i : Int) z.1 z.2.1 z.2.2) (fun z => (x.p - z.2.2).toNat) (fun z => 0 ≤ z.2.2 ∧ z.2.2 ≤ x.p ∧ z.1 = o ∧ ∀ a b : Nat, (a < i ∧ b < x.p.toNat) ∨ (a = i ∧ (b : Int) < z.2.2) → z.2.1 (a * 17 + b) = tp2 x y a b) ?_ (o, g, 0) ⟨by simp only; omega, by simp only; omega, rfl, fun a b h => by
    rcases h with h | h
    · exact hg a b (by omega) h.2
    · simp only at h; omega⟩
  rintro ⟨o', g', j⟩ ⟨j0, j1, ho', hg'⟩ ih2
  simp only at j0 j1 ho' hg'
  subst ho'
  obtain ⟨j, rfl⟩ := Int.eq_ofNat_of_zero_le j0
  simp only [impl_newTracer.l1]
  refine Run.ite (fun hj => ?_) (fun hj => ?_)
  · refine Run.bind (Q := fun _ => True) (Run.guard (by omega) trivial) fun _ _ => ?_
    refine Run.bindE (impl_Colouring_degreesAt_run x hx hc i hi) ?_
    refine Run.bindE (impl_Colouring_degreesAt_run y hy hcy j (by omega)) ?_
    refine Run.bindE (slices_Equal_int64_int64_run _ _ (by unfold degL; simp; have := hc.2.1; omega)) ?_
    refine Run.bind (Q := fun _ => True) (Run.guard (by omega) trivial) fun _ _ => ?_
    rw [w64_id (x := (j : Int) + 1) (by omega)]
    refine ih2 (_, _, (j : Int) + 1) ⟨by simp only; omega, by simp only; omega, rfl, fun a b h => ?_⟩ (by simp only; omega)
    simp only [Int.toNat_natCast] at h ⊢
    show (if a * 17 + b = i * 17 + j then decide (degL x i = degL y j) else g' (a * 17 + b)) = tp2 x y a b
    by_cases e : a * 17 + b = i * 17 + j
    · have hab : a = i ∧ b = j := by omega
      rw [if_pos e, hab.1, hab.2]; rfl
    · rw [if_neg e]
      refine hg' a b ?_
      rcases h with h | ⟨h, h2⟩
      · exact .inl h
      · subst h
        exact .inr ⟨rfl, by omega⟩
  · rw [w64_id (x := (i : Int) + 1) (by omega)]
    refine ih (_, _, (i : Int) + 1) ⟨by simp only; omega, by simp only; omega, rfl, fun a b h hb => ?_⟩ (by simp only; omega)
    simp only at h ⊢
    exact hg' a b (by omega)

theorem impl_Colouring_renumbering_1_run (p s : List Int) (hp : p.length < 1000) : Run (fun _ => impl_Colouring_renumbering_1.f p s) (fun r => r.1 = false) := by
  unfold impl_Colouring_renumbering_1.f
  refine Run.bindE (slices_Clone_int64_int64_run _ (by omega)) ?_
  exact Run.ret rfl

theorem impl_tracer_all__Colouring_renumbering_1_run (x y : Col) (hx : ByteC x) (hy : ByteC y) (hp : 1 ≤ x.p ∧ x.p ≤ 17) (hyp : y.p = x.p) (g : Nat → Bool) (hg : ∀ i j, i < x.p.toNat → j < x.p.toNat → g (i * 17 + j) = tp2 x y i j) : ∀ (d : Nat) (p : List Nat) (s : List Int), p.length + d = x.p.toNat → (∀ v ∈ p, v < x.p.toNat) →
    Run (fun k => impl_tracer_all__Colouring_renumbering_1.f k x y (sel (fun _ => true) x.p.toNat) g (p.map Int.ofNat) s) (fun r => r.1 = !exG (fit2 x y) x.p.toNat d p) := by
  have hsel : sel (fun _ => true) x.p.toNat = (List.range x.p.toNat).map Int.ofNat := by unfold sel; rw [List.filter_eq_self.mpr (fun _ _ => rfl)]
  have hsl : (sel (fun _ => true) x.p.toNat).length = x.p.toNat := by rw [hsel]; simp
  have hsa : ∀ (i : Nat) (h : ((i : Nat) : Int).toNat < (sel (fun _ => true) x.p.toNat).length), (sel (fun _ => true) x.p.toNat)[((i : Nat) : Int).toNat] = (i : Int) := fun i h => by simp [hsel]
  intro d
  induction d with
  | zero =>
    intro p s hd hv
    refine Run.step ?_
    simp only [impl_tracer_all__Colouring_renumbering_1.f]
    rw [List.length_map, hsl]
    refine Run.yes (by omega) ?_
    refine Run.bind (impl_Colouring_renumbering_1_run _ s (by rw [List.length_map]; omega)) fun r hr => ?_
    exact Run.ret (by simp only; rw [hr]; rfl)
  | succ d ihd =>
    intro p s hd hv
    refine Run.step ?_
    simp only [impl_tracer_all__Colouring_renumbering_1.f]
    rw [List.length_map, hsl]
    refine Run.no (by omega) ?_
    refine Run.bindE (Run.getI' (by omega) (by rw [hsl]; omega)) ?_
    rw [hsa, exG]
    refine Run.loop (L := fun q (z : List Int × Int) => impl_tracer_all__Colouring_renumbering_1.l0 q x y (sel (fun _ => true) x.p.toNat) g (p.map Int.ofNat) (p.length : Int) z.1 z.2) (fun z => (x.p - z.2).toNat) (fun z => 0 ≤ z.2 ∧ z.2 ≤ x.p ∧ ((upF (fit2 x y p) 0 x.p.toNat).any fun j => exG (fit2 x y) x.p.toNat d (p ++ [j])) = ((upF (fit2 x y p) z.2.toNat x.p.toNat).any fun j => exG (fit2 x y) x.p.toNat d (p ++ [j]))) ?_ (s, 0) ⟨by simp only; omega, by simp only; omega, rfl⟩
    rintro ⟨s', j⟩ ⟨j0, j1, hT⟩ ih
    simp only at j0 j1 hT
    obtain ⟨j, rfl⟩ := Int.eq_ofNat_of_zero_le j0
    simp only [Int.toNat_natCast] at ih hT ⊢
    simp only [impl_tracer_all__Colouring_renumbering_1.l0]
    rw [hyp]
    refine Run.ite (fun hj => ?_) (fun hj => Run.ret (by rw [hT, upF_end _ (p := j) (by omega)]; rfl))
    have hjn : j < x.p.toNat := by omega
    refine Run.bind (Q := fun _ => True) (Run.guard (by omega) trivial) fun _ _ => ?_
    refine Run.bind (Q := fun _ => True) (Run.guard (by omega) trivial) fun _ _ => ?_
    rw [w64_id (x := (j : Int) + 1) (by omega)]
    simp only [Int.toNat_natCast]
    have hgj := hg p.length j (by omega) hjn
    have next : ∀ s'', ¬ (fit2 x y p j = true ∧ exG (fit2 x y) x.p.toNat d (p ++ [j]) = true) → Run (fun q => impl_tracer_all__Colouring_renumbering_1.l0 q x y (sel (fun _ => true) x.p.toNat) g (p.map Int.ofNat) (p.length : Int) s'' ((j : Int) + 1)) (fun r => r.1 = !((upF (fit2 x y p) 0 x.p.toNat).any fun j => exG (fit2 x y) x.p.toNat d (p ++ [j]))) := fun s'' hn => by
      refine ih (_, (j : Int) + 1) ⟨by simp only; omega, by simp only; omega, ?_⟩ (by simp only; omega)
      simp only
      rw [hT, show ((j : Int) + 1).toNat = j + 1 by omega]
      by_cases hf : fit2 x y p j = true
      · rw [upF_yes hjn hf, List.any_cons]
        have : exG (fit2 x y) x.p.toNat d (p ++ [j]) = false := Bool.eq_false_iff.mpr fun h => hn ⟨hf, h⟩
        rw [this, Bool.false_or]
      · rw [upF_no hjn hf]
    refine Run.ite (fun h1 => ?_) (fun h1 => next _ fun h => h1 ?_)
    rotate_left
    · have h := h.1
      unfold fit2 at h
      rw [Bool.and_eq_true, Bool.and_eq_true] at h
      rw [hgj]; exact h.1.2
    rw [hgj] at h1
    refine Run.loop (L := fun q (z : Int) => impl_tracer_all__Colouring_renumbering_1.l1 q x y (sel (fun _ => true) x.p.toNat) g (p.map Int.ofNat) (p.length : Int) s' (j : Int) z) (fun z => (p.length - z).toNat) (fun z => 0 ≤ z ∧ z ≤ p.length ∧ ∀ m : Nat, (m : Int) < z → p.getD m 0 ≠ j ∧ colr x m p.length = colr y (p.getD m 0) j) ?_ 0 ⟨by omega, by omega, fun m h => by omega⟩
    rintro m ⟨m0, m1, hm⟩ ih2
    obtain ⟨m, rfl⟩ := Int.eq_ofNat_of_zero_le m0
    simp only [impl_tracer_all__Colouring_renumbering_1.l1, List.length_map]
    rw [w64_id (x := (j : Int) + 1) (by omega)]
    refine Run.ite (fun hml => ?_) (fun hml => ?_)
    · have hmp : m < p.length := by omega
      have hvn := hv _ (getD_mem hmp)
      refine Run.bindE (Run.getI' (by omega) (by rw [List.length_map]; omega)) ?_
      rw [mapO_at hmp]
      refine Run.ite (fun h2 => next _ fun h => ?_) (fun h2 => ?_)
      · have h := h.1
        unfold fit2 at h
        rw [Bool.and_eq_true, Bool.and_eq_true, Bool.not_eq_true'] at h
        have e : p.getD m 0 = j := by omega
        have : p.contains j = true := List.contains_iff_mem.mpr (by rw [← e]; exact getD_mem hmp)
        rw [this] at h; cases h.1.1
      refine Run.bindE (Run.getI' (by omega) (by rw [hsl]; omega)) ?_
      rw [hsa]
      refine Run.bindE (impl_Colouring_at_run x hx (by omega) m p.length (by omega) (by omega) (by omega)) ?_
      refine Run.bindE (impl_Colouring_at_run y hy (by omega) (p.getD m 0) j (by omega) (by omega) (by omega)) ?_
      refine Run.ite (fun h3 => next _ fun h => ?_) (fun h3 => ?_)
      · have h := h.1
        unfold fit2 at h
        rw [Bool.and_eq_true, List.all_eq_true] at h
        exact h3 (of_decide_eq_true (h.2 m (List.mem_range.mpr hmp)))
      · rw [w64_id (x := (m : Int) + 1) (by omega)]
        refine ih2 ((m : Int) + 1) ⟨by omega, by omega, fun a ha => ?_⟩ (by omega)
        by_cases e : a = m
        · subst e; exact ⟨by omega, Decidable.not_not.mp h3⟩
        · exact hm a (by omega)
    · have hall : ∀ a, a < p.length → p.getD a 0 ≠ j ∧ colr x a p.length = colr y (p.getD a 0) j := fun a ha => hm a (by omega)
      have hnc : p.contains j = false := by
        cases hcn : p.contains j with
        | false => rfl
        | true =>
          obtain ⟨a, ha, e⟩ := List.mem_iff_getElem.mp (List.contains_iff_mem.mp hcn)
          exact absurd (by rw [List.getD_eq_getElem?_getD, List.getElem?_eq_getElem ha]; exact e) (hall a ha).1
      have hfit : fit2 x y p j = true := by
        unfold fit2
        rw [hnc, h1, Bool.not_false, Bool.true_and, Bool.true_and, List.all_eq_true]
        intro a ha
        exact decide_eq_true (hall a (List.mem_range.mp ha)).2
      refine Run.bind (Q := fun _ => True) (Run.guard (by first | omega | (rw [List.length_map]; omega)) trivial) fun _ _ => ?_
      refine Run.bindE (Run.push' (by rw [List.length_map]; omega)) ?_
      rw [show p.map Int.ofNat ++ [(j : Int)] = (p ++ [j]).map Int.ofNat by simp]
      refine Run.bind (ihd (p ++ [j]) s' (by rw [List.length_append, List.length_singleton]; omega) (fun v hv' => by
        rcases List.mem_append.mp hv' with h | h
        · exact hv v h
        · rw [List.mem_singleton.mp h]; exact hjn)) fun r hr => ?_
      refine Run.ite (fun hb => next _ fun h => ?_) (fun hb => Run.ret ?_)
      · rw [hr, h.2] at hb; cases hb
      · have hex : exG (fit2 x y) x.p.toNat d (p ++ [j]) = true := by
          cases hq : exG (fit2 x y) x.p.toNat d (p ++ [j]) with
          | true => rfl
          | false => rw [hr, hq] at hb; exact absurd rfl hb
        simp only
        rw [hT, upF_yes hjn hfit, List.any_cons, hex]; rfl

theorem impl_Colouring_leading__Colouring_renumbering_1_run (x y : Col) (hx : ByteC x) (hc : IsCol x) (hy : ByteC y) (hcy : IsCol y) (hyp : y.p = x.p) (hyk : y.k = x.k) (s : List Int) : Run (fun k => impl_Colouring_leading__Colouring_renumbering_1.f k x y s) (fun r => r.1 = !exG (fit2 x y) x.p.toNat x.p.toNat []) := by
  unfold impl_Colouring_leading__Colouring_renumbering_1.f
  have hp := hc.1
  refine Run.bindE (impl_Colouring_points_run x (by omega)) ?_
  refine Run.bind (impl_newTracer_run x y hx hc hy hcy hyp hyk _) fun r hr => ?_
  rw [hr.1]
  refine Run.bind (impl_tracer_all__Colouring_renumbering_1_run x y hx hy hp hyp r.2 hr.2 x.p.toNat [] s (by simp) (fun v hv => by cases hv)) fun t ht => ?_
  exact Run.ret ht

theorem impl_Colouring_renumbering_run (x y : Col) (hx : ByteC x) (hc : IsCol x) (hy : ByteC y) (hcy : IsCol y) (hyp : y.p = x.p) (hyk : y.k = x.k) : Run (fun k => impl_Colouring_renumbering.f k x y) (fun r => r.2 = exG (fit2 x y) x.p.toNat x.p.toNat []) := by
  unfold impl_Colouring_renumbering.f
  refine Run.bind (impl_Colouring_leading__Colouring_renumbering_1_run x y hx hc hy hcy hyp hyk []) fun r hr => ?_
  exact Run.ret (by simp only; rw [hr, Bool.not_not])
end Go.Proofs.Ytbgniopmmankdaa.P
