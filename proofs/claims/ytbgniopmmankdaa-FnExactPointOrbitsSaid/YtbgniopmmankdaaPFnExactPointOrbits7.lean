/- What the pure functions come to, one by one (part 7). -/
import Derived.Test.YtbgniopmmankdaaPFnExactPointOrbits6
import Derived.Test.YtbgniopmmankdaaGFnExactPointOrbits11
namespace Go.Proofs.Ytbgniopmmankdaa.P
open Go Go.RowKit Go.Proofs.Ytbgniopmmankdaa.K Go.Proofs.Ytbgniopmmankdaa.G
set_option linter.unusedVariables false
set_option linter.unusedSimpArgs false

theorem impl_newTracer_run (x : Col) (hx : ByteC x) (hc : IsCol x) (order : List Int) : Run (fun k => impl_newTracer.f k x order) (fun r => r.1 = order ∧ ∀ i j, i < x.p.toNat → j < x.p.toNat → r.2 (i * 17 + j) = tpB x i j) := by
  unfold impl_newTracer.f
  have hp := hc.1
  refine Run.loop (L := fun q (z : List Int × (Nat → Bool) × Int) => impl_newTracer.l0 q x z.1 z.2.1 z.2.2) (fun z => (x.p - z.2.2).toNat) (fun z => 0 ≤ z.2.2 ∧ z.2.2 ≤ x.p ∧ z.1 = order ∧ ∀ i j : Nat, (i : Int) < z.2.2 → j < x.p.toNat → z.2.1 (i * 17 + j) = tpB x i j) ?_ (order, _, 0) ⟨by simp only; omega, by simp only; omega, rfl, fun i j h => by simp only at h; omega⟩
  rintro ⟨o, g, i⟩ ⟨i0, i1, ho, hg⟩ ih
  simp only at i0 i1 ho hg
  subst ho
  obtain ⟨i, rfl⟩ := Int.eq_ofNat_of_zero_le i0
  simp only [impl_newTracer.l0]
  refine Run.ite (fun hi => ?_) (fun hi => Run.ret ⟨rfl, fun a b ha hb => hg a b (by omega) hb⟩)
  refine Run.loop (L := fun q (z : List Int × (Nat → Bool) × Int) => impl_newTracer.l1 q x (i : Int) z.1 z.2.1 z.2.2) (fun z => (x.p - z.2.2).toNat) (fun z => 0 ≤ z.2.2 ∧ z.2.2 ≤ x.p ∧ z.1 = o ∧ ∀ a b : Nat, (a < i ∧ b < x.p.toNat) ∨ (a = i ∧ (b : Int) < z.2.2) → z.2.1 (a * 17 + b) = tpB x a b) ?_ (o, g, 0) ⟨by simp only; omega, by simp only; omega, rfl, fun a b h => by
    rcases h with h | h
    · exact hg a b (by omega) h.2
    · simp only at h; omega⟩
  rintro ⟨o', g', j⟩ ⟨j0, j1, ho', hg'⟩ ih2
  simp only at j0 j1 ho' hg'
  subst ho'
  obtain ⟨j, rfl⟩ := Int.eq_ofNat_of_zero_le j0
  simp only [impl_newTracer.l1]
  refine Run.ite (fun hj => ?_) (fun hj => ?_)
  · refine Run.bind (Q := fun _ => True) (Run.guard (by omega) trivial) fun _ _ => ?_
    refine Run.bindE (impl_Colouring_degreesAt_run x hx hc i hi) ?_
    refine Run.bindE (impl_Colouring_degreesAt_run x hx hc j hj) ?_
    refine Run.bindE (slices_Equal_int64_int64_run _ _ (by unfold degL; simp; have := hc.2.1; omega)) ?_
    refine Run.bind (Q := fun _ => True) (Run.guard (by omega) trivial) fun _ _ => ?_
    rw [w64_id (x := (j : Int) + 1) (by omega)]
    refine ih2 (_, _, (j : Int) + 1) ⟨by simp only; omega, by simp only; omega, rfl, fun a b h => ?_⟩ (by simp only; omega)
    simp only [Int.toNat_natCast] at h ⊢
    show (if a * 17 + b = i * 17 + j then decide (degL x i = degL x j) else g' (a * 17 + b)) = tpB x a b
    by_cases e : a * 17 + b = i * 17 + j
    · have hab : a = i ∧ b = j := by omega
      rw [if_pos e, hab.1, hab.2]; rfl
    · rw [if_neg e]
      refine hg' a b ?_
      rcases h with h | ⟨h, h2⟩
      · exact .inl h
      · subst h
        exact .inr ⟨rfl, by omega⟩
  · rw [w64_id (x := (i : Int) + 1) (by omega)]
    refine ih (_, _, (i : Int) + 1) ⟨by simp only; omega, by simp only; omega, rfl, fun a b h hb => ?_⟩ (by simp only; omega)
    simp only at h ⊢
    exact hg' a b (by omega)

theorem impl_Colouring_isMoved_2_run (p : List Int) : Run (fun _ => impl_Colouring_isMoved_2.f p) (· = false) := by
  unfold impl_Colouring_isMoved_2.f
  exact Run.ret rfl

theorem impl_tracer_all__Colouring_isMoved_2_run (x : Col) (hx : ByteC x) (hp : 1 ≤ x.p ∧ x.p ≤ 17) (i : Nat) (hi : i < x.p.toNat) (g : Nat → Bool) (hg : ∀ i j, i < x.p.toNat → j < x.p.toNat → g (i * 17 + j) = tpB x i j) : ∀ (d : Nat) (p : List Nat), p.length + d = x.p.toNat → (∀ v ∈ p, v < x.p.toNat) →
    Run (fun k => impl_tracer_all__Colouring_isMoved_2.f k x ((List.range x.p.toNat).map fun m => ((ordI i m : Nat) : Int)) g (p.map Int.ofNat)) (· = !exG (fitS x (ordI i) (fun a => a)) x.p.toNat d p) := by
  have hob := ordI_bij hi
  have hsl : ((List.range x.p.toNat).map fun m => ((ordI i m : Nat) : Int)).length = x.p.toNat := by simp
  have hsa : ∀ (m : Nat) (h : ((m : Nat) : Int).toNat < ((List.range x.p.toNat).map fun m => ((ordI i m : Nat) : Int)).length), ((List.range x.p.toNat).map fun m => ((ordI i m : Nat) : Int))[((m : Nat) : Int).toNat] = ((ordI i m : Nat) : Int) := fun m h => by simp
  generalize ((List.range x.p.toNat).map fun m => ((ordI i m : Nat) : Int)) = O at hsl hsa ⊢
  intro d
  induction d with
  | zero =>
    intro p hd hv
    refine Run.step ?_
    simp only [impl_tracer_all__Colouring_isMoved_2.f]
    rw [List.length_map, hsl]
    refine Run.yes (by omega) ?_
    refine Run.bindE (impl_Colouring_isMoved_2_run _) ?_
    exact Run.ret rfl
  | succ d ihd =>
    intro p hd hv
    have hol := hob.lt p.length (by omega)
    refine Run.step ?_
    simp only [impl_tracer_all__Colouring_isMoved_2.f]
    rw [List.length_map, hsl]
    refine Run.no (by omega) ?_
    refine Run.bindE (Run.getI' (by omega) (by rw [hsl]; omega)) ?_
    rw [hsa, exG]
    refine Run.loop (L := fun q (z : Int) => impl_tracer_all__Colouring_isMoved_2.l0 q x O g (p.map Int.ofNat) ((ordI i p.length : Nat) : Int) z) (fun z => (x.p - z).toNat) (fun z => 0 ≤ z ∧ z ≤ x.p ∧ ((upF (fitS x (ordI i) (fun a => a) p) 0 x.p.toNat).any fun j => exG (fitS x (ordI i) (fun a => a)) x.p.toNat d (p ++ [j])) = ((upF (fitS x (ordI i) (fun a => a) p) z.toNat x.p.toNat).any fun j => exG (fitS x (ordI i) (fun a => a)) x.p.toNat d (p ++ [j]))) ?_ 0 ⟨by omega, by omega, rfl⟩
    rintro j ⟨j0, j1, hT⟩ ih
    obtain ⟨j, rfl⟩ := Int.eq_ofNat_of_zero_le j0
    simp only [Int.toNat_natCast] at ih hT ⊢
    simp only [impl_tracer_all__Colouring_isMoved_2.l0]
    refine Run.ite (fun hj => ?_) (fun hj => Run.ret (by rw [hT, upF_end _ (p := j) (by omega)]; rfl))
    have hjn : j < x.p.toNat := by omega
    refine Run.bind (Q := fun _ => True) (Run.guard (by omega) trivial) fun _ _ => ?_
    refine Run.bind (Q := fun _ => True) (Run.guard (by omega) trivial) fun _ _ => ?_
    rw [w64_id (x := (j : Int) + 1) (by omega)]
    simp only [Int.toNat_natCast]
    have hgj := hg (ordI i p.length) j hol hjn
    have next : ¬ (fitS x (ordI i) (fun a => a) p j = true ∧ exG (fitS x (ordI i) (fun a => a)) x.p.toNat d (p ++ [j]) = true) → Run (fun q => impl_tracer_all__Colouring_isMoved_2.l0 q x O g (p.map Int.ofNat) ((ordI i p.length : Nat) : Int) ((j : Int) + 1)) (· = !((upF (fitS x (ordI i) (fun a => a) p) 0 x.p.toNat).any fun j => exG (fitS x (ordI i) (fun a => a)) x.p.toNat d (p ++ [j]))) := fun hn => by
      refine ih ((j : Int) + 1) ⟨by omega, by omega, ?_⟩ (by omega)
      rw [hT, show ((j : Int) + 1).toNat = j + 1 by omega]
      by_cases hf : fitS x (ordI i) (fun a => a) p j = true
      · rw [upF_yes hjn hf, List.any_cons]
        have : exG (fitS x (ordI i) (fun a => a)) x.p.toNat d (p ++ [j]) = false := Bool.eq_false_iff.mpr fun h => hn ⟨hf, h⟩
        rw [this, Bool.false_or]
      · rw [upF_no hjn hf]
    refine Run.ite (fun h1 => ?_) (fun h1 => next fun h => h1 ?_)
    rotate_left
    · rw [hgj]; exact (fitS_iff.mp h.1).2.1
    rw [hgj] at h1
    refine Run.loop (L := fun q (z : Int) => impl_tracer_all__Colouring_isMoved_2.l1 q x O g (p.map Int.ofNat) ((ordI i p.length : Nat) : Int) (j : Int) z) (fun z => (p.length - z).toNat) (fun z => 0 ≤ z ∧ z ≤ p.length ∧ ∀ m : Nat, (m : Int) < z → p.getD m 0 ≠ j ∧ colr x (ordI i m) (ordI i p.length) = colr x (p.getD m 0) j) ?_ 0 ⟨by omega, by omega, fun m h => by omega⟩
    rintro m ⟨m0, m1, hm⟩ ih2
    obtain ⟨m, rfl⟩ := Int.eq_ofNat_of_zero_le m0
    simp only [impl_tracer_all__Colouring_isMoved_2.l1, List.length_map]
    rw [w64_id (x := (j : Int) + 1) (by omega)]
    refine Run.ite (fun hml => ?_) (fun hml => ?_)
    · have hmp : m < p.length := by omega
      have hvn := hv _ (getD_mem hmp)
      have hom := hob.lt m (by omega)
      have hne : ordI i m ≠ ordI i p.length := fun e => by have := hob.inj (by omega) (by omega) e; omega
      refine Run.bindE (Run.getI' (by omega) (by rw [List.length_map]; omega)) ?_
      rw [mapO_at hmp]
      refine Run.ite (fun h2 => next fun h => ?_) (fun h2 => ?_)
      · have e : p.getD m 0 = j := by omega
        exact (fitS_iff.mp h.1).1 (e ▸ getD_mem hmp)
      refine Run.bindE (Run.getI' (by omega) (by rw [hsl]; omega)) ?_
      rw [hsa]
      refine Run.bindE (impl_Colouring_at_run x hx (by omega) (ordI i m) (ordI i p.length) (by omega) (by omega) hne) ?_
      refine Run.bindE (impl_Colouring_at_run x hx (by omega) (p.getD m 0) j (by omega) (by omega) (by omega)) ?_
      refine Run.ite (fun h3 => next fun h => h3 ((fitS_iff.mp h.1).2.2 m hmp)) (fun h3 => ?_)
      rw [w64_id (x := (m : Int) + 1) (by omega)]
      refine ih2 ((m : Int) + 1) ⟨by omega, by omega, fun a ha => ?_⟩ (by omega)
      by_cases e : a = m
      · subst e; exact ⟨by omega, Decidable.not_not.mp h3⟩
      · exact hm a (by omega)
    · have hall : ∀ a, a < p.length → p.getD a 0 ≠ j ∧ colr x (ordI i a) (ordI i p.length) = colr x (p.getD a 0) j := fun a ha => hm a (by omega)
      have hfit : fitS x (ordI i) (fun a => a) p j = true := by
        refine fitS_iff.mpr ⟨fun hj' => ?_, h1, fun a ha => (hall a ha).2⟩
        obtain ⟨a, ha, e⟩ := List.mem_iff_getElem.mp hj'
        exact absurd (by rw [List.getD_eq_getElem?_getD, List.getElem?_eq_getElem ha]; exact e) (hall a ha).1
      refine Run.bind (Q := fun _ => True) (Run.guard (by first | omega | (rw [List.length_map]; omega)) trivial) fun _ _ => ?_
      refine Run.bindE (Run.push' (by rw [List.length_map]; omega)) ?_
      rw [show p.map Int.ofNat ++ [(j : Int)] = (p ++ [j]).map Int.ofNat by simp]
      refine Run.bindE (ihd (p ++ [j]) (by rw [List.length_append, List.length_singleton]; omega) (fun v hv' => by
        rcases List.mem_append.mp hv' with h | h
        · exact hv v h
        · rw [List.mem_singleton.mp h]; exact hjn)) ?_
      refine Run.ite (fun hb => next fun h => ?_) (fun hb => Run.ret ?_)
      · rw [h.2] at hb; cases hb
      · have hex : exG (fitS x (ordI i) (fun a => a)) x.p.toNat d (p ++ [j]) = true := by
          cases hq : exG (fitS x (ordI i) (fun a => a)) x.p.toNat d (p ++ [j]) with
          | true => rfl
          | false => rw [hq] at hb; exact absurd rfl hb
        rw [hT, upF_yes hjn hfit, List.any_cons, hex]; rfl

theorem impl_Colouring_isMoved_run (x : Col) (hx : ByteC x) (hc : IsCol x) (i j : Nat) (hi : i < x.p.toNat) (hj : j < x.p.toNat) : Run (fun k => impl_Colouring_isMoved.f k x i j) (· = autoB x i j) := by
  unfold impl_Colouring_isMoved.f autoB
  have hp := hc.1
  have hsel := sel_length (fun t => decide ((t : Int) ≠ (i : Int))) x.p.toNat
  refine Run.bindE (impl_Colouring_that__Colouring_isMoved_1_run x hx (by omega) (i : Int)) ?_
  refine Run.bindE (Run.concat' (by simp only [List.length_singleton]; omega)) ?_
  have e : [(i : Int)] ++ sel (fun t => decide ((t : Int) ≠ (i : Int))) x.p.toNat = (List.range x.p.toNat).map fun m => ((ordI i m : Nat) : Int) := by
    rw [← ordI_list hi]
    congr 1
    exact sel_congr fun t _ => decide_eq_decide.mpr (by omega)
  rw [e]
  refine Run.bind (impl_newTracer_run x hx hc _) fun r hr => ?_
  rw [hr.1]
  refine Run.bind (Q := fun _ => True) (Run.guard (by omega) trivial) fun _ _ => ?_
  refine Run.bind (Q := fun _ => True) (Run.guard (by omega) trivial) fun _ _ => ?_
  simp only [Int.toNat_natCast]
  have hg := hr.2 i j hi hj
  refine Run.ite (fun h => ?_) (fun h => Run.ret (by rw [hg] at h; rw [Bool.eq_false_iff.mpr h]; rfl))
  rw [hg] at h
  refine Run.bind (Q := fun _ => True) (Run.guard (by decide) trivial) fun _ _ => ?_
  refine Run.bindE (Run.push' (by simp)) ?_
  rw [show ([] : List Int) ++ [(j : Int)] = [j].map Int.ofNat from rfl]
  refine Run.bindE (impl_tracer_all__Colouring_isMoved_2_run x hx hp i hi r.2 hr.2 (x.p.toNat - 1) [j] (by rw [List.length_singleton]; omega) (fun v hv => by rw [List.mem_singleton.mp hv]; exact hj)) ?_
  exact Run.ret (by rw [h]; simp)

theorem impl_PointOrbits_1_run (x : Col) (hx : ByteC x) (hc : IsCol x) (l j : Nat) (r : List Nat) (hl : l < x.p.toNat) (hj : j < x.p.toNat) : Run (fun k => impl_PointOrbits_1.f k ((l :: r).map Int.ofNat) x j) (· = autoB x l j) := by
  unfold impl_PointOrbits_1.f
  refine Run.bindE (Run.getI' (by omega) (by rw [List.map_cons, List.length_cons]; omega)) ?_
  refine Run.bindE (impl_Colouring_isMoved_run x hx hc l j hl hj) ?_
  exact Run.ret rfl
end Go.Proofs.Ytbgniopmmankdaa.P
