/- What the pure functions come to, one by one (part 8). -/
import Derived.Test.YtkceneefhbdifaaPFnCircularCounts7
import Derived.Test.YtkceneefhbdifaaGFnCircularCounts10
namespace Go.Proofs.Ytkceneefhbdifaa.P
open Go Go.RowKit Go.Proofs.Ytkceneefhbdifaa.K Go.Proofs.Ytkceneefhbdifaa.G
set_option linter.unusedVariables false
set_option linter.unusedSimpArgs false

theorem impl_Colouring_listOfCircular_run (x : Col) (hx : ByteC x) (hp : 0 ≤ x.p ∧ x.p ≤ 17) : Run (fun k => impl_Colouring_listOfCircular.f k x) (· = circM x) := by
  unfold impl_Colouring_listOfCircular.f
  rw [circM]
  refine Run.ite (fun h => Run.ret (by rw [if_pos h])) (fun h => ?_)
  rw [if_neg h]
  have et : w64 (Int.tdiv x.p 2) = ((x.p.toNat / 2 : Nat) : Int) := by
    have e0 : x.p = ((x.p.toNat : Nat) : Int) := by omega
    have e1 : Int.tdiv ((x.p.toNat : Nat) : Int) 2 = ((x.p.toNat / 2 : Nat) : Int) := rfl
    rw [e0, e1, Int.toNat_natCast, w64_id (by omega)]
  refine Run.loop (L := fun q (z : List Int × Int) => impl_Colouring_listOfCircular.l0 q x z.1 z.2) (fun z => (x.p - z.2).toNat) (fun z => 1 ≤ z.2 ∧ z.2 ≤ (x.p.toNat / 2 : Nat) + 1 ∧ z.1 = (List.range (z.2.toNat - 1)).map fun d => colr x 0 (d + 1)) ?_ ([], 1) ⟨by simp only; omega, by simp only; omega, rfl⟩
  rintro ⟨l, j⟩ ⟨h0, h3, hl⟩ ih
  simp only at h0 h3 hl
  subst hl
  simp only [impl_Colouring_listOfCircular.l0]
  rw [et]
  obtain ⟨j, rfl⟩ := Int.eq_ofNat_of_zero_le (show 0 ≤ j by omega)
  simp only [Int.toNat_natCast] at ih ⊢
  refine Run.ite (fun h => ?_) (fun h => ?_)
  · refine Run.bindE (impl_Colouring_at_run x hx hp 0 j (by omega) (by omega) (by omega)) ?_
    refine Run.bindE (Run.push' (by simp; omega)) ?_
    rw [w64_id (x := (j : Int) + 1) (by omega)]
    refine ih (_, (j : Int) + 1) ⟨by simp only; omega, by simp only; omega, ?_⟩ (by simp only; omega)
    simp only
    rw [show ((j : Int) + 1).toNat - 1 = (j - 1) + 1 by omega, List.range_succ, List.map_append, List.map_cons, List.map_nil, show j - 1 + 1 = j by omega]
  · rw [show j - 1 = x.p.toNat / 2 by omega]
    have hcirc := fun (n : Nat) (K : Int) (l : List Int) (hn : n ≤ 17) (h1 : 1 ≤ n) (hl : l.length = n / 2) => impl_circularOf_run n K l hn hl
    have := hcirc x.p.toNat x.k ((List.range (x.p.toNat / 2)).map fun d => colr x 0 (d + 1)) (by omega) (by omega) (by simp)
    rw [show ((x.p.toNat : Nat) : Int) = x.p by omega] at this
    refine Run.bindE this ?_
    exact Run.ret rfl

theorem impl_ListOfCircular_run (x : Col) (hx : ByteC x) : Run (fun k => impl_ListOfCircular.f k x) (· = listM x) := by
  unfold impl_ListOfCircular.f
  rw [listM]
  refine Run.bindE (impl_Colouring_code__always_run x hx) ?_
  by_cases h : isB x = true
  · rw [given, if_pos h, if_pos rfl, if_pos h]
    refine Run.no (fun h => h rfl) ?_
    have hp := (isB_spec h).1
    refine Run.bindE (impl_Colouring_listOfCircular_run x hx (by omega)) ?_
    exact Run.ite (fun h => Run.ret (by rw [if_pos h])) (fun h => Run.ret (by rw [if_neg h]))
  · rw [given, if_neg h, if_neg h]
    exact Run.yes (by decide) (Run.ret rfl)

theorem spec_DrawGreatestCircular_run (l : List Int) (hs : ∀ v ∈ l, 0 ≤ v ∧ v < 256) (hl : l.length ≤ 4096) : Run (fun k => spec_DrawGreatestCircular.f k l) (fun r => r.length ≤ 3) := by
  unfold spec_DrawGreatestCircular.f
  refine Run.bind (spec_l01From_run l hl) fun r hr => ?_
  rw [hr.1, hr.2]
  refine Run.bind (spec_l03DrawSizes_run l hs hl 0 _ (by omega)) fun u hu => ?_
  exact Run.ret hu

theorem impl_GreatestCircular_run (l : List Int) (hl : l.length ≤ 3) : Run (fun k => impl_GreatestCircular.f k l) (· = greatM l) := by
  unfold impl_GreatestCircular.f greatM
  refine Run.bindE (impl_areTwo_run l hl) ?_
  refine Run.ite (fun h2 => ?_) (fun h2 => Run.ret (by rw [if_neg h2]))
  rw [if_pos h2]
  refine Run.loop (L := fun q (z : Int) => impl_GreatestCircular.l0 q l z) (fun z => z.toNat) (fun z => 1 ≤ z ∧ z ≤ 13 ∧ greatC l 12 = greatC l (z.toNat - 1)) ?_ 13 ⟨by omega, by omega, rfl⟩
  rintro n ⟨n0, n1, hT⟩ ih
  obtain ⟨n, rfl⟩ := Int.eq_ofNat_of_zero_le (a := n) (by omega)
  simp only [Int.toNat_natCast] at ih hT ⊢
  simp only [impl_GreatestCircular.l0]
  rw [hT]
  refine Run.ite (fun h => ?_) (fun h => Run.ret (by rw [show n - 1 = 0 by omega, greatC]))
  obtain ⟨d, rfl⟩ : ∃ d, n = d + 2 := ⟨n - 2, by omega⟩
  refine Run.bindE (impl_circulars_run (d + 2) (by omega) l h2) ?_
  rw [List.length_map, show d + 2 - 1 = d + 1 by omega, greatC]
  refine Run.ite (fun hq => Run.ret ?_) (fun hq => ?_)
  · rw [if_pos (fun e => by rw [e] at hq; simp at hq)]
  · have e : circS (d + 2) l = [] := by
      cases hq' : circS (d + 2) l with
      | nil => rfl
      | cons a r => rw [hq', List.length_cons] at hq; omega
    rw [if_neg (fun h => h e), w64_id (by omega)]
    have := ih (((d + 2 : Nat) : Int) - 1) ⟨by omega, by omega, by rw [hT, show (((d + 2 : Nat) : Int) - 1).toNat - 1 = d by omega, show d + 2 - 1 = d + 1 by omega, greatC, if_neg (fun h => h e)]⟩ (by omega)
    rw [hT, show d + 2 - 1 = d + 1 by omega, greatC, if_neg (fun h => h e)] at this
    exact this

theorem spec_GreatestCircular_run (l : List Int) (hl : l.length ≤ 3) : Run (fun k => spec_GreatestCircular.f k l) (· = greatM l) := by
  unfold spec_GreatestCircular.f greatM
  refine Run.bindE (spec_l03Code_run 2 l hl) ?_
  have e2 : circB 2 l = twoB l := by unfold circB; rw [decide_eq_true (by omega), Bool.true_and]
  rw [e2]
  by_cases h2 : twoB l = true
  rotate_left
  · rw [if_neg h2, if_neg h2]
    exact Run.yes (by decide) (Run.ret rfl)
  rw [if_pos h2, if_pos h2]
  refine Run.no (by decide) ?_
  refine Run.loop (L := fun q (z : Int) => spec_GreatestCircular.l0 q l z) (fun z => z.toNat) (fun z => 1 ≤ z ∧ z ≤ 13 ∧ greatC l 12 = greatC l (z.toNat - 1)) ?_ 13 ⟨by omega, by omega, rfl⟩
  rintro n ⟨n0, n1, hT⟩ ih
  obtain ⟨n, rfl⟩ := Int.eq_ofNat_of_zero_le (a := n) (by omega)
  simp only [Int.toNat_natCast] at ih hT ⊢
  simp only [spec_GreatestCircular.l0]
  rw [hT]
  refine Run.ite (fun h => ?_) (fun h => Run.ret (by rw [show n - 1 = 0 by omega, greatC]))
  obtain ⟨d, rfl⟩ : ∃ d, n = d + 2 := ⟨n - 2, by omega⟩
  refine Run.bindE (spec_l03Count_run (d + 2) (by omega) l h2) ?_
  rw [show d + 2 - 1 = d + 1 by omega, greatC]
  refine Run.ite (fun hq => Run.ret ?_) (fun hq => ?_)
  · rw [if_pos (fun e => by have := (firstI_neg _).mpr e; omega)]
  · have e : circS (d + 2) l = [] := (firstI_neg _).mp (by omega)
    rw [if_neg (fun h => h e), w64_id (by omega)]
    have := ih (((d + 2 : Nat) : Int) - 1) ⟨by omega, by omega, by rw [hT, show (((d + 2 : Nat) : Int) - 1).toNat - 1 = d by omega, show d + 2 - 1 = d + 1 by omega, greatC, if_neg (fun h => h e)]⟩ (by omega)
    rw [hT, show d + 2 - 1 = d + 1 by omega, greatC, if_neg (fun h => h e)] at this
    exact this
end Go.Proofs.Ytkceneefhbdifaa.P
