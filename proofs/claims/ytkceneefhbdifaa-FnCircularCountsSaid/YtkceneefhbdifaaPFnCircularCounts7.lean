/- What the pure functions come to, one by one (part 7). -/
import Derived.Test.YtkceneefhbdifaaPFnCircularCounts6
import Derived.Test.YtkceneefhbdifaaGFnCircularCounts10
namespace Go.Proofs.Ytkceneefhbdifaa.P
open Go Go.RowKit Go.Proofs.Ytkceneefhbdifaa.K Go.Proofs.Ytkceneefhbdifaa.G
set_option linter.unusedVariables false
set_option linter.unusedSimpArgs false

theorem spec_l03Count_run (n : Nat) (hn : 2 ≤ n ∧ n ≤ 13) (l : List Int) (hl : twoB l = true) : Run (fun k => spec_l03Count.f k n l) (· = (((circS n l).length : Int), firstI (circS n l))) := by
  unfold spec_l03Count.f
  have hp := pow_half hn.2
  have hS : circS n l = circF n l (2 ^ (n / 2)) := rfl
  generalize hN : 2 ^ (n / 2) = N at hp hS
  rw [hS]
  have et : w64 (Int.tdiv (n : Int) 2) = ((n / 2 : Nat) : Int) := by
    have e1 : Int.tdiv (n : Int) 2 = ((n / 2 : Nat) : Int) := rfl
    rw [e1, w64_id (by omega)]
  refine Run.loop (L := fun q (z : Int × Int × Int) => spec_l03Count.l0 q n l z.1 z.2.1 z.2.2) (fun z => (64 - z.2.2).toNat) (fun z => 0 ≤ z.2.2 ∧ z.2.2 ≤ (N : Int) ∧ z.1 = ((circF n l z.2.2.toNat).length : Int) ∧ z.2.1 = firstI (circF n l z.2.2.toNat)) ?_ (0, -1, 0) ⟨by simp only; omega, by simp only; omega, rfl, rfl⟩
  rintro ⟨c, f, v⟩ ⟨v0, v1, hc, hf⟩ ih
  simp only at v0 v1 hc hf
  obtain ⟨v, rfl⟩ := Int.eq_ofNat_of_zero_le v0
  simp only [Int.toNat_natCast] at ih hc hf ⊢
  simp only [spec_l03Count.l0]
  rw [et, wu64_id (by omega), shl64 (by omega), hN]
  refine Run.ite (fun h => ?_) (fun h => Run.ret (by rw [hc, hf, show v = N by omega]))
  refine Run.bindE (spec_l03Number_run n v hn (by omega)) ?_
  refine Run.bindE (spec_l03Avoids_run n v hn l hl) ?_
  have hlen := circF_len n v l
  rw [w64_id (x := (v : Int) + 1) (by omega), w64_id (x := c + 1) (by omega)]
  have ev : ((v : Int) + 1).toNat = v + 1 := by omega
  refine Run.ite (fun hg => ?_) (fun hg => ?_)
  · have e := circF_yes hg
    refine Run.ite (fun hneg => ?_) (fun hneg => ?_)
    · refine ih (_, _, (v : Int) + 1) ⟨by simp only; omega, by simp only; omega, ?_, ?_⟩ (by simp only; omega)
      · simp only; rw [ev, e, List.length_append, hc]; simp
      · simp only; rw [ev, e, firstI_snoc, if_pos (by rw [← hf]; exact hneg)]
    · refine ih (_, _, (v : Int) + 1) ⟨by simp only; omega, by simp only; omega, ?_, ?_⟩ (by simp only; omega)
      · simp only; rw [ev, e, List.length_append, hc]; simp
      · simp only; rw [ev, e, firstI_snoc, if_neg (by rw [← hf]; exact hneg), hf]
  · have e := circF_no hg
    refine ih (_, _, (v : Int) + 1) ⟨by simp only; omega, by simp only; omega, ?_, ?_⟩ (by simp only; omega)
    · simp only; rw [ev, e, hc]
    · simp only; rw [ev, e, hf]

theorem spec_FirstCircular_run (n : Int) (l : List Int) (hl : l.length ≤ 3) : Run (fun k => spec_FirstCircular.f k n l) (· = fstM n l) := by
  unfold spec_FirstCircular.f fstM
  refine Run.bindE (spec_l03Code_run n l hl) ?_
  by_cases hc : circB n l = true
  rotate_left
  · rw [if_neg hc, if_neg hc]
    exact Run.yes (by decide) (Run.ret rfl)
  rw [if_pos hc, if_pos hc]
  refine Run.no (by decide) ?_
  unfold circB at hc
  rw [Bool.and_eq_true, decide_eq_true_eq] at hc
  obtain ⟨n, rfl⟩ := Int.eq_ofNat_of_zero_le (a := n) (by omega)
  refine Run.bindE (spec_l03Count_run n (by omega) l hc.2) ?_
  rw [Int.toNat_natCast]
  by_cases hq : circS n l = []
  · rw [if_pos hq]
    exact Run.yes ((firstI_neg _).mpr hq) (Run.ret rfl)
  · rw [if_neg hq]
    have hneg : ¬ firstI (circS n l) < 0 := fun h => hq ((firstI_neg _).mp h)
    refine Run.no hneg ?_
    have hlt : (firstI (circS n l)).toNat < 64 := by
      have hp := pow_half (n := n) (by omega)
      have hmem : (firstI (circS n l)).toNat ∈ circS n l := by
        cases hq' : circS n l with
        | nil => exact absurd hq' hq
        | cons a r => show ((a : Int)).toNat ∈ _; rw [Int.toNat_natCast]; exact List.mem_cons_self ..
      unfold circS circF at hmem
      have := List.mem_range.mp (List.mem_filter.mp hmem).1
      unfold circS circF
      omega
    have h := spec_l03Number_run n (firstI (circS n l)).toNat (by omega) hlt
    rw [show (((firstI (circS n l)).toNat : Nat) : Int) = firstI (circS n l) by omega] at h
    refine Run.bindE h ?_
    exact Run.ret rfl

theorem impl_Colouring_run (l : List Col) : Run (fun _ => impl_Colouring.f l) (· = (l.length : Int)) := by
  unfold impl_Colouring.f
  exact Run.ret rfl

theorem impl_CountCircular_run (n : Int) (l : List Int) (hl : l.length ≤ 3) : Run (fun k => impl_CountCircular.f k n l) (· = countM n l) := by
  unfold impl_CountCircular.f countM circB
  refine Run.bindE (impl_in_run n 2 13) ?_
  refine Run.ite (fun h1 => ?_) (fun h1 => Run.ret (by rw [Bool.eq_false_iff.mpr h1]; rfl))
  rw [h1, Bool.true_and]
  refine Run.bindE (impl_areTwo_run l hl) ?_
  refine Run.ite (fun h2 => ?_) (fun h2 => Run.ret (by rw [if_neg h2]))
  rw [if_pos h2]
  have hn := of_decide_eq_true h1
  obtain ⟨n, rfl⟩ := Int.eq_ofNat_of_zero_le (a := n) (by omega)
  refine Run.bindE (impl_circulars_run n (by omega) l h2) ?_
  refine Run.bindE (impl_Colouring_run _) ?_
  exact Run.ret (by rw [List.length_map]; rfl)

theorem spec_CountCircular_run (n : Int) (l : List Int) (hl : l.length ≤ 3) : Run (fun k => spec_CountCircular.f k n l) (· = countM n l) := by
  unfold spec_CountCircular.f countM
  refine Run.bindE (spec_l03Code_run n l hl) ?_
  by_cases hc : circB n l = true
  rotate_left
  · rw [if_neg hc, if_neg hc]
    exact Run.yes (by decide) (Run.ret rfl)
  rw [if_pos hc, if_pos hc]
  refine Run.no (by decide) ?_
  unfold circB at hc
  rw [Bool.and_eq_true, decide_eq_true_eq] at hc
  obtain ⟨n, rfl⟩ := Int.eq_ofNat_of_zero_le (a := n) (by omega)
  refine Run.bindE (spec_l03Count_run n (by omega) l hc.2) ?_
  exact Run.ret rfl

theorem impl_Colouring_edges_run (x : Col) (hp : 0 ≤ x.p ∧ x.p ≤ 1000) : Run (fun _ => impl_Colouring_edges.f x) (· = (tri x.p.toNat : Int)) := by
  unfold impl_Colouring_edges.f
  have := tri_int (n := x.p.toNat) (by omega)
  rw [show ((x.p.toNat : Nat) : Int) = x.p by omega] at this
  exact Run.ret this

theorem impl_Colouring_isColouring_run (x : Col) (hx : ByteC x) : Run (fun k => impl_Colouring_isColouring.f k x) (· = isB x) := by
  unfold impl_Colouring_isColouring.f
  refine Run.bindE (impl_in_run _ _ _) ?_
  refine Run.itn (fun h1 => ?_) (fun h1 => ?_)
  · exact Run.ret (decide_eq_false fun h => h1 (decide_eq_true h.1)).symm
  refine Run.bindE (impl_in_run _ _ _) ?_
  refine Run.itn (fun h2 => ?_) (fun h2 => ?_)
  · exact Run.ret (decide_eq_false fun h => h2 (decide_eq_true h.2.1)).symm
  have hp := of_decide_eq_true h1
  have hk := of_decide_eq_true h2
  refine Run.loop (L := fun q (i : Int) => impl_Colouring_isColouring.l0 q x i) (fun i => (136 - i).toNat) (fun i => 0 ≤ i ∧ i ≤ 136 ∧ ∀ j : Nat, (j : Int) < i → (if j < tri x.p.toNat then x.e j < x.k else x.e j = 0)) ?_ 0 ⟨by omega, by omega, fun j hj => by omega⟩
  rintro i ⟨h0, h3, hJ⟩ ih
  simp only [impl_Colouring_isColouring.l0]
  refine Run.ite (fun h => ?_) (fun h => ?_)
  · refine Run.bindE (Run.getB' h0 h) ?_
    have hb := hx i.toNat
    rw [w64_id (x := x.e i.toNat) (by omega)]
    refine Run.ite (fun h5 => ?_) (fun h5 => ?_)
    · refine Run.ret (decide_eq_false fun hc => ?_).symm
      have := hc.2.2 i.toNat (by omega)
      by_cases h6 : i.toNat < tri x.p.toNat
      · rw [if_pos h6] at this; omega
      · rw [if_neg h6] at this; omega
    · refine Run.bindE (impl_Colouring_edges_run x (by omega)) ?_
      rw [w64_id (x := i + 1) (by omega)]
      refine Run.ite (fun h4 => ?_) (fun h4 => ?_)
      · refine Run.ite (fun h7 => ?_) (fun h7 => ?_)
        · refine Run.ret (decide_eq_false fun hc => ?_).symm
          have := hc.2.2 i.toNat (by omega)
          rw [if_neg (by omega)] at this; omega
        · refine ih (i + 1) ⟨by omega, by omega, fun j hj => ?_⟩ (by omega)
          by_cases ej : (j : Int) < i
          · exact hJ j ej
          · obtain rfl : j = i.toNat := by omega
            rw [if_neg (by omega)]; omega
      · refine ih (i + 1) ⟨by omega, by omega, fun j hj => ?_⟩ (by omega)
        by_cases ej : (j : Int) < i
        · exact hJ j ej
        · obtain rfl : j = i.toNat := by omega
          rw [if_pos (by omega)]; omega
  · refine Run.ret (decide_eq_true ⟨hp, hk, fun j hj => hJ j (by omega)⟩).symm

theorem impl_areForbidden_run (l : List Int) (k0 : Int) (hl : l.length < 4611686018427387904) : Run (fun k => impl_areForbidden.f k l k0) (· = (decide ((l.length : Int) = k0) && allIn l 1 17)) := by
  unfold impl_areForbidden.f
  refine Run.bindE (impl_areIn_run l k0 1 17 hl) ?_
  exact Run.ret rfl

theorem impl_always_run : Run (fun _ => impl_always.f) (· = true) := by
  unfold impl_always.f
  exact Run.ret rfl

theorem impl_Colouring_sizesCode_1__always_run (x : Col) (l : List Int) (hl : l.length < 4611686018427387904) : Run (fun k => impl_Colouring_sizesCode_1__always.f k l x) (· = (decide ((l.length : Int) = x.k) && allIn l 1 17)) := by
  unfold impl_Colouring_sizesCode_1__always.f
  refine Run.bindE (impl_areForbidden_run l x.k hl) ?_
  refine Run.itn (fun h => Run.ret (Bool.eq_false_iff.mpr h).symm) (fun h => ?_)
  rw [h]
  refine Run.bindE impl_always_run ?_
  exact Run.ret rfl

theorem impl_Colouring_code__Colouring_sizesCode_1__always_run (x : Col) (hx : ByteC x) (l : List Int) (hl : l.length < 4611686018427387904) : Run (fun k => impl_Colouring_code__Colouring_sizesCode_1__always.f k x l) (· = given (isB x) (decide ((l.length : Int) = x.k) && allIn l 1 17)) := by
  unfold impl_Colouring_code__Colouring_sizesCode_1__always.f
  refine Run.bindE (impl_Colouring_isColouring_run x hx) ?_
  refine Run.itn (fun h1 => Run.ret (by rw [given, if_neg h1])) (fun h1 => ?_)
  rw [given, if_pos h1]
  refine Run.bindE (impl_Colouring_sizesCode_1__always_run x l hl) ?_
  exact Run.ite (fun h3 => Run.ret (by rw [if_pos h3])) (fun h3 => Run.ret (by rw [if_neg h3]))

theorem impl_Colouring_sizesCode__always_run (x : Col) (hx : ByteC x) (l : List Int) (hl : l.length < 4611686018427387904) : Run (fun k => impl_Colouring_sizesCode__always.f k x l) (· = given (isB x) (decide ((l.length : Int) = x.k) && allIn l 1 17)) := by
  unfold impl_Colouring_sizesCode__always.f
  refine Run.bindE (impl_Colouring_code__Colouring_sizesCode_1__always_run x hx l hl) ?_
  exact Run.ret rfl

theorem impl_AvoidsSizes_run (x : Col) (hx : ByteC x) (l : List Int) (hl : l.length < 4611686018427387904) : Run (fun k => impl_AvoidsSizes.f k x l) (· = (if given (isB x) (decide ((l.length : Int) = x.k) && allIn l 1 17) = 0 then (avoidsB x l, 0) else (false, given (isB x) (decide ((l.length : Int) = x.k) && allIn l 1 17)))) := by
  unfold impl_AvoidsSizes.f
  refine Run.bindE (impl_Colouring_sizesCode__always_run x hx l hl) ?_
  refine Run.ite (fun h => Run.ret (by rw [if_neg h])) (fun h => ?_)
  have hz := Decidable.not_not.mp h
  rw [if_pos hz]
  obtain ⟨h1, h2⟩ := given_zero hz
  have hc := isB_spec h1
  simp only [Bool.and_eq_true, decide_eq_true_eq] at h2
  refine Run.bindE (impl_Colouring_avoids_run x hx hc.1 (by have := hc.2.1; omega) l h2.1 h2.2) ?_
  exact Run.ret rfl

theorem impl_Colouring_code__always_run (x : Col) (hx : ByteC x) : Run (fun k => impl_Colouring_code__always.f k x) (· = given (isB x) true) := by
  unfold impl_Colouring_code__always.f
  refine Run.bindE (impl_Colouring_isColouring_run x hx) ?_
  refine Run.itn (fun h1 => ?_) (fun h1 => ?_)
  · exact Run.ret (by rw [given, if_neg h1])
  rw [given, if_pos h1]
  refine Run.bindE (impl_always_run) ?_
  exact Run.ite (fun h3 => Run.ret (by rw [if_pos h3])) (fun h3 => Run.ret (by rw [if_neg h3]))
end Go.Proofs.Ytkceneefhbdifaa.P
