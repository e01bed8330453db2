/- What the pure functions come to, one by one (part 6). -/
import Derived.Test.YtfbdcidedjocdaaPFnExactLeastPosition5
import Derived.Test.YtfbdcidedjocdaaGFnExactLeastPosition9
namespace Go.Proofs.Ytfbdcidedjocdaa.P
open Go Go.RowKit Go.Proofs.Ytfbdcidedjocdaa.K Go.Proofs.Ytfbdcidedjocdaa.G
set_option linter.unusedVariables false
set_option linter.unusedSimpArgs false

theorem slices_Clone_int64_int64_run (l : List Int) (hl : l.length < 1099511627776) : Run (fun _ => slices_Clone_int64_int64.f l) (· = l) := by
  unfold slices_Clone_int64_int64.f
  refine Run.bindE (Run.concat' (by simp; omega)) ?_
  exact Run.ret (List.nil_append l)

theorem impl_orders_run (n : Nat) (hn : n ≤ 5) : ∀ (d : Nat) (b : List Int), b.length + d = n → Run (fun k => impl_orders.f k n b) (· = ords n d b) := by
  intro d
  induction d with
  | zero =>
    intro b hb
    refine Run.step ?_
    simp only [impl_orders.f]
    refine Run.bindE (impl_size_int64_run b) ?_
    exact Run.yes (by omega) (Run.ret rfl)
  | succ d ihd =>
    intro b hb
    refine Run.step ?_
    simp only [impl_orders.f]
    refine Run.bindE (impl_size_int64_run b) ?_
    refine Run.no (by omega) ?_
    have hlen : ∀ m, m ≤ 5 → ((List.range m).flatMap fun (i : Nat) => if b.contains (i : Int) = true then [] else ords n d (b ++ [(i : Int)])).length ≤ 5 * 5 ^ 5 := by
      intro m hm
      have : ∀ m, ((List.range m).flatMap fun (i : Nat) => if b.contains (i : Int) = true then [] else ords n d (b ++ [(i : Int)])).length ≤ m * 5 ^ d := by
        intro m
        induction m with
        | zero => simp
        | succ m ihm =>
          rw [List.range_succ, List.flatMap_append, List.length_append, Nat.succ_mul]
          refine Nat.add_le_add ihm ?_
          simp only [List.flatMap_cons, List.flatMap_nil, List.append_nil]
          split
          · exact Nat.zero_le _
          · exact ords_length n d hn _
      exact Nat.le_trans (this m) (Nat.mul_le_mul hm (Nat.pow_le_pow_right (by omega) (by omega)))
    refine Run.loop (L := fun q (z : List (List Int) × Int) => impl_orders.l0 q n b z.1 z.2) (fun z => (n - z.2).toNat) (fun z => 0 ≤ z.2 ∧ z.2 ≤ n ∧ z.1 = ((List.range z.2.toNat).flatMap fun (i : Nat) => if b.contains (i : Int) = true then [] else ords n d (b ++ [(i : Int)]))) ?_ ([], 0) ⟨by simp only; omega, by simp only; omega, rfl⟩
    rintro ⟨T, i⟩ ⟨h0, h3, hT⟩ ih
    simp only at h0 h3 hT
    subst hT
    simp only [impl_orders.l0]
    obtain ⟨i, rfl⟩ := Int.eq_ofNat_of_zero_le h0
    simp only [Int.toNat_natCast] at ih ⊢
    have hl := hlen i (by omega)
    refine Run.ite (fun h => ?_) (fun h => ?_)
    · rw [w64_id (x := (i : Int) + 1) (by omega)]
      refine Run.bindE (slices_Contains_int64_int64_run b i (by omega)) ?_
      refine Run.ite (fun hc => ?_) (fun hc => ?_)
      · refine ih (((List.range i).flatMap fun (i : Nat) => if b.contains (i : Int) = true then [] else ords n d (b ++ [(i : Int)])), (i : Int) + 1) ⟨by simp only; omega, by simp only; omega, ?_⟩ (by simp only; omega)
        simp only
        rw [show ((i : Int) + 1).toNat = i + 1 by omega, List.range_succ, List.flatMap_append]
        simp only [List.flatMap_cons, List.flatMap_nil, List.append_nil]
        rw [if_pos hc, List.append_nil]
      · refine Run.bindE (slices_Clone_int64_int64_run b (by omega)) ?_
        refine Run.bindE (Run.push' (by omega)) ?_
        refine Run.bindE (ihd (b ++ [(i : Int)]) (by simp; omega)) ?_
        have hol := ords_length n d hn (b ++ [(i : Int)])
        have h5d : 5 ^ d ≤ 5 ^ 5 := Nat.pow_le_pow_right (by omega) (by omega)
        refine Run.bindE (Run.concatR' (by omega)) ?_
        refine ih (_, (i : Int) + 1) ⟨by simp only; omega, by simp only; omega, ?_⟩ (by simp only; omega)
        simp only
        rw [show ((i : Int) + 1).toNat = i + 1 by omega, List.range_succ, List.flatMap_append]
        simp only [List.flatMap_cons, List.flatMap_nil, List.append_nil]
        rw [if_neg hc]
    · refine Run.ret ?_
      rw [show i = n by omega]; rfl

theorem impl_position_renumbered_run (n : Nat) (l p : List Int) (hn : n ≤ 5) (hl : l.length = tri n) (hp : goodP n p = true) (hc : coverP n p = true) : Run (fun k => impl_position_renumbered.f k n l p) (· = renumP l p n) := by
  unfold impl_position_renumbered.f
  have hg := goodP_at hp
  have hN : tri n ≤ 10 := tri_mono (n := 5) (by omega)
  refine Run.bind (Q := fun _ => True) (Run.guard (by omega) trivial) fun _ _ => ?_
  rw [← renum_zero (s := List.replicate (l.length : Int).toNat (0 : Int)) hl (by simp) hc]
  refine Run.loop (L := fun q (z : List Int × Int) => impl_position_renumbered.l0 q n l p z.1 z.2) (fun z => (n - z.2).toNat) (fun z => 0 ≤ z.2 ∧ z.2 ≤ n ∧ z.1 = sets (List.replicate (l.length : Int).toNat (0 : Int)) (opC p l z.2.toNat)) ?_ (_, 0) ⟨by simp only; omega, by simp only; omega, rfl⟩
  rintro ⟨s, j⟩ ⟨h0, h3, hs⟩ ih
  simp only at h0 h3 hs
  subst hs
  simp only [impl_position_renumbered.l0]
  obtain ⟨j, rfl⟩ := Int.eq_ofNat_of_zero_le (show 0 ≤ j by omega)
  simp only [Int.toNat_natCast] at ih ⊢
  refine Run.ite (fun h => ?_) (fun h => ?_)
  · refine Run.loop (L := fun q (z : List Int × Int) => impl_position_renumbered.l1 q n l p j z.1 z.2) (fun z => (j - z.2).toNat) (fun z => 0 ≤ z.2 ∧ z.2 ≤ j ∧ z.1 = sets (sets (List.replicate (l.length : Int).toNat (0 : Int)) (opC p l j)) (opB p l j z.2.toNat)) ?_ (_, 0) ⟨by simp only; omega, by simp only; omega, rfl⟩
    rintro ⟨s, i⟩ ⟨g0, g3, hs⟩ ih2
    simp only at g0 g3 hs
    subst hs
    simp only [impl_position_renumbered.l1]
    obtain ⟨i, rfl⟩ := Int.eq_ofNat_of_zero_le g0
    simp only [Int.toNat_natCast] at ih2 ⊢
    refine Run.ite (fun h' => ?_) (fun h' => ?_)
    · obtain ⟨a, ea, ha⟩ := hg.2.1 i (by omega)
      obtain ⟨b, eb, hb⟩ := hg.2.1 j (by omega)
      have hab : a ≠ b := fun e => hg.2.2 i j (by omega) (by omega) (by rw [ea, eb, e])
      have ea' : p[((i : Int)).toNat]'(by have := hg.1; omega) = (a : Int) := by rw [← ea]; exact (getD_at (by have := hg.1; omega)).symm
      have eb' : p[((j : Int)).toNat]'(by have := hg.1; omega) = (b : Int) := by rw [← eb]; exact (getD_at (by have := hg.1; omega)).symm
      refine Run.bindE (Run.getI' (by omega) (by have := hg.1; omega)) ?_
      refine Run.bindE (Run.getI' (by omega) (by have := hg.1; omega)) ?_
      rw [ea', eb']
      have t1 := edg_lt (i := a) (j := b) (p := n) ha hb hab
      have t2 := edg_lt (i := i) (j := j) (p := n) (by omega) (by omega) (by omega)
      refine Run.bindE (impl_number_run a b (by omega) (by omega)) ?_
      refine Run.bindE (impl_number_run i j (by omega) (by omega)) ?_
      refine Run.bindE (Run.getI' (by omega) (by omega)) ?_
      refine Run.bindE (Run.getI' (by omega) (by rw [sets_length, sets_length]; simp; omega)) ?_
      rw [w64_id (x := (i : Int) + 1) (by omega)]
      refine ih2 (_, (i : Int) + 1) ⟨by simp only; omega, by simp only; omega, ?_⟩ (by simp only; omega)
      simp only
      rw [show ((i : Int) + 1).toNat = i + 1 by omega, opB, sets_snoc, ea, eb]
      simp only [Int.toNat_natCast]
      rw [getD_at (l := l) (i := edg i j) (by omega)]
    · rw [w64_id (x := (j : Int) + 1) (by omega)]
      refine ih (_, (j : Int) + 1) ⟨by simp only; omega, by simp only; omega, ?_⟩ (by simp only; omega)
      simp only
      rw [show ((j : Int) + 1).toNat = j + 1 by omega, opC, sets_append, show i = j by omega]
      try rfl
  · refine Run.ret ?_
    rw [show j = n by omega]

theorem cmp_isNaN_int64_run (x : Int) : Run (fun _ => cmp_isNaN_int64.f x) (· = false) := by
  unfold cmp_isNaN_int64.f
  exact Run.ret (decide_eq_false fun h => h rfl)

theorem cmp_Compare_int64_run (x y : Int) : Run (fun _ => cmp_Compare_int64.f x y) (· = if x < y then -1 else if x > y then 1 else 0) := by
  unfold cmp_Compare_int64.f
  refine Run.bindE (cmp_isNaN_int64_run x) ?_
  refine Run.bindE (cmp_isNaN_int64_run y) ?_
  refine Run.no (by decide) (Run.no (by decide) ?_)
  refine Run.ite (fun h => Run.ret (by rw [if_pos h])) (fun h => ?_)
  rw [if_neg h]
  exact Run.ite (fun h => Run.ret (by rw [if_pos h])) (fun h => Run.ret (by rw [if_neg h]))

theorem slices_Compare_int64_int64_run (a b : List Int) (hl : a.length = b.length) (ha : a.length < 1000) : Run (fun k => slices_Compare_int64_int64.f k a b) (fun r => decide (r < 0) = ltL a b) := by
  unfold slices_Compare_int64_int64.f
  refine Run.loop (L := fun q (i : Int) => slices_Compare_int64_int64.l0 q a b i) (fun i => (a.length - i).toNat) (fun i => 0 ≤ i ∧ i ≤ a.length ∧ ltL a b = ltL (a.drop i.toNat) (b.drop i.toNat)) ?_ 0 ⟨by omega, by omega, rfl⟩
  rintro i ⟨h0, h3, hJ⟩ ih
  simp only [slices_Compare_int64_int64.l0]
  refine Run.ite (fun h => ?_) (fun h => ?_)
  · have hd : a.drop i.toNat = a[i.toNat]'(by omega) :: a.drop (i.toNat + 1) := List.drop_eq_getElem_cons (by omega)
    have hd' : b.drop i.toNat = b[i.toNat]'(by omega) :: b.drop (i.toNat + 1) := List.drop_eq_getElem_cons (by omega)
    refine Run.bindE (Run.getI' h0 h) ?_
    refine Run.no (by omega) ?_
    refine Run.bindE (Run.getI' h0 (by omega)) ?_
    refine Run.bindE (cmp_Compare_int64_run _ _) ?_
    by_cases h5 : a[i.toNat]'(by omega) = b[i.toNat]'(by omega)
    · refine Run.no (by rw [h5]; simp) ?_
      rw [w64_id (x := i + 1) (by omega)]
      refine ih (i + 1) ⟨by omega, by omega, ?_⟩ (by omega)
      rw [hJ, hd, hd', ltL, if_neg (fun hn => hn h5), show i.toNat + 1 = (i + 1).toNat by omega]
    · refine Run.yes (by split <;> (try split) <;> omega) ?_
      refine Run.ret ?_
      rw [hJ, hd, hd', ltL, if_pos h5]
      refine decide_eq_decide.mpr ?_
      split
      · omega
      · split <;> omega
  · refine Run.no (by omega) (Run.ret ?_)
    rw [hJ, List.drop_eq_nil_of_le (by omega)]; rfl
end Go.Proofs.Ytfbdcidedjocdaa.P
