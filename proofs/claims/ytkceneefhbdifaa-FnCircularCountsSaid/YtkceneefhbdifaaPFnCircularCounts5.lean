/- What the pure functions come to, one by one (part 5). -/
import Derived.Test.YtkceneefhbdifaaPFnCircularCounts4
import Derived.Test.YtkceneefhbdifaaGFnCircularCounts10
namespace Go.Proofs.Ytkceneefhbdifaa.P
open Go Go.RowKit Go.Proofs.Ytkceneefhbdifaa.K Go.Proofs.Ytkceneefhbdifaa.G
set_option linter.unusedVariables false
set_option linter.unusedSimpArgs false

theorem impl_circulars_run (n : Nat) (hn : 2 ≤ n ∧ n ≤ 13) (l : List Int) (hl : twoB l = true) : Run (fun k => impl_circulars.f k n l) (· = (circS n l).map fun v => circC n (bitsL (n / 2) v)) := by
  unfold impl_circulars.f
  have hp := pow_half hn.2
  have hS : circS n l = circF n l (2 ^ (n / 2)) := rfl
  generalize hN : 2 ^ (n / 2) = N at hp hS
  rw [hS]
  have hl' := hl
  unfold twoB at hl'
  rw [Bool.and_eq_true, decide_eq_true_eq] at hl'
  have h17 : allIn l 1 17 = true := List.all_eq_true.mpr fun v hv => decide_eq_true (by have := allIn_mem hl'.2 v hv; omega)
  have et : w64 (Int.tdiv (n : Int) 2) = ((n / 2 : Nat) : Int) := by
    have e1 : Int.tdiv (n : Int) 2 = ((n / 2 : Nat) : Int) := rfl
    rw [e1, w64_id (by omega)]
  rw [et]
  refine Run.bind (Q := fun _ => True) (Run.guard (by omega) trivial) fun _ _ => ?_
  refine Run.loop (L := fun q (z : List Col × Int) => impl_circulars.l0 q n l z.1 z.2) (fun z => (64 - z.2).toNat) (fun z => 0 ≤ z.2 ∧ z.2 ≤ (N : Int) ∧ z.1 = (circF n l z.2.toNat).map fun v => circC n (bitsL (n / 2) v)) ?_ ([], 0) ⟨by simp only; omega, by simp only; omega, rfl⟩
  rintro ⟨o, v⟩ ⟨v0, v1, ho⟩ ih
  simp only at v0 v1 ho
  obtain ⟨v, rfl⟩ := Int.eq_ofNat_of_zero_le v0
  simp only [Int.toNat_natCast] at ih ho ⊢
  simp only [impl_circulars.l0]
  rw [et, shl64 (by omega), hN]
  refine Run.ite (fun h => ?_) (fun h => Run.ret (by rw [ho, show v = N by omega]))
  rw [w64_id (x := ((n / 2 : Nat) : Int) - 1) (by omega)]
  refine Run.loop (L := fun q (z : List Int × Int) => impl_circulars.l1 q n l o v z.1 z.2) (fun z => (z.2 + 1).toNat) (fun z => -1 ≤ z.2 ∧ z.2 + 1 ≤ (n / 2 : Nat) ∧ z.1 = (bitsL (n / 2) v).take (n / 2 - (z.2 + 1).toNat)) ?_ ([], ((n / 2 : Nat) : Int) - 1) ⟨by simp only; omega, by simp only; omega, by simp only; rw [show n / 2 - (((n / 2 : Nat) : Int) - 1 + 1).toNat = 0 by omega]; rfl⟩
  rintro ⟨b, i⟩ ⟨i0, i1, hb⟩ ih2
  simp only at i0 i1 hb
  simp only [impl_circulars.l1]
  refine Run.ite (fun hi => ?_) (fun hi => ?_)
  · obtain ⟨i, rfl⟩ := Int.eq_ofNat_of_zero_le (a := i) (by omega)
    refine Run.bind (Q := fun _ => True) (Run.guard (by omega) trivial) fun _ _ => ?_
    rw [bit_and (by omega) (by omega)]
    refine Run.bindE (Run.push' (by rw [hb, List.length_take]; omega)) ?_
    rw [w64_id (x := (i : Int) - 1) (by omega)]
    refine ih2 (_, (i : Int) - 1) ⟨by simp only; omega, by simp only; omega, ?_⟩ (by simp only; omega)
    simp only
    have hbb := bitsL_at (v := v) (show n / 2 - (i + 1) < n / 2 by omega)
    rw [show n / 2 - 1 - (n / 2 - (i + 1)) = i by omega, getD_at (by rw [bitsL_len]; omega)] at hbb
    rw [show n / 2 - ((i : Int) - 1 + 1).toNat = (n / 2 - (i + 1)) + 1 by omega, hb, ← hbb, show n / 2 - ((i : Int) + 1).toNat = n / 2 - (i + 1) by omega, ← List.take_append_getElem]
  · have eb : b = bitsL (n / 2) v := by rw [hb, show n / 2 - (i + 1).toNat = n / 2 by omega, List.take_of_length_le (by rw [bitsL_len]; omega)]
    rw [eb]
    refine Run.bindE (impl_circularOf_run n 2 _ (by omega) (bitsL_len _ _)) ?_
    obtain ⟨hc, hbt⟩ := circC_col (n := n) (v := v) (by omega)
    have hav := impl_Colouring_avoids_run (circC n (bitsL (n / 2) v)) hbt hc.1 (by show 0 ≤ (2 : Int) ∧ (2 : Int) ≤ 1000; omega) l hl'.1 h17
    refine Run.bindE hav ?_
    rw [w64_id (x := (v : Int) + 1) (by omega)]
    have ev : ((v : Int) + 1).toNat = v + 1 := by omega
    refine Run.ite (fun hg => ?_) (fun hg => ?_)
    · have e := circF_yes (n := n) (s := l) (t := v) hg
      have hlen := circF_len n v l
      have hpush : pushC o (circC n (bitsL (n / 2) v)) = some (o ++ [circC n (bitsL (n / 2) v)]) := by unfold pushC; rw [if_pos (by rw [ho, List.length_map]; omega)]
      refine Run.bindE (Run.const hpush rfl) ?_
      refine ih (_, (v : Int) + 1) ⟨by simp only; omega, by simp only; omega, ?_⟩ (by simp only; omega)
      simp only; rw [ev, e, List.map_append, ho]; rfl
    · have e := circF_no (n := n) (s := l) (t := v) hg
      refine ih (_, (v : Int) + 1) ⟨by simp only; omega, by simp only; omega, ?_⟩ (by simp only; omega)
      simp only; rw [ev, e, ho]

theorem impl_FirstCircular_run (n : Int) (l : List Int) (hl : l.length ≤ 3) : Run (fun k => impl_FirstCircular.f k n l) (· = fstM n l) := by
  unfold impl_FirstCircular.f fstM circB
  refine Run.bindE (impl_in_run n 2 13) ?_
  refine Run.ite (fun h1 => ?_) (fun h1 => Run.ret (by rw [Bool.eq_false_iff.mpr h1]; rfl))
  rw [h1, Bool.true_and]
  refine Run.bindE (impl_areTwo_run l hl) ?_
  refine Run.ite (fun h2 => ?_) (fun h2 => Run.ret (by rw [if_neg h2]))
  rw [if_pos h2]
  have hn := of_decide_eq_true h1
  obtain ⟨n, rfl⟩ := Int.eq_ofNat_of_zero_le (a := n) (by omega)
  refine Run.bindE (impl_circulars_run n (by omega) l h2) ?_
  rw [List.length_map, Int.toNat_natCast]
  cases hq : circS n l with
  | nil => exact Run.yes rfl (Run.ret rfl)
  | cons v r =>
    refine Run.no (by rw [List.length_cons]; omega) ?_
    refine Run.bindE (Run.const (r := circC n (bitsL (n / 2) v)) rfl rfl) ?_
    exact Run.ret rfl

theorem spec_l01In_run (n low high : Int) : Run (fun _ => spec_l01In.f n low high) (· = decide (low ≤ n ∧ n ≤ high)) := by
  unfold spec_l01In.f
  refine Run.ite (fun h => ?_) (fun h => ?_)
  · refine Run.ret (decide_eq_decide.mpr ?_); omega
  · refine Run.ret ((decide_eq_false ?_).symm); omega

theorem spec_l03Code_run (n : Int) (l : List Int) (hl : l.length ≤ 3) : Run (fun _ => spec_l03Code.f n l) (· = if circB n l = true then 0 else 2) := by
  unfold spec_l03Code.f circB twoB
  refine Run.bindE (spec_l01In_run n 2 13) ?_
  refine Run.ite (fun h1 => ?_) (fun h1 => Run.ret (by rw [Bool.eq_false_iff.mpr h1]; rfl))
  rw [h1, Bool.true_and]
  refine Run.ite (fun h2 => Run.ret (by rw [decide_eq_false h2]; rfl)) (fun h2 => ?_)
  have h2' := Decidable.not_not.mp h2
  rw [decide_eq_true h2', Bool.true_and]
  match l, h2' with
  | [a, b], _ =>
    refine Run.bindE (Run.getI' (by omega) (by simp)) ?_
    refine Run.bindE (spec_l01In_run a 2 6) ?_
    refine Run.ite (fun h3 => ?_) (fun h3 => Run.ret (by unfold allIn; rw [List.all_cons, Bool.eq_false_iff.mpr h3]; rfl))
    refine Run.bindE (Run.getI' (by omega) (by simp)) ?_
    refine Run.bindE (spec_l01In_run b 2 6) ?_
    unfold allIn
    rw [List.all_cons, h3, Bool.true_and, List.all_cons, List.all_nil, Bool.and_true]
    exact Run.ite (fun h4 => Run.ret (by rw [if_pos h4])) (fun h4 => Run.ret (by rw [if_neg h4]))

theorem spec_l01Edge_run (i j : Nat) (hi : i ≤ 1000) (hj : j ≤ 1000) : Run (fun _ => spec_l01Edge.f i j) (· = (edg i j : Int)) := by
  unfold spec_l01Edge.f
  have ti := tri_mono hi
  have tj := tri_mono hj
  have tt : tri 1000 = 499500 := rfl
  refine Run.ite (fun h => ?_) (fun h => ?_)
  · refine Run.ret ?_
    rw [tri_int (by omega), w64_id (by omega), edg, if_pos (by omega)]; rfl
  · refine Run.ret ?_
    rw [tri_int (by omega), w64_id (by omega), edg, if_neg (by omega)]; rfl

theorem spec_l03Distance_run (i j n : Nat) (hij : i ≤ j) (hj : j ≤ n) (hn : n ≤ 1000) : Run (fun _ => spec_l03Distance.f i j n) (· = (min (j - i) (n - (j - i)) : Nat)) := by
  unfold spec_l03Distance.f
  refine Run.ret ?_
  rw [show max (i : Int) (j : Int) = j by omega, show min (i : Int) (j : Int) = i by omega, w64_id (x := (j : Int) - i) (by omega), w64_id (x := (n : Int) - ((j : Int) - i)) (by omega)]
  omega

theorem spec_l03Circular_run (n : Nat) (K : Int) (l : List Int) (hn : n ≤ 17) (h1n : 1 ≤ n) (hl : l.length = n / 2) : Run (fun k => spec_l03Circular.f k n K l) (· = ⟨n, K, madeE (fun i j => (l).getD (min (j - i) (n - (j - i)) - 1) 0) n⟩) := by
  unfold spec_l03Circular.f
  refine Run.loop (L := fun q (z : Col × Int) => spec_l03Circular.l0 q n l z.1 z.2) (fun z => (n - z.2).toNat) (fun z => 1 ≤ z.2 ∧ z.2 ≤ n ∧ z.1 = ⟨n, K, madeE (fun i j => (l).getD (min (j - i) (n - (j - i)) - 1) 0) z.2.toNat⟩) ?_ (_, 1) ⟨by simp only; omega, by simp only; omega, rfl⟩
  rintro ⟨y, j⟩ ⟨h0, h3, hy⟩ ih
  simp only at h0 h3 hy
  subst hy
  simp only [spec_l03Circular.l0]
  obtain ⟨j, rfl⟩ := Int.eq_ofNat_of_zero_le (show 0 ≤ j by omega)
  simp only [Int.toNat_natCast] at ih ⊢
  refine Run.ite (fun h => ?_) (fun h => ?_)
  · refine Run.loop (L := fun q (z : Col × Int) => spec_l03Circular.l1 q n l j z.1 z.2) (fun z => (j - z.2).toNat) (fun z => 0 ≤ z.2 ∧ z.2 ≤ j ∧ z.1 = ⟨n, K, rowE (fun i j => (l).getD (min (j - i) (n - (j - i)) - 1) 0) j (madeE (fun i j => (l).getD (min (j - i) (n - (j - i)) - 1) 0) j) z.2.toNat⟩) ?_ (_, 0) ⟨by simp only; omega, by simp only; omega, rfl⟩
    rintro ⟨y, i⟩ ⟨g0, g3, hy⟩ ih2
    simp only at g0 g3 hy
    subst hy
    simp only [spec_l03Circular.l1]
    obtain ⟨i, rfl⟩ := Int.eq_ofNat_of_zero_le g0
    simp only [Int.toNat_natCast] at ih2 ⊢
    refine Run.ite (fun h' => ?_) (fun h' => ?_)
    · refine Run.bindE (spec_l01Edge_run i j (by omega) (by omega)) ?_
      refine Run.bindE (spec_l03Distance_run i j n (by omega) (by omega) (by omega)) ?_
      rw [w64_id (x := ((min (j - i) (n - (j - i)) : Nat) : Int) - 1) (by omega)]
      refine Run.bindE (Run.getI' (by omega) (by omega)) ?_
      have := low136 (i := i) (j := j) (by omega) (by omega)
      rw [edg_low (by omega)]
      refine Run.bindE (Run.getB' (by omega) (by omega)) ?_
      rw [w64_id (x := (i : Int) + 1) (by omega)]
      refine ih2 (_, (i : Int) + 1) ⟨by simp only; omega, by simp only; omega, ?_⟩ (by simp only; omega)
      simp only [Col.setE, Int.toNat_natCast]
      have hgd : l.getD (min (j - i) (n - (j - i)) - 1) 0 = l[(((min (j - i) (n - (j - i)) : Nat) : Int) - 1).toNat]'(by omega) := by
        rw [List.getD_eq_getElem?_getD, List.getElem?_eq_getElem (by omega), Option.getD_some]
        congr 1
        omega
      rw [show ((i : Int) + 1).toNat = i + 1 by omega, rowE, hgd]
    · rw [w64_id (x := (j : Int) + 1) (by omega)]
      refine ih (_, (j : Int) + 1) ⟨by simp only; omega, by simp only; omega, ?_⟩ (by simp only; omega)
      simp only
      rw [show ((j : Int) + 1).toNat = j + 1 by omega, madeE, show i = j by omega]
  · refine Run.ret ?_
    rw [show j = n by omega]

theorem spec_l03Number_run (n v : Nat) (hn : 2 ≤ n ∧ n ≤ 13) (hv : v < 64) : Run (fun k => spec_l03Number.f k n v) (· = circC n (bitsL (n / 2) v)) := by
  unfold spec_l03Number.f
  have et : w64 (Int.tdiv (n : Int) 2) = ((n / 2 : Nat) : Int) := by
    have e1 : Int.tdiv (n : Int) 2 = ((n / 2 : Nat) : Int) := rfl
    rw [e1, w64_id (by omega)]
  refine Run.loop (L := fun q (z : List Int × Int) => spec_l03Number.l0 q n v z.1 z.2) (fun z => (n - z.2).toNat) (fun z => 1 ≤ z.2 ∧ z.2 ≤ (n / 2 : Nat) + 1 ∧ z.1 = (bitsL (n / 2) v).take (z.2.toNat - 1)) ?_ ([], 1) ⟨by simp only; omega, by simp only; omega, rfl⟩
  rintro ⟨l, d⟩ ⟨d0, d1, hd⟩ ih
  simp only at d0 d1 hd
  obtain ⟨d, rfl⟩ := Int.eq_ofNat_of_zero_le (a := d) (by omega)
  simp only [Int.toNat_natCast] at ih hd ⊢
  simp only [spec_l03Number.l0]
  rw [et]
  refine Run.ite (fun h => ?_) (fun h => ?_)
  · rw [show ((n / 2 : Nat) : Int) - (d : Int) = ((n / 2 - d : Nat) : Int) by omega, w64_id (x := ((n / 2 - d : Nat) : Int)) (by omega), wu64_id (by omega), bit_and (by omega) (by omega)]
    refine Run.bindE (Run.push' (by rw [hd, List.length_take]; omega)) ?_
    rw [w64_id (x := (d : Int) + 1) (by omega)]
    refine ih (_, (d : Int) + 1) ⟨by simp only; omega, by simp only; omega, ?_⟩ (by simp only; omega)
    simp only
    have hb := bitsL_at (v := v) (show d - 1 < n / 2 by omega)
    rw [show n / 2 - 1 - (d - 1) = n / 2 - d by omega, getD_at (by rw [bitsL_len]; omega)] at hb
    rw [show ((d : Int) + 1).toNat - 1 = (d - 1) + 1 by omega, hd, ← hb, ← List.take_append_getElem]
  · rw [hd, show d - 1 = n / 2 by omega, List.take_of_length_le (by rw [bitsL_len]; omega)]
    refine Run.bindE (spec_l03Circular_run n 2 _ (by omega) (by omega) (bitsL_len _ _)) ?_
    exact Run.ret rfl
end Go.Proofs.Ytkceneefhbdifaa.P
