/- What the pure functions come to, one by one (part 3). -/
import Derived.Test.YtfhbamlpnicomaaPFnExactMultipliersOf2
import Derived.Test.YtfhbamlpnicomaaGFnExactMultipliersOf6
namespace Go.Proofs.Ytfhbamlpnicomaa.P
open Go Go.RowKit Go.Proofs.Ytfhbamlpnicomaa.K Go.Proofs.Ytfhbamlpnicomaa.G
set_option linter.unusedVariables false
set_option linter.unusedSimpArgs false

theorem impl_made__circularOf_1_run (l : List Int) (K : Int) (n : Nat) (hn : n ≤ 17) (hl : l.length = n / 2) : Run (fun k => impl_made__circularOf_1.f k n K l n) (· = ⟨n, K, madeE (fun i j => (l).getD (min (j - i) (n - (j - i)) - 1) 0) n⟩) := by
  unfold impl_made__circularOf_1.f
  refine Run.loop (L := fun q (z : Col × Int) => impl_made__circularOf_1.l0 q n l n z.1 z.2) (fun z => (n - z.2).toNat) (fun z => 0 ≤ z.2 ∧ z.2 ≤ n ∧ z.1 = ⟨n, K, madeE (fun i j => (l).getD (min (j - i) (n - (j - i)) - 1) 0) z.2.toNat⟩) ?_ (_, 0) ⟨by simp only; omega, by simp only; omega, rfl⟩
  rintro ⟨y, j⟩ ⟨h0, h3, hy⟩ ih
  simp only at h0 h3 hy
  subst hy
  simp only [impl_made__circularOf_1.l0]
  obtain ⟨j, rfl⟩ := Int.eq_ofNat_of_zero_le h0
  simp only [Int.toNat_natCast] at ih ⊢
  refine Run.ite (fun h => ?_) (fun h => ?_)
  · refine Run.loop (L := fun q (z : Col × Int) => impl_made__circularOf_1.l1 q n l n j z.1 z.2) (fun z => (j - z.2).toNat) (fun z => 0 ≤ z.2 ∧ z.2 ≤ j ∧ z.1 = ⟨n, K, rowE (fun i j => (l).getD (min (j - i) (n - (j - i)) - 1) 0) j (madeE (fun i j => (l).getD (min (j - i) (n - (j - i)) - 1) 0) j) z.2.toNat⟩) ?_ (_, 0) ⟨by simp only; omega, by simp only; omega, rfl⟩
    rintro ⟨y, i⟩ ⟨g0, g3, hy⟩ ih2
    simp only at g0 g3 hy
    subst hy
    simp only [impl_made__circularOf_1.l1]
    obtain ⟨i, rfl⟩ := Int.eq_ofNat_of_zero_le g0
    simp only [Int.toNat_natCast] at ih2 ⊢
    refine Run.ite (fun h' => ?_) (fun h' => ?_)
    · refine Run.bindE (impl_circularOf_1_run i j n l (by omega) (by omega) hn hl) ?_
      refine Run.bindE (impl_Colouring_put_run _ i j _ (by omega) (by omega)) ?_
      rw [w64_id (x := (i : Int) + 1) (by omega)]
      refine ih2 (_, (i : Int) + 1) ⟨by simp only; omega, by simp only; omega, ?_⟩ (by simp only; omega)
      simp only
      rw [show ((i : Int) + 1).toNat = i + 1 by omega, rowE]
    · rw [w64_id (x := (j : Int) + 1) (by omega)]
      refine ih (_, (j : Int) + 1) ⟨by simp only; omega, by simp only; omega, ?_⟩ (by simp only; omega)
      simp only
      rw [show ((j : Int) + 1).toNat = j + 1 by omega, madeE, show i = j by omega]
  · refine Run.ret ?_
    rw [show j = n by omega]

theorem impl_circularOf_run (n : Nat) (K : Int) (l : List Int) (hn : n ≤ 17) (hl : l.length = n / 2) : Run (fun k => impl_circularOf.f k n K l) (· = ⟨n, K, madeE (fun i j => (l).getD (min (j - i) (n - (j - i)) - 1) 0) n⟩) := by
  unfold impl_circularOf.f
  refine Run.bindE (impl_made__circularOf_1_run l K n hn hl) ?_
  exact Run.ret rfl

theorem impl_Colouring_listOfCircular_run (x : Col) (hx : ByteC x) (hp : 0 ≤ x.p ∧ x.p ≤ 17) : Run (fun k => impl_Colouring_listOfCircular.f k x) (· = circM x) := by
  unfold impl_Colouring_listOfCircular.f
  rw [circM]
  refine Run.ite (fun h => Run.ret (by rw [if_pos h])) (fun h => ?_)
  rw [if_neg h]
  have et : w64 (Int.tdiv x.p 2) = ((x.p.toNat / 2 : Nat) : Int) := by
    have e0 : x.p = ((x.p.toNat : Nat) : Int) := by omega
    have e1 : Int.tdiv ((x.p.toNat : Nat) : Int) 2 = ((x.p.toNat / 2 : Nat) : Int) := rfl
    rw [e0, e1, Int.toNat_natCast, w64_id (by omega)]
  refine Run.loop (L := fun q (z : List Int × Int) => impl_Colouring_listOfCircular.l0 q x z.1 z.2) (fun z => (x.p - z.2).toNat) (fun z => 1 ≤ z.2 ∧ z.2 ≤ (x.p.toNat / 2 : Nat) + 1 ∧ z.1 = (List.range (z.2.toNat - 1)).map fun d => colr x 0 (d + 1)) ?_ ([], 1) ⟨by simp only; omega, by simp only; omega, rfl⟩
  rintro ⟨l, j⟩ ⟨h0, h3, hl⟩ ih
  simp only at h0 h3 hl
  subst hl
  simp only [impl_Colouring_listOfCircular.l0]
  rw [et]
  obtain ⟨j, rfl⟩ := Int.eq_ofNat_of_zero_le (show 0 ≤ j by omega)
  simp only [Int.toNat_natCast] at ih ⊢
  refine Run.ite (fun h => ?_) (fun h => ?_)
  · refine Run.bindE (impl_Colouring_at_run x hx hp 0 j (by omega) (by omega) (by omega)) ?_
    refine Run.bindE (Run.push' (by simp; omega)) ?_
    rw [w64_id (x := (j : Int) + 1) (by omega)]
    refine ih (_, (j : Int) + 1) ⟨by simp only; omega, by simp only; omega, ?_⟩ (by simp only; omega)
    simp only
    rw [show ((j : Int) + 1).toNat - 1 = (j - 1) + 1 by omega, List.range_succ, List.map_append, List.map_cons, List.map_nil, show j - 1 + 1 = j by omega]
  · rw [show j - 1 = x.p.toNat / 2 by omega]
    have hcirc := fun (n : Nat) (K : Int) (l : List Int) (hn : n ≤ 17) (h1 : 1 ≤ n) (hl : l.length = n / 2) => impl_circularOf_run n K l hn hl
    have := hcirc x.p.toNat x.k ((List.range (x.p.toNat / 2)).map fun d => colr x 0 (d + 1)) (by omega) (by omega) (by simp)
    rw [show ((x.p.toNat : Nat) : Int) = x.p by omega] at this
    refine Run.bindE this ?_
    exact Run.ret rfl

theorem impl_ListOfCircular_run (x : Col) (hx : ByteC x) : Run (fun k => impl_ListOfCircular.f k x) (· = listM x) := by
  unfold impl_ListOfCircular.f
  rw [listM]
  refine Run.bindE (impl_Colouring_code__always_run x hx) ?_
  by_cases h : isB x = true
  · rw [given, if_pos h, if_pos rfl, if_pos h]
    refine Run.no (fun h => h rfl) ?_
    have hp := (isB_spec h).1
    refine Run.bindE (impl_Colouring_listOfCircular_run x hx (by omega)) ?_
    exact Run.ite (fun h => Run.ret (by rw [if_pos h])) (fun h => Run.ret (by rw [if_neg h]))
  · rw [given, if_neg h, if_neg h]
    exact Run.yes (by decide) (Run.ret rfl)

theorem impl_divisor_run (a b : Nat) : Run (fun k => impl_divisor.f k a b) (· = (Nat.gcd a b : Int)) := by
  unfold impl_divisor.f
  refine Run.loop (L := fun q (z : Int × Int) => impl_divisor.l0 q z.1 z.2) (fun z => z.2.toNat) (fun z => ∃ u v : Nat, z = ((u : Int), (v : Int)) ∧ Nat.gcd u v = Nat.gcd a b) ?_ (a, b) ⟨a, b, rfl, rfl⟩
  rintro _ ⟨u, v, rfl, hg⟩ ih
  simp only [impl_divisor.l0]
  refine Run.ite (fun h => ?_) (fun h => ?_)
  · refine Run.bind (Q := fun _ => True) (Run.guard h trivial) fun _ _ => ?_
    have e : Int.tmod (u : Int) (v : Int) = ((u % v : Nat) : Int) := rfl
    rw [e]
    have hv : 0 < v := by omega
    have := Nat.mod_lt u hv
    refine ih ((v : Int), ((u % v : Nat) : Int)) ⟨v, u % v, rfl, ?_⟩ (by simp only; omega)
    rw [← hg, Nat.gcd_comm v, ← Nat.gcd_rec, Nat.gcd_comm]
  · obtain rfl : v = 0 := by omega
    refine Run.ret ?_
    rw [← hg, Nat.gcd_zero_right]

theorem impl_MultipliersOf_run (x : Col) (hx : ByteC x) : Run (fun k => impl_MultipliersOf.f k x) (· = multM x) := by
  unfold impl_MultipliersOf.f
  rw [multM]
  refine Run.bindE (impl_ListOfCircular_run x hx) ?_
  refine Run.ite (fun h => Run.ret (by rw [if_neg h])) (fun h => ?_)
  have hz := Decidable.not_not.mp h
  rw [if_pos hz]
  obtain ⟨h1, h', hl1⟩ := listM_yes hz
  have hp := (isB_spec h1).1
  obtain ⟨h2p, hL⟩ := circM_yes h'
  rw [hL] at hl1
  have hlen : (cList x).length = x.p.toNat / 2 := by simp [cList]
  have ep : x.p = ((x.p.toNat : Nat) : Int) := by omega
  generalize hP : x.p.toNat = P at *
  refine Run.loop (L := fun q (z : List Int × Int) => impl_MultipliersOf.l0 q x (listM x) z.1 z.2) (fun z => (x.p - z.2).toNat) (fun z => 1 ≤ z.2 ∧ z.2 ≤ x.p ∧ z.1 = sel (multB (cList x) P) z.2.toNat) ?_ ([], 1) ⟨by simp only; omega, by simp only; omega, by rw [show ((1 : Int)).toNat = 0 + 1 from rfl, sel_no (multB_zero (by omega))]; rfl⟩
  rintro ⟨l, j⟩ ⟨h0, h3, hl⟩ ih
  simp only at h0 h3 hl
  subst hl
  simp only [impl_MultipliersOf.l0]
  obtain ⟨j, rfl⟩ := Int.eq_ofNat_of_zero_le (show 0 ≤ j by omega)
  simp only [Int.toNat_natCast] at ih ⊢
  have yes : multB (cList x) P j = true → j < P → Run (fun q => impl_MultipliersOf.l0 q x (listM x) (sel (multB (cList x) P) j ++ [(j : Int)]) (j + 1)) (· = (sel (multB (cList x) P) P, 0)) := fun hm hj =>
    ih (_, (j : Int) + 1) ⟨by simp only; omega, by simp only; omega, by simp only; rw [show ((j : Int) + 1).toNat = j + 1 by omega, sel_yes hm]; try rfl⟩ (by simp only; omega)
  have no : ¬ multB (cList x) P j = true → j < P → Run (fun q => impl_MultipliersOf.l0 q x (listM x) (sel (multB (cList x) P) j) (j + 1)) (· = (sel (multB (cList x) P) P, 0)) := fun hm hj =>
    ih (_, (j : Int) + 1) ⟨by simp only; omega, by simp only; omega, by simp only; rw [show ((j : Int) + 1).toNat = j + 1 by omega, sel_no hm]; try rfl⟩ (by simp only; omega)
  refine Run.ite (fun hjp => ?_) (fun hjp => ?_)
  · have hgcd := impl_divisor_run j P
    rw [← ep] at hgcd
    refine Run.bindE hgcd ?_
    refine Run.loop (L := fun q (z : Bool × Int) => impl_MultipliersOf.l1 q x (listM x) (sel (multB (cList x) P) j) j z.1 z.2) (fun z => (x.p - z.2).toNat) (fun z => 0 ≤ z.2 ∧ z.2 ≤ (P / 2 : Nat) ∧ z.1 = multTo (cList x) P j z.2.toNat) ?_ (decide ((Nat.gcd j P : Int) = 1), 0) ⟨by simp only; omega, by simp only; omega, by show decide ((Nat.gcd j P : Int) = 1) = decide (Nat.gcd j P = 1); exact decide_eq_decide.mpr (by omega)⟩
    rintro ⟨b, d⟩ ⟨g0, g3, hb⟩ ih2
    simp only at g0 g3 hb
    subst hb
    simp only [impl_MultipliersOf.l1]
    rw [hl1, hlen, w64_id (x := (j : Int) + 1) (by omega)]
    obtain ⟨d, rfl⟩ := Int.eq_ofNat_of_zero_le g0
    simp only [Int.toNat_natCast] at ih2 ⊢
    refine Run.ite (fun hd => ?_) (fun hd => ?_)
    · refine Run.bindE (Run.getI' (by omega) (by omega)) ?_
      rw [w64_id (x := (d : Int) + 1) (by omega)]
      refine Run.ite (fun hb => ?_) (fun hb => ?_)
      · refine Run.bind (Q := fun _ => True) (Run.guard (by omega) trivial) fun _ _ => ?_
        obtain ⟨r1, r2⟩ := mult_r (multTo_gcd hb) (d := d + 1) (by omega) (by omega)
        have hmul : j * (d + 1) ≤ 17 * 17 := Nat.mul_le_mul (by omega) (by omega)
        have em : (j : Int) * ((d : Int) + 1) = ((j * (d + 1) : Nat) : Int) := by push_cast; rfl
        have er : Int.tmod (w64 ((j : Int) * ((d : Int) + 1))) x.p = ((j * (d + 1) % P : Nat) : Int) := by
          rw [em, w64_id (by omega), ep]; rfl
        rw [er]
        have hdist := impl_distance_run 0 (j * (d + 1) % P) P (by omega) (by omega) (by omega)
        rw [← ep] at hdist
        refine Run.bindE hdist ?_
        rw [Nat.sub_zero, w64_id (by omega)]
        refine Run.bindE (Run.getI' (by omega) (by omega)) ?_
        refine ih2 (_, (d : Int) + 1) ⟨by simp only; omega, by simp only; omega, ?_⟩ (by simp only; omega)
        simp only
        rw [show ((d : Int) + 1).toNat = d + 1 by omega, multTo_succ, hb, Bool.true_and]
        refine decide_eq_decide.mpr ?_
        rw [getD_at (l := cList x) (i := d) (by omega), getD_at (l := cList x) (i := min (j * (d + 1) % P) (P - j * (d + 1) % P) - 1) (by omega)]
        have q2 : (((min (j * (d + 1) % P) (P - j * (d + 1) % P) : Nat) : Int) - 1).toNat = min (j * (d + 1) % P) (P - j * (d + 1) % P) - 1 := by omega
        simp only [q2, Int.toNat_natCast]
        exact eq_comm
      · refine ih2 (_, (d : Int) + 1) ⟨by simp only; omega, by simp only; omega, ?_⟩ (by simp only; omega)
        simp only
        rw [show ((d : Int) + 1).toNat = d + 1 by omega, multTo_succ, Bool.eq_false_iff.mpr hb, Bool.false_and]
    · refine Run.ite (fun hb => ?_) (fun hb => ?_)
      · have hlen2 := sel_length (multB (cList x) P) j
        refine Run.bindE (Run.push' (by omega)) ?_
        exact yes (by rw [multB_eq, ← show d = P / 2 by omega]; exact hb) (by omega)
      · exact no (fun hm => hb (by rw [multB_eq, ← show d = P / 2 by omega] at hm; exact hm)) (by omega)
  · refine Run.ret ?_
    rw [show j = P by omega]
end Go.Proofs.Ytfhbamlpnicomaa.P
