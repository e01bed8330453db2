/- What the pure functions come to, one by one (part 2). -/
import Derived.Test.YtfhbamlpnicomaaPFnExactMultipliersOf1
import Derived.Test.YtfhbamlpnicomaaGFnExactMultipliersOf6
namespace Go.Proofs.Ytfhbamlpnicomaa.P
open Go Go.RowKit Go.Proofs.Ytfhbamlpnicomaa.K Go.Proofs.Ytfhbamlpnicomaa.G
set_option linter.unusedVariables false
set_option linter.unusedSimpArgs false

theorem spec_MultipliersOf_run (x : Col) (hx : ByteC x) : Run (fun k => spec_MultipliersOf.f k x) (· = multM x) := by
  unfold spec_MultipliersOf.f
  rw [multM]
  refine Run.bindE (spec_l01Is_run x hx) ?_
  refine Run.itn (fun h => Run.ret (by rw [listM, if_neg h, if_neg (by decide)])) (fun h => ?_)
  have hp := (isB_spec h).1
  refine Run.bindE (spec_l03List_run x hx (by omega)) ?_
  refine Run.itn (fun h' => Run.ret (by rw [listM, if_pos h, if_neg h', if_neg (by decide)])) (fun h' => ?_)
  obtain ⟨h2p, hL⟩ := circM_yes h'
  rw [listM, if_pos h, if_pos h', if_pos rfl]
  have hlen : (cList x).length = x.p.toNat / 2 := by simp [cList]
  have et : w64 (Int.tdiv x.p 2) = ((x.p.toNat / 2 : Nat) : Int) := by
    have e0 : x.p = ((x.p.toNat : Nat) : Int) := by omega
    have e1 : Int.tdiv ((x.p.toNat : Nat) : Int) 2 = ((x.p.toNat / 2 : Nat) : Int) := rfl
    rw [e0, e1, Int.toNat_natCast, w64_id (by omega)]
  have ep : x.p = ((x.p.toNat : Nat) : Int) := by omega
  generalize hP : x.p.toNat = P at *
  refine Run.loop (L := fun q (z : List Int × Int) => spec_MultipliersOf.l0 q x (circM x) z.1 z.2) (fun z => (x.p - z.2).toNat) (fun z => 1 ≤ z.2 ∧ z.2 ≤ x.p ∧ z.1 = sel (multB (cList x) P) z.2.toNat) ?_ ([], 1) ⟨by simp only; omega, by simp only; omega, by rw [show ((1 : Int)).toNat = 0 + 1 from rfl, sel_no (multB_zero (by omega))]; rfl⟩
  rintro ⟨l, j⟩ ⟨h0, h3, hl⟩ ih
  simp only at h0 h3 hl
  subst hl
  simp only [spec_MultipliersOf.l0]
  obtain ⟨j, rfl⟩ := Int.eq_ofNat_of_zero_le (show 0 ≤ j by omega)
  simp only [Int.toNat_natCast] at ih ⊢
  have yes : multB (cList x) P j = true → j < P → Run (fun q => spec_MultipliersOf.l0 q x (circM x) (sel (multB (cList x) P) j ++ [(j : Int)]) (j + 1)) (· = (sel (multB (cList x) P) P, 0)) := fun hm hj =>
    ih (_, (j : Int) + 1) ⟨by simp only; omega, by simp only; omega, by simp only; rw [show ((j : Int) + 1).toNat = j + 1 by omega, sel_yes hm]; try rfl⟩ (by simp only; omega)
  have no : ¬ multB (cList x) P j = true → j < P → Run (fun q => spec_MultipliersOf.l0 q x (circM x) (sel (multB (cList x) P) j) (j + 1)) (· = (sel (multB (cList x) P) P, 0)) := fun hm hj =>
    ih (_, (j : Int) + 1) ⟨by simp only; omega, by simp only; omega, by simp only; rw [show ((j : Int) + 1).toNat = j + 1 by omega, sel_no hm]; try rfl⟩ (by simp only; omega)
  refine Run.ite (fun hjp => ?_) (fun hjp => ?_)
  · have hgcd := spec_l03Gcd_run j P
    rw [← ep] at hgcd
    refine Run.bindE hgcd ?_
    refine Run.loop (L := fun q (z : Bool × Int) => spec_MultipliersOf.l1 q x (circM x) (sel (multB (cList x) P) j) j z.1 z.2) (fun z => (x.p - z.2).toNat) (fun z => 1 ≤ z.2 ∧ z.2 ≤ (P / 2 : Nat) + 1 ∧ z.1 = multTo (cList x) P j (z.2.toNat - 1)) ?_ (decide ((Nat.gcd j P : Int) = 1), 1) ⟨by simp only; omega, by simp only; omega, by show decide ((Nat.gcd j P : Int) = 1) = decide (Nat.gcd j P = 1); exact decide_eq_decide.mpr (by omega)⟩
    rintro ⟨b, d⟩ ⟨g0, g3, hb⟩ ih2
    simp only at g0 g3 hb
    subst hb
    simp only [spec_MultipliersOf.l1]
    rw [et, w64_id (x := (j : Int) + 1) (by omega)]
    obtain ⟨d, rfl⟩ : ∃ e : Nat, d = (e : Int) + 1 := ⟨(d - 1).toNat, by omega⟩
    rw [show ((d : Int) + 1).toNat - 1 = d by omega] at ih2 ⊢
    refine Run.ite (fun hd => ?_) (fun hd => ?_)
    · refine Run.ite (fun hb => ?_) (fun hb => ?_)
      · rw [hL, w64_id (x := (d : Int) + 1 - 1) (by omega)]
        refine Run.bindE (Run.getI' (by omega) (by omega)) ?_
        refine Run.bind (Q := fun _ => True) (Run.guard (by omega) trivial) fun _ _ => ?_
        obtain ⟨r1, r2⟩ := mult_r (multTo_gcd hb) (d := d + 1) (by omega) (by omega)
        have hmul : j * (d + 1) ≤ 17 * 17 := Nat.mul_le_mul (by omega) (by omega)
        have em : (j : Int) * ((d : Int) + 1) = ((j * (d + 1) : Nat) : Int) := by push_cast; rfl
        have er : Int.tmod (w64 ((j : Int) * ((d : Int) + 1))) x.p = ((j * (d + 1) % P : Nat) : Int) := by
          rw [em, w64_id (by omega), ep]; rfl
        rw [er]
        have hdist := spec_l03Distance_run 0 (j * (d + 1) % P) P (by omega) (by omega) (by omega)
        rw [← ep] at hdist
        refine Run.bindE hdist ?_
        rw [Nat.sub_zero, w64_id (by omega)]
        refine Run.bindE (Run.getI' (by omega) (by omega)) ?_
        rw [w64_id (x := (d : Int) + 1 + 1) (by omega)]
        refine ih2 (_, (d : Int) + 1 + 1) ⟨by simp only; omega, by simp only; omega, ?_⟩ (by simp only; omega)
        simp only
        rw [show ((d : Int) + 1 + 1).toNat - 1 = d + 1 by omega, multTo_succ, hb, Bool.true_and]
        refine decide_eq_decide.mpr ?_
        rw [getD_at (l := cList x) (i := d) (by omega), getD_at (l := cList x) (i := min (j * (d + 1) % P) (P - j * (d + 1) % P) - 1) (by omega)]
        have q1 : ((d : Int) + 1 - 1).toNat = d := by omega
        have q2 : (((min (j * (d + 1) % P) (P - j * (d + 1) % P) : Nat) : Int) - 1).toNat = min (j * (d + 1) % P) (P - j * (d + 1) % P) - 1 := by omega
        simp only [q1, q2]
      · refine no (fun hm => hb ?_) (by omega)
        rw [multTo_of hm (by omega)]
    · refine Run.ite (fun hb => ?_) (fun hb => ?_)
      · have hlen2 := sel_length (multB (cList x) P) j
        refine Run.bindE (Run.push' (by omega)) ?_
        exact yes (by rw [multB_eq, ← show d = P / 2 by omega]; exact hb) (by omega)
      · exact no (fun hm => hb (by rw [multB_eq, ← show d = P / 2 by omega] at hm; exact hm)) (by omega)
  · refine Run.ret ?_
    rw [show j = P by omega]

theorem impl_in_run (n low high : Int) : Run (fun _ => impl_in.f n low high) (· = decide (low ≤ n ∧ n ≤ high)) := by
  unfold impl_in.f
  refine Run.ite (fun h => ?_) (fun h => ?_)
  · refine Run.ret (decide_eq_decide.mpr ?_); omega
  · refine Run.ret ((decide_eq_false ?_).symm); omega

theorem impl_Colouring_edges_run (x : Col) (hp : 0 ≤ x.p ∧ x.p ≤ 1000) : Run (fun _ => impl_Colouring_edges.f x) (· = (tri x.p.toNat : Int)) := by
  unfold impl_Colouring_edges.f
  have := tri_int (n := x.p.toNat) (by omega)
  rw [show ((x.p.toNat : Nat) : Int) = x.p by omega] at this
  exact Run.ret this

theorem impl_Colouring_isColouring_run (x : Col) (hx : ByteC x) : Run (fun k => impl_Colouring_isColouring.f k x) (· = isB x) := by
  unfold impl_Colouring_isColouring.f
  refine Run.bindE (impl_in_run _ _ _) ?_
  refine Run.itn (fun h1 => ?_) (fun h1 => ?_)
  · exact Run.ret (decide_eq_false fun h => h1 (decide_eq_true h.1)).symm
  refine Run.bindE (impl_in_run _ _ _) ?_
  refine Run.itn (fun h2 => ?_) (fun h2 => ?_)
  · exact Run.ret (decide_eq_false fun h => h2 (decide_eq_true h.2.1)).symm
  have hp := of_decide_eq_true h1
  have hk := of_decide_eq_true h2
  refine Run.loop (L := fun q (i : Int) => impl_Colouring_isColouring.l0 q x i) (fun i => (136 - i).toNat) (fun i => 0 ≤ i ∧ i ≤ 136 ∧ ∀ j : Nat, (j : Int) < i → (if j < tri x.p.toNat then x.e j < x.k else x.e j = 0)) ?_ 0 ⟨by omega, by omega, fun j hj => by omega⟩
  rintro i ⟨h0, h3, hJ⟩ ih
  simp only [impl_Colouring_isColouring.l0]
  refine Run.ite (fun h => ?_) (fun h => ?_)
  · refine Run.bindE (Run.getB' h0 h) ?_
    have hb := hx i.toNat
    rw [w64_id (x := x.e i.toNat) (by omega)]
    refine Run.ite (fun h5 => ?_) (fun h5 => ?_)
    · refine Run.ret (decide_eq_false fun hc => ?_).symm
      have := hc.2.2 i.toNat (by omega)
      by_cases h6 : i.toNat < tri x.p.toNat
      · rw [if_pos h6] at this; omega
      · rw [if_neg h6] at this; omega
    · refine Run.bindE (impl_Colouring_edges_run x (by omega)) ?_
      rw [w64_id (x := i + 1) (by omega)]
      refine Run.ite (fun h4 => ?_) (fun h4 => ?_)
      · refine Run.ite (fun h7 => ?_) (fun h7 => ?_)
        · refine Run.ret (decide_eq_false fun hc => ?_).symm
          have := hc.2.2 i.toNat (by omega)
          rw [if_neg (by omega)] at this; omega
        · refine ih (i + 1) ⟨by omega, by omega, fun j hj => ?_⟩ (by omega)
          by_cases ej : (j : Int) < i
          · exact hJ j ej
          · obtain rfl : j = i.toNat := by omega
            rw [if_neg (by omega)]; omega
      · refine ih (i + 1) ⟨by omega, by omega, fun j hj => ?_⟩ (by omega)
        by_cases ej : (j : Int) < i
        · exact hJ j ej
        · obtain rfl : j = i.toNat := by omega
          rw [if_pos (by omega)]; omega
  · refine Run.ret (decide_eq_true ⟨hp, hk, fun j hj => hJ j (by omega)⟩).symm

theorem impl_always_run : Run (fun _ => impl_always.f) (· = true) := by
  unfold impl_always.f
  exact Run.ret rfl

theorem impl_Colouring_code__always_run (x : Col) (hx : ByteC x) : Run (fun k => impl_Colouring_code__always.f k x) (· = given (isB x) true) := by
  unfold impl_Colouring_code__always.f
  refine Run.bindE (impl_Colouring_isColouring_run x hx) ?_
  refine Run.itn (fun h1 => ?_) (fun h1 => ?_)
  · exact Run.ret (by rw [given, if_neg h1])
  rw [given, if_pos h1]
  refine Run.bindE (impl_always_run) ?_
  exact Run.ite (fun h3 => Run.ret (by rw [if_pos h3])) (fun h3 => Run.ret (by rw [if_neg h3]))

theorem impl_number_run (i j : Nat) (hi : i ≤ 1000) (hj : j ≤ 1000) : Run (fun _ => impl_number.f i j) (· = (edg i j : Int)) := by
  unfold impl_number.f
  have hm : (max i j) ≤ 1000 := by omega
  have ti := tri_mono hm
  have tt : tri 1000 = 499500 := rfl
  rw [show max (i : Int) (j : Int) = ((max i j : Nat) : Int) by omega, show min (i : Int) (j : Int) = ((min i j : Nat) : Int) by omega]
  refine Run.ret ?_
  rw [tri_int (by omega), w64_id (by omega), edg]
  split
  · rw [show max i j = i by omega, show min i j = j by omega]; rfl
  · rw [show max i j = j by omega, show min i j = i by omega]; rfl

theorem impl_Colouring_at_run (x : Col) (hx : ByteC x) (hp : 0 ≤ x.p ∧ x.p ≤ 17) (i j : Nat) (hi : (i : Int) < x.p) (hj : (j : Int) < x.p) (hn : i ≠ j) : Run (fun _ => impl_Colouring_at.f x i j) (· = colr x i j) := by
  unfold impl_Colouring_at.f
  refine Run.bindE (impl_number_run i j (by omega) (by omega)) ?_
  have := edg_lt136 (i := i) (j := j) (p := x.p.toNat) (by omega) (by omega) (by omega) hn
  refine Run.bindE (Run.getB' (by omega) (by omega)) ?_
  have hb := hx ((edg i j : Nat) : Int).toNat
  exact Run.ret (w64_id (by omega))

theorem impl_distance_run (i j n : Nat) (hij : i ≤ j) (hj : j ≤ n) (hn : n ≤ 1000) : Run (fun _ => impl_distance.f n i j) (· = (min (j - i) (n - (j - i)) : Nat)) := by
  unfold impl_distance.f
  refine Run.ret ?_
  rw [show max (i : Int) (j : Int) = j by omega, show min (i : Int) (j : Int) = i by omega, w64_id (x := (j : Int) - i) (by omega), w64_id (x := (n : Int) - ((j : Int) - i)) (by omega)]
  omega

theorem impl_circularOf_1_run (i j n : Nat) (l : List Int) (hij : i < j) (hj : j < n) (hn : n ≤ 17) (hl : l.length = n / 2) : Run (fun _ => impl_circularOf_1.f i j l n) (· = l.getD (min (j - i) (n - (j - i)) - 1) 0) := by
  unfold impl_circularOf_1.f
  refine Run.bindE (impl_distance_run i j n (by omega) (by omega) (by omega)) ?_
  rw [w64_id (by omega)]
  refine Run.bindE (Run.getI' (by omega) (by omega)) ?_
  refine Run.ret ?_
  rw [List.getD_eq_getElem?_getD, List.getElem?_eq_getElem (by omega), Option.getD_some]
  congr 1
  omega

theorem impl_Colouring_put_run (x : Col) (i j : Nat) (c : Int) (hi : i < j) (hj : j < 17) : Run (fun _ => impl_Colouring_put.f x i j c) (· = ⟨x.p, x.k, upd x.e (tri j + i) (w8 c)⟩) := by
  unfold impl_Colouring_put.f
  refine Run.bindE (impl_number_run i j (by omega) (by omega)) ?_
  have := low136 hi hj
  rw [edg_low hi]
  refine Run.bindE (Run.getB' (by omega) (by omega)) ?_
  exact Run.ret rfl
end Go.Proofs.Ytfhbamlpnicomaa.P
