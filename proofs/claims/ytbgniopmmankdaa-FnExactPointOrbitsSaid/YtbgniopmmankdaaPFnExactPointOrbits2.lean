/- What the pure functions come to, one by one (part 2). -/
import Derived.Test.YtbgniopmmankdaaPFnExactPointOrbits00
import Derived.Test.YtbgniopmmankdaaGFnExactPointOrbits11
namespace Go.Proofs.Ytbgniopmmankdaa.P
open Go Go.RowKit Go.Proofs.Ytbgniopmmankdaa.K Go.Proofs.Ytbgniopmmankdaa.G
set_option linter.unusedVariables false
set_option linter.unusedSimpArgs false

theorem laws_toByteA136_run (e : Nat → Int) : Run (fun k => laws_toByteA136.f k e) (· = cut e) := by
  unfold laws_toByteA136.f
  refine Run.loop (L := fun q (s : (Nat → Int) × Int) => laws_toByteA136.l0 q e s.1 s.2) (fun s => (136 - s.2).toNat) (fun s => 0 ≤ s.2 ∧ s.2 ≤ 136 ∧ s.1 = fun (j : Nat) => if (j : Int) < s.2 then e j else 0) ?_ (_, 0) ⟨by omega, by omega, by funext j; rw [if_neg]; show ¬ ((j : Int) < 0); omega⟩
  rintro ⟨s, i⟩ ⟨h0, h1, hs⟩ ih
  simp only at h0 h1 hs
  simp only [laws_toByteA136.l0]
  refine Run.ite (fun h => ?_) (fun h => ?_)
  · refine Run.bindE (Run.getB' h0 h) ?_
    refine Run.bindE (Run.getB' h0 h) ?_
    rw [w64_id (by omega)]
    refine ih (_, i + 1) ⟨by simp only; omega, by simp only; omega, ?_⟩ (by simp only; omega)
    funext j
    show upd s i.toNat (e i.toNat) j = if (j : Int) < i + 1 then e j else 0
    by_cases e1 : j = i.toNat
    · rw [e1, upd_same, if_pos (by omega)]
    · rw [upd_other e1, hs]
      show (if (j : Int) < i then e j else 0) = _
      by_cases e2 : (j : Int) < i
      · rw [if_pos e2, if_pos (by omega)]
      · rw [if_neg e2, if_neg (by omega)]
  · refine Run.ret ?_
    rw [hs]
    funext j
    show (if (j : Int) < i then e j else 0) = cut e j
    unfold cut
    by_cases e2 : (j : Int) < i
    · rw [if_pos e2, if_pos (by omega)]
    · rw [if_neg e2, if_neg (by omega)]

theorem laws_toColouring_run (x : Col) : Run (fun k => laws_toColouring.f k x) (· = cutC x) := by
  unfold laws_toColouring.f
  refine Run.bindE (laws_toByteA136_run _) ?_
  exact Run.ret rfl

theorem spec_l01In_run (n low high : Int) : Run (fun _ => spec_l01In.f n low high) (· = decide (low ≤ n ∧ n ≤ high)) := by
  unfold spec_l01In.f
  refine Run.ite (fun h => ?_) (fun h => ?_)
  · refine Run.ret (decide_eq_decide.mpr ?_); omega
  · refine Run.ret ((decide_eq_false ?_).symm); omega

theorem spec_l01Is_run (x : Col) (hx : ByteC x) : Run (fun k => spec_l01Is.f k x) (· = isB x) := by
  unfold spec_l01Is.f
  refine Run.bindE (spec_l01In_run _ _ _) ?_
  refine Run.itn (fun h1 => ?_) (fun h1 => ?_)
  · exact Run.ret (decide_eq_false fun h => h1 (decide_eq_true h.1)).symm
  refine Run.bindE (spec_l01In_run _ _ _) ?_
  refine Run.itn (fun h2 => ?_) (fun h2 => ?_)
  · exact Run.ret (decide_eq_false fun h => h2 (decide_eq_true h.2.1)).symm
  have hp := of_decide_eq_true h1
  have hk := of_decide_eq_true h2
  refine Run.loop (L := fun q (i : Int) => spec_l01Is.l0 q x i) (fun i => (136 - i).toNat) (fun i => 0 ≤ i ∧ i ≤ 136 ∧ ∀ j : Nat, (j : Int) < i → (if j < tri x.p.toNat then x.e j < x.k else x.e j = 0)) ?_ 0 ⟨by omega, by omega, fun j hj => by omega⟩
  rintro i ⟨h0, h3, hJ⟩ ih
  simp only [spec_l01Is.l0]
  have et : w64 (Int.tdiv (w64 (x.p * (w64 (x.p - 1)))) 2) = (tri x.p.toNat : Int) := by
    have := tri_int (n := x.p.toNat) (by omega)
    rwa [show ((x.p.toNat : Nat) : Int) = x.p by omega] at this
  refine Run.ite (fun h => ?_) (fun h => ?_)
  · rw [et]
    refine Run.ite (fun h4 => ?_) (fun h4 => ?_)
    · refine Run.bindE (Run.getB' h0 h) ?_
      have hb := hx i.toNat
      rw [w64_id (by omega)]
      refine Run.ite (fun h5 => ?_) (fun h5 => ?_)
      · refine Run.ret (decide_eq_false fun hc => ?_).symm
        have := hc.2.2 i.toNat (by omega)
        rw [if_pos (by omega)] at this; omega
      · rw [w64_id (by omega)]
        refine ih (i + 1) ⟨by omega, by omega, fun j hj => ?_⟩ (by omega)
        by_cases ej : (j : Int) < i
        · exact hJ j ej
        · obtain rfl : j = i.toNat := by omega
          rw [if_pos (by omega)]; omega
    · refine Run.bindE (Run.getB' h0 h) ?_
      refine Run.ite (fun h5 => ?_) (fun h5 => ?_)
      · refine Run.ret (decide_eq_false fun hc => ?_).symm
        have := hc.2.2 i.toNat (by omega)
        rw [if_neg (by omega)] at this; omega
      · rw [w64_id (by omega)]
        refine ih (i + 1) ⟨by omega, by omega, fun j hj => ?_⟩ (by omega)
        by_cases ej : (j : Int) < i
        · exact hJ j ej
        · obtain rfl : j = i.toNat := by omega
          rw [if_neg (by omega)]; omega
  · refine Run.ret (decide_eq_true ⟨hp, hk, fun j hj => hJ j (by omega)⟩).symm

theorem spec_l01Edge_run (i j : Nat) (hi : i ≤ 1000) (hj : j ≤ 1000) : Run (fun _ => spec_l01Edge.f i j) (· = (edg i j : Int)) := by
  unfold spec_l01Edge.f
  have ti := tri_mono hi
  have tj := tri_mono hj
  have tt : tri 1000 = 499500 := rfl
  refine Run.ite (fun h => ?_) (fun h => ?_)
  · refine Run.ret ?_
    rw [tri_int (by omega), w64_id (by omega), edg, if_pos (by omega)]; rfl
  · refine Run.ret ?_
    rw [tri_int (by omega), w64_id (by omega), edg, if_neg (by omega)]; rfl

theorem spec_l01At_run (x : Col) (hx : ByteC x) (hp : 0 ≤ x.p ∧ x.p ≤ 17) (i j : Nat) (hi : (i : Int) < x.p) (hj : (j : Int) < x.p) (hn : i ≠ j) : Run (fun _ => spec_l01At.f x i j) (· = colr x i j) := by
  unfold spec_l01At.f
  refine Run.bindE (spec_l01Edge_run i j (by omega) (by omega)) ?_
  have := edg_lt136 (i := i) (j := j) (p := x.p.toNat) (by omega) (by omega) (by omega) hn
  refine Run.bindE (Run.getB' (by omega) (by omega)) ?_
  have hb := hx ((edg i j : Nat) : Int).toNat
  exact Run.ret (w64_id (by omega))

theorem spec_l01Renamed_run (x : Col) (hx : ByteC x) (hp : 1 ≤ x.p ∧ x.p ≤ 17) (p : List Int) (hP : Perm x.p.toNat p) : Run (fun k => spec_l01Renamed.f k x p) (· = renM x p) := by
  unfold spec_l01Renamed.f
  have hl := hP.len
  refine Run.loop (L := fun q (z : Col × Int) => spec_l01Renamed.l0 q x p z.1 z.2) (fun z => (x.p - z.2).toNat) (fun z => 0 ≤ z.2 ∧ z.2 ≤ x.p ∧ z.1 = renAll x p z.2.toNat) ?_ (_, 1) ⟨by simp only; omega, by simp only; omega, rfl⟩
  rintro ⟨y, j⟩ ⟨j0, j1, hy⟩ ih
  simp only at j0 j1 hy
  obtain ⟨j, rfl⟩ := Int.eq_ofNat_of_zero_le j0
  simp only [Int.toNat_natCast] at ih hy ⊢
  simp only [spec_l01Renamed.l0]
  refine Run.ite (fun hj => ?_) (fun hj => Run.ret (by rw [hy, show j = x.p.toNat by omega]; rfl))
  refine Run.loop (L := fun q (z : Col × Int) => spec_l01Renamed.l1 q x p (j : Int) z.1 z.2) (fun z => (j - z.2).toNat) (fun z => 0 ≤ z.2 ∧ z.2 ≤ j ∧ z.1 = renRow x p j z.2.toNat (renAll x p j)) ?_ (y, 0) ⟨by simp only; omega, by simp only; omega, hy⟩
  rintro ⟨u, i⟩ ⟨i0, i1, hu⟩ ih2
  simp only at i0 i1 hu
  obtain ⟨i, rfl⟩ := Int.eq_ofNat_of_zero_le i0
  simp only [Int.toNat_natCast] at ih2 hu ⊢
  simp only [spec_l01Renamed.l1]
  refine Run.ite (fun hi => ?_) (fun hi => ?_)
  · have hij : i < j := by omega
    have hjn : j < x.p.toNat := by omega
    obtain ⟨a, ha, han⟩ := hP.val i (by omega)
    obtain ⟨b, hb, hbn⟩ := hP.val j hjn
    have hab : a ≠ b := fun e => hP.inj i j hij hjn (by rw [ha, hb, e])
    have ea : p[((i : Nat) : Int).toNat]'(by omega) = (a : Int) := by rw [← ha]; exact (getD_at (by omega)).symm
    have eb : p[((j : Nat) : Int).toNat]'(by omega) = (b : Int) := by rw [← hb]; exact (getD_at (by omega)).symm
    have h136 := edg_lt136 (i := a) (j := b) (p := x.p.toNat) (by omega) han hbn hab
    refine Run.bindE (Run.getI' (by omega) (by omega)) ?_
    refine Run.bindE (Run.getI' (by omega) (by omega)) ?_
    rw [ea, eb]
    refine Run.bindE (spec_l01Edge_run a b (by omega) (by omega)) ?_
    refine Run.bindE (spec_l01At_run x hx (by omega) i j (by omega) (by omega) (by omega)) ?_
    refine Run.bindE (Run.getB' (by omega) (by omega)) ?_
    rw [w64_id (x := (i : Int) + 1) (by omega)]
    refine ih2 (_, (i : Int) + 1) ⟨by simp only; omega, by simp only; omega, ?_⟩ (by simp only; omega)
    simp only [Int.toNat_natCast]
    rw [show ((i : Int) + 1).toNat = i + 1 by omega, renRow, ha, hb, hu]; rfl
  · rw [w64_id (x := (j : Int) + 1) (by omega)]
    refine ih (u, (j : Int) + 1) ⟨by simp only; omega, by simp only; omega, ?_⟩ (by simp only; omega)
    simp only
    rw [show ((j : Int) + 1).toNat = j + 1 by omega, renAll, hu, show i = j by omega]

theorem spec_l01Around_run (x : Col) (hx : ByteC x) (hp : 0 ≤ x.p ∧ x.p ≤ 17) (i : Nat) (c : Int) (hi : (i : Int) < x.p) : Run (fun k => spec_l01Around.f k x i c) (· = (mask (joinsB x i c) x.p.toNat : Int)) := by
  unfold spec_l01Around.f
  refine Run.loop (L := fun q (s : Int × Int) => spec_l01Around.l0 q x i c s.1 s.2) (fun s => (x.p - s.2).toNat) (fun s => 0 ≤ s.2 ∧ s.2 ≤ x.p ∧ s.1 = (mask (joinsB x i c) s.2.toNat : Int)) ?_ (0, 0) ⟨by simp only; omega, by simp only; omega, rfl⟩
  rintro ⟨s, j⟩ ⟨h0, h3, hs⟩ ih
  simp only at h0 h3 hs
  simp only [spec_l01Around.l0]
  obtain ⟨j, rfl⟩ := Int.eq_ofNat_of_zero_le h0
  simp only [Int.toNat_natCast] at hs
  refine Run.ite (fun h => ?_) (fun h => ?_)
  · have hm := mask_lt (joinsB x i c) j
    have hm2 : (2 : Nat) ^ j ≤ 2 ^ 17 := Nat.pow_le_pow_right (by omega) (by omega)
    rw [w64_id (x := (j : Int) + 1) (by omega)]
    refine Run.ite (fun h1 => ?_) (fun h1 => ?_)
    · refine Run.bindE (spec_l01At_run x hx hp i j hi h (by omega)) ?_
      refine Run.ite (fun h2 => ?_) (fun h2 => ?_)
      · have hj : joinsB x i c j = true := by rw [joinsB, decide_eq_true (p := i ≠ j) (by omega), h2]; simp
        rw [wu64_id (by omega), shl64 (by omega), hs, or64 (by omega) (by omega)]
        refine ih (_, (j : Int) + 1) ⟨by simp only; omega, by simp only; omega, ?_⟩ (by simp only; omega)
        simp only
        rw [show ((j : Int) + 1).toNat = j + 1 by omega, mask, if_pos hj]
      · have hj : ¬ joinsB x i c j = true := by rw [joinsB, decide_eq_false h2]; simp
        refine ih (_, (j : Int) + 1) ⟨by simp only; omega, by simp only; omega, ?_⟩ (by simp only; omega)
        simp only
        rw [show ((j : Int) + 1).toNat = j + 1 by omega, mask, if_neg hj, hs]
    · have hj : ¬ joinsB x i c j = true := by rw [joinsB, decide_eq_false (p := i ≠ j) (by omega)]; simp
      refine ih (_, (j : Int) + 1) ⟨by simp only; omega, by simp only; omega, ?_⟩ (by simp only; omega)
      simp only
      rw [show ((j : Int) + 1).toNat = j + 1 by omega, mask, if_neg hj, hs]
  · refine Run.ret ?_
    rw [hs, show x.p.toNat = j by omega]

theorem spec_l01Ones_run (s : Nat) (hs : s < 2 ^ 62) : Run (fun k => spec_l01Ones.f k (s : Int)) (· = (cnt s.testBit 62 : Int)) := by
  unfold spec_l01Ones.f
  refine Run.loop (L := fun q (z : Int × Int) => spec_l01Ones.l0 q z.1 z.2) (fun z => z.1.toNat) (fun z => ∃ v a n : Nat, z = ((v : Int), (a : Int)) ∧ v < 2 ^ n ∧ n ≤ 62 ∧ a ≤ 62 - n ∧ a + cnt v.testBit n = cnt s.testBit 62) ?_ (s, 0) ⟨s, 0, 62, rfl, hs, by omega, by omega, by omega⟩
  rintro _ ⟨v, a, n, rfl, hv, hn, ha, hc⟩ ih
  simp only [spec_l01Ones.l0]
  refine Run.ite (fun h => ?_) (fun h => ?_)
  · have hn0 : n ≠ 0 := by intro h0; subst h0; simp at hv; omega
    obtain ⟨n, rfl⟩ : ∃ m, n = m + 1 := ⟨n - 1, by omega⟩
    have hb : (2 : Nat) ^ (n + 1) ≤ 2 ^ 62 := Nat.pow_le_pow_right (by omega) hn
    have hp : (2 : Nat) ^ (n + 1) = 2 ^ n * 2 := Nat.pow_succ ..
    have e1 : Int.tdiv (v : Int) 2 = ((v / 2 : Nat) : Int) := rfl
    have e2 : Int.tmod (v : Int) 2 = ((v % 2 : Nat) : Int) := rfl
    rw [cnt_half] at hc
    rw [e1, e2, w64_id (x := ((v / 2 : Nat) : Int)) (by omega), w64_id (x := (a : Int) + ((v % 2 : Nat) : Int)) (by omega)]
    refine ih (((v / 2 : Nat) : Int), ((a + v % 2 : Nat) : Int)) ⟨v / 2, a + v % 2, n, rfl, by omega, by omega, by omega, by omega⟩ (by simp only; omega)
  · obtain rfl : v = 0 := by omega
    refine Run.ret ?_
    have : cnt (0 : Nat).testBit n = 0 := by
      unfold cnt
      rw [sel_congr (g := fun _ => false) fun j _ => by simp]
      have : sel (fun _ => false) n = [] := by simp [sel]
      rw [this]; rfl
    omega
end Go.Proofs.Ytbgniopmmankdaa.P
