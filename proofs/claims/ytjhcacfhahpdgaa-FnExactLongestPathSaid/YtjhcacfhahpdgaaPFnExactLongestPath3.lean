/- What the pure functions come to, one by one (part 3). -/
import Derived.Test.YtjhcacfhahpdgaaPFnExactLongestPath2
import Derived.Test.YtjhcacfhahpdgaaGFnExactLongestPath8
namespace Go.Proofs.Ytjhcacfhahpdgaa.P
open Go Go.RowKit Go.Proofs.Ytjhcacfhahpdgaa.K Go.Proofs.Ytjhcacfhahpdgaa.G
set_option linter.unusedVariables false
set_option linter.unusedSimpArgs false

theorem spec_l04Ends_run (x : Col) (c : Int) (hp : 0 ≤ x.p ∧ x.p ≤ 17) : Run (fun k => spec_l04Ends.f k (rowsM x c x.p.toNat)) (EndsOf (fun i j => joinsB x i c j) x.p.toNat) := by
  unfold spec_l04Ends.f
  rw [rowsM_length]
  have hm2 : (2 : Nat) ^ x.p.toNat ≤ 2 ^ 17 := Nat.pow_le_pow_right (by omega) (by omega)
  have hpos : 0 < 2 ^ x.p.toNat := Nat.pow_pos (by omega)
  have hsh : shlI .i64 1 (wu64 ((x.p.toNat : Nat) : Int)) = ((2 ^ x.p.toNat : Nat) : Int) := by rw [wu64_id (by omega), shl64 (by omega)]
  rw [hsh]
  obtain ⟨A, hA⟩ : ∃ A, A = 2 ^ x.p.toNat := ⟨_, rfl⟩
  rw [← hA] at hm2 hpos ⊢
  refine Run.bind (Q := fun _ => True) (Run.guard (by omega) trivial) fun _ _ => ?_
  rw [Int.toNat_natCast]
  refine Run.loop (L := fun q (z : List Int × Int) => spec_l04Ends.l0 q (rowsM x c x.p.toNat) z.1 z.2) (fun z => 2 * (A - z.2).toNat) (fun z => 1 ≤ z.2 ∧ z.2 ≤ A ∧ z.1.length = A ∧ ∀ S : Nat, S < A → z.1.getD S 0 = if (S : Int) < z.2 then (mask (eM (fun i j => joinsB x i c j) x.p.toNat S) x.p.toNat : Int) else 0) ?_ (List.replicate A 0, 1) ⟨by simp only; omega, by simp only; omega, by simp, fun S hS => ?_⟩
  rotate_left
  · simp only
    rw [getD_at (by rw [List.length_replicate]; exact hS), List.getElem_replicate]
    split
    · next h =>
      have : mask (eM (fun i j => joinsB x i c j) x.p.toNat S) x.p.toNat = 0 := by
        apply Decidable.byContradiction
        intro hn
        obtain ⟨q, _, hq⟩ := mask_nz.mp hn
        rw [show S = 0 by omega, eM_zero] at hq; cases hq
      rw [this]; rfl
    · rfl
  rintro ⟨L, t⟩ ⟨t0, t1, hl, hL⟩ ih
  simp only at t0 t1 hl hL
  obtain ⟨t, rfl⟩ := Int.eq_ofNat_of_zero_le (show 0 ≤ t by omega)
  simp only [spec_l04Ends.l0]
  refine Run.ite (fun h => ?_) (fun h => ?_)
  rotate_left
  · refine Run.ret ⟨by rw [hl, hA], fun S hS => ?_⟩
    rw [hL S (by omega), if_pos (by omega)]
  have htA : t < 2 ^ x.p.toNat := by omega
  refine Run.loop (L := fun q (z : List Int × Int) => spec_l04Ends.l1 q (rowsM x c x.p.toNat) (t : Int) z.1 z.2) (fun z => (x.p - z.2).toNat) (fun z => 0 ≤ z.2 ∧ z.2 ≤ x.p ∧ z.1.length = A ∧ ∀ S : Nat, S < A → z.1.getD S 0 = if (S : Int) < t then (mask (eM (fun i j => joinsB x i c j) x.p.toNat S) x.p.toNat : Int) else if S = t then (mask (eM (fun i j => joinsB x i c j) x.p.toNat S) z.2.toNat : Int) else 0) ?_ (L, 0) ⟨by simp only; omega, by simp only; omega, hl, fun S hS => ?_⟩
  rotate_left
  · simp only
    rw [hL S hS]
    split
    · rfl
    · split <;> rfl
  rintro ⟨K, p⟩ ⟨p0, p1, hk, hK⟩ ih2
  simp only at p0 p1 hk hK
  obtain ⟨p, rfl⟩ := Int.eq_ofNat_of_zero_le p0
  simp only [Int.toNat_natCast] at ih2 hK ⊢
  simp only [spec_l04Ends.l1, rowsM_length]
  refine Run.ite (fun hpn => ?_) (fun hpn => ?_)
  rotate_left
  · rw [w64_id (x := (t : Int) + 1) (by omega)]
    refine ih (K, (t : Int) + 1) ⟨by simp only; omega, by simp only; omega, hk, fun S hS => ?_⟩ (by simp only; omega)
    simp only
    rw [hK S hS]
    by_cases h1 : (S : Int) < t
    · rw [if_pos h1, if_pos (by omega)]
    · rw [if_neg h1]
      by_cases h2 : S = t
      · rw [if_pos h2, if_pos (by omega), show p = x.p.toNat by omega]
      · rw [if_neg h2, if_neg (by omega)]
  have hpn' : p < x.p.toNat := by omega
  have hpi : (2 : Nat) ^ p ≤ 2 ^ 17 := Nat.pow_le_pow_right (by omega) (by omega)
  have no : eM (fun i j => joinsB x i c j) x.p.toNat t p = false → Run (fun q => spec_l04Ends.l1 q (rowsM x c x.p.toNat) (t : Int) K ((p : Int) + 1)) (EndsOf (fun i j => joinsB x i c j) x.p.toNat) := fun he => by
    refine ih2 (K, (p : Int) + 1) ⟨by simp only; omega, by simp only; omega, hk, fun S hS => ?_⟩ (by simp only; omega)
    simp only
    rw [hK S hS, show ((p : Int) + 1).toNat = p + 1 by omega]
    by_cases h2 : S = t
    · subst h2; rw [mask_no (f := eM (fun i j => joinsB x i c j) x.p.toNat S) (n := p) (by rw [he]; simp)]
    · rw [if_neg h2, if_neg h2]
  have hKt : K.getD t 0 = (mask (eM (fun i j => joinsB x i c j) x.p.toNat t) p : Int) := by rw [hK t (by omega), if_neg (by omega), if_pos rfl]
  have eg : K.getD t 0 = K[((t : Nat) : Int).toNat]'(by omega) := getD_at (by omega)
  have hml := Nat.lt_of_lt_of_le (mask_lt (eM (fun i j => joinsB x i c j) x.p.toNat t) p) hpi
  have yes : eM (fun i j => joinsB x i c j) x.p.toNat t p = true → Run (fun q => (getI K (t : Int)).bind fun t11 => (getI K (t : Int)).bind fun t12 => spec_l04Ends.l1 q (rowsM x c x.p.toNat) (t : Int) (K.set ((t : Nat) : Int).toNat (bitop .or .i64 t11 ((2 ^ p : Nat) : Int))) ((p : Int) + 1)) (EndsOf (fun i j => joinsB x i c j) x.p.toNat) := fun he => by
    refine Run.bindE (Run.getI' (by omega) (by omega)) ?_
    refine Run.bindE (Run.getI' (by omega) (by omega)) ?_
    rw [← eg, hKt, or64 (by omega) (by omega)]
    refine ih2 (_, (p : Int) + 1) ⟨by simp only; omega, by simp only; omega, by simp only [List.length_set]; exact hk, fun S hS => ?_⟩ (by simp only; omega)
    simp only [Int.toNat_natCast]
    rw [getD_set (by omega), hK S hS, show ((p : Int) + 1).toNat = p + 1 by omega]
    by_cases h2 : S = t
    · subst h2
      rw [if_pos rfl, if_neg (by omega), if_pos rfl, mask, if_pos he]
    · rw [if_neg h2, if_neg h2, if_neg h2]
  have hiff := eM_iff (G := fun i j => joinsB x i c j) (p := p) htA
  rw [wu64_id (x := (p : Int)) (by omega), shl64 (by omega), w64_id (x := (p : Int) + 1) (by omega), and64 (by omega) (by omega)]
  refine Run.ite (fun h1 => ?_) (fun h1 => ?_)
  · refine no ?_
    cases he : eM (fun i j => joinsB x i c j) x.p.toNat t p with
    | false => rfl
    | true =>
      rw [bit_one (hiff.mp he).1] at h1
      have : 0 < 2 ^ p := Nat.pow_pos (by omega)
      omega
  have hb : t.testBit p = true := by
    cases hb : t.testBit p with
    | true => rfl
    | false => rw [bit_none hb] at h1; exact absurd rfl h1
  have hR := rm_lt htA hb
  rw [rm_xor (n := x.p.toNat) (by omega) htA (by omega)]
  refine Run.ite (fun h2 => yes (hiff.mpr ⟨hb, .inl (by omega)⟩)) (fun h2 => ?_)
  have hKr : K.getD (t ^^^ 2 ^ p) 0 = (mask (eM (fun i j => joinsB x i c j) x.p.toNat (t ^^^ 2 ^ p)) x.p.toNat : Int) := by rw [hK _ (by omega), if_pos (by omega)]
  have egr : K.getD (t ^^^ 2 ^ p) 0 = K[((t ^^^ 2 ^ p : Nat) : Int).toNat]'(by omega) := getD_at (by omega)
  refine Run.bindE (Run.getI' (by omega) (by omega)) ?_
  rw [← egr, hKr]
  refine Run.bindE (Run.getI' (by omega) (by rw [rowsM_length]; omega)) ?_
  rw [rowsM_at]
  have hl1 := Nat.lt_of_lt_of_le (mask_lt (eM (fun i j => joinsB x i c j) x.p.toNat (t ^^^ 2 ^ p)) x.p.toNat) (show 2 ^ x.p.toNat ≤ 2 ^ 17 by omega)
  have hl2 := Nat.lt_of_lt_of_le (mask_lt (joinsB x p c) x.p.toNat) (show 2 ^ x.p.toNat ≤ 2 ^ 17 by omega)
  rw [and64 (by omega) (by omega), mask_and]
  refine Run.ite (fun h3 => yes ?_) (fun h3 => no ?_)
  · obtain ⟨q, hq, hq2⟩ := mask_nz.mp (show mask (fun j => eM (fun i j => joinsB x i c j) x.p.toNat (t ^^^ 2 ^ p) j && joinsB x p c j) x.p.toNat ≠ 0 by omega)
    rw [Bool.and_eq_true] at hq2
    exact hiff.mpr ⟨hb, .inr ⟨q, hq, hq2.2, hq2.1⟩⟩
  · cases he : eM (fun i j => joinsB x i c j) x.p.toNat t p with
    | false => rfl
    | true =>
      rcases (hiff.mp he).2 with h0 | ⟨q, hq, hq1, hq2⟩
      · exact absurd h0 (by omega)
      · have := (mask_nz (f := fun j => eM (fun i j => joinsB x i c j) x.p.toNat (t ^^^ 2 ^ p) j && joinsB x p c j) (n := x.p.toNat)).mpr ⟨q, hq, by rw [hq2]; exact hq1⟩
        omega

theorem spec_l01Ones_run (s : Nat) (hs : s < 2 ^ 62) : Run (fun k => spec_l01Ones.f k (s : Int)) (· = (cnt s.testBit 62 : Int)) := by
  unfold spec_l01Ones.f
  refine Run.loop (L := fun q (z : Int × Int) => spec_l01Ones.l0 q z.1 z.2) (fun z => z.1.toNat) (fun z => ∃ v a n : Nat, z = ((v : Int), (a : Int)) ∧ v < 2 ^ n ∧ n ≤ 62 ∧ a ≤ 62 - n ∧ a + cnt v.testBit n = cnt s.testBit 62) ?_ (s, 0) ⟨s, 0, 62, rfl, hs, by omega, by omega, by omega⟩
  rintro _ ⟨v, a, n, rfl, hv, hn, ha, hc⟩ ih
  simp only [spec_l01Ones.l0]
  refine Run.ite (fun h => ?_) (fun h => ?_)
  · have hn0 : n ≠ 0 := by intro h0; subst h0; simp at hv; omega
    obtain ⟨n, rfl⟩ : ∃ m, n = m + 1 := ⟨n - 1, by omega⟩
    have hb : (2 : Nat) ^ (n + 1) ≤ 2 ^ 62 := Nat.pow_le_pow_right (by omega) hn
    have hp : (2 : Nat) ^ (n + 1) = 2 ^ n * 2 := Nat.pow_succ ..
    have e1 : Int.tdiv (v : Int) 2 = ((v / 2 : Nat) : Int) := rfl
    have e2 : Int.tmod (v : Int) 2 = ((v % 2 : Nat) : Int) := rfl
    rw [cnt_half] at hc
    rw [e1, e2, w64_id (x := ((v / 2 : Nat) : Int)) (by omega), w64_id (x := (a : Int) + ((v % 2 : Nat) : Int)) (by omega)]
    refine ih (((v / 2 : Nat) : Int), ((a + v % 2 : Nat) : Int)) ⟨v / 2, a + v % 2, n, rfl, by omega, by omega, by omega, by omega⟩ (by simp only; omega)
  · obtain rfl : v = 0 := by omega
    refine Run.ret ?_
    have : cnt (0 : Nat).testBit n = 0 := by
      unfold cnt
      rw [sel_congr (g := fun _ => false) fun j _ => by simp]
      have : sel (fun _ => false) n = [] := by simp [sel]
      rw [this]; rfl
    omega
end Go.Proofs.Ytjhcacfhahpdgaa.P
