/- What the pure functions come to, one by one (part 4). -/
import Derived.Test.YtjhcacfhahpdgaaPFnExactLongestPath3
import Derived.Test.YtjhcacfhahpdgaaGFnExactLongestPath8
namespace Go.Proofs.Ytjhcacfhahpdgaa.P
open Go Go.RowKit Go.Proofs.Ytjhcacfhahpdgaa.K Go.Proofs.Ytjhcacfhahpdgaa.G
set_option linter.unusedVariables false
set_option linter.unusedSimpArgs false

theorem spec_l04Path_l5 (x : Col) (c : Int) (hp : 0 ≤ x.p ∧ x.p ≤ 17) (T : List Int) (hT : EndsOf (fun i j => joinsB x i c j) x.p.toNat T) (best : Int) (out sets : List Int) (p : Nat) (hpn : p < x.p.toNat) (hs : ∀ v ∈ sets, ∃ t : Nat, v = t ∧ t < 2 ^ x.p.toNat) (hsl : sets.length ≤ 2 ^ x.p.toNat) (ho : out.length ≤ 100) {Q : List Int → Prop}
    (K : ∀ sets' : List Int, (∀ v, v ∈ sets' ↔ ∃ t : Nat, (t : Int) ∈ sets ∧ t < 2 ^ x.p.toNat ∧ eM (fun i j => joinsB x i c j) x.p.toNat t p = true ∧ v = ((t ^^^ 2 ^ p : Nat) : Int)) → sets'.length ≤ 2 ^ x.p.toNat → Run (fun q => spec_l04Path.l2 q x (rowsM x c x.p.toNat) T best (out ++ [(p : Int)]) sets' (mask (joinsB x p c) x.p.toNat : Int)) Q) :
    Run (fun q => spec_l04Path.l5 q x (rowsM x c x.p.toNat) T best out sets (p : Int) [] 0) Q := by
  have hm2 : (2 : Nat) ^ x.p.toNat ≤ 2 ^ 17 := Nat.pow_le_pow_right (by omega) (by omega)
  have hpi : (2 : Nat) ^ p ≤ 2 ^ 17 := Nat.pow_le_pow_right (by omega) (by omega)
  refine Run.loop (L := fun q (z : List Int × Int) => spec_l04Path.l5 q x (rowsM x c x.p.toNat) T best out sets (p : Int) z.1 z.2) (fun z => (sets.length - z.2).toNat)
    (fun z => 0 ≤ z.2 ∧ z.2 ≤ sets.length ∧ z.1.length ≤ z.2.toNat ∧ ∀ v, v ∈ z.1 ↔ ∃ t : Nat, (t : Int) ∈ sets.take z.2.toNat ∧ t < 2 ^ x.p.toNat ∧ eM (fun i j => joinsB x i c j) x.p.toNat t p = true ∧ v = ((t ^^^ 2 ^ p : Nat) : Int)) ?_ ([], 0) ⟨by simp only; omega, by simp only; omega, Nat.zero_le _, fun v => by simp only; simp⟩
  rintro ⟨L, j⟩ ⟨j0, j1, hl, hL⟩ ih
  simp only at j0 j1 hl hL
  obtain ⟨j, rfl⟩ := Int.eq_ofNat_of_zero_le j0
  simp only [Int.toNat_natCast] at ih hl hL ⊢
  simp only [spec_l04Path.l5]
  refine Run.ite (fun hj => ?_) (fun hj => ?_)
  rotate_left
  · refine Run.bindE (Run.push' (by omega)) ?_
    refine Run.bindE (Run.getI' (by omega) (by rw [rowsM_length]; omega)) ?_
    rw [rowsM_at]
    refine K L (fun v => ?_) (by omega)
    rw [hL, List.take_of_length_le (by omega)]
  obtain ⟨t, ht, hlt⟩ := hs (sets[j]'(by omega)) (List.getElem_mem (by omega))
  have et : sets.take (j + 1) = sets.take j ++ [(t : Int)] := by rw [← ht]; exact (List.take_append_getElem (by omega)).symm
  have ex : sets[((j : Nat) : Int).toNat]'(by omega) = (t : Int) := ht
  refine Run.bindE (Run.getI' (by omega) hj) ?_
  rw [ex]
  refine Run.bindE (Run.getI' (by omega) (by rw [hT.len]; omega)) ?_
  have eg : T.getD t 0 = T[((t : Nat) : Int).toNat]'(by rw [hT.len]; omega) := getD_at (by rw [hT.len]; omega)
  have hml := Nat.lt_of_lt_of_le (mask_lt (eM (fun i j => joinsB x i c j) x.p.toNat t) x.p.toNat) hm2
  have hbit : (mask (eM (fun i j => joinsB x i c j) x.p.toNat t) x.p.toNat).testBit p = eM (fun i j => joinsB x i c j) x.p.toNat t p := by rw [testBit_mask, decide_eq_true hpn, Bool.true_and]
  rw [← eg, hT.val t hlt, wu64_id (x := (p : Int)) (by omega), w64_id (x := (j : Int) + 1) (by omega)]
  refine Run.ite (fun h1 => ?_) (fun h1 => ?_)
  · have he := (bit64 (by omega) (by omega)).mp h1
    rw [hbit] at he
    refine Run.bindE (Run.getI' (by omega) hj) ?_
    rw [ex, shl64 (by omega), rm_xor (n := x.p.toNat) (by omega) hlt (by omega)]
    refine Run.bindE (Run.push' (by omega)) ?_
    refine ih (_, (j : Int) + 1) ⟨by simp only; omega, by simp only; omega, by simp only [List.length_append, List.length_singleton]; omega, fun v => ?_⟩ (by simp only; omega)
    simp only
    rw [show ((j : Int) + 1).toNat = j + 1 by omega, et, List.mem_append, hL, List.mem_singleton]
    constructor
    · rintro (⟨u, h1, h2⟩ | h)
      · exact ⟨u, List.mem_append_left _ h1, h2⟩
      · exact ⟨t, List.mem_append_right _ (List.mem_singleton.mpr rfl), hlt, he, h⟩
    · rintro ⟨u, h1, h2, h3, h4⟩
      rcases List.mem_append.mp h1 with h1 | h1
      · exact .inl ⟨u, h1, h2, h3, h4⟩
      · rw [List.mem_singleton] at h1
        have : u = t := by omega
        rw [this] at h4
        exact .inr h4
  · refine ih (L, (j : Int) + 1) ⟨by simp only; omega, by simp only; omega, by simp only; omega, fun v => ?_⟩ (by simp only; omega)
    simp only
    rw [show ((j : Int) + 1).toNat = j + 1 by omega, et, hL]
    constructor
    · rintro ⟨u, h1, h2⟩
      exact ⟨u, List.mem_append_left _ h1, h2⟩
    · rintro ⟨u, h1', h2, h3, h4⟩
      rcases List.mem_append.mp h1' with h5 | h5
      · exact ⟨u, h5, h2, h3, h4⟩
      · rw [List.mem_singleton] at h5
        have : u = t := by omega
        rw [this] at h3
        exact absurd ((bit64 (by omega) (by omega)).mpr (by rw [hbit]; exact h3)) h1
theorem spec_l04Path_l6 (x : Col) (c : Int) (hp : 0 ≤ x.p ∧ x.p ≤ 17) (T : List Int) (hT : EndsOf (fun i j => joinsB x i c j) x.p.toNat T) (best : Int) (out sets : List Int) (p : Nat) (hpn : p < x.p.toNat) (hs : ∀ v ∈ sets, ∃ t : Nat, v = t ∧ t < 2 ^ x.p.toNat) (hsl : sets.length ≤ 2 ^ x.p.toNat) (ho : out.length ≤ 100) {Q : List Int → Prop}
    (K : ∀ sets' : List Int, (∀ v, v ∈ sets' ↔ ∃ t : Nat, (t : Int) ∈ sets ∧ t < 2 ^ x.p.toNat ∧ eM (fun i j => joinsB x i c j) x.p.toNat t p = true ∧ v = ((t ^^^ 2 ^ p : Nat) : Int)) → sets'.length ≤ 2 ^ x.p.toNat → Run (fun q => spec_l04Path.l2 q x (rowsM x c x.p.toNat) T best (out ++ [(p : Int)]) sets' (mask (joinsB x p c) x.p.toNat : Int)) Q) :
    Run (fun q => spec_l04Path.l6 q x (rowsM x c x.p.toNat) T best out sets (p : Int) [] 0) Q := by
  have hm2 : (2 : Nat) ^ x.p.toNat ≤ 2 ^ 17 := Nat.pow_le_pow_right (by omega) (by omega)
  have hpi : (2 : Nat) ^ p ≤ 2 ^ 17 := Nat.pow_le_pow_right (by omega) (by omega)
  refine Run.loop (L := fun q (z : List Int × Int) => spec_l04Path.l6 q x (rowsM x c x.p.toNat) T best out sets (p : Int) z.1 z.2) (fun z => (sets.length - z.2).toNat)
    (fun z => 0 ≤ z.2 ∧ z.2 ≤ sets.length ∧ z.1.length ≤ z.2.toNat ∧ ∀ v, v ∈ z.1 ↔ ∃ t : Nat, (t : Int) ∈ sets.take z.2.toNat ∧ t < 2 ^ x.p.toNat ∧ eM (fun i j => joinsB x i c j) x.p.toNat t p = true ∧ v = ((t ^^^ 2 ^ p : Nat) : Int)) ?_ ([], 0) ⟨by simp only; omega, by simp only; omega, Nat.zero_le _, fun v => by simp only; simp⟩
  rintro ⟨L, j⟩ ⟨j0, j1, hl, hL⟩ ih
  simp only at j0 j1 hl hL
  obtain ⟨j, rfl⟩ := Int.eq_ofNat_of_zero_le j0
  simp only [Int.toNat_natCast] at ih hl hL ⊢
  simp only [spec_l04Path.l6]
  refine Run.ite (fun hj => ?_) (fun hj => ?_)
  rotate_left
  · refine Run.bindE (Run.push' (by omega)) ?_
    refine Run.bindE (Run.getI' (by omega) (by rw [rowsM_length]; omega)) ?_
    rw [rowsM_at]
    refine K L (fun v => ?_) (by omega)
    rw [hL, List.take_of_length_le (by omega)]
  obtain ⟨t, ht, hlt⟩ := hs (sets[j]'(by omega)) (List.getElem_mem (by omega))
  have et : sets.take (j + 1) = sets.take j ++ [(t : Int)] := by rw [← ht]; exact (List.take_append_getElem (by omega)).symm
  have ex : sets[((j : Nat) : Int).toNat]'(by omega) = (t : Int) := ht
  refine Run.bindE (Run.getI' (by omega) hj) ?_
  rw [ex]
  refine Run.bindE (Run.getI' (by omega) (by rw [hT.len]; omega)) ?_
  have eg : T.getD t 0 = T[((t : Nat) : Int).toNat]'(by rw [hT.len]; omega) := getD_at (by rw [hT.len]; omega)
  have hml := Nat.lt_of_lt_of_le (mask_lt (eM (fun i j => joinsB x i c j) x.p.toNat t) x.p.toNat) hm2
  have hbit : (mask (eM (fun i j => joinsB x i c j) x.p.toNat t) x.p.toNat).testBit p = eM (fun i j => joinsB x i c j) x.p.toNat t p := by rw [testBit_mask, decide_eq_true hpn, Bool.true_and]
  rw [← eg, hT.val t hlt, wu64_id (x := (p : Int)) (by omega), w64_id (x := (j : Int) + 1) (by omega)]
  refine Run.ite (fun h1 => ?_) (fun h1 => ?_)
  · have he := (bit64 (by omega) (by omega)).mp h1
    rw [hbit] at he
    refine Run.bindE (Run.getI' (by omega) hj) ?_
    rw [ex, shl64 (by omega), rm_xor (n := x.p.toNat) (by omega) hlt (by omega)]
    refine Run.bindE (Run.push' (by omega)) ?_
    refine ih (_, (j : Int) + 1) ⟨by simp only; omega, by simp only; omega, by simp only [List.length_append, List.length_singleton]; omega, fun v => ?_⟩ (by simp only; omega)
    simp only
    rw [show ((j : Int) + 1).toNat = j + 1 by omega, et, List.mem_append, hL, List.mem_singleton]
    constructor
    · rintro (⟨u, h1, h2⟩ | h)
      · exact ⟨u, List.mem_append_left _ h1, h2⟩
      · exact ⟨t, List.mem_append_right _ (List.mem_singleton.mpr rfl), hlt, he, h⟩
    · rintro ⟨u, h1, h2, h3, h4⟩
      rcases List.mem_append.mp h1 with h1 | h1
      · exact .inl ⟨u, h1, h2, h3, h4⟩
      · rw [List.mem_singleton] at h1
        have : u = t := by omega
        rw [this] at h4
        exact .inr h4
  · refine ih (L, (j : Int) + 1) ⟨by simp only; omega, by simp only; omega, by simp only; omega, fun v => ?_⟩ (by simp only; omega)
    simp only
    rw [show ((j : Int) + 1).toNat = j + 1 by omega, et, hL]
    constructor
    · rintro ⟨u, h1, h2⟩
      exact ⟨u, List.mem_append_left _ h1, h2⟩
    · rintro ⟨u, h1', h2, h3, h4⟩
      rcases List.mem_append.mp h1' with h5 | h5
      · exact ⟨u, h5, h2, h3, h4⟩
      · rw [List.mem_singleton] at h5
        have : u = t := by omega
        rw [this] at h3
        exact absurd ((bit64 (by omega) (by omega)).mpr (by rw [hbit]; exact h3)) h1
theorem spec_l04Path_round (x : Col) (c : Int) (hp : 0 ≤ x.p ∧ x.p ≤ 17) (T : List Int) (hT : EndsOf (fun i j => joinsB x i c j) x.p.toNat T) (best : Int) (out sets : List Int) (a p : Nat) (ha : a < 2 ^ x.p.toNat) (hpn : p < x.p.toNat) (hs : ∀ v ∈ sets, ∃ t : Nat, v = t ∧ t < 2 ^ x.p.toNat) (hsl : sets.length ≤ 2 ^ x.p.toNat) (ho : out.length ≤ 100) {Q : List Int → Prop}
    (hb : (out.length : Int) < best) (hyes : a.testBit p = true ∧ ∃ t : Nat, (t : Int) ∈ sets ∧ eM (fun i j => joinsB x i c j) x.p.toNat t p = true) (hmin : ∀ q, q < p → ¬ (a.testBit q = true ∧ ∃ t : Nat, (t : Int) ∈ sets ∧ eM (fun i j => joinsB x i c j) x.p.toNat t q = true))
    (K : ∀ sets' : List Int, (∀ v, v ∈ sets' ↔ ∃ t : Nat, (t : Int) ∈ sets ∧ t < 2 ^ x.p.toNat ∧ eM (fun i j => joinsB x i c j) x.p.toNat t p = true ∧ v = ((t ^^^ 2 ^ p : Nat) : Int)) → sets'.length ≤ 2 ^ x.p.toNat → Run (fun q => spec_l04Path.l2 q x (rowsM x c x.p.toNat) T best (out ++ [(p : Int)]) sets' (mask (joinsB x p c) x.p.toNat : Int)) Q) :
    Run (fun q => spec_l04Path.l2 q x (rowsM x c x.p.toNat) T best out sets (a : Int)) Q := by
  refine Run.step ?_
  simp only [spec_l04Path.l2]
  have hm2 : (2 : Nat) ^ x.p.toNat ≤ 2 ^ 17 := Nat.pow_le_pow_right (by omega) (by omega)
  refine Run.yes hb ?_
  refine Run.loop (L := fun q (z : Int × Int) => spec_l04Path.l3 q x (rowsM x c x.p.toNat) T best out sets (a : Int) z.1 z.2) (fun z => (x.p - z.2).toNat)
    (fun z => 0 ≤ z.2 ∧ ((z.1 = -1 ∧ z.2 ≤ p) ∨ (z.1 = p ∧ z.2 = p + 1))) ?_ (-1, 0) ⟨by simp only; omega, .inl ⟨rfl, by simp only; omega⟩⟩
  rintro ⟨nx, i⟩ ⟨i0, hi⟩ ih
  simp only at i0 hi
  obtain ⟨i, rfl⟩ := Int.eq_ofNat_of_zero_le i0
  simp only [spec_l04Path.l3]
  refine Run.ite (fun h1 => ?_) (fun h1 => ?_)
  rotate_left
  · rw [show nx = (p : Int) by omega]
    exact spec_l04Path_l6 x c hp T hT best out sets p hpn hs hsl ho K
  refine Run.ite (fun h2 => ?_) (fun h2 => ?_)
  rotate_left
  · rw [show nx = (p : Int) by omega]
    exact spec_l04Path_l5 x c hp T hT best out sets p hpn hs hsl ho K
  have hip : i ≤ p := by omega
  rw [show nx = -1 by omega]
  have next : ∀ n' : Int, (n' = -1 ∧ i < p ∨ n' = p ∧ i = p) → Run (fun q => spec_l04Path.l3 q x (rowsM x c x.p.toNat) T best out sets (a : Int) n' ((i : Int) + 1)) Q := fun n' h => by
    refine ih (n', (i : Int) + 1) ⟨by simp only; omega, ?_⟩ (by simp only; omega)
    simp only
    omega
  refine Run.loop (L := fun q (z : Int × Int) => spec_l04Path.l4 q x (rowsM x c x.p.toNat) T best out sets (a : Int) (i : Int) z.1 z.2) (fun z => (sets.length - z.2).toNat)
    (fun z => 0 ≤ z.2 ∧ ((z.1 = -1 ∧ z.2 ≤ sets.length ∧ ∀ t : Nat, (t : Int) ∈ sets.take z.2.toNat → ¬ (a.testBit i = true ∧ eM (fun i j => joinsB x i c j) x.p.toNat t i = true)) ∨ (z.1 = i ∧ i = p))) ?_ (-1, 0) ⟨by simp only; omega, .inl ⟨rfl, by simp only; omega, fun t h => by simp at h⟩⟩
  rintro ⟨n', j⟩ ⟨j0, hj⟩ ih2
  simp only at j0 hj
  obtain ⟨j, rfl⟩ := Int.eq_ofNat_of_zero_le j0
  simp only [Int.toNat_natCast] at ih2 hj ⊢
  simp only [spec_l04Path.l4]
  rw [w64_id (x := (i : Int) + 1) (by omega), wu64_id (x := (i : Int)) (by omega)]
  refine Run.ite (fun h3 => ?_) (fun h3 => ?_)
  rotate_left
  · rcases hj with ⟨e1, e2, e3⟩ | ⟨e1, e2⟩
    · refine next n' (.inl ⟨e1, ?_⟩)
      apply Decidable.byContradiction
      intro hn
      have : i = p := by omega
      subst this
      obtain ⟨ha1, t, ht, he⟩ := hyes
      exact e3 t (by rw [List.take_of_length_le (by omega)]; exact ht) ⟨ha1, he⟩
    · exact next n' (.inr ⟨by omega, e2⟩)
  refine Run.ite (fun h4 => ?_) (fun h4 => ?_)
  rotate_left
  · exact next n' (.inr (by omega))
  obtain ⟨e1, e2, e3⟩ : n' = -1 ∧ (j : Int) ≤ sets.length ∧ ∀ t : Nat, (t : Int) ∈ sets.take j → ¬ (a.testBit i = true ∧ eM (fun i j => joinsB x i c j) x.p.toNat t i = true) := by
    rcases hj with h | ⟨e1, _⟩
    · exact h
    · omega
  refine Run.ite (fun h5 => ?_) (fun h5 => ?_)
  rotate_left
  · refine next n' (.inl ⟨e1, ?_⟩)
    apply Decidable.byContradiction
    intro hn
    have : i = p := by omega
    subst this
    exact h5 ((bit64 (by omega) (by omega)).mpr hyes.1)
  have hai := (bit64 (by omega) (by omega)).mp h5
  obtain ⟨t, ht, hlt⟩ := hs (sets[j]'(by omega)) (List.getElem_mem (by omega))
  have et : sets.take (j + 1) = sets.take j ++ [(t : Int)] := by rw [← ht]; exact (List.take_append_getElem (by omega)).symm
  have ex : sets[((j : Nat) : Int).toNat]'(by omega) = (t : Int) := ht
  refine Run.bindE (Run.getI' (by omega) h3) ?_
  rw [ex]
  refine Run.bindE (Run.getI' (by omega) (by rw [hT.len]; omega)) ?_
  have eg : T.getD t 0 = T[((t : Nat) : Int).toNat]'(by rw [hT.len]; omega) := getD_at (by rw [hT.len]; omega)
  have hml := Nat.lt_of_lt_of_le (mask_lt (eM (fun i j => joinsB x i c j) x.p.toNat t) x.p.toNat) hm2
  have hbit : (mask (eM (fun i j => joinsB x i c j) x.p.toNat t) x.p.toNat).testBit i = eM (fun i j => joinsB x i c j) x.p.toNat t i := by rw [testBit_mask, decide_eq_true (show i < x.p.toNat by omega), Bool.true_and]
  rw [← eg, hT.val t hlt, w64_id (x := (j : Int) + 1) (by omega)]
  refine Run.ite (fun h6 => ?_) (fun h6 => ?_)
  · have he := (bit64 (by omega) (by omega)).mp h6
    rw [hbit] at he
    refine ih2 ((i : Int), (j : Int) + 1) ⟨by simp only; omega, .inr ⟨rfl, ?_⟩⟩ (by simp only; omega)
    apply Decidable.byContradiction
    intro hn
    exact hmin i (by omega) ⟨hai, t, by rw [← ht]; exact List.getElem_mem _, he⟩
  · refine ih2 (n', (j : Int) + 1) ⟨by simp only; omega, .inl ⟨e1, by simp only; omega, fun u hu => ?_⟩⟩ (by simp only; omega)
    simp only at hu
    rw [show ((j : Int) + 1).toNat = j + 1 by omega, et] at hu
    rcases List.mem_append.mp hu with hu | hu
    · exact e3 u hu
    · rw [List.mem_singleton] at hu
      rintro ⟨_, h7⟩
      rw [show u = t by omega] at h7
      exact h6 ((bit64 (by omega) (by omega)).mpr (by rw [hbit]; exact h7))
theorem spec_l04Path_go (x : Col) (c : Int) (hp : 0 ≤ x.p ∧ x.p ≤ 17) (T : List Int) (hT : EndsOf (fun i j => joinsB x i c j) x.p.toNat T) (best : Int) (hb : best ≤ 100) : ∀ (m U l : Nat) (out sets : List Int), l < x.p.toNat → rp (fun i j => joinsB x i c j) x.p.toNat m U l = true → Sets (fun i j => joinsB x i c j) x.p.toNat m U l sets → sets.length ≤ 2 ^ x.p.toNat → ((out.length + m : Nat) : Int) = best → Run (fun q => spec_l04Path.l2 q x (rowsM x c x.p.toNat) T best out sets (mask (joinsB x l c) x.p.toNat : Int)) (· = out ++ gM (fun i j => joinsB x i c j) x.p.toNat m U l)
  | 0, U, l, out, sets, hl, hr, hs, hsl, ho => by
    refine Run.step ?_
    simp only [spec_l04Path.l2]
    refine Run.no (by omega) (Run.ret ?_)
    rw [gM, List.append_nil]
  | m + 1, U, l, out, sets, hl, hr, hs, hsl, ho => by
    obtain ⟨p, r, hpr⟩ := gM_some hr
    obtain ⟨f1, f2, f3⟩ := upF_first hpr
    rw [gM, hpr]
    simp only
    have hbit : ∀ q, q < x.p.toNat → (mask (joinsB x l c) x.p.toNat).testBit q = joinsB x l c q := fun q hq => by rw [testBit_mask, decide_eq_true hq, Bool.true_and]
    have hcan := fun q => sets_can (p := q) hs
    refine spec_l04Path_round x c hp T hT best out sets _ p (mask_lt _ _) f1 (fun v hv => by obtain ⟨t, a, b, _⟩ := hs.sound v hv; exact ⟨t, a, b⟩) hsl (by omega) (by omega) ?_ ?_ fun sets' h1 h2 => ?_
    · obtain ⟨a1, a2, a3⟩ := (hcan p).mpr ⟨f1, f2⟩
      rw [hbit p f1]
      exact ⟨a1, a3⟩
    · rintro q hq ⟨h1, h2⟩
      rw [hbit q (by omega)] at h1
      exact f3 q hq ((hcan q).mp ⟨h1, by omega, h2⟩).2
    · unfold gNext at f2
      rw [Bool.and_eq_true, Bool.and_eq_true, Bool.not_eq_true'] at f2
      have := spec_l04Path_go x c hp T hT best hb m (U ||| 2 ^ p) p (out ++ [(p : Int)]) sets' f1 f2.2 (sets_next hs f1 f2.1.1 f2.1.2 h1) h2 (by rw [List.length_append, List.length_singleton]; omega)
      rw [List.append_assoc] at this
      exact this
theorem spec_l04Path_run (x : Col) (hx : ByteC x) (c : Int) (hp : 1 ≤ x.p ∧ x.p ≤ 17) : Run (fun k => spec_l04Path.f k x c) (PathOf (fun i j => joinsB x i c j) x.p.toNat) := by
  unfold spec_l04Path.f
  have h62 : x.p.toNat ≤ 62 := by omega
  have hm2 : (2 : Nat) ^ x.p.toNat ≤ 2 ^ 17 := Nat.pow_le_pow_right (by omega) (by omega)
  refine Run.bindE (spec_l02Rows_run x hx (by omega) c) ?_
  refine Run.bind (spec_l04Ends_run x c (by omega)) fun T hT => ?_
  have hnz : ∀ S, S < 2 ^ x.p.toNat → (T.getD S 0 ≠ 0 ↔ ∃ q, q < x.p.toNat ∧ eM (fun i j => joinsB x i c j) x.p.toNat S q = true) := fun S hS => by
    rw [hT.val S hS, ← mask_nz]; omega
  refine Run.loop (L := fun q (z : Int × Int) => spec_l04Path.l0 q x (rowsM x c x.p.toNat) T z.1 z.2) (fun z => (T.length - z.2).toNat)
    (fun z => 0 ≤ z.2 ∧ z.2 ≤ T.length ∧ ∃ b : Nat, z.1 = b ∧ b ≤ 17 ∧ (∀ S : Nat, (S : Int) < z.2 → (∃ q, q < x.p.toNat ∧ eM (fun i j => joinsB x i c j) x.p.toNat S q = true) → cnt S.testBit x.p.toNat ≤ b) ∧ (b = 0 ∨ ∃ S : Nat, (S : Int) < z.2 ∧ (∃ q, q < x.p.toNat ∧ eM (fun i j => joinsB x i c j) x.p.toNat S q = true) ∧ cnt S.testBit x.p.toNat = b)) ?_ (0, 0) ⟨by simp only; omega, by simp only; omega, 0, rfl, by omega, fun S hS => by simp only at hS; omega, .inl rfl⟩
  rintro ⟨b', i⟩ ⟨i0, i1, b, hb, hb17, hmx, hat⟩ ih
  simp only at i0 i1 hb hmx hat
  subst hb
  obtain ⟨i, rfl⟩ := Int.eq_ofNat_of_zero_le i0
  simp only [spec_l04Path.l0]
  have hTl := hT.len
  refine Run.ite (fun hi => ?_) (fun hi => ?_)
  · have hiA : i < 2 ^ x.p.toNat := by omega
    have eg : T.getD i 0 = T[((i : Nat) : Int).toNat]'(by omega) := getD_at (by omega)
    refine Run.bindE (Run.getI' (by omega) hi) ?_
    rw [← eg, w64_id (x := (i : Int) + 1) (by omega)]
    refine Run.ite (fun h1 => ?_) (fun h1 => ?_)
    · refine Run.bindE (spec_l01Ones_run i (by omega)) ?_
      rw [cnt_62 hiA h62]
      have hc := cnt_le i.testBit x.p.toNat
      refine ih (_, (i : Int) + 1) ⟨by simp only; omega, by simp only; omega, max b (cnt i.testBit x.p.toNat), by clear hat; simp only; omega, by clear hat; omega, fun S hS hq => ?_, ?_⟩ (by simp only; omega)
      · simp only at hS
        by_cases e : S = i
        · subst e; omega
        · have := hmx S (by omega) hq; omega
      · simp only
        by_cases e : b < cnt i.testBit x.p.toNat
        · exact .inr ⟨i, by omega, (hnz i hiA).mp h1, by omega⟩
        · rcases hat with h0 | ⟨S, hS, hq, hcS⟩
          · exact .inl (by omega)
          · exact .inr ⟨S, by omega, hq, by omega⟩
    · refine ih ((b : Int), (i : Int) + 1) ⟨by simp only; omega, by simp only; omega, b, rfl, hb17, fun S hS hq => ?_, ?_⟩ (by simp only; omega)
      · simp only at hS
        by_cases e : S = i
        · subst e; exact absurd ((hnz S hiA).mpr hq) h1
        · exact hmx S (by omega) hq
      · rcases hat with h0 | ⟨S, hS, hq, hcS⟩
        · exact .inl h0
        · exact .inr ⟨S, by simp only; omega, hq, hcS⟩
  have hmx' : ∀ S, S < 2 ^ x.p.toNat → (∃ q, q < x.p.toNat ∧ eM (fun i j => joinsB x i c j) x.p.toNat S q = true) → cnt S.testBit x.p.toNat ≤ b := fun S hS hq => hmx S (by omega) hq
  have hone : 1 ≤ b := by
    have h1 : (1 : Nat) < 2 ^ x.p.toNat := Nat.lt_of_lt_of_le (show 1 < 2 ^ 1 by omega) (Nat.pow_le_pow_right (by omega) (by omega))
    have h2 : (1 : Nat).testBit 0 = true := rfl
    have h3 := hmx' 1 h1 ⟨0, by omega, (eM_iff h1).mpr ⟨h2, .inl rfl⟩⟩
    have h4 := card_rm h1 h2
    omega
  obtain ⟨S0, hS0, ⟨q0, hq0, he0⟩, hc0⟩ : ∃ S : Nat, S < 2 ^ x.p.toNat ∧ (∃ q, q < x.p.toNat ∧ eM (fun i j => joinsB x i c j) x.p.toNat S q = true) ∧ cnt S.testBit x.p.toNat = b := by
    rcases hat with h0 | ⟨S, hS, hq, hcS⟩
    · omega
    · exact ⟨S, by omega, hq, hcS⟩
  clear ih hat hmx
  refine Run.loop (L := fun q (z : List Int × Int) => spec_l04Path.l1 q x (rowsM x c x.p.toNat) T (b : Int) z.1 z.2) (fun z => (T.length - z.2).toNat)
    (fun z => 0 ≤ z.2 ∧ z.2 ≤ T.length ∧ z.1.length ≤ z.2.toNat ∧ ∀ v, v ∈ z.1 ↔ ∃ S : Nat, v = S ∧ (S : Int) < z.2 ∧ (∃ q, q < x.p.toNat ∧ eM (fun i j => joinsB x i c j) x.p.toNat S q = true) ∧ cnt S.testBit x.p.toNat = b) ?_ ([], 0) ⟨by simp only; omega, by simp only; omega, Nat.zero_le _, fun v => ⟨fun h => (by cases h), fun ⟨S, _, h, _⟩ => (by simp only at h; omega)⟩⟩
  rintro ⟨sets, j⟩ ⟨j0, j1, hsl, hsets⟩ ih
  simp only at j0 j1 hsl hsets
  obtain ⟨j, rfl⟩ := Int.eq_ofNat_of_zero_le j0
  simp only [Int.toNat_natCast] at ih hsl ⊢
  simp only [spec_l04Path.l1]
  refine Run.ite (fun hj => ?_) (fun hj => ?_)
  · have hjA : j < 2 ^ x.p.toNat := by omega
    have eg : T.getD j 0 = T[((j : Nat) : Int).toNat]'(by omega) := getD_at (by omega)
    refine Run.bindE (Run.getI' (by omega) hj) ?_
    rw [← eg, w64_id (x := (j : Int) + 1) (by omega)]
    have no : ¬ ((∃ q, q < x.p.toNat ∧ eM (fun i j => joinsB x i c j) x.p.toNat j q = true) ∧ cnt (Nat.testBit j) x.p.toNat = b) → Run (fun q => spec_l04Path.l1 q x (rowsM x c x.p.toNat) T (b : Int) sets ((j : Int) + 1)) (PathOf (fun i j => joinsB x i c j) x.p.toNat) := fun hn => by
      refine ih (sets, (j : Int) + 1) ⟨by simp only; omega, by simp only; omega, by simp only; omega, fun v => ?_⟩ (by simp only; omega)
      simp only
      rw [hsets]
      constructor
      · rintro ⟨S, h1, h2, h3⟩; exact ⟨S, h1, by omega, h3⟩
      · rintro ⟨S, h1, h2, h3⟩
        refine ⟨S, h1, ?_, h3⟩
        apply Decidable.byContradiction
        intro hh
        have : S = j := by omega
        subst this
        exact hn h3
    refine Run.ite (fun h1 => ?_) (fun h1 => no fun h => h1 ((hnz j hjA).mpr h.1))
    refine Run.bindE (spec_l01Ones_run j (by omega)) ?_
    rw [cnt_62 hjA h62]
    refine Run.ite (fun h2 => ?_) (fun h2 => no fun h => h2 (by omega))
    refine Run.bindE (Run.push' (by omega)) ?_
    refine ih (_, (j : Int) + 1) ⟨by simp only; omega, by simp only; omega, by simp only [List.length_append, List.length_singleton]; omega, fun v => ?_⟩ (by simp only; omega)
    simp only
    rw [List.mem_append, hsets, List.mem_singleton]
    constructor
    · rintro (⟨S, h1, h2, h3⟩ | h)
      · exact ⟨S, h1, by omega, h3⟩
      · exact ⟨j, h, by omega, (hnz j hjA).mp h1, by omega⟩
    · rintro ⟨S, g1, g2, g3⟩
      by_cases e : S = j
      · subst e; exact .inr g1
      · exact .inl ⟨S, g1, by omega, g3⟩
  have hsets' : ∀ t : Nat, (t : Int) ∈ sets ↔ t < 2 ^ x.p.toNat ∧ (∃ q, q < x.p.toNat ∧ eM (fun i j => joinsB x i c j) x.p.toNat t q = true) ∧ cnt t.testBit x.p.toNat = b := fun t => by
    rw [hsets]
    constructor
    · rintro ⟨S, h1, h2, h3⟩
      have : t = S := by omega
      subst this
      exact ⟨by omega, h3⟩
    · rintro ⟨h2, h3⟩
      exact ⟨t, rfl, by omega, h3⟩
  clear ih
  -- the first point
  obtain ⟨B, rfl⟩ : ∃ B, b = B + 1 := ⟨b - 1, by omega⟩
  have hcan : ∀ p, p < x.p.toNat → ((∃ t : Nat, (t : Int) ∈ sets ∧ eM (fun i j => joinsB x i c j) x.p.toNat t p = true) ↔ rp (fun i j => joinsB x i c j) x.p.toNat B (2 ^ p) p = true) := fun p hpn => by
    rw [rp_iff]
    constructor
    · rintro ⟨t, ht, he⟩
      obtain ⟨h1, h2, h3⟩ := (hsets' t).mp ht
      obtain ⟨h4, h5⟩ := (eM_iff h1).mp he
      have hl := rm_lt h1 h4
      refine ⟨t ^^^ 2 ^ p, by omega, by have := card_rm h1 h4; omega, fun k hk => ?_, h5⟩
      rw [tb_xor] at hk
      rw [Nat.testBit_two_pow]
      by_cases e : p = k
      · subst e; rw [h4] at hk; simp at hk
      · simp [e]
    · rintro ⟨t, h1, h2, h3, h4⟩
      have hbp : t.testBit p = false := by
        cases hbp : t.testBit p with
        | false => rfl
        | true => have := h3 p hbp; rw [Nat.testBit_two_pow] at this; simp at this
      have he : eM (fun i j => joinsB x i c j) x.p.toNat (t ||| 2 ^ p) p = true := (eM_iff (or_in h1 hpn)).mpr ⟨by rw [tb_or]; simp, by rw [or_rm hbp]; exact h4⟩
      exact ⟨t ||| 2 ^ p, (hsets' _).mpr ⟨or_in h1 hpn, ⟨p, hpn, he⟩, by rw [card_or h1 hpn hbp, h2]⟩, he⟩
  have hmax : ∀ q, q < x.p.toNat → ¬ rp (fun i j => joinsB x i c j) x.p.toNat (B + 1) (2 ^ q) q = true := fun p hpn h => by
    obtain ⟨t, h1, h2, h3, h4⟩ := (rp_iff _ _ _).mp h
    have hbp : t.testBit p = false := by
      cases hbp : t.testBit p with
      | false => rfl
      | true => have := h3 p hbp; rw [Nat.testBit_two_pow] at this; simp at this
    have he : eM (fun i j => joinsB x i c j) x.p.toNat (t ||| 2 ^ p) p = true := (eM_iff (or_in h1 hpn)).mpr ⟨by rw [tb_or]; simp, by rw [or_rm hbp]; exact h4⟩
    have := hmx' _ (or_in h1 hpn) ⟨p, hpn, he⟩
    rw [card_or h1 hpn hbp] at this
    omega
  have hsome : rp (fun i j => joinsB x i c j) x.p.toNat B (2 ^ q0) q0 = true := (hcan q0 hq0).mp ⟨S0, (hsets' S0).mpr ⟨hS0, ⟨q0, hq0, he0⟩, hc0⟩, he0⟩
  obtain ⟨p, r, hpr⟩ : ∃ p r, upF (fun q => rp (fun i j => joinsB x i c j) x.p.toNat B (2 ^ q) q) 0 x.p.toNat = p :: r := by
    have hm := (mem_upF (f := fun q => rp (fun i j => joinsB x i c j) x.p.toNat B (2 ^ q) q) (p := 0) (n := x.p.toNat)).mpr ⟨⟨Nat.zero_le q0, hq0⟩, hsome⟩
    cases hF : upF (fun q => rp (fun i j => joinsB x i c j) x.p.toNat B (2 ^ q) q) 0 x.p.toNat with
    | nil => rw [hF] at hm; cases hm
    | cons q r => exact ⟨q, r, rfl⟩
  obtain ⟨f1, f2, f3⟩ := upF_first hpr
  try simp only at f2 f3
  have hmt := mask_true x.p.toNat
  rw [show w64 ((T.length : Int) - 1) = (mask (fun _ => true) x.p.toNat : Int) by rw [w64_id (by omega)]; omega]
  have hbit : ∀ q, q < x.p.toNat → (mask (fun _ => true) x.p.toNat).testBit q = true := fun q hq => by rw [testBit_mask, decide_eq_true hq]; rfl
  refine spec_l04Path_round x c (by omega) T hT _ [] sets _ p (mask_lt _ _) f1 (fun v hv => by obtain ⟨t, a, b, _⟩ := (hsets v).mp hv; exact ⟨t, a, by omega⟩) (by omega) (by simp) (by simp only [List.length_nil]; omega) ⟨hbit p f1, (hcan p f1).mpr f2⟩ (fun q hq h => f3 q hq ((hcan q (by omega)).mp h.2)) fun sets1 h1 h2 => ?_
  have hS1 : Sets (fun i j => joinsB x i c j) x.p.toNat B (2 ^ p) p sets1 := by
    constructor
    · intro v hv
      obtain ⟨t, ht, hlt, he, rfl⟩ := (h1 v).mp hv
      obtain ⟨_, _, h3⟩ := (hsets' t).mp ht
      obtain ⟨h4, h5⟩ := (eM_iff hlt).mp he
      have hl := rm_lt hlt h4
      refine ⟨_, rfl, by omega, by have := card_rm hlt h4; omega, fun k hk => ?_, h5⟩
      rw [tb_xor] at hk
      rw [Nat.testBit_two_pow]
      by_cases e : p = k
      · subst e; rw [h4] at hk; simp at hk
      · simp [e]
    · intro t ht hc ha hg
      have hbp : t.testBit p = false := by
        cases hbp : t.testBit p with
        | false => rfl
        | true => have := ha p hbp; rw [Nat.testBit_two_pow] at this; simp at this
      have he : eM (fun i j => joinsB x i c j) x.p.toNat (t ||| 2 ^ p) p = true := (eM_iff (or_in ht f1)).mpr ⟨by rw [tb_or]; simp, by rw [or_rm hbp]; exact hg⟩
      exact (h1 _).mpr ⟨t ||| 2 ^ p, (hsets' _).mpr ⟨or_in ht f1, ⟨p, f1, he⟩, by rw [card_or ht f1 hbp, hc]⟩, or_in ht f1, he, by rw [or_rm hbp]⟩
  refine Run.eq (spec_l04Path_go x c (by omega) T hT _ (by omega) B (2 ^ p) p _ sets1 f1 f2 hS1 h2 (by rw [List.length_append, List.length_singleton, List.length_nil]; omega)) ?_
  exact ⟨B, p, f1, hmax, f2, fun q hq h => f3 q hq h, rfl⟩
end Go.Proofs.Ytjhcacfhahpdgaa.P
