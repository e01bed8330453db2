/- What the pure functions come to, one by one (part 4). -/
import Derived.Test.YtjhcacfhahpdgaaPFnExactFirstCycle3
import Derived.Test.YtjhcacfhahpdgaaGFnExactFirstCycle8
namespace Go.Proofs.Ytjhcacfhahpdgaa.P
open Go Go.RowKit Go.Proofs.Ytjhcacfhahpdgaa.K Go.Proofs.Ytjhcacfhahpdgaa.G
set_option linter.unusedVariables false
set_option linter.unusedSimpArgs false

theorem spec_l04Lengths_l3 (x : Col) (c : Int) (hp : 1 ≤ x.p ∧ x.p ≤ 17) (f s p : Nat) (hf : f < x.p.toNat) (hs : s < 2 ^ x.p.toNat) (hpn : p < x.p.toNat) (hm : hM (fun i j => joinsB x i c j) x.p.toNat f s p = true) (L0 : List Int) (hL0 : TabD (fun i j => joinsB x i c j) x.p.toNat f (dn s p 0) L0) (M : List Bool) (k0 : Nat) {Q : List Int → Prop}
    (K : ∀ L' : List Int, TabD (fun i j => joinsB x i c j) x.p.toNat f (dn s (p + 1) 0) L' → Run (fun q => spec_l04Lengths.l2 q x (rowsM x c x.p.toNat) (f : Int) (s : Int) L' (M.set ((k0 : Nat) : Int).toNat true) ((p : Int) + 1)) Q) :
    Run (fun q => spec_l04Lengths.l3 q x (rowsM x c x.p.toNat) (f : Int) (s : Int) M (p : Int) (k0 : Int) L0 ((f : Int) + 1)) Q := by
  have hm2 : (2 : Nat) ^ x.p.toNat ≤ 2 ^ 17 := Nat.pow_le_pow_right (by omega) (by omega)
  refine Run.loop (L := fun q (z : List Int × Int) => spec_l04Lengths.l3 q x (rowsM x c x.p.toNat) (f : Int) (s : Int) M (p : Int) (k0 : Int) z.1 z.2) (fun z => (x.p - z.2).toNat)
    (fun z => (f : Int) + 1 ≤ z.2 ∧ z.2 ≤ x.p ∧ TabD (fun i j => joinsB x i c j) x.p.toNat f (dn s p z.2.toNat) z.1) ?_ (L0, (f : Int) + 1) ⟨by simp only; omega, by simp only; omega, hL0.turn fun S p' q' _ _ _ h4 _ _ _ => by simp only; unfold dn; omega⟩
  rintro ⟨L, q⟩ ⟨q0, q1, hL⟩ ih
  simp only at q0 q1 hL
  obtain ⟨q, rfl⟩ := Int.eq_ofNat_of_zero_le (show 0 ≤ q by omega)
  simp only [Int.toNat_natCast] at ih hL ⊢
  simp only [spec_l04Lengths.l3]
  refine Run.ite (fun hqn => ?_) (fun hqn => ?_)
  rotate_left
  · rw [w64_id (x := (p : Int) + 1) (by omega)]
    exact K L (hL.turn fun S p' q' _ _ h3 _ _ _ _ => by unfold dn; omega)
  have hqn' : q < x.p.toNat := by omega
  have hpi : (2 : Nat) ^ q ≤ 2 ^ 17 := Nat.pow_le_pow_right (by omega) (by omega)
  have hml := Nat.lt_of_lt_of_le (mask_lt (joinsB x p c) x.p.toNat) hm2
  rw [w64_id (x := (q : Int) + 1) (by omega), wu64_id (x := (q : Int)) (by omega)]
  have no : ¬ (joinsB x p c q = true ∧ s.testBit q = false) → Run (fun k => spec_l04Lengths.l3 k x (rowsM x c x.p.toNat) (f : Int) (s : Int) M (p : Int) (k0 : Int) L ((q : Int) + 1)) Q := fun hn => by
    refine ih (L, (q : Int) + 1) ⟨by simp only; omega, by simp only; omega, hL.turn fun S p' q' _ _ _ _ h5 _ h7 => ?_⟩ (by simp only; omega)
    simp only
    unfold dn
    rw [show ((q : Int) + 1).toNat = q + 1 by omega]
    constructor
    · rintro (h | ⟨h, h' | ⟨h', h''⟩⟩)
      · exact .inl h
      · exact .inr ⟨h, .inl h'⟩
      · refine .inr ⟨h, .inr ⟨h', ?_⟩⟩
        apply Decidable.byContradiction
        intro hh
        have e : q' = q := by omega
        subst e h h'
        exact hn ⟨h7, h5⟩
    · rintro (h | ⟨h, h' | ⟨h', h''⟩⟩)
      · exact .inl h
      · exact .inr ⟨h, .inl h'⟩
      · exact .inr ⟨h, .inr ⟨h', by omega⟩⟩
  refine Run.bindE (Run.getI' (by omega) (by rw [rowsM_length]; omega)) ?_
  rw [rowsM_at]
  have hbit : (mask (joinsB x p c) x.p.toNat).testBit q = joinsB x p c q := by rw [testBit_mask, decide_eq_true hqn', Bool.true_and]
  refine Run.ite (fun h1 => ?_) (fun h1 => no fun h => h1 ((bit64 (by omega) (by omega)).mpr (by rw [hbit]; exact h.1)))
  have hg := (bit64 (by omega) (by omega)).mp h1
  rw [hbit] at hg
  refine Run.ite (fun h2 => ?_) (fun h2 => no fun h => h2 ((bit64z (by omega) (by omega)).mpr h.2))
  have hsq := (bit64z (by omega) (by omega)).mp h2
  have hin := or_in hs hqn'
  obtain ⟨v, hv, hvn, _⟩ := hL.val (s ||| 2 ^ q) hin
  have hlen : ((s ||| 2 ^ q : Nat) : Int) < L.length := by rw [hL.len]; omega
  have eg : L.getD (s ||| 2 ^ q) 0 = L[((s ||| 2 ^ q : Nat) : Int).toNat]'(by omega) := getD_at (by omega)
  rw [shl64 (by omega), or64 (by omega) (by omega)]
  refine Run.bindE (Run.getI' (by omega) hlen) ?_
  refine Run.bindE (Run.getI' (by omega) hlen) ?_
  rw [← eg, hv, or64 (by omega) (by omega), Int.toNat_natCast]
  refine ih (_, (q : Int) + 1) ⟨by simp only; omega, by simp only; omega, hL.put hs hpn hqn' (by omega) hsq hm hg hv fun S p' q' _ _ _ _ _ _ _ => ?_⟩ (by simp only; omega)
  simp only
  unfold dn
  rw [show ((q : Int) + 1).toNat = q + 1 by omega]
  omega
theorem spec_l04Lengths_l4 (x : Col) (c : Int) (hp : 1 ≤ x.p ∧ x.p ≤ 17) (f s p : Nat) (hf : f < x.p.toNat) (hs : s < 2 ^ x.p.toNat) (hpn : p < x.p.toNat) (hm : hM (fun i j => joinsB x i c j) x.p.toNat f s p = true) (L0 : List Int) (hL0 : TabD (fun i j => joinsB x i c j) x.p.toNat f (dn s p 0) L0) (M : List Bool) {Q : List Int → Prop}
    (K : ∀ L' : List Int, TabD (fun i j => joinsB x i c j) x.p.toNat f (dn s (p + 1) 0) L' → Run (fun q => spec_l04Lengths.l2 q x (rowsM x c x.p.toNat) (f : Int) (s : Int) L' M ((p : Int) + 1)) Q) :
    Run (fun q => spec_l04Lengths.l4 q x (rowsM x c x.p.toNat) (f : Int) (s : Int) M (p : Int) L0 ((f : Int) + 1)) Q := by
  have hm2 : (2 : Nat) ^ x.p.toNat ≤ 2 ^ 17 := Nat.pow_le_pow_right (by omega) (by omega)
  refine Run.loop (L := fun q (z : List Int × Int) => spec_l04Lengths.l4 q x (rowsM x c x.p.toNat) (f : Int) (s : Int) M (p : Int) z.1 z.2) (fun z => (x.p - z.2).toNat)
    (fun z => (f : Int) + 1 ≤ z.2 ∧ z.2 ≤ x.p ∧ TabD (fun i j => joinsB x i c j) x.p.toNat f (dn s p z.2.toNat) z.1) ?_ (L0, (f : Int) + 1) ⟨by simp only; omega, by simp only; omega, hL0.turn fun S p' q' _ _ _ h4 _ _ _ => by simp only; unfold dn; omega⟩
  rintro ⟨L, q⟩ ⟨q0, q1, hL⟩ ih
  simp only at q0 q1 hL
  obtain ⟨q, rfl⟩ := Int.eq_ofNat_of_zero_le (show 0 ≤ q by omega)
  simp only [Int.toNat_natCast] at ih hL ⊢
  simp only [spec_l04Lengths.l4]
  refine Run.ite (fun hqn => ?_) (fun hqn => ?_)
  rotate_left
  · rw [w64_id (x := (p : Int) + 1) (by omega)]
    exact K L (hL.turn fun S p' q' _ _ h3 _ _ _ _ => by unfold dn; omega)
  have hqn' : q < x.p.toNat := by omega
  have hpi : (2 : Nat) ^ q ≤ 2 ^ 17 := Nat.pow_le_pow_right (by omega) (by omega)
  have hml := Nat.lt_of_lt_of_le (mask_lt (joinsB x p c) x.p.toNat) hm2
  rw [w64_id (x := (q : Int) + 1) (by omega), wu64_id (x := (q : Int)) (by omega)]
  have no : ¬ (joinsB x p c q = true ∧ s.testBit q = false) → Run (fun k => spec_l04Lengths.l4 k x (rowsM x c x.p.toNat) (f : Int) (s : Int) M (p : Int) L ((q : Int) + 1)) Q := fun hn => by
    refine ih (L, (q : Int) + 1) ⟨by simp only; omega, by simp only; omega, hL.turn fun S p' q' _ _ _ _ h5 _ h7 => ?_⟩ (by simp only; omega)
    simp only
    unfold dn
    rw [show ((q : Int) + 1).toNat = q + 1 by omega]
    constructor
    · rintro (h | ⟨h, h' | ⟨h', h''⟩⟩)
      · exact .inl h
      · exact .inr ⟨h, .inl h'⟩
      · refine .inr ⟨h, .inr ⟨h', ?_⟩⟩
        apply Decidable.byContradiction
        intro hh
        have e : q' = q := by omega
        subst e h h'
        exact hn ⟨h7, h5⟩
    · rintro (h | ⟨h, h' | ⟨h', h''⟩⟩)
      · exact .inl h
      · exact .inr ⟨h, .inl h'⟩
      · exact .inr ⟨h, .inr ⟨h', by omega⟩⟩
  refine Run.bindE (Run.getI' (by omega) (by rw [rowsM_length]; omega)) ?_
  rw [rowsM_at]
  have hbit : (mask (joinsB x p c) x.p.toNat).testBit q = joinsB x p c q := by rw [testBit_mask, decide_eq_true hqn', Bool.true_and]
  refine Run.ite (fun h1 => ?_) (fun h1 => no fun h => h1 ((bit64 (by omega) (by omega)).mpr (by rw [hbit]; exact h.1)))
  have hg := (bit64 (by omega) (by omega)).mp h1
  rw [hbit] at hg
  refine Run.ite (fun h2 => ?_) (fun h2 => no fun h => h2 ((bit64z (by omega) (by omega)).mpr h.2))
  have hsq := (bit64z (by omega) (by omega)).mp h2
  have hin := or_in hs hqn'
  obtain ⟨v, hv, hvn, _⟩ := hL.val (s ||| 2 ^ q) hin
  have hlen : ((s ||| 2 ^ q : Nat) : Int) < L.length := by rw [hL.len]; omega
  have eg : L.getD (s ||| 2 ^ q) 0 = L[((s ||| 2 ^ q : Nat) : Int).toNat]'(by omega) := getD_at (by omega)
  rw [shl64 (by omega), or64 (by omega) (by omega)]
  refine Run.bindE (Run.getI' (by omega) hlen) ?_
  refine Run.bindE (Run.getI' (by omega) hlen) ?_
  rw [← eg, hv, or64 (by omega) (by omega), Int.toNat_natCast]
  refine ih (_, (q : Int) + 1) ⟨by simp only; omega, by simp only; omega, hL.put hs hpn hqn' (by omega) hsq hm hg hv fun S p' q' _ _ _ _ _ _ _ => ?_⟩ (by simp only; omega)
  simp only
  unfold dn
  rw [show ((q : Int) + 1).toNat = q + 1 by omega]
  omega
theorem spec_l04Lengths_l5 (x : Col) (c : Int) (hp : 1 ≤ x.p ∧ x.p ≤ 17) (f s p : Nat) (hf : f < x.p.toNat) (hs : s < 2 ^ x.p.toNat) (hpn : p < x.p.toNat) (hm : hM (fun i j => joinsB x i c j) x.p.toNat f s p = true) (L0 : List Int) (hL0 : TabD (fun i j => joinsB x i c j) x.p.toNat f (dn s p 0) L0) (M : List Bool) {Q : List Int → Prop}
    (K : ∀ L' : List Int, TabD (fun i j => joinsB x i c j) x.p.toNat f (dn s (p + 1) 0) L' → Run (fun q => spec_l04Lengths.l2 q x (rowsM x c x.p.toNat) (f : Int) (s : Int) L' M ((p : Int) + 1)) Q) :
    Run (fun q => spec_l04Lengths.l5 q x (rowsM x c x.p.toNat) (f : Int) (s : Int) M (p : Int) L0 ((f : Int) + 1)) Q := by
  have hm2 : (2 : Nat) ^ x.p.toNat ≤ 2 ^ 17 := Nat.pow_le_pow_right (by omega) (by omega)
  refine Run.loop (L := fun q (z : List Int × Int) => spec_l04Lengths.l5 q x (rowsM x c x.p.toNat) (f : Int) (s : Int) M (p : Int) z.1 z.2) (fun z => (x.p - z.2).toNat)
    (fun z => (f : Int) + 1 ≤ z.2 ∧ z.2 ≤ x.p ∧ TabD (fun i j => joinsB x i c j) x.p.toNat f (dn s p z.2.toNat) z.1) ?_ (L0, (f : Int) + 1) ⟨by simp only; omega, by simp only; omega, hL0.turn fun S p' q' _ _ _ h4 _ _ _ => by simp only; unfold dn; omega⟩
  rintro ⟨L, q⟩ ⟨q0, q1, hL⟩ ih
  simp only at q0 q1 hL
  obtain ⟨q, rfl⟩ := Int.eq_ofNat_of_zero_le (show 0 ≤ q by omega)
  simp only [Int.toNat_natCast] at ih hL ⊢
  simp only [spec_l04Lengths.l5]
  refine Run.ite (fun hqn => ?_) (fun hqn => ?_)
  rotate_left
  · rw [w64_id (x := (p : Int) + 1) (by omega)]
    exact K L (hL.turn fun S p' q' _ _ h3 _ _ _ _ => by unfold dn; omega)
  have hqn' : q < x.p.toNat := by omega
  have hpi : (2 : Nat) ^ q ≤ 2 ^ 17 := Nat.pow_le_pow_right (by omega) (by omega)
  have hml := Nat.lt_of_lt_of_le (mask_lt (joinsB x p c) x.p.toNat) hm2
  rw [w64_id (x := (q : Int) + 1) (by omega), wu64_id (x := (q : Int)) (by omega)]
  have no : ¬ (joinsB x p c q = true ∧ s.testBit q = false) → Run (fun k => spec_l04Lengths.l5 k x (rowsM x c x.p.toNat) (f : Int) (s : Int) M (p : Int) L ((q : Int) + 1)) Q := fun hn => by
    refine ih (L, (q : Int) + 1) ⟨by simp only; omega, by simp only; omega, hL.turn fun S p' q' _ _ _ _ h5 _ h7 => ?_⟩ (by simp only; omega)
    simp only
    unfold dn
    rw [show ((q : Int) + 1).toNat = q + 1 by omega]
    constructor
    · rintro (h | ⟨h, h' | ⟨h', h''⟩⟩)
      · exact .inl h
      · exact .inr ⟨h, .inl h'⟩
      · refine .inr ⟨h, .inr ⟨h', ?_⟩⟩
        apply Decidable.byContradiction
        intro hh
        have e : q' = q := by omega
        subst e h h'
        exact hn ⟨h7, h5⟩
    · rintro (h | ⟨h, h' | ⟨h', h''⟩⟩)
      · exact .inl h
      · exact .inr ⟨h, .inl h'⟩
      · exact .inr ⟨h, .inr ⟨h', by omega⟩⟩
  refine Run.bindE (Run.getI' (by omega) (by rw [rowsM_length]; omega)) ?_
  rw [rowsM_at]
  have hbit : (mask (joinsB x p c) x.p.toNat).testBit q = joinsB x p c q := by rw [testBit_mask, decide_eq_true hqn', Bool.true_and]
  refine Run.ite (fun h1 => ?_) (fun h1 => no fun h => h1 ((bit64 (by omega) (by omega)).mpr (by rw [hbit]; exact h.1)))
  have hg := (bit64 (by omega) (by omega)).mp h1
  rw [hbit] at hg
  refine Run.ite (fun h2 => ?_) (fun h2 => no fun h => h2 ((bit64z (by omega) (by omega)).mpr h.2))
  have hsq := (bit64z (by omega) (by omega)).mp h2
  have hin := or_in hs hqn'
  obtain ⟨v, hv, hvn, _⟩ := hL.val (s ||| 2 ^ q) hin
  have hlen : ((s ||| 2 ^ q : Nat) : Int) < L.length := by rw [hL.len]; omega
  have eg : L.getD (s ||| 2 ^ q) 0 = L[((s ||| 2 ^ q : Nat) : Int).toNat]'(by omega) := getD_at (by omega)
  rw [shl64 (by omega), or64 (by omega) (by omega)]
  refine Run.bindE (Run.getI' (by omega) hlen) ?_
  refine Run.bindE (Run.getI' (by omega) hlen) ?_
  rw [← eg, hv, or64 (by omega) (by omega), Int.toNat_natCast]
  refine ih (_, (q : Int) + 1) ⟨by simp only; omega, by simp only; omega, hL.put hs hpn hqn' (by omega) hsq hm hg hv fun S p' q' _ _ _ _ _ _ _ => ?_⟩ (by simp only; omega)
  simp only
  unfold dn
  rw [show ((q : Int) + 1).toNat = q + 1 by omega]
  omega
theorem spec_l04Lengths_run (x : Col) (hx : ByteC x) (c : Int) (hp : 1 ≤ x.p ∧ x.p ≤ 17) : Run (fun k => spec_l04Lengths.f k x c) (· = lensM x c) := by
  unfold spec_l04Lengths.f
  have hm2 : (2 : Nat) ^ x.p.toNat ≤ 2 ^ 17 := Nat.pow_le_pow_right (by omega) (by omega)
  have hpos : 0 < 2 ^ x.p.toNat := Nat.pow_pos (by omega)
  have hsh : shlI .i64 1 (wu64 x.p) = ((2 ^ x.p.toNat : Nat) : Int) := by
    rw [wu64_id (by omega)]
    exact (congrArg (shlI .i64 1) (show x.p = ((x.p.toNat : Nat) : Int) by omega)).trans (shl64 (by omega))
  refine Run.bindE (spec_l02Rows_run x hx (by omega) c) ?_
  rw [w64_id (x := x.p + 1) (by omega)]
  refine Run.bind (Q := fun _ => True) (Run.guard (by omega) trivial) fun _ _ => ?_
  rw [show (x.p + 1).toNat = x.p.toNat + 1 by omega]
  refine Run.loop (L := fun q (z : List Bool × Int) => spec_l04Lengths.l0 q x (rowsM x c x.p.toNat) z.1 z.2) (fun z => (x.p - z.2).toNat) (fun z => 0 ≤ z.2 ∧ z.2 ≤ x.p ∧ MetD (fun i j => joinsB x i c j) x.p.toNat (mt z.2.toNat 0 0) z.1) ?_ (_, 0) ⟨by simp only; omega, by simp only; omega, metD_new _ _ fun f S p => by simp only; unfold mt; omega⟩
  rintro ⟨M, f⟩ ⟨f0, f1, hMt⟩ ih
  simp only at f0 f1 hMt
  obtain ⟨f, rfl⟩ := Int.eq_ofNat_of_zero_le f0
  simp only [Int.toNat_natCast] at ih hMt ⊢
  simp only [spec_l04Lengths.l0, hsh]
  refine Run.ite (fun hfn => ?_) (fun hfn => ?_)
  rotate_left
  · have hmet : ∀ k, k ≤ x.p.toNat → M.getD k false = ringB (fun i j => joinsB x i c j) x.p.toNat k := fun k hk => met_end (joins_comm x c) hMt (fun f' S p h => by unfold mt; omega) hk
    have hMl := hMt.len
    refine Run.loop (L := fun q (z : List Int × Int) => spec_l04Lengths.l6 q x M z.1 z.2) (fun z => (x.p + 1 - z.2).toNat) (fun z => 3 ≤ z.2 ∧ z.1.length ≤ z.2.toNat ∧ z.1 ++ (upF (ringB (fun i j => joinsB x i c j) x.p.toNat) z.2.toNat (x.p.toNat + 1)).map Int.ofNat = lensM x c) ?_ ([], 3) ⟨by simp only; omega, Nat.zero_le _, rfl⟩
    rintro ⟨out, m⟩ ⟨m0, ho, hT⟩ ih6
    simp only at m0 ho hT
    obtain ⟨m, rfl⟩ := Int.eq_ofNat_of_zero_le (show 0 ≤ m by omega)
    simp only [Int.toNat_natCast] at ih6 ho hT ⊢
    simp only [spec_l04Lengths.l6]
    refine Run.ite (fun h => ?_) (fun h => ?_)
    rotate_left
    · refine Run.ret ?_
      rw [upF_end _ (p := m) (by omega), List.map_nil, List.append_nil] at hT
      exact hT
    have eg : M.getD m false = M[m]'(by omega) := by rw [List.getD_eq_getElem?_getD, List.getElem?_eq_getElem (by omega)]; rfl
    refine Run.bindE (a := M.getD m false) (Run.const (r := M.getD m false) (by unfold getT; rw [if_pos (by omega), Int.toNat_natCast, List.getElem?_eq_getElem (by omega), eg]) rfl) ?_
    rw [hmet m (by omega), w64_id (x := (m : Int) + 1) (by omega)]
    refine Run.ite (fun hr => ?_) (fun hr => ?_)
    · refine Run.bindE (Run.push' (by omega)) ?_
      rw [upF_yes (p := m) (by omega) hr, List.map_cons] at hT
      refine ih6 (_, (m : Int) + 1) ⟨by simp only; omega, by simp only [List.length_append, List.length_singleton]; omega, ?_⟩ (by simp only; omega)
      simp only
      rw [show ((m : Int) + 1).toNat = m + 1 by omega, List.append_assoc]
      exact hT
    · rw [upF_no (p := m) (by omega) hr] at hT
      refine ih6 (out, (m : Int) + 1) ⟨by simp only; omega, by simp only; omega, ?_⟩ (by simp only; omega)
      simp only
      rw [show ((m : Int) + 1).toNat = m + 1 by omega]
      exact hT
  have hfn' : f < x.p.toNat := by omega
  have hfp : (2 : Nat) ^ f < 2 ^ x.p.toNat := Nat.pow_lt_pow_right (by omega) hfn'
  have hfe : shlI .i64 1 (wu64 (f : Int)) = ((2 ^ f : Nat) : Int) := by rw [wu64_id (by omega), shl64 (by omega)]
  refine Run.bind (Q := fun _ => True) (Run.guard (by omega) trivial) fun _ _ => ?_
  rw [hfe, Int.toNat_natCast, Int.toNat_natCast]
  refine Run.bindE (Run.getI' (Int.natCast_nonneg _) (by rw [List.length_replicate]; exact Int.ofNat_lt.mpr hfp)) ?_
  refine Run.loop (L := fun q (z : List Int × List Bool × Int) => spec_l04Lengths.l1 q x (rowsM x c x.p.toNat) (f : Int) z.1 z.2.1 z.2.2) (fun z => (2 ^ x.p.toNat - z.2.2.toNat))
    (fun z => 0 ≤ z.2.2 ∧ 2 ^ f ≤ z.2.2.toNat ∧ z.2.2.toNat ≤ 2 ^ x.p.toNat ∧ TabD (fun i j => joinsB x i c j) x.p.toNat f (dn z.2.2.toNat 0 0) z.1 ∧ MetD (fun i j => joinsB x i c j) x.p.toNat (mt f z.2.2.toNat 0) z.2.1) ?_ (_, M, ((2 ^ f : Nat) : Int))
    ⟨Int.natCast_nonneg _, by simp only [Int.toNat_natCast]; exact Nat.le_refl _, by simp only [Int.toNat_natCast]; exact Nat.le_of_lt hfp, tabD_new hfn' fun S p q h => by simp only [Int.toNat_natCast]; unfold dn; omega, hMt.turn fun f' S p k h => by
      simp only [Int.toNat_natCast]
      unfold mt
      constructor
      · rintro (h1 | ⟨h1, h2 | ⟨h2, h3⟩⟩)
        · exact .inl h1
        · subst h1
          have := (hM_ge h.1 h.2.1 h.2.2.2.1).1
          omega
        · omega
      · rintro (h1 | ⟨h1, h2 | ⟨h2, h3⟩⟩)
        · exact .inl h1
        · omega
        · omega⟩
  rintro ⟨L, M1, s⟩ ⟨s0, s1, s2, hL, hM1⟩ ih1
  simp only at s0 s1 s2 hL hM1
  obtain ⟨s, rfl⟩ := Int.eq_ofNat_of_zero_le s0
  simp only [Int.toNat_natCast] at ih1 s1 s2 hL hM1 ⊢
  simp only [spec_l04Lengths.l1]
  have hLl := hL.len
  refine Run.ite (fun hs => ?_) (fun hs => ?_)
  rotate_left
  · rw [w64_id (x := (f : Int) + 1) (by omega)]
    have hsA : s = 2 ^ x.p.toNat := by omega
    refine ih (M1, (f : Int) + 1) ⟨by simp only; omega, by simp only; omega, hM1.turn fun f' S p k h => ?_⟩ (by simp only; omega)
    simp only
    rw [show ((f : Int) + 1).toNat = f + 1 by omega]
    have := h.2.1
    unfold mt
    constructor
    · rintro (h1 | ⟨h1, h2 | ⟨h2, h3⟩⟩)
      · by_cases e : f' = f
        · exact .inr ⟨e, .inl (by omega)⟩
        · exact .inl (by omega)
      · omega
      · omega
    · rintro (h1 | ⟨h1, _⟩)
      · exact .inl (by omega)
      · exact .inl (by omega)
  have hsA : s < 2 ^ x.p.toNat := by omega
  have stepS : ∀ L' M', TabD (fun i j => joinsB x i c j) x.p.toNat f (dn (s + 1) 0 0) L' → MetD (fun i j => joinsB x i c j) x.p.toNat (mt f (s + 1) 0) M' → Run (fun q => spec_l04Lengths.l1 q x (rowsM x c x.p.toNat) (f : Int) L' M' ((s : Int) + 1)) (· = lensM x c) := fun L' M' h1 h2 => by
    refine ih1 (L', M', (s : Int) + 1) ⟨by simp only; omega, ?_, ?_, ?_, ?_⟩ ?_ <;> simp only <;> rw [show ((s : Int) + 1).toNat = s + 1 by omega]
    · omega
    · omega
    · exact h1
    · exact h2
    · omega
  obtain ⟨v, hv, hvn, hvb⟩ := hL.full hsA fun q p h => .inl (rm_lt hsA h)
  have eg : L.getD s 0 = L[((s : Nat) : Int).toNat]'(by omega) := getD_at (by omega)
  refine Run.bindE (Run.getI' (by omega) hs) ?_
  rw [← eg, hv, w64_id (x := (s : Int) + 1) (by omega)]
  refine Run.ite (fun h0 => ?_) (fun _ => ?_)
  · have hno : ∀ p, p < x.p.toNat → ¬ hM (fun i j => joinsB x i c j) x.p.toNat f s p = true := fun p hp' h => by
      have := (hvb p hp').mpr h
      rw [show v = 0 by omega, Nat.zero_testBit] at this; cases this
    refine stepS L M1 (hL.turn fun S p q _ h2 _ _ _ h6 _ => ?_) (hM1.turn fun f' S p k h => ?_)
    · unfold dn
      constructor
      · rintro (h | h)
        · by_cases e : S = s
          · subst e; exact absurd h6 (hno p h2)
          · exact .inl (by omega)
        · omega
      · rintro (h | h)
        · exact .inl (by omega)
        · omega
    · unfold mt
      constructor
      · rintro (h1 | ⟨h1, h2 | h2⟩)
        · exact .inl h1
        · by_cases e : S = s
          · subst e h1; exact absurd h.2.2.2.1 (hno p h.2.2.1)
          · exact .inr ⟨h1, .inl (by omega)⟩
        · omega
      · rintro (h1 | ⟨h1, h2 | h2⟩)
        · exact .inl h1
        · exact .inr ⟨h1, .inl (by omega)⟩
        · omega
  refine Run.loop (L := fun q (z : List Int × List Bool × Int) => spec_l04Lengths.l2 q x (rowsM x c x.p.toNat) (f : Int) (s : Int) z.1 z.2.1 z.2.2) (fun z => (x.p - z.2.2).toNat)
    (fun z => (f : Int) ≤ z.2.2 ∧ z.2.2 ≤ x.p ∧ TabD (fun i j => joinsB x i c j) x.p.toNat f (dn s z.2.2.toNat 0) z.1 ∧ MetD (fun i j => joinsB x i c j) x.p.toNat (mt f s z.2.2.toNat) z.2.1) ?_ (L, M1, (f : Int))
    ⟨by simp only; omega, by simp only; omega, hL.turn fun S p q h1 h2 _ _ _ h6 _ => by
      simp only [Int.toNat_natCast]
      have := (hM_ge hfn' h1 h6).2.1
      unfold dn; omega, hM1.turn fun f' S p k h => by
      simp only [Int.toNat_natCast]
      unfold mt
      constructor
      · rintro (h1 | ⟨h1, h2 | ⟨h2, h3⟩⟩)
        · exact .inl h1
        · exact .inr ⟨h1, .inl h2⟩
        · subst h1
          have := (hM_ge h.1 h.2.1 h.2.2.2.1).2.1
          omega
      · rintro (h1 | ⟨h1, h2 | h2⟩)
        · exact .inl h1
        · exact .inr ⟨h1, .inl h2⟩
        · omega⟩
  clear hL hM1 hv hvb hLl eg hs
  rintro ⟨L, M1, p⟩ ⟨p0, p1, hL, hM1⟩ ih2
  simp only at p0 p1 hL hM1
  obtain ⟨p, rfl⟩ := Int.eq_ofNat_of_zero_le (show 0 ≤ p by omega)
  simp only [Int.toNat_natCast] at ih2 hL hM1 ⊢
  simp only [spec_l04Lengths.l2]
  have hLl := hL.len
  refine Run.ite (fun hpn => ?_) (fun hpn => ?_)
  rotate_left
  · rw [w64_id (x := (s : Int) + 1) (by omega)]
    refine stepS L M1 (hL.turn fun S p' q' _ h2 _ _ _ _ _ => by unfold dn; omega) (hM1.turn fun f' S p' k h => by have := h.2.2.1; unfold mt; omega)
  have hpn' : p < x.p.toNat := by omega
  obtain ⟨v, hv, hvn, hvb⟩ := hL.full hsA fun q p h => .inl (rm_lt hsA h)
  have eg : L.getD s 0 = L[((s : Nat) : Int).toNat]'(by omega) := getD_at (by omega)
  refine Run.bindE (Run.getI' (by omega) (by omega)) ?_
  rw [← eg, hv, wu64_id (x := (p : Int)) (by omega), w64_id (x := (p : Int) + 1) (by omega), w64_id (x := (f : Int) + 1) (by omega)]
  have stepP : ∀ L' M', TabD (fun i j => joinsB x i c j) x.p.toNat f (dn s (p + 1) 0) L' → MetD (fun i j => joinsB x i c j) x.p.toNat (mt f s (p + 1)) M' → Run (fun q => spec_l04Lengths.l2 q x (rowsM x c x.p.toNat) (f : Int) (s : Int) L' M' ((p : Int) + 1)) (· = lensM x c) := fun L' M' h1 h2 => by
    refine ih2 (L', M', (p : Int) + 1) ⟨by simp only; omega, by simp only; omega, ?_, ?_⟩ (by simp only; omega) <;> simp only <;> rw [show ((p : Int) + 1).toNat = p + 1 by omega]
    · exact h1
    · exact h2
  have metSame : (¬ hit (fun i j => joinsB x i c j) x.p.toNat f s p (cnt s.testBit x.p.toNat)) → MetD (fun i j => joinsB x i c j) x.p.toNat (mt f s (p + 1)) M1 := fun hn => hM1.turn fun f' S p' k h => by
    unfold mt
    constructor
    · rintro (h1 | ⟨h1, h2 | ⟨h2, h3⟩⟩)
      · exact .inl h1
      · exact .inr ⟨h1, .inl h2⟩
      · by_cases e : p' = p
        · subst h1 h2 e
          refine absurd ?_ hn
          have := h.2.2.2.2.1
          rw [this]; exact h
        · exact .inr ⟨h1, .inr ⟨h2, by omega⟩⟩
    · rintro (h1 | ⟨h1, h2 | ⟨h2, h3⟩⟩)
      · exact .inl h1
      · exact .inr ⟨h1, .inl h2⟩
      · exact .inr ⟨h1, .inr ⟨h2, by omega⟩⟩
  refine Run.ite (fun h1 => ?_) (fun h1 => ?_)
  · have hno : ¬ hM (fun i j => joinsB x i c j) x.p.toNat f s p = true := fun h => by
      have h2 := (bit64z (by omega) (by omega)).mp h1
      rw [(hvb p hpn').mpr h] at h2; cases h2
    refine stepP L M1 (hL.turn fun S p' q' _ _ _ _ _ h6 _ => ?_) (metSame fun h => hno h.2.2.2.1)
    unfold dn
    constructor
    · rintro (h | ⟨h, h' | h'⟩)
      · exact .inl h
      · by_cases e : p' = p
        · subst h e; exact absurd h6 hno
        · exact .inr ⟨h, .inl (by omega)⟩
      · omega
    · rintro (h | ⟨h, h' | h'⟩)
      · exact .inl h
      · exact .inr ⟨h, .inl (by omega)⟩
      · omega
  have hm : hM (fun i j => joinsB x i c j) x.p.toNat f s p = true := by
    refine (hvb p hpn').mp ?_
    cases hb : v.testBit p with
    | true => rfl
    | false => exact absurd ((bit64z (by omega) (by omega)).mpr hb) h1
  refine Run.bindE (spec_l01Ones_run s (by omega)) ?_
  rw [cnt_62 hsA (by omega)]
  have hcn := cnt_le s.testBit x.p.toNat
  refine Run.ite (fun h2 => ?_) (fun h2 => ?_)
  rotate_left
  · exact spec_l04Lengths_l5 x c hp f s p hfn' hsA hpn' hm L hL M1 fun L' h => stepP L' M1 h (metSame fun hh => h2 (by have := hh.2.2.2.2.2.1; omega))
  refine Run.bindE (Run.getI' (by omega) (by rw [rowsM_length]; omega)) ?_
  rw [rowsM_at, wu64_id (x := (f : Int)) (by omega)]
  have hml := Nat.lt_of_lt_of_le (mask_lt (joinsB x p c) x.p.toNat) hm2
  have hbit : (mask (joinsB x p c) x.p.toNat).testBit f = joinsB x p c f := by rw [testBit_mask, decide_eq_true hfn', Bool.true_and]
  refine Run.ite (fun h3 => ?_) (fun h3 => ?_)
  rotate_left
  · exact spec_l04Lengths_l4 x c hp f s p hfn' hsA hpn' hm L hL M1 fun L' h => stepP L' M1 h (metSame fun hh => h3 ((bit64 (by omega) (by omega)).mpr (by rw [hbit]; exact hh.2.2.2.2.2.2)))
  have hg := (bit64 (by omega) (by omega)).mp h3
  rw [hbit] at hg
  have hMl := hM1.len
  refine Run.bind (Q := fun _ => True) (Run.const (r := M1[cnt s.testBit x.p.toNat]'(by omega)) (by unfold getT; rw [if_pos (by omega), Int.toNat_natCast]; exact List.getElem?_eq_getElem (by omega)) trivial) fun _ _ => ?_
  refine spec_l04Lengths_l3 x c hp f s p hfn' hsA hpn' hm L hL M1 (cnt s.testBit x.p.toNat) fun L' h => stepP L' _ h ?_
  rw [Int.toNat_natCast]
  refine hM1.put (f := f) (S := s) (p := p) ⟨hfn', hsA, hpn', hm, rfl, by omega, hg⟩ fun f' S p' k h => ?_
  unfold mt
  omega
end Go.Proofs.Ytjhcacfhahpdgaa.P
