/- What the pure functions come to, one by one (part 5). -/
import Derived.Test.YtjhcacfhahpdgaaPFnExactFirstCycle4
import Derived.Test.YtjhcacfhahpdgaaGFnExactFirstCycle8
namespace Go.Proofs.Ytjhcacfhahpdgaa.P
open Go Go.RowKit Go.Proofs.Ytjhcacfhahpdgaa.K Go.Proofs.Ytjhcacfhahpdgaa.G
set_option linter.unusedVariables false
set_option linter.unusedSimpArgs false

theorem spec_l04Has_run (x : Col) (hx : ByteC x) (c : Int) (hp : 1 ≤ x.p ∧ x.p ≤ 17) (m : Nat) (hm : 3 ≤ m) : Run (fun k => spec_l04Has.f k x c (m : Int)) (· = ringB (fun i j => joinsB x i c j) x.p.toNat m) := by
  unfold spec_l04Has.f
  refine Run.bindE (spec_l04Lengths_run x hx c hp) ?_
  rw [← lensM_contains hm]
  have hlen : (lensM x c).length ≤ 100 := by
    have h2 := upF_length (ringB (fun i j => joinsB x i c j) x.p.toNat) 3 (x.p.toNat + 1)
    unfold lensM; rw [List.length_map]; omega
  generalize lensM x c = l at hlen
  refine Run.loop (L := fun q (z : Int) => spec_l04Has.l0 q (m : Int) l z) (fun z => (l.length - z).toNat) (fun z => 0 ≤ z ∧ z ≤ l.length ∧ (l.drop z.toNat).contains (m : Int) = l.contains (m : Int)) ?_ 0 ⟨by omega, by omega, rfl⟩
  rintro i ⟨i0, i1, hT⟩ ih
  obtain ⟨i, rfl⟩ := Int.eq_ofNat_of_zero_le i0
  simp only [Int.toNat_natCast] at ih hT ⊢
  simp only [spec_l04Has.l0]
  refine Run.ite (fun h => ?_) (fun h => Run.ret (by rw [← hT, List.drop_eq_nil_of_le (by omega)]; rfl))
  rw [show l.drop i = l[i]'(by omega) :: l.drop (i + 1) from List.drop_eq_getElem_cons (by omega)] at hT
  refine Run.bindE (Run.getI' (by omega) h) ?_
  simp only [Int.toNat_natCast]
  refine Run.ite (fun h1 => Run.ret ?_) (fun h1 => ?_)
  · rw [← hT, h1]; simp
  · rw [w64_id (x := (i : Int) + 1) (by omega)]
    refine ih ((i : Int) + 1) ⟨by omega, by omega, ?_⟩ (by omega)
    rw [show ((i : Int) + 1).toNat = i + 1 by omega, ← hT, List.contains_cons]
    have : ((m : Int) == l[i]'(by omega)) = false := by simpa using fun e => h1 e.symm
    rw [this, Bool.false_or]

theorem spec_l01Own_run (l : List Int) (hl : l.length < 1099511627776) : Run (fun _ => spec_l01Own.f l) (· = l) := by
  unfold spec_l01Own.f
  refine Run.bindE (Run.concat' (by simp; omega)) ?_
  exact Run.ret (List.nil_append l)

theorem spec_l04Cycle_run (x : Col) (c : Int) (hp : 1 ≤ x.p ∧ x.p ≤ 17) (m : Nat) (hm : 3 ≤ m ∧ m ≤ 17) : ∀ (d : Nat) (L : List Nat), L ≠ [] → L.length + d = m → (∀ v ∈ L, v < x.p.toNat) →
    Run (fun k => spec_l04Cycle.f k (rowsM x c x.p.toNat) (L.map Int.ofNat) (mask (fun j => L.contains j) x.p.toNat : Int) (m : Int)) (fun r => r.2 = (cyc (fun i j => joinsB x i c j) x.p.toNat d L).isSome ∧ (r.2 = true → r.1 = listO (cyc (fun i j => joinsB x i c j) x.p.toNat d L))) := by
  have hm2 : (2 : Nat) ^ x.p.toNat ≤ 2 ^ 17 := Nat.pow_le_pow_right (by omega) (by omega)
  intro d
  induction d with
  | zero =>
    intro L hL hd hv
    refine Run.step ?_
    simp only [spec_l04Cycle.f]
    have hpos : 0 < L.length := List.length_pos_iff.mpr hL
    have hlast := lastD_getD hL
    have hln : L.getLastD 0 < x.p.toNat := by rw [← hlast]; exact hv _ (getD_mem (by omega))
    have hhn : L.headD 0 < x.p.toNat := by rw [← headD_getD]; exact hv _ (getD_mem (by omega))
    refine Run.bindE (Run.getI' (l := L.map Int.ofNat) (i := ((0 : Nat) : Int)) (by omega) (by rw [List.length_map]; omega)) ?_
    rw [mapO_at (by omega), headD_getD]
    rw [List.length_map, w64_id (x := (L.length : Int) - 1) (by omega), show (L.length : Int) - 1 = ((L.length - 1 : Nat) : Int) by omega]
    refine Run.bindE (Run.getI' (by omega) (by rw [List.length_map]; omega)) ?_
    rw [mapO_at (by omega), hlast]
    refine Run.yes (by omega) ?_
    refine Run.bindE (Run.getI' (by omega) (by rw [rowsM_length]; omega)) ?_
    rw [rowsM_at, cyc, wu64_id (x := ((L.headD 0 : Nat) : Int)) (by omega)]
    have hml := Nat.lt_of_lt_of_le (mask_lt (joinsB x (L.getLastD 0) c) x.p.toNat) hm2
    have hbit : (mask (joinsB x (L.getLastD 0) c) x.p.toNat).testBit (L.headD 0) = joinsB x (L.headD 0) c (L.getLastD 0) := by rw [testBit_mask, decide_eq_true hhn, Bool.true_and, joins_comm]
    refine Run.ite (fun h1 => ?_) (fun h1 => Run.ret ?_)
    · have hg := (bit64 (by omega) (by omega)).mp h1
      rw [hbit] at hg
      refine Run.bindE (Run.getI' (l := L.map Int.ofNat) (i := ((1 : Nat) : Int)) (by omega) (by rw [List.length_map]; omega)) ?_
      rw [mapO_at (by omega)]
      refine Run.ret ?_
      by_cases h2 : L.getD 1 0 < L.getLastD 0
      · rw [if_pos ⟨hg, h2⟩]
        exact ⟨decide_eq_true (by omega), fun _ => rfl⟩
      · rw [if_neg fun h => h2 h.2]
        exact ⟨decide_eq_false (by omega), fun h => absurd (of_decide_eq_true h) (by omega)⟩
    · rw [if_neg fun h => h1 ((bit64 (by omega) (by omega)).mpr (by rw [hbit]; exact h.1))]
      exact ⟨rfl, fun h => by cases h⟩
  | succ d ihd =>
    intro L hL hd hv
    refine Run.step ?_
    simp only [spec_l04Cycle.f]
    have hpos : 0 < L.length := List.length_pos_iff.mpr hL
    have hlast := lastD_getD hL
    have hln : L.getLastD 0 < x.p.toNat := by rw [← hlast]; exact hv _ (getD_mem (by omega))
    have hhn : L.headD 0 < x.p.toNat := by rw [← headD_getD]; exact hv _ (getD_mem (by omega))
    refine Run.bindE (Run.getI' (l := L.map Int.ofNat) (i := ((0 : Nat) : Int)) (by omega) (by rw [List.length_map]; omega)) ?_
    rw [mapO_at (by omega), headD_getD]
    rw [List.length_map, w64_id (x := (L.length : Int) - 1) (by omega), show (L.length : Int) - 1 = ((L.length - 1 : Nat) : Int) by omega]
    refine Run.bindE (Run.getI' (by omega) (by rw [List.length_map]; omega)) ?_
    rw [mapO_at (by omega), hlast]
    refine Run.no (by omega) ?_
    refine Run.bindE (Run.getI' (by omega) (by rw [rowsM_length]; omega)) ?_
    rw [rowsM_at]
    have hml := Nat.lt_of_lt_of_le (mask_lt (joinsB x (L.headD 0) c) x.p.toNat) hm2
    have hul := Nat.lt_of_lt_of_le (mask_lt (fun j => L.contains j) x.p.toNat) hm2
    rw [andNot64 (by omega) (by omega)]
    refine Run.ite (fun h0 => ?_) (fun _ => ?_)
    · have hz : (mask (joinsB x (L.headD 0) c) x.p.toNat) ^^^ ((mask (joinsB x (L.headD 0) c) x.p.toNat) &&& (mask (fun j => L.contains j) x.p.toNat)) = 0 := by omega
      have hnone : cyc (fun i j => joinsB x i c j) x.p.toNat (d + 1) L = none := by
        cases hc : cyc (fun i j => joinsB x i c j) x.p.toNat (d + 1) L with
        | none => rfl
        | some M =>
          obtain ⟨t, e1, e2, e3, e4, e5, e6, e7⟩ := cyc_some (d + 1) L M hL hc
          obtain ⟨t', q, rfl⟩ : ∃ t' q, t = t' ++ [q] := ⟨t.dropLast, t.getLast (by intro h; rw [h] at e2; cases e2), (List.dropLast_concat_getLast _).symm⟩
          rw [e1, ← List.append_assoc, last_snoc] at e6
          obtain ⟨g1, g2, g3⟩ := e3 q (by simp)
          have hb := congrArg (fun v : Nat => v.testBit q) hz
          simp only [Nat.testBit_xor, Nat.testBit_and, testBit_mask, decide_eq_true g2, Bool.true_and, e6, Nat.zero_testBit] at hb
          have : L.contains q = false := by
            cases hcn : L.contains q with
            | false => rfl
            | true => exact absurd (List.contains_iff_mem.mp hcn) g3
          rw [this] at hb
          cases hb
      rw [hnone]
      exact Run.ret ⟨rfl, fun h => by cases h⟩
    rw [w64_id (x := ((L.headD 0 : Nat) : Int) + 1) (by omega), cyc]
    refine Run.loop (L := fun q (z : Int) => spec_l04Cycle.l0 q (rowsM x c x.p.toNat) (L.map Int.ofNat) (mask (fun j => L.contains j) x.p.toNat : Int) (m : Int) (L.getLastD 0 : Int) z) (fun z => (x.p - z).toNat) (fun z => 0 ≤ z ∧ z ≤ x.p ∧ (upF (fun p => !L.contains p && joinsB x (L.getLastD 0) c p) z.toNat x.p.toNat).findSome? (fun p => cyc (fun i j => joinsB x i c j) x.p.toNat d (L ++ [p])) = (upF (fun p => !L.contains p && joinsB x (L.getLastD 0) c p) (L.headD 0 + 1) x.p.toNat).findSome? (fun p => cyc (fun i j => joinsB x i c j) x.p.toNat d (L ++ [p]))) ?_ _ ⟨by omega, by omega, by rw [show (((L.headD 0 : Nat) : Int) + 1).toNat = L.headD 0 + 1 by omega]⟩
    rintro p ⟨p0, p1, hT⟩ ih
    obtain ⟨p, rfl⟩ := Int.eq_ofNat_of_zero_le p0
    simp only [Int.toNat_natCast] at ih hT ⊢
    simp only [spec_l04Cycle.l0, rowsM_length]
    refine Run.ite (fun hpn => ?_) (fun hpn => Run.ret ?_)
    rotate_left
    · rw [← hT, upF_end _ (p := p) (by omega)]
      exact ⟨rfl, fun h => by cases h⟩
    have hpn' : p < x.p.toNat := by omega
    have hpi : (2 : Nat) ^ p ≤ 2 ^ 17 := Nat.pow_le_pow_right (by omega) (by omega)
    rw [w64_id (x := (p : Int) + 1) (by omega), wu64_id (x := (p : Int)) (by omega)]
    have next : (upF (fun p => !L.contains p && joinsB x (L.getLastD 0) c p) (p + 1) x.p.toNat).findSome? (fun p => cyc (fun i j => joinsB x i c j) x.p.toNat d (L ++ [p])) = (upF (fun p => !L.contains p && joinsB x (L.getLastD 0) c p) (L.headD 0 + 1) x.p.toNat).findSome? (fun p => cyc (fun i j => joinsB x i c j) x.p.toNat d (L ++ [p])) → Run (fun q => spec_l04Cycle.l0 q (rowsM x c x.p.toNat) (L.map Int.ofNat) (mask (fun j => L.contains j) x.p.toNat : Int) (m : Int) (L.getLastD 0 : Int) ((p : Int) + 1)) (fun r => r.2 = ((upF (fun p => !L.contains p && joinsB x (L.getLastD 0) c p) (L.headD 0 + 1) x.p.toNat).findSome? (fun p => cyc (fun i j => joinsB x i c j) x.p.toNat d (L ++ [p]))).isSome ∧ (r.2 = true → r.1 = listO ((upF (fun p => !L.contains p && joinsB x (L.getLastD 0) c p) (L.headD 0 + 1) x.p.toNat).findSome? (fun p => cyc (fun i j => joinsB x i c j) x.p.toNat d (L ++ [p]))))) := fun h => ih ((p : Int) + 1) ⟨by omega, by omega, by rw [show ((p : Int) + 1).toNat = p + 1 by omega]; exact h⟩ (by omega)
    have hub : (mask (fun j => L.contains j) x.p.toNat).testBit p = L.contains p := by rw [testBit_mask, decide_eq_true hpn', Bool.true_and]
    refine Run.ite (fun h1 => next ?_) (fun h1 => ?_)
    · have := (bit64 (by omega) (by omega)).mp h1
      rw [hub] at this
      rw [← hT, upF_no (p := p) hpn' (by rw [this]; simp)]
    have hcp : L.contains p = false := by
      cases hcn : L.contains p with
      | false => rfl
      | true => exact absurd ((bit64 (by omega) (by omega)).mpr (by rw [hub]; exact hcn)) h1
    refine Run.bindE (Run.getI' (by omega) (by rw [rowsM_length]; omega)) ?_
    rw [rowsM_at]
    have hml2 := Nat.lt_of_lt_of_le (mask_lt (joinsB x (L.getLastD 0) c) x.p.toNat) hm2
    have hrb : (mask (joinsB x (L.getLastD 0) c) x.p.toNat).testBit p = joinsB x (L.getLastD 0) c p := by rw [testBit_mask, decide_eq_true hpn', Bool.true_and]
    refine Run.ite (fun h2 => next ?_) (fun h2 => ?_)
    · have := (bit64z (by omega) (by omega)).mp h2
      rw [hrb] at this
      rw [← hT, upF_no (p := p) hpn' (by rw [this]; simp)]
    have hg : joinsB x (L.getLastD 0) c p = true := by
      cases hg : joinsB x (L.getLastD 0) c p with
      | true => rfl
      | false => exact absurd ((bit64z (by omega) (by omega)).mpr (by rw [hrb]; exact hg)) h2
    refine Run.bindE (spec_l01Own_run _ (by rw [List.length_map]; omega)) ?_
    refine Run.bindE (Run.push' (by rw [List.length_map]; omega)) ?_
    rw [show L.map Int.ofNat ++ [(p : Int)] = (L ++ [p]).map Int.ofNat by simp]
    have hor : (mask (fun j => L.contains j) x.p.toNat) ||| 2 ^ p = mask (fun j => (L ++ [p]).contains j) x.p.toNat := by
      rw [mask_or hpn']
      refine mask_congr fun j _ => ?_
      simp [List.contains_eq_mem]
    rw [shl64 (by omega), or64 (by omega) (by omega), hor]
    refine Run.bind (ihd (L ++ [p]) (by simp) (by rw [List.length_append, List.length_singleton]; omega) (fun v hv' => by
      rcases List.mem_append.mp hv' with h | h
      · exact hv v h
      · rw [List.mem_singleton.mp h]; exact hpn')) fun r hr => ?_
    obtain ⟨hr1, hr2⟩ := hr
    rw [upF_yes (p := p) hpn' (by rw [hcp, hg]; rfl), List.findSome?_cons] at hT
    cases hc : cyc (fun i j => joinsB x i c j) x.p.toNat d (L ++ [p]) with
    | none =>
      rw [hc] at hT hr1
      refine Run.no (by rw [hr1]; simp) ?_
      exact next hT
    | some M =>
      rw [hc] at hT hr1 hr2
      rw [← hT]
      refine Run.yes hr1 (Run.ret ⟨rfl, fun _ => hr2 hr1⟩)
end Go.Proofs.Ytjhcacfhahpdgaa.P
