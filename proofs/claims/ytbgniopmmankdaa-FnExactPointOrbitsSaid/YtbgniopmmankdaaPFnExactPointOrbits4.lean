/- What the pure functions come to, one by one (part 4). -/
import Derived.Test.YtbgniopmmankdaaPFnExactPointOrbits3
import Derived.Test.YtbgniopmmankdaaGFnExactPointOrbits11
namespace Go.Proofs.Ytbgniopmmankdaa.P
open Go Go.RowKit Go.Proofs.Ytbgniopmmankdaa.K Go.Proofs.Ytbgniopmmankdaa.G
set_option linter.unusedVariables false
set_option linter.unusedSimpArgs false

theorem spec_l06Go_run2 (x y : Col) (hx : ByteC x) (hy : ByteC y) (hp : 1 ≤ x.p ∧ x.p ≤ 17) (hyp : y.p = x.p) (hyk : y.k = x.k) (m : Nat) (hm : 1 ≤ m ∧ m ≤ 100000) : ∀ (d : Nat) (p : List Nat) (c : Nat) (first : List Int), p.length + d = x.p.toNat → (∀ v ∈ p, v < x.p.toNat) → c < m →
    Run (fun k => spec_l06Go.f k x y ((List.range x.p.toNat).map fun i => (enc x i x.k.toNat : Int)) ((List.range y.p.toNat).map fun i => (enc y i y.k.toNat : Int)) (m : Int) (c : Int) first (p.map Int.ofNat) (mask (fun j => p.contains j) x.p.toNat : Int))
      (fun r => r.1 = x ∧ r.2.1 = y ∧ r.2.2.1 = ((List.range x.p.toNat).map fun i => (enc x i x.k.toNat : Int)) ∧ r.2.2.2.1 = ((List.range y.p.toNat).map fun i => (enc y i y.k.toNat : Int)) ∧ r.2.2.2.2.1 = (m : Int) ∧ r.2.2.2.2.2.1 = ((min m (c + (isoG (fit2 x y) x.p.toNat d p).length) : Nat) : Int)) := by
  have hyn : y.p.toNat = x.p.toNat := by rw [hyp]
  have hm2 : (2 : Nat) ^ x.p.toNat ≤ 2 ^ 17 := Nat.pow_le_pow_right (by omega) (by omega)
  have hTl : ((List.range x.p.toNat).map fun i => (enc x i x.k.toNat : Int)).length = x.p.toNat := by simp
  have hUl : ((List.range y.p.toNat).map fun i => (enc y i y.k.toNat : Int)).length = x.p.toNat := by simp [hyp]
  have hTa : ∀ (i : Nat) (h : ((i : Nat) : Int).toNat < ((List.range x.p.toNat).map fun i => (enc x i x.k.toNat : Int)).length), ((List.range x.p.toNat).map fun i => (enc x i x.k.toNat : Int))[((i : Nat) : Int).toNat] = (enc x i x.k.toNat : Int) := fun i h => by simp
  have hUa : ∀ (i : Nat) (h : ((i : Nat) : Int).toNat < ((List.range y.p.toNat).map fun i => (enc y i y.k.toNat : Int)).length), ((List.range y.p.toNat).map fun i => (enc y i y.k.toNat : Int))[((i : Nat) : Int).toNat] = (enc y i y.k.toNat : Int) := fun i h => by simp
  generalize ((List.range x.p.toNat).map fun i => (enc x i x.k.toNat : Int)) = T at hTl hTa
  generalize ((List.range y.p.toNat).map fun i => (enc y i y.k.toNat : Int)) = U at hUl hUa
  intro d
  induction d with
  | zero =>
    intro p c first hd hv hcm
    refine Run.step ?_
    simp only [spec_l06Go.f]
    rw [List.length_map]
    refine Run.yes (by omega) ?_
    have hlen : (isoG (fit2 x y) x.p.toNat 0 p).length = 1 := rfl
    refine Run.ite (fun h => ?_) (fun h => ?_)
    · refine Run.bindE (spec_l01Own_run _ (by rw [List.length_map]; omega)) ?_
      refine Run.ret ⟨rfl, rfl, rfl, rfl, rfl, ?_⟩
      simp only
      rw [w64_id (by omega), hlen, Nat.min_eq_right (by omega)]
      omega
    · refine Run.ret ⟨rfl, rfl, rfl, rfl, rfl, ?_⟩
      simp only
      rw [w64_id (by omega), hlen, Nat.min_eq_right (by omega)]
      omega
  | succ d ihd =>
    intro p c first hd hv hcm
    refine Run.step ?_
    simp only [spec_l06Go.f]
    rw [List.length_map]
    refine Run.no (by omega) ?_
    rw [isoG]
    refine Run.loop (L := fun q (z : Int × List Int × Int) => spec_l06Go.l0 q (p.map Int.ofNat) (mask (fun j => p.contains j) x.p.toNat : Int) x y T U (m : Int) z.1 z.2.1 z.2.2) (fun z => (x.p - z.2.2).toNat) (fun z => 0 ≤ z.2.2 ∧ z.2.2 ≤ x.p ∧ ∃ c' : Nat, z.1 = c' ∧ c' ≤ m ∧ min m (c + ((upF (fit2 x y p) 0 x.p.toNat).flatMap fun j => isoG (fit2 x y) x.p.toNat d (p ++ [j])).length) = min m (c' + ((upF (fit2 x y p) z.2.2.toNat x.p.toNat).flatMap fun j => isoG (fit2 x y) x.p.toNat d (p ++ [j])).length)) ?_ ((c : Int), first, 0) ⟨by simp only; omega, by simp only; omega, c, rfl, by omega, rfl⟩
    rintro ⟨cc, fi, j⟩ ⟨j0, j1, c', hcc, hcm', hT⟩ ih
    simp only at j0 j1 hcc hT
    subst hcc
    obtain ⟨j, rfl⟩ := Int.eq_ofNat_of_zero_le j0
    simp only [Int.toNat_natCast] at ih hT ⊢
    simp only [spec_l06Go.l0]
    refine Run.ite (fun hj => ?_) (fun hj => ?_)
    rotate_left
    · refine Run.ret ⟨rfl, rfl, rfl, rfl, rfl, ?_⟩
      rw [upF_end _ (p := j) (by omega)] at hT
      simp only [List.flatMap_nil, List.length_nil, Nat.add_zero] at hT
      simp only
      rw [hT, Nat.min_eq_right hcm']
    refine Run.ite (fun hcl => ?_) (fun hcl => ?_)
    rotate_left
    · refine Run.ret ⟨rfl, rfl, rfl, rfl, rfl, ?_⟩
      simp only
      rw [hT, Nat.min_eq_left (by omega)]
      omega
    have hjn : j < x.p.toNat := by omega
    have hpi : (2 : Nat) ^ j ≤ 2 ^ 17 := Nat.pow_le_pow_right (by omega) (by omega)
    have hul := Nat.lt_of_lt_of_le (mask_lt (fun j => p.contains j) x.p.toNat) hm2
    have hub : (mask (fun j => p.contains j) x.p.toNat).testBit j = p.contains j := by rw [testBit_mask, decide_eq_true hjn, Bool.true_and]
    rw [w64_id (x := (j : Int) + 1) (by omega), wu64_id (x := (j : Int)) (by omega)]
    have next : ∀ fi', ¬ fit2 x y p j = true → Run (fun q => spec_l06Go.l0 q (p.map Int.ofNat) (mask (fun j => p.contains j) x.p.toNat : Int) x y T U (m : Int) (c' : Int) fi' ((j : Int) + 1)) (fun r => r.1 = x ∧ r.2.1 = y ∧ r.2.2.1 = T ∧ r.2.2.2.1 = U ∧ r.2.2.2.2.1 = (m : Int) ∧ r.2.2.2.2.2.1 = ((min m (c + ((upF (fit2 x y p) 0 x.p.toNat).flatMap fun j => isoG (fit2 x y) x.p.toNat d (p ++ [j])).length) : Nat) : Int)) := fun fi' hn => by
      refine ih (_, fi', (j : Int) + 1) ⟨by simp only; omega, by simp only; omega, c', rfl, hcm', ?_⟩ (by simp only; omega)
      simp only
      rw [hT, show ((j : Int) + 1).toNat = j + 1 by omega, upF_no hjn hn]
    refine Run.ite (fun h1 => next fi fun h => ?_) (fun h1 => ?_)
    · have := (bit64 (by omega) (by omega)).mp h1
      rw [hub] at this
      unfold fit2 at h
      rw [this] at h; simp at h
    have hnc : p.contains j = false := by
      cases hcn : p.contains j with
      | false => rfl
      | true => exact absurd ((bit64 (by omega) (by omega)).mpr (by rw [hub]; exact hcn)) h1
    rw [List.length_map]
    refine Run.bindE (Run.getI' (by omega) (by rw [hTl]; omega)) ?_
    refine Run.bindE (Run.getI' (by omega) (by rw [hUl]; omega)) ?_
    rw [hTa, hUa]
    have htp := enc_tp2 (x := x) (y := y) (by omega) (by omega) hyk p.length j
    refine Run.ite (fun h2 => next fi fun h => ?_) (fun h2 => ?_)
    · unfold fit2 at h
      rw [Bool.and_eq_true, Bool.and_eq_true, ← htp, decide_eq_true_eq] at h
      omega
    have htpt : tp2 x y p.length j = true := by rw [← htp]; exact decide_eq_true (by omega)
    refine Run.loop (L := fun q (z : Bool × Int) => spec_l06Go.l1 q (p.map Int.ofNat) (mask (fun j => p.contains j) x.p.toNat : Int) x y T U (m : Int) (c' : Int) fi (j : Int) z.1 z.2) (fun z => (p.length - z.2).toNat) (fun z => 0 ≤ z.2 ∧ z.2 ≤ p.length ∧ z.1 = (List.range z.2.toNat).all fun a => decide (colr x a p.length = colr y (p.getD a 0) j)) ?_ (true, 0) ⟨by simp only; omega, by simp only; omega, rfl⟩
    rintro ⟨b, a⟩ ⟨a0, a1, hb⟩ ih2
    simp only at a0 a1 hb
    obtain ⟨a, rfl⟩ := Int.eq_ofNat_of_zero_le a0
    simp only [Int.toNat_natCast] at ih2 hb ⊢
    simp only [spec_l06Go.l1, List.length_map]
    rw [w64_id (x := (j : Int) + 1) (by omega)]
    have bad : ¬ b = true → ¬ fit2 x y p j = true := fun hnb h => by
      unfold fit2 at h
      rw [Bool.and_eq_true, List.all_eq_true] at h
      apply hnb
      rw [hb, List.all_eq_true]
      intro e he
      exact h.2 e (List.mem_range.mpr (by have := List.mem_range.mp he; omega))
    refine Run.ite (fun hal => ?_) (fun hal => ?_)
    · refine Run.ite (fun hbt => ?_) (fun hbt => next fi (bad hbt))
      have hap : a < p.length := by omega
      have hvn := hv _ (getD_mem hap)
      have hne : p.getD a 0 ≠ j := fun e => by
        have : p.contains j = true := List.contains_iff_mem.mpr (by rw [← e]; exact getD_mem hap)
        rw [hnc] at this; cases this
      refine Run.bindE (Run.getI' (by omega) (by rw [List.length_map]; omega)) ?_
      rw [mapO_at hap]
      refine Run.bindE (spec_l01At_run x hx (by omega) a p.length (by omega) (by omega) (by omega)) ?_
      refine Run.bindE (spec_l01At_run y hy (by omega) (p.getD a 0) j (by omega) (by omega) hne) ?_
      rw [w64_id (x := (a : Int) + 1) (by omega)]
      refine ih2 (_, (a : Int) + 1) ⟨by simp only; omega, by simp only; omega, ?_⟩ (by simp only; omega)
      simp only
      rw [show ((a : Int) + 1).toNat = a + 1 by omega, List.range_succ, List.all_append, ← hb, hbt]
      simp only [List.all_cons, List.all_nil, Bool.and_true, Bool.true_and]
      rfl
    · rw [show a = p.length by omega] at hb
      refine Run.ite (fun hbt => ?_) (fun hbt => next fi (bad hbt))
      have hfit : fit2 x y p j = true := by unfold fit2; rw [hnc, htpt, ← hb, hbt]; rfl
      refine Run.bindE (spec_l01Own_run _ (by rw [List.length_map]; omega)) ?_
      refine Run.bindE (Run.push' (by rw [List.length_map]; omega)) ?_
      rw [show p.map Int.ofNat ++ [(j : Int)] = (p ++ [j]).map Int.ofNat by simp]
      have hor : (mask (fun j => p.contains j) x.p.toNat) ||| 2 ^ j = mask (fun i => (p ++ [j]).contains i) x.p.toNat := by
        rw [mask_or hjn]
        refine mask_congr fun i _ => ?_
        simp [List.contains_eq_mem]
      rw [wu64_id (x := (j : Int)) (by omega), shl64 (by omega), or64 (by omega) (by omega), hor]
      refine Run.bind (ihd (p ++ [j]) c' fi (by rw [List.length_append, List.length_singleton]; omega) (fun v hv' => by
        rcases List.mem_append.mp hv' with h | h
        · exact hv v h
        · rw [List.mem_singleton.mp h]; exact hjn) (by omega)) fun r hr => ?_
      obtain ⟨e1, e2, e3, e4, e5, e6⟩ := hr
      rw [e1, e2, e3, e4, e5, e6]
      rw [upF_yes hjn hfit, List.flatMap_cons, List.length_append] at hT
      refine ih (_, _, (j : Int) + 1) ⟨by simp only; omega, by simp only; omega, _, rfl, by omega, ?_⟩ (by simp only; omega)
      simp only
      rw [hT, show ((j : Int) + 1).toNat = j + 1 by omega]
      omega
end Go.Proofs.Ytbgniopmmankdaa.P
