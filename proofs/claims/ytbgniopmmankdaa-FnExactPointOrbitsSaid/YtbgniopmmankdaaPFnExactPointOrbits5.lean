/- What the pure functions come to, one by one (part 5). -/
import Derived.Test.YtbgniopmmankdaaPFnExactPointOrbits4
import Derived.Test.YtbgniopmmankdaaGFnExactPointOrbits11
namespace Go.Proofs.Ytbgniopmmankdaa.P
open Go Go.RowKit Go.Proofs.Ytbgniopmmankdaa.K Go.Proofs.Ytbgniopmmankdaa.G
set_option linter.unusedVariables false
set_option linter.unusedSimpArgs false

theorem spec_l06Moves_run (x : Col) (hx : ByteC x) (hc : IsCol x) (p q : Nat) (hpn : p < x.p.toNat) (hqn : q < x.p.toNat) : Run (fun k => spec_l06Moves.f k x p q) (· = autoB x p q) := by
  unfold spec_l06Moves.f
  have hp := hc.1
  refine Run.loop (L := fun k (z : List Int × List Int × Int) => spec_l06Moves.l0 k x p q z.1 z.2.1 z.2.2) (fun z => (x.p - z.2.2).toNat) (fun z => 0 ≤ z.2.2 ∧ z.2.2 ≤ x.p ∧ z.1 = (List.range z.2.2.toNat).map Int.ofNat ∧ z.2.1 = (List.range z.2.2.toNat).map Int.ofNat) ?_ ([], [], 0) ⟨by simp only; omega, by simp only; omega, rfl, rfl⟩
  rintro ⟨l2, l1, i⟩ ⟨i0, i1, h2, h1⟩ ih
  simp only at i0 i1 h2 h1
  obtain ⟨i, rfl⟩ := Int.eq_ofNat_of_zero_le i0
  simp only [Int.toNat_natCast] at ih h2 h1 ⊢
  subst h2
  subst h1
  simp only [spec_l06Moves.l0]
  refine Run.ite (fun h => ?_) (fun h => ?_)
  · refine Run.bindE (Run.push' (by simp; omega)) ?_
    refine Run.bindE (Run.push' (by simp; omega)) ?_
    rw [w64_id (x := (i : Int) + 1) (by omega)]
    refine ih (_, _, (i : Int) + 1) ⟨by simp only; omega, by simp only; omega, ?_, ?_⟩ (by simp only; omega)
    · simp only; rw [show ((i : Int) + 1).toNat = i + 1 by omega, List.range_succ, List.map_append]; rfl
    · simp only; rw [show ((i : Int) + 1).toNat = i + 1 by omega, List.range_succ, List.map_append]; rfl
  have hi : i = x.p.toNat := by omega
  subst hi
  have hl : ((List.range x.p.toNat).map Int.ofNat).length = x.p.toNat := by simp
  refine Run.bind (Q := fun _ => True) ((Run.getI' (by omega) (by omega)).mono fun _ _ => trivial) fun _ _ => ?_
  refine Run.bind (Q := fun _ => True) ((Run.getI' (by omega) (by rw [List.length_set]; omega)).mono fun _ _ => trivial) fun _ _ => ?_
  refine Run.bind (Q := fun _ => True) ((Run.getI' (by omega) (by omega)).mono fun _ _ => trivial) fun _ _ => ?_
  refine Run.bind (Q := fun _ => True) ((Run.getI' (by omega) (by rw [List.length_set]; omega)).mono fun _ _ => trivial) fun _ _ => ?_
  simp only [Int.toNat_natCast]
  have eL : ∀ v : Nat, (((List.range x.p.toNat).map Int.ofNat).set (Int.toNat 0) (v : Int)).set v 0 = swpL x.p.toNat v := fun v => rfl
  rw [eL p, eL q]
  refine Run.bindE (spec_l01Renamed_run x hx hp _ (swpL_perm hpn)) ?_
  refine Run.bindE (spec_l01Renamed_run x hx hp _ (swpL_perm hqn)) ?_
  obtain ⟨a1, a2, a3, a4, a5⟩ := ren_swp hx hc hpn
  obtain ⟨b1, b2, b3, b4, b5⟩ := ren_swp hx hc hqn
  have hdA := ren_deg hpn a1 a2 a5 (u := 0) (by omega)
  have hdB := ren_deg hqn b1 b2 b5 (u := 0) (by omega)
  rw [swp_zero] at hdA hdB
  have haut := autoB_swp hx hc hpn hqn
  generalize renM x (swpL x.p.toNat p) = A at *
  generalize renM x (swpL x.p.toNat q) = B at *
  refine Run.bindE (spec_l06Types_run A a3 a4) ?_
  refine Run.bindE (spec_l06Types_run B b3 b4) ?_
  have hAn : A.p.toNat = x.p.toNat := by rw [a1]
  have hBn : B.p.toNat = x.p.toNat := by rw [b1]
  refine Run.bindE (Run.getI' (by omega) (by simp; omega)) ?_
  refine Run.bindE (Run.getI' (by omega) (by simp; omega)) ?_
  have g0 : ∀ (C : Col) (h : ((0 : Int)).toNat < ((List.range C.p.toNat).map fun i => (enc C i C.k.toNat : Int)).length), ((List.range C.p.toNat).map fun i => (enc C i C.k.toNat : Int))[((0 : Int)).toNat] = (enc C 0 C.k.toNat : Int) := fun C h => by simp
  rw [g0, g0]
  have htp := enc_tp2 (x := A) (y := B) (by omega) (by omega) (b2.trans a2.symm) 0 0
  have htp2 : tp2 A B 0 0 = tpB x p q := by unfold tp2 tpB; rw [hdA, hdB]
  rw [htp2] at htp
  refine Run.ite (fun h3 => ?_) (fun h3 => ?_)
  · have ht : tpB x p q = true := by rw [← htp]; exact decide_eq_true (by omega)
    have hm1 : (mask (fun j => [0].contains j) A.p.toNat : Int) = 1 := by
      have : mask (fun j => [0].contains j) A.p.toNat = 1 := by
        apply Nat.eq_of_testBit_eq
        intro j
        rw [testBit_mask]
        cases j with
        | zero => simp; omega
        | succ j => simp [Nat.testBit_succ]
      rw [this]; rfl
    have hgo := spec_l06Go_run2 A B a3 b3 (by omega) (b1.trans a1.symm) (b2.trans a2.symm) 1 (by omega) (A.p.toNat - 1) [0] 0 [] (by rw [List.length_singleton]; omega) (fun v hv => by rw [List.mem_singleton.mp hv]; omega) (by omega)
    rw [hm1] at hgo
    refine Run.bind hgo fun r hr => ?_
    have h6 := hr.2.2.2.2.2
    rw [h6]
    refine Run.ret ?_
    have hex := isoG_ex (fit2 A B) A.p.toNat (A.p.toNat - 1) [0]
    rw [hAn] at hex ⊢
    rw [haut, ht, Bool.true_and]
    refine Bool.eq_iff_iff.mpr ?_
    rw [decide_eq_true_eq, hex]
    omega
  · have ht : tpB x p q = false := by rw [← htp]; exact decide_eq_false (by omega)
    exact Run.ret (by rw [haut, ht, Bool.false_and])

theorem spec_PointOrbits_run (x : Col) (hx : ByteC x) : Run (fun k => spec_PointOrbits.f k x) (· = poR x) := by
  unfold spec_PointOrbits.f poR
  refine Run.bindE (spec_l01Is_run x hx) ?_
  refine Run.ite (fun h => ?_) (fun h => Run.ret (by rw [if_neg h]))
  rw [if_pos h]
  have hc := isB_spec h
  have hp := hc.1
  refine Run.bind (Q := fun _ => True) (Run.guard (by omega) trivial) fun _ _ => ?_
  refine Run.loop (L := fun k (z : List (List Int) × List Bool × Int) => spec_PointOrbits.l0 k x z.1 z.2.1 z.2.2) (fun z => (x.p - z.2.2).toNat) (fun z => 0 ≤ z.2.2 ∧ z.2.2 ≤ x.p ∧ z.1 = orbI ((leads (autoB x) z.2.2.toNat).map (orb (autoB x) x.p.toNat)) ∧ z.2.1.length = x.p.toNat ∧ ∀ q : Nat, z.2.2 ≤ q → q < x.p.toNat → z.2.1[q]? = some ((leads (autoB x) z.2.2.toNat).any fun l => autoB x l q)) ?_ ([], _, 0) ⟨by simp only; omega, by simp only; omega, rfl, by simp, fun q _ hq => by simp [leads, hq]⟩
  rintro ⟨o, M, p⟩ ⟨p0, p1, ho, hM, hm⟩ ih
  simp only at p0 p1 ho hM hm
  obtain ⟨p, rfl⟩ := Int.eq_ofNat_of_zero_le p0
  simp only [Int.toNat_natCast] at ih ho hm ⊢
  subst ho
  simp only [spec_PointOrbits.l0]
  refine Run.ite (fun hj => ?_) (fun hj => Run.ret (by rw [show p = x.p.toNat by omega]; rfl))
  have hpn : p < x.p.toNat := by omega
  have hll := leads_len (autoB x) p
  have ev : ((p : Int) + 1).toNat = p + 1 := by omega
  have hgp : getT M (p : Int) = some ((leads (autoB x) p).any fun l => autoB x l p) := by unfold getT; rw [if_pos (by omega), Int.toNat_natCast]; exact hm p (by omega) hpn
  refine Run.bindE (Run.const hgp rfl) ?_
  rw [w64_id (x := (p : Int) + 1) (by omega)]
  refine Run.ite (fun hy => ?_) (fun hn => ?_)
  · have e : leads (autoB x) (p + 1) = leads (autoB x) p := by rw [leads, if_pos hy]
    refine ih (_, _, (p : Int) + 1) ⟨by simp only; omega, by simp only; omega, ?_, hM, fun q h1 h2 => ?_⟩ (by simp only; omega)
    · simp only; rw [ev, e]; rfl
    · simp only at h1 ⊢; rw [ev, e]; exact hm q (by omega) h2
  have e : leads (autoB x) (p + 1) = leads (autoB x) p ++ [p] := by rw [leads, if_neg hn]
  have hself := autoB_refl hpn
  refine Run.loop (L := fun k (z : List Int × List Bool × Int) => spec_PointOrbits.l1 k x (orbI ((leads (autoB x) p).map (orb (autoB x) x.p.toNat))) p z.1 z.2.1 z.2.2) (fun z => (x.p - z.2.2).toNat) (fun z => (p : Int) ≤ z.2.2 ∧ z.2.2 ≤ x.p ∧ z.1 = (orb (autoB x) z.2.2.toNat p).map Int.ofNat ∧ z.2.1.length = x.p.toNat ∧ ∀ q : Nat, p ≤ q → q < x.p.toNat → z.2.1[q]? = some (if (q : Int) < z.2.2 then ((leads (autoB x) (p + 1)).any fun l => autoB x l q) else ((leads (autoB x) p).any fun l => autoB x l q))) ?_ ([], M, (p : Int)) ⟨by simp only; omega, by simp only; omega, ?_, hM, fun q h1 h2 => ?_⟩
  rotate_left
  · simp only [Int.toNat_natCast]
    have : orb (autoB x) p p = [] := List.filter_eq_nil_iff.mpr fun q hq hd => by
      have h1 := List.mem_range.mp hq
      have h2 := of_decide_eq_true hd
      have := ldr_le (autoB x) q; omega
    rw [this]; rfl
  · simp only; rw [if_neg (by omega)]; exact hm q (by omega) h2
  rintro ⟨w, N, q⟩ ⟨q0, q1, hw, hN, hmq⟩ ih2
  simp only at q0 q1 hw hN hmq
  obtain ⟨q, rfl⟩ := Int.eq_ofNat_of_zero_le (a := q) (by omega)
  simp only [Int.toNat_natCast] at ih2 hw hmq ⊢
  subst hw
  simp only [spec_PointOrbits.l1]
  have hol := orb_len (autoB x) q p
  refine Run.ite (fun hq => ?_) (fun hq => ?_)
  · have hqn : q < x.p.toNat := by omega
    have evq : ((q : Int) + 1).toNat = q + 1 := by omega
    have hgq := hmq q (by omega) hqn
    rw [if_neg (by omega)] at hgq
    have hgT : getT N (q : Int) = some ((leads (autoB x) p).any fun l => autoB x l q) := by unfold getT; rw [if_pos (by omega), Int.toNat_natCast]; exact hgq
    have hiff := ldr_iff hself hn (q := q) (by omega)
    have hany : ((leads (autoB x) (p + 1)).any fun l => autoB x l q) = (((leads (autoB x) p).any fun l => autoB x l q) || autoB x p q) := by rw [e, List.any_append, List.any_cons, List.any_nil, Bool.or_false]
    have others : ∀ a : Nat, a ≠ q → ((a : Int) < (q : Int) + 1 ↔ (a : Int) < (q : Int)) := fun a ha => by omega
    refine Run.bindE (Run.const hgT rfl) ?_
    rw [w64_id (x := (q : Int) + 1) (by omega)]
    have keep : ∀ (N' : List Bool), N'.length = x.p.toNat → (∀ a, a ≠ q → N'[a]? = N[a]?) → N'[q]? = some ((leads (autoB x) (p + 1)).any fun l => autoB x l q) → ∀ a : Nat, p ≤ a → a < x.p.toNat → N'[a]? = some (if (a : Int) < (q : Int) + 1 then ((leads (autoB x) (p + 1)).any fun l => autoB x l a) else ((leads (autoB x) p).any fun l => autoB x l a)) := fun N' _ h1 h2 a h3 h4 => by
      by_cases ea : a = q
      · subst ea; rw [if_pos (by omega)]; exact h2
      · rw [h1 a ea, hmq a h3 h4]
        by_cases hlt : (a : Int) < (q : Int)
        · rw [if_pos hlt, if_pos (by omega)]
        · rw [if_neg hlt, if_neg (by omega)]
    refine Run.ite (fun hmet => ?_) (fun hmet => ?_)
    · refine ih2 (_, _, (q : Int) + 1) ⟨by simp only; omega, by simp only; omega, ?_, hN, ?_⟩ (by simp only; omega)
      · simp only; rw [evq, orb_succ, if_neg (fun h => (hiff.mp h).1 hmet), List.append_nil]
      · exact keep N hN (fun _ _ => rfl) (by rw [hgq, hany, hmet, Bool.true_or])
    refine Run.bindE (spec_l06Moves_run x hx hc p q hpn hqn) ?_
    refine Run.ite (fun hr => ?_) (fun hr => ?_)
    · refine Run.bind (Q := fun _ => True) ((Run.const hgT rfl).mono fun _ _ => trivial) fun _ _ => ?_
      refine Run.bindE (Run.push' (by rw [List.length_map]; omega)) ?_
      refine ih2 (_, _, (q : Int) + 1) ⟨by simp only; omega, by simp only; omega, ?_, by simp only [List.length_set]; exact hN, ?_⟩ (by simp only; omega)
      · simp only; rw [evq, orb_succ, if_pos (hiff.mpr ⟨hmet, hr⟩), List.map_append]; rfl
      · exact keep _ (by rw [List.length_set]; exact hN) (fun a ha => by rw [Int.toNat_natCast, List.getElem?_set, if_neg (fun h => ha h.symm)]) (by rw [Int.toNat_natCast, List.getElem?_set, if_pos rfl, if_pos (by omega), hany, hr, Bool.or_true])
    · refine ih2 (_, _, (q : Int) + 1) ⟨by simp only; omega, by simp only; omega, ?_, hN, ?_⟩ (by simp only; omega)
      · simp only; rw [evq, orb_succ, if_neg (fun h => hr (hiff.mp h).2), List.append_nil]
      · exact keep N hN (fun _ _ => rfl) (by rw [hgq, hany, Bool.eq_false_iff.mpr hr, Bool.or_false])
  · have hqe : q = x.p.toNat := by omega
    refine Run.bindE (Run.concatR' (by rw [orbI_len, List.length_map]; simp; omega)) ?_
    rw [w64_id (x := (p : Int) + 1) (by omega)]
    refine ih (_, _, (p : Int) + 1) ⟨by simp only; omega, by simp only; omega, ?_, hN, fun a h1 h2 => ?_⟩ (by simp only; omega)
    · simp only; rw [ev, e, List.map_append, hqe]; unfold orbI; rw [List.map_append]; rfl
    · simp only at h1 ⊢; rw [ev, hmq a (by omega) h2, if_pos (by omega)]

theorem impl_in_run (n low high : Int) : Run (fun _ => impl_in.f n low high) (· = decide (low ≤ n ∧ n ≤ high)) := by
  unfold impl_in.f
  refine Run.ite (fun h => ?_) (fun h => ?_)
  · refine Run.ret (decide_eq_decide.mpr ?_); omega
  · refine Run.ret ((decide_eq_false ?_).symm); omega

theorem impl_Colouring_edges_run (x : Col) (hp : 0 ≤ x.p ∧ x.p ≤ 1000) : Run (fun _ => impl_Colouring_edges.f x) (· = (tri x.p.toNat : Int)) := by
  unfold impl_Colouring_edges.f
  have := tri_int (n := x.p.toNat) (by omega)
  rw [show ((x.p.toNat : Nat) : Int) = x.p by omega] at this
  exact Run.ret this
end Go.Proofs.Ytbgniopmmankdaa.P
