/- What the pure functions come to, one by one (part 7). -/
import Derived.Test.YtjhcacfhahpdgaaPFnExactFirstCycle6
import Derived.Test.YtjhcacfhahpdgaaGFnExactFirstCycle8
namespace Go.Proofs.Ytjhcacfhahpdgaa.P
open Go Go.RowKit Go.Proofs.Ytjhcacfhahpdgaa.K Go.Proofs.Ytjhcacfhahpdgaa.G
set_option linter.unusedVariables false
set_option linter.unusedSimpArgs false

theorem slices_Index_int64_int64_run (l : List Int) (v : Int) (hl : l.length < 4611686018427387904) : Run (fun k => slices_Index_int64_int64.f k l v) (fun r => decide (r ≥ 0) = l.contains v) := by
  unfold slices_Index_int64_int64.f
  refine Run.loop (L := fun q (i : Int) => slices_Index_int64_int64.l0 q l v i) (fun i => (l.length - i).toNat) (fun i => 0 ≤ i ∧ i ≤ l.length ∧ l.contains v = (l.drop i.toNat).contains v) ?_ 0 ⟨by omega, by omega, rfl⟩
  rintro i ⟨h0, h3, hJ⟩ ih
  simp only [slices_Index_int64_int64.l0]
  refine Run.ite (fun h => ?_) (fun h => ?_)
  · have hd : l.drop i.toNat = l[i.toNat]'(by omega) :: l.drop (i.toNat + 1) := List.drop_eq_getElem_cons (by omega)
    refine Run.bindE (Run.getI' h0 h) ?_
    rw [w64_id (x := i + 1) (by omega)]
    refine Run.ite (fun h5 => ?_) (fun h5 => ?_)
    · refine Run.ret ?_
      rw [hJ, hd, List.contains_cons, ← h5, beq_self_eq_true, Bool.true_or]
      exact decide_eq_true h0
    · refine ih (i + 1) ⟨by omega, by omega, ?_⟩ (by omega)
      rw [hJ, hd, show (i + 1).toNat = i.toNat + 1 by omega, List.contains_cons, beq_false_of_ne h5, Bool.false_or]
  · refine Run.ret ?_
    rw [hJ, List.drop_eq_nil_of_le (by omega)]; rfl

theorem slices_Contains_int64_int64_run (l : List Int) (v : Int) (hl : l.length < 4611686018427387904) : Run (fun k => slices_Contains_int64_int64.f k l v) (· = l.contains v) := by
  unfold slices_Contains_int64_int64.f
  refine Run.bind (slices_Index_int64_int64_run l v hl) fun r hr => ?_
  exact Run.ret hr

theorem impl_Colouring_cycle_run (x : Col) (hx : ByteC x) (hp : 1 ≤ x.p ∧ x.p ≤ 17) (c : Int) (m : Nat) (hm : 3 ≤ m ∧ m ≤ 17) : ∀ (d : Nat) (L : List Nat), L ≠ [] → L.length + d = m → (∀ v ∈ L, v < x.p.toNat) → Run (fun k => impl_Colouring_cycle.f k x c (m : Int) (L.map Int.ofNat)) (· = (cyc (fun i j => joinsB x i c j) x.p.toNat d L).map (·.map Int.ofNat)) := by
  intro d
  induction d with
  | zero =>
    intro L hL hd hv
    refine Run.step ?_
    simp only [impl_Colouring_cycle.f]
    have hpos : 0 < L.length := List.length_pos_iff.mpr hL
    have hlast := lastD_getD hL
    have hln : L.getLastD 0 < x.p.toNat := by rw [← hlast]; exact hv _ (getD_mem (by omega))
    have hhn : L.headD 0 < x.p.toNat := by rw [← headD_getD]; exact hv _ (getD_mem (by omega))
    rw [List.length_map, w64_id (x := (L.length : Int) - 1) (by omega), show (L.length : Int) - 1 = ((L.length - 1 : Nat) : Int) by omega]
    refine Run.bindE (Run.getI' (by omega) (by rw [List.length_map]; omega)) ?_
    rw [mapO_at (by omega), hlast]
    refine Run.bindE (impl_size_int64_run _) ?_
    rw [List.length_map]
    refine Run.yes (by omega) ?_
    refine Run.bindE (Run.getI' (l := L.map Int.ofNat) (i := ((0 : Nat) : Int)) (by omega) (by rw [List.length_map]; omega)) ?_
    rw [mapO_at (by omega), headD_getD]
    refine Run.bindE (impl_Colouring_joins_run x hx (by omega) (L.headD 0) (L.getLastD 0) c (by omega) (by omega)) ?_
    rw [cyc]
    refine Run.ite (fun h1 => ?_) (fun h1 => Run.ret (by rw [if_neg fun h => h1 h.1]; rfl))
    refine Run.bindE (Run.getI' (l := L.map Int.ofNat) (i := ((1 : Nat) : Int)) (by omega) (by rw [List.length_map]; omega)) ?_
    rw [mapO_at (by omega)]
    exact Run.ite (fun h2 => Run.ret (by rw [if_pos ⟨h1, by omega⟩]; rfl)) (fun h2 => Run.ret (by rw [if_neg fun h => h2 (by have := h.2; omega)]; rfl))
  | succ d ihd =>
    intro L hL hd hv
    refine Run.step ?_
    simp only [impl_Colouring_cycle.f]
    have hpos : 0 < L.length := List.length_pos_iff.mpr hL
    have hlast := lastD_getD hL
    have hln : L.getLastD 0 < x.p.toNat := by rw [← hlast]; exact hv _ (getD_mem (by omega))
    have hhn : L.headD 0 < x.p.toNat := by rw [← headD_getD]; exact hv _ (getD_mem (by omega))
    rw [List.length_map, w64_id (x := (L.length : Int) - 1) (by omega), show (L.length : Int) - 1 = ((L.length - 1 : Nat) : Int) by omega]
    refine Run.bindE (Run.getI' (by omega) (by rw [List.length_map]; omega)) ?_
    rw [mapO_at (by omega), hlast]
    refine Run.bindE (impl_size_int64_run _) ?_
    rw [List.length_map]
    refine Run.no (by omega) ?_
    refine Run.bindE (Run.getI' (l := L.map Int.ofNat) (i := ((0 : Nat) : Int)) (by omega) (by rw [List.length_map]; omega)) ?_
    rw [mapO_at (by omega), headD_getD, w64_id (x := ((L.headD 0 : Nat) : Int) + 1) (by omega), cyc]
    refine Run.loop (L := fun q (z : Int) => impl_Colouring_cycle.l0 q x c (m : Int) (L.map Int.ofNat) (L.getLastD 0 : Int) z) (fun z => (x.p - z).toNat) (fun z => 0 ≤ z ∧ z ≤ x.p ∧ (upF (fun p => !L.contains p && joinsB x (L.getLastD 0) c p) z.toNat x.p.toNat).findSome? (fun p => cyc (fun i j => joinsB x i c j) x.p.toNat d (L ++ [p])) = (upF (fun p => !L.contains p && joinsB x (L.getLastD 0) c p) (L.headD 0 + 1) x.p.toNat).findSome? (fun p => cyc (fun i j => joinsB x i c j) x.p.toNat d (L ++ [p]))) ?_ _ ⟨by omega, by omega, by rw [show (((L.headD 0 : Nat) : Int) + 1).toNat = L.headD 0 + 1 by omega]⟩
    rintro p ⟨p0, p1, hT⟩ ih
    obtain ⟨p, rfl⟩ := Int.eq_ofNat_of_zero_le p0
    simp only [Int.toNat_natCast] at ih hT ⊢
    simp only [impl_Colouring_cycle.l0]
    refine Run.ite (fun hpn => ?_) (fun hpn => Run.ret (by rw [← hT, upF_end _ (p := p) (by omega)]; rfl))
    have hpn' : p < x.p.toNat := by omega
    rw [w64_id (x := (p : Int) + 1) (by omega)]
    have next : (upF (fun p => !L.contains p && joinsB x (L.getLastD 0) c p) (p + 1) x.p.toNat).findSome? (fun p => cyc (fun i j => joinsB x i c j) x.p.toNat d (L ++ [p])) = (upF (fun p => !L.contains p && joinsB x (L.getLastD 0) c p) (L.headD 0 + 1) x.p.toNat).findSome? (fun p => cyc (fun i j => joinsB x i c j) x.p.toNat d (L ++ [p])) → Run (fun q => impl_Colouring_cycle.l0 q x c (m : Int) (L.map Int.ofNat) (L.getLastD 0 : Int) ((p : Int) + 1)) (· = ((upF (fun p => !L.contains p && joinsB x (L.getLastD 0) c p) (L.headD 0 + 1) x.p.toNat).findSome? (fun p => cyc (fun i j => joinsB x i c j) x.p.toNat d (L ++ [p]))).map (·.map Int.ofNat)) := fun h => ih ((p : Int) + 1) ⟨by omega, by omega, by rw [show ((p : Int) + 1).toNat = p + 1 by omega]; exact h⟩ (by omega)
    refine Run.bindE (slices_Contains_int64_int64_run _ _ (by rw [List.length_map]; omega)) ?_
    rw [mapO_contains]
    refine Run.ite (fun h1 => next ?_) (fun h1 => ?_)
    · rw [← hT, upF_no (p := p) hpn' (by rw [h1]; simp)]
    refine Run.bindE (impl_Colouring_joins_run x hx (by omega) (L.getLastD 0) p c (by omega) (by omega)) ?_
    refine Run.ite (fun h2 => ?_) (fun h2 => next (by rw [← hT, upF_no (p := p) hpn' (by rw [Bool.eq_false_iff.mpr h2]; simp)]))
    refine Run.bind (Q := fun _ => True) (Run.guard (by rw [List.length_map]; omega) trivial) fun _ _ => ?_
    refine Run.bindE (Run.push' (by rw [List.length_map]; omega)) ?_
    rw [show L.map Int.ofNat ++ [(p : Int)] = (L ++ [p]).map Int.ofNat by simp]
    refine Run.bindE (ihd (L ++ [p]) (by simp) (by rw [List.length_append, List.length_singleton]; omega) (fun v hv' => by
      rcases List.mem_append.mp hv' with h | h
      · exact hv v h
      · rw [List.mem_singleton.mp h]; exact hpn')) ?_
    rw [upF_yes (p := p) hpn' (by rw [Bool.eq_false_iff.mpr h1, h2]; rfl), List.findSome?_cons] at hT
    cases hc : cyc (fun i j => joinsB x i c j) x.p.toNat d (L ++ [p]) with
    | none =>
      rw [hc] at hT
      exact next hT
    | some M =>
      rw [hc] at hT
      rw [← hT]
      exact Run.ret rfl

theorem impl_Colouring_firstCycle_run (x : Col) (hx : ByteC x) (hp : 1 ≤ x.p ∧ x.p ≤ 17) (c : Int) (m : Nat) (hm : 3 ≤ m ∧ m ≤ 17) : Run (fun k => impl_Colouring_firstCycle.f k x c (m : Int)) (· = listO (fstCyc (fun i j => joinsB x i c j) x.p.toNat m 0)) := by
  unfold impl_Colouring_firstCycle.f
  refine Run.no (by omega) ?_
  refine Run.loop (L := fun q (z : Int) => impl_Colouring_firstCycle.l0 q x c (m : Int) z) (fun z => (x.p - z).toNat) (fun z => 0 ≤ z ∧ z ≤ x.p ∧ fstCyc (fun i j => joinsB x i c j) x.p.toNat m z.toNat = fstCyc (fun i j => joinsB x i c j) x.p.toNat m 0) ?_ 0 ⟨by omega, by omega, rfl⟩
  rintro p ⟨p0, p1, hT⟩ ih
  obtain ⟨p, rfl⟩ := Int.eq_ofNat_of_zero_le p0
  simp only [Int.toNat_natCast] at ih hT ⊢
  simp only [impl_Colouring_firstCycle.l0]
  rw [w64_id (x := x.p - (m : Int)) (by omega), w64_id (x := x.p - (m : Int) + 1) (by omega)]
  refine Run.ite (fun hpn => ?_) (fun hpn => ?_)
  rotate_left
  · refine Run.ret ?_
    rw [← hT, fstCyc_end hm.1 (by omega)]; rfl
  have hpn' : p < x.p.toNat := by omega
  refine Run.bind (Q := fun _ => True) (Run.guard (by simp) trivial) fun _ _ => ?_
  refine Run.bindE (Run.push' (by simp)) ?_
  have hc := impl_Colouring_cycle_run x hx hp c m hm (m - 1) [p] (by simp) (by rw [List.length_singleton]; omega) (fun v hv => by rw [List.mem_singleton.mp hv]; exact hpn')
  refine Run.bindE hc ?_
  rw [w64_id (x := (p : Int) + 1) (by omega)]
  rw [fstCyc_step hpn'] at hT
  cases hcy : cyc (fun i j => joinsB x i c j) x.p.toNat (m - 1) [p] with
  | none =>
    rw [hcy] at hT
    exact ih ((p : Int) + 1) ⟨by omega, by omega, by rw [show ((p : Int) + 1).toNat = p + 1 by omega]; exact hT⟩ (by omega)
  | some M =>
    rw [hcy] at hT
    rw [← hT]
    have hne := (cyc_ne (by simp) hcy).1
    show Run (fun _ => (guardO (M.map Int.ofNat ≠ [])).bind fun _ => some (M.map Int.ofNat)) _
    refine Run.bind (Q := fun _ => True) (Run.guard (by simp [hne]) trivial) fun _ _ => ?_
    exact Run.ret rfl

theorem impl_Colouring_patternCode_any (x : Col) (hx : ByteC x) (c : Int) (b : Bool) : Run (fun k => impl_Colouring_patternCode.f k x c b) (· = patB x c b) := by
  unfold impl_Colouring_patternCode.f patB
  refine Run.bindE (impl_Colouring_colourCode_run x hx c b) ?_
  refine Run.ite (fun h => ?_) (fun h => Run.ret (by rw [if_neg h]))
  rw [if_pos h]
  exact Run.ite (fun h2 => Run.ret (by rw [if_pos h2])) (fun h2 => Run.ret (by rw [if_neg h2]; exact h))
theorem impl_FirstCycle_run (x : Col) (hx : ByteC x) (c m : Int) : Run (fun k => impl_FirstCycle.f k x c m) (· = fyR x c m) := by
  unfold impl_FirstCycle.f fyR
  refine Run.bindE (impl_in_run _ _ _) ?_
  refine Run.bindE (impl_Colouring_patternCode_any x hx c _) ?_
  refine Run.ite (fun h => Run.ret (by rw [if_neg h])) (fun h => ?_)
  have hz := Decidable.not_not.mp h
  have hp := patB_zero hz
  have h2 := hp.2.2
  rw [decide_eq_true_eq] at h2
  rw [if_pos hz]
  have hf := impl_Colouring_firstCycle_run x hx (by omega) c m.toNat (by omega)
  rw [show ((m.toNat : Nat) : Int) = m by omega] at hf
  refine Run.bindE hf ?_
  exact Run.ite (fun h => Run.ret (by rw [if_pos h])) (fun h => Run.ret (by rw [if_neg h]))

theorem laws_eqInt64S_run (a b : List Int) (ha : a.length < 4611686018427387904) : Run (fun k => laws_eqInt64S.f k a b) (· = decide (a = b)) := by
  unfold laws_eqInt64S.f
  refine Run.ite (fun h => ?_) (fun h => ?_)
  · exact Run.ret (decide_eq_false fun e => h (by rw [e])).symm
  have hl : a.length = b.length := by omega
  refine Run.loop (L := fun q (i : Int) => laws_eqInt64S.l0 q a b i) (fun i => (a.length - i).toNat) (fun i => 0 ≤ i ∧ i ≤ a.length ∧ ∀ (j : Nat) (h : j < a.length), (j : Int) < i → a[j] = b[j]'(by omega)) ?_ 0 ⟨by omega, by omega, fun j _ hj => by omega⟩
  rintro i ⟨h0, h3, hJ⟩ ih
  simp only [laws_eqInt64S.l0]
  refine Run.ite (fun h => ?_) (fun h => ?_)
  · refine Run.bindE (Run.getI' h0 h) ?_
    refine Run.bindE (Run.getI' h0 (by omega)) ?_
    refine Run.ite (fun h5 => ?_) (fun h5 => ?_)
    · exact Run.ret (decide_eq_false fun e => h5 (by simp only [e])).symm
    · rw [w64_id (by omega)]
      refine ih (i + 1) ⟨by omega, by omega, fun j hj hji => ?_⟩ (by omega)
      by_cases ej : (j : Int) < i
      · exact hJ j hj ej
      · obtain rfl : j = i.toNat := by omega
        exact Decidable.not_not.mp h5
  · exact Run.ret (decide_eq_true (List.ext_getElem hl fun j h1 h2 => hJ j h1 (by omega))).symm
end Go.Proofs.Ytjhcacfhahpdgaa.P
