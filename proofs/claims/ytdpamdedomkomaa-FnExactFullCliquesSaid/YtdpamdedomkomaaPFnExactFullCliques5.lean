/- What the pure functions come to, one by one (part 5). -/
import Derived.Test.YtdpamdedomkomaaPFnExactFullCliques4
import Derived.Test.YtdpamdedomkomaaGFnExactFullCliques9
namespace Go.Proofs.Ytdpamdedomkomaa.P
open Go Go.RowKit Go.Proofs.Ytdpamdedomkomaa.K Go.Proofs.Ytdpamdedomkomaa.G
set_option linter.unusedVariables false
set_option linter.unusedSimpArgs false

theorem impl_Colouring_code__FullCliques_1_run (x : Col) (hx : ByteC x) (c : Int) : Run (fun k => impl_Colouring_code__FullCliques_1.f k x c) (· = given (isB x) (decide (0 ≤ c ∧ c ≤ x.k - 1))) := by
  unfold impl_Colouring_code__FullCliques_1.f
  refine Run.bindE (impl_Colouring_isColouring_run x hx) ?_
  refine Run.itn (fun h1 => ?_) (fun h1 => ?_)
  · exact Run.ret (by rw [given, if_neg h1])
  rw [given, if_pos h1]
  refine Run.bindE (impl_FullCliques_1_run x (isB_spec h1) c) ?_
  exact Run.ite (fun h3 => Run.ret (by rw [if_pos h3])) (fun h3 => Run.ret (by rw [if_neg h3]))

theorem slices_Index_int64_int64_run (l : List Int) (v : Int) (hl : l.length < 4611686018427387904) : Run (fun k => slices_Index_int64_int64.f k l v) (fun r => decide (r ≥ 0) = l.contains v) := by
  unfold slices_Index_int64_int64.f
  refine Run.loop (L := fun q (i : Int) => slices_Index_int64_int64.l0 q l v i) (fun i => (l.length - i).toNat) (fun i => 0 ≤ i ∧ i ≤ l.length ∧ l.contains v = (l.drop i.toNat).contains v) ?_ 0 ⟨by omega, by omega, rfl⟩
  rintro i ⟨h0, h3, hJ⟩ ih
  simp only [slices_Index_int64_int64.l0]
  refine Run.ite (fun h => ?_) (fun h => ?_)
  · have hd : l.drop i.toNat = l[i.toNat]'(by omega) :: l.drop (i.toNat + 1) := List.drop_eq_getElem_cons (by omega)
    refine Run.bindE (Run.getI' h0 h) ?_
    rw [w64_id (x := i + 1) (by omega)]
    refine Run.ite (fun h5 => ?_) (fun h5 => ?_)
    · refine Run.ret ?_
      rw [hJ, hd, List.contains_cons, ← h5, beq_self_eq_true, Bool.true_or]
      exact decide_eq_true h0
    · refine ih (i + 1) ⟨by omega, by omega, ?_⟩ (by omega)
      rw [hJ, hd, show (i + 1).toNat = i.toNat + 1 by omega, List.contains_cons, beq_false_of_ne h5, Bool.false_or]
  · refine Run.ret ?_
    rw [hJ, List.drop_eq_nil_of_le (by omega)]; rfl

theorem slices_Contains_int64_int64_run (l : List Int) (v : Int) (hl : l.length < 4611686018427387904) : Run (fun k => slices_Contains_int64_int64.f k l v) (· = l.contains v) := by
  unfold slices_Contains_int64_int64.f
  refine Run.bind (slices_Index_int64_int64_run l v hl) fun r hr => ?_
  exact Run.ret hr

theorem impl_number_run (i j : Nat) (hi : i ≤ 1000) (hj : j ≤ 1000) : Run (fun _ => impl_number.f i j) (· = (edg i j : Int)) := by
  unfold impl_number.f
  have hm : (max i j) ≤ 1000 := by omega
  have ti := tri_mono hm
  have tt : tri 1000 = 499500 := rfl
  rw [show max (i : Int) (j : Int) = ((max i j : Nat) : Int) by omega, show min (i : Int) (j : Int) = ((min i j : Nat) : Int) by omega]
  refine Run.ret ?_
  rw [tri_int (by omega), w64_id (by omega), edg]
  split
  · rw [show max i j = i by omega, show min i j = j by omega]; rfl
  · rw [show max i j = j by omega, show min i j = i by omega]; rfl

theorem impl_Colouring_at_run (x : Col) (hx : ByteC x) (hp : 0 ≤ x.p ∧ x.p ≤ 17) (i j : Nat) (hi : (i : Int) < x.p) (hj : (j : Int) < x.p) (hn : i ≠ j) : Run (fun _ => impl_Colouring_at.f x i j) (· = colr x i j) := by
  unfold impl_Colouring_at.f
  refine Run.bindE (impl_number_run i j (by omega) (by omega)) ?_
  have := edg_lt136 (i := i) (j := j) (p := x.p.toNat) (by omega) (by omega) (by omega) hn
  refine Run.bindE (Run.getB' (by omega) (by omega)) ?_
  have hb := hx ((edg i j : Nat) : Int).toNat
  exact Run.ret (w64_id (by omega))

theorem impl_Colouring_joins_run (x : Col) (hx : ByteC x) (hp : 0 ≤ x.p ∧ x.p ≤ 17) (i j : Nat) (c : Int) (hi : (i : Int) < x.p) (hj : (j : Int) < x.p) : Run (fun _ => impl_Colouring_joins.f x i j c) (· = joinsB x i c j) := by
  unfold impl_Colouring_joins.f
  refine Run.ite (fun h => ?_) (fun h => ?_)
  · refine Run.bindE (impl_Colouring_at_run x hx hp i j hi hj (by omega)) ?_
    refine Run.ret ?_
    rw [joinsB, decide_eq_true (p := i ≠ j) (by omega), Bool.true_and]
  · refine Run.ret ?_
    rw [joinsB, decide_eq_false (p := i ≠ j) (by omega), Bool.false_and]

theorem impl_Colouring_goesWith_1_run (x : Col) (hx : ByteC x) (hp : 0 ≤ x.p ∧ x.p ≤ 17) (i p : Nat) (c : Int) (hi : (i : Int) < x.p) (hj : (p : Int) < x.p) : Run (fun _ => impl_Colouring_goesWith_1.f i x p c) (· = !joinsB x i c p) := by
  unfold impl_Colouring_goesWith_1.f
  refine Run.bindE (impl_Colouring_joins_run x hx hp i p c hi hj) ?_
  exact Run.ret rfl

theorem slices_IndexFunc_int64_int64__Colouring_goesWith_1_run (x : Col) (hx : ByteC x) (hp : 0 ≤ x.p ∧ x.p ≤ 17) (L : List Nat) (p : Nat) (c : Int) (hL : L.length < 1000000) (hi : ∀ i ∈ L, (i : Int) < x.p) (hj : (p : Int) < x.p) : Run (fun k => slices_IndexFunc_int64_int64__Colouring_goesWith_1.f k (L.map Int.ofNat) x p c) (fun r => decide (r ≥ 0) = !withB x c L p) := by
  unfold slices_IndexFunc_int64_int64__Colouring_goesWith_1.f
  have hl : (L.map Int.ofNat).length = L.length := List.length_map ..
  refine Run.loop (L := fun q (i : Int) => slices_IndexFunc_int64_int64__Colouring_goesWith_1.l0 q (L.map Int.ofNat) x p c i) (fun i => (L.length - i).toNat) (fun i => 0 ≤ i ∧ i ≤ L.length ∧ withB x c L p = withB x c (L.drop i.toNat) p) ?_ 0 ⟨by omega, by omega, rfl⟩
  rintro i ⟨h0, h3, hJ⟩ ih
  simp only [slices_IndexFunc_int64_int64__Colouring_goesWith_1.l0]
  rw [hl]
  refine Run.ite (fun h => ?_) (fun h => ?_)
  · have hd : L.drop i.toNat = L[i.toNat]'(by omega) :: L.drop (i.toNat + 1) := List.drop_eq_getElem_cons (by omega)
    refine Run.bindE (Run.getI' h0 (by omega)) ?_
    rw [w64_id (x := i + 1) (by omega), List.getElem_map]
    refine Run.bindE (impl_Colouring_goesWith_1_run x hx hp _ p c (hi _ (List.getElem_mem _)) hj) ?_
    have hw : withB x c (L.drop i.toNat) p = (joinsB x (L[i.toNat]'(by omega)) c p && withB x c (L.drop (i.toNat + 1)) p) := by rw [hd]; rfl
    refine Run.ite (fun h5 => ?_) (fun h5 => ?_)
    · refine Run.ret ?_
      simp only [Bool.not_eq_true'] at h5
      rw [hJ, hw, h5, Bool.false_and, Bool.not_false]
      exact decide_eq_true h0
    · refine ih (i + 1) ⟨by omega, by omega, ?_⟩ (by omega)
      simp only [Bool.not_eq_true', Bool.not_eq_false] at h5
      rw [hJ, hw, show (i + 1).toNat = i.toNat + 1 by omega, h5, Bool.true_and]
  · refine Run.ret ?_
    rw [hJ, List.drop_eq_nil_of_le (by omega)]; rfl

theorem slices_ContainsFunc_int64_int64__Colouring_goesWith_1_run (x : Col) (hx : ByteC x) (hp : 0 ≤ x.p ∧ x.p ≤ 17) (L : List Nat) (p : Nat) (c : Int) (hL : L.length < 1000000) (hi : ∀ i ∈ L, (i : Int) < x.p) (hj : (p : Int) < x.p) : Run (fun k => slices_ContainsFunc_int64_int64__Colouring_goesWith_1.f k (L.map Int.ofNat) x p c) (· = !withB x c L p) := by
  unfold slices_ContainsFunc_int64_int64__Colouring_goesWith_1.f
  refine Run.bind (slices_IndexFunc_int64_int64__Colouring_goesWith_1_run x hx hp L p c hL hi hj) fun r hr => ?_
  exact Run.ret hr

theorem impl_Colouring_goesWith_run (x : Col) (hx : ByteC x) (hp : 0 ≤ x.p ∧ x.p ≤ 17) (L : List Nat) (p : Nat) (c : Int) (hL : L.length < 1000000) (hi : ∀ i ∈ L, (i : Int) < x.p) (hj : (p : Int) < x.p) : Run (fun k => impl_Colouring_goesWith.f k x c (L.map Int.ofNat) p) (· = withB x c L p) := by
  unfold impl_Colouring_goesWith.f
  refine Run.bindE (slices_ContainsFunc_int64_int64__Colouring_goesWith_1_run x hx hp L p c hL hi hj) ?_
  exact Run.ret (Bool.not_not _)

theorem impl_FullCliques_2_1_run (x : Col) (hx : ByteC x) (hp : 0 ≤ x.p ∧ x.p ≤ 17) (L : List Nat) (p : Nat) (c : Int) (hL : L.length < 1000000) (hi : ∀ i ∈ L, (i : Int) < x.p) (hj : (p : Int) < x.p) : Run (fun k => impl_FullCliques_2_1.f k p (L.map Int.ofNat) x c) (· = withB x c L p) := by
  unfold impl_FullCliques_2_1.f
  refine Run.bindE (slices_Contains_int64_int64_run _ _ (by rw [List.length_map]; omega)) ?_
  refine Run.ite (fun h => Run.ret ?_) (fun h => ?_)
  · refine (withB_self ?_).symm
    have h1 := List.contains_iff_mem.mp h
    obtain ⟨q, hq, e⟩ := List.mem_map.mp h1
    have : q = p := by have e' : (q : Int) = (p : Int) := e; omega
    rw [← this]; exact hq
  · refine Run.bindE (impl_Colouring_goesWith_run x hx hp L p c hL hi hj) ?_
    exact Run.ret rfl

theorem impl_Colouring_that__FullCliques_2_1_run (x : Col) (hx : ByteC x) (hp : 0 ≤ x.p ∧ x.p ≤ 17) (L : List Nat) (c : Int) (hL : L.length < 1000000) (hi : ∀ i ∈ L, (i : Int) < x.p) : Run (fun k => impl_Colouring_that__FullCliques_2_1.f k x (L.map Int.ofNat) c) (· = sel (withB x c L) x.p.toNat) := by
  unfold impl_Colouring_that__FullCliques_2_1.f
  refine Run.loop (L := fun q (z : List Int × Int) => impl_Colouring_that__FullCliques_2_1.l0 q x (L.map Int.ofNat) c z.1 z.2) (fun z => (x.p - z.2).toNat) (fun z => 0 ≤ z.2 ∧ z.2 ≤ x.p ∧ z.1 = sel (withB x c L) z.2.toNat) ?_ ([], 0) ⟨by simp only; omega, by simp only; omega, rfl⟩
  rintro ⟨l, t⟩ ⟨h0, h3, hl⟩ ih
  simp only at h0 h3 hl
  simp only [impl_Colouring_that__FullCliques_2_1.l0]
  obtain ⟨t, rfl⟩ := Int.eq_ofNat_of_zero_le h0
  simp only [Int.toNat_natCast] at hl
  refine Run.ite (fun h => ?_) (fun h => ?_)
  · rw [w64_id (x := (t : Int) + 1) (by omega)]
    refine Run.bindE (impl_FullCliques_2_1_run x hx hp L t c hL hi h) ?_
    refine Run.ite (fun h1 => ?_) (fun h1 => ?_)
    · have hlen := sel_length (withB x c L) t
      refine Run.bindE (Run.push' (by rw [hl]; omega)) ?_
      refine ih (_, (t : Int) + 1) ⟨by simp only; omega, by simp only; omega, ?_⟩ (by simp only; omega)
      simp only
      rw [show ((t : Int) + 1).toNat = t + 1 by omega, sel_yes h1, hl]
    · refine ih (_, (t : Int) + 1) ⟨by simp only; omega, by simp only; omega, ?_⟩ (by simp only; omega)
      simp only
      rw [show ((t : Int) + 1).toNat = t + 1 by omega, sel_no h1, hl]
  · refine Run.ret ?_
    rw [hl, show x.p.toNat = t by omega]

theorem impl_FullCliques_2_run (x : Col) (hx : ByteC x) (hp : 0 ≤ x.p ∧ x.p ≤ 17) (L : List Nat) (c : Int) (hL : L.length < 1000000) (hi : ∀ i ∈ L, (i : Int) < x.p) : Run (fun k => impl_FullCliques_2.f k (L.map Int.ofNat) x c) (· = maxB x c L) := by
  unfold impl_FullCliques_2.f
  refine Run.bindE (impl_Colouring_that__FullCliques_2_1_run x hx hp L c hL hi) ?_
  refine Run.ret ?_
  rw [sel_upF, List.length_map, maxB]
  refine decide_eq_decide.mpr ⟨fun h => List.length_eq_zero_iff.mp (by omega), fun h => by rw [h]; rfl⟩

theorem impl_Colouring_listThat_1__FullCliques_2_run (x : Col) (hx : ByteC x) (hp : 0 ≤ x.p ∧ x.p ≤ 17) (c : Int) (L : List Nat) (s : List (List Int)) (hL : L.length < 1000000) (hi : ∀ i ∈ L, (i : Int) < x.p) (hs : s.length ≤ 200) : Run (fun k => impl_Colouring_listThat_1__FullCliques_2.f k (L.map Int.ofNat) s x c) (· = gathS (maxB x c) s L) := by
  unfold impl_Colouring_listThat_1__FullCliques_2.f
  refine Run.bindE (impl_FullCliques_2_run x hx hp L c hL hi) ?_
  rw [gathS]
  refine Run.ite (fun h => ?_) (fun h => ?_)
  · rw [if_pos h]
    refine Run.bindE (Run.concatR' (by simp; omega)) ?_
    refine Run.ret ?_
    congr 1
    exact decide_eq_decide.mpr (by omega)
  · rw [if_neg h]
    refine Run.ret ?_
    congr 1
    exact decide_eq_decide.mpr (by omega)

theorem slices_Clone_int64_int64_run (l : List Int) (hl : l.length < 1099511627776) : Run (fun _ => slices_Clone_int64_int64.f l) (· = l) := by
  unfold slices_Clone_int64_int64.f
  refine Run.bindE (Run.concat' (by simp; omega)) ?_
  exact Run.ret (List.nil_append l)
end Go.Proofs.Ytdpamdedomkomaa.P
