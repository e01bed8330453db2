/- What the pure functions come to, one by one (part 5). -/
import Derived.Test.YtbgniopmmankdaaPFnExactIsSelfAlike4
import Derived.Test.YtbgniopmmankdaaGFnExactIsSelfAlike9
namespace Go.Proofs.Ytbgniopmmankdaa.P
open Go Go.RowKit Go.Proofs.Ytbgniopmmankdaa.K Go.Proofs.Ytbgniopmmankdaa.G
set_option linter.unusedVariables false
set_option linter.unusedSimpArgs false

theorem spec_IsSelfAlike_run (x : Col) (hx : ByteC x) : Run (fun k => spec_IsSelfAlike.f k x) (· = saR x) := by
  unfold spec_IsSelfAlike.f saR
  refine Run.bindE (spec_l01Is_run x hx) ?_
  refine Run.ite (fun h => ?_) (fun h => Run.ret (by rw [if_neg h]))
  rw [if_pos h]
  have hc := isB_spec h
  have hp := hc.1
  have hk := hc.2.1
  have ho := spec_l06Orders_run x.k.toNat (by omega) x.k.toNat [] (by simp)
  rw [show ((x.k.toNat : Nat) : Int) = x.k by omega] at ho
  refine Run.bindE ho ?_
  have hperm := ords_perm x.k.toNat x.k.toNat [] (by simp) (fun i h => by simp at h) (fun i j _ h => by simp at h)
  have hlen := ords_len6 x.k.toNat x.k.toNat (by omega) []
  have h6d : 6 ^ x.k.toNat ≤ 6 ^ 6 := Nat.pow_le_pow_right (by omega) (by omega)
  have h6 : (6 : Nat) ^ 6 = 46656 := rfl
  unfold alikeB
  generalize ords x.k.toNat x.k.toNat [] = T at hperm hlen
  refine Run.loop (L := fun q (z : Int) => spec_IsSelfAlike.l0 q x T z) (fun z => (T.length - z).toNat) (fun z => 1 ≤ z ∧ z ≤ T.length + 1 ∧ ((T.drop 1).any fun q => exG (fit2 (recC x q) x) x.p.toNat x.p.toNat []) = ((T.drop z.toNat).any fun q => exG (fit2 (recC x q) x) x.p.toNat x.p.toNat [])) ?_ 1 ⟨by omega, by omega, rfl⟩
  rintro i ⟨i0, i1, hi⟩ ih
  obtain ⟨i, rfl⟩ := Int.eq_ofNat_of_zero_le (a := i) (by omega)
  simp only [Int.toNat_natCast] at ih hi ⊢
  simp only [spec_IsSelfAlike.l0]
  refine Run.ite (fun h => ?_) (fun h => Run.ret (by rw [hi, List.drop_eq_nil_of_le (by omega)]; rfl))
  have hil : i < T.length := by omega
  have hi' := hi
  rw [show T.drop i = T[i]'hil :: T.drop (i + 1) from List.drop_eq_getElem_cons hil, List.any_cons] at hi'
  refine Run.bindE (Run.getR' (by omega) (by omega)) ?_
  simp only [Int.toNat_natCast]
  have hP := hperm _ (List.getElem_mem hil)
  generalize T[i]'hil = q at hP hi'
  obtain ⟨hct, hbt⟩ := trnC_col hx hc hP
  obtain ⟨e1, e2⟩ := trnC_p x q (tri x.p.toNat)
  have hsm := ex2_same (y := x) (turned_same hx hc (q := q))
  have hsm' : exG (fit2 (recC x q) x) x.p.toNat x.p.toNat [] = exG (fit2 (trnC x q (tri x.p.toNat)) x) x.p.toNat x.p.toNat [] := hsm
  refine Run.bindE (spec_l01Turned_run x hx hc q hP) ?_
  refine Run.bind (spec_l06Between_run2 (trnC x q (tri x.p.toNat)) x hbt hct hx hc e1.symm e2.symm) fun r hr => ?_
  rw [hr, e1]
  have hex := isoG_ex (fit2 (trnC x q (tri x.p.toNat)) x) x.p.toNat x.p.toNat []
  rw [← hsm'] at hex
  refine Run.ite (fun hb => Run.ret ?_) (fun hb => ?_)
  · rw [hi', hex.mpr (by omega)]; rfl
  · have hf : exG (fit2 (recC x q) x) x.p.toNat x.p.toNat [] = false := Bool.eq_false_iff.mpr fun hh => hb (by have := hex.mp hh; omega)
    rw [w64_id (x := (i : Int) + 1) (by omega)]
    rw [hf, Bool.false_or] at hi'
    refine ih ((i : Int) + 1) ⟨by omega, by omega, ?_⟩ (by omega)
    rw [show ((i : Int) + 1).toNat = i + 1 by omega]; exact hi'

theorem impl_in_run (n low high : Int) : Run (fun _ => impl_in.f n low high) (· = decide (low ≤ n ∧ n ≤ high)) := by
  unfold impl_in.f
  refine Run.ite (fun h => ?_) (fun h => ?_)
  · refine Run.ret (decide_eq_decide.mpr ?_); omega
  · refine Run.ret ((decide_eq_false ?_).symm); omega

theorem impl_Colouring_edges_run (x : Col) (hp : 0 ≤ x.p ∧ x.p ≤ 1000) : Run (fun _ => impl_Colouring_edges.f x) (· = (tri x.p.toNat : Int)) := by
  unfold impl_Colouring_edges.f
  have := tri_int (n := x.p.toNat) (by omega)
  rw [show ((x.p.toNat : Nat) : Int) = x.p by omega] at this
  exact Run.ret this

theorem impl_Colouring_isColouring_run (x : Col) (hx : ByteC x) : Run (fun k => impl_Colouring_isColouring.f k x) (· = isB x) := by
  unfold impl_Colouring_isColouring.f
  refine Run.bindE (impl_in_run _ _ _) ?_
  refine Run.itn (fun h1 => ?_) (fun h1 => ?_)
  · exact Run.ret (decide_eq_false fun h => h1 (decide_eq_true h.1)).symm
  refine Run.bindE (impl_in_run _ _ _) ?_
  refine Run.itn (fun h2 => ?_) (fun h2 => ?_)
  · exact Run.ret (decide_eq_false fun h => h2 (decide_eq_true h.2.1)).symm
  have hp := of_decide_eq_true h1
  have hk := of_decide_eq_true h2
  refine Run.loop (L := fun q (i : Int) => impl_Colouring_isColouring.l0 q x i) (fun i => (136 - i).toNat) (fun i => 0 ≤ i ∧ i ≤ 136 ∧ ∀ j : Nat, (j : Int) < i → (if j < tri x.p.toNat then x.e j < x.k else x.e j = 0)) ?_ 0 ⟨by omega, by omega, fun j hj => by omega⟩
  rintro i ⟨h0, h3, hJ⟩ ih
  simp only [impl_Colouring_isColouring.l0]
  refine Run.ite (fun h => ?_) (fun h => ?_)
  · refine Run.bindE (Run.getB' h0 h) ?_
    have hb := hx i.toNat
    rw [w64_id (x := x.e i.toNat) (by omega)]
    refine Run.ite (fun h5 => ?_) (fun h5 => ?_)
    · refine Run.ret (decide_eq_false fun hc => ?_).symm
      have := hc.2.2 i.toNat (by omega)
      by_cases h6 : i.toNat < tri x.p.toNat
      · rw [if_pos h6] at this; omega
      · rw [if_neg h6] at this; omega
    · refine Run.bindE (impl_Colouring_edges_run x (by omega)) ?_
      rw [w64_id (x := i + 1) (by omega)]
      refine Run.ite (fun h4 => ?_) (fun h4 => ?_)
      · refine Run.ite (fun h7 => ?_) (fun h7 => ?_)
        · refine Run.ret (decide_eq_false fun hc => ?_).symm
          have := hc.2.2 i.toNat (by omega)
          rw [if_neg (by omega)] at this; omega
        · refine ih (i + 1) ⟨by omega, by omega, fun j hj => ?_⟩ (by omega)
          by_cases ej : (j : Int) < i
          · exact hJ j ej
          · obtain rfl : j = i.toNat := by omega
            rw [if_neg (by omega)]; omega
      · refine ih (i + 1) ⟨by omega, by omega, fun j hj => ?_⟩ (by omega)
        by_cases ej : (j : Int) < i
        · exact hJ j ej
        · obtain rfl : j = i.toNat := by omega
          rw [if_pos (by omega)]; omega
  · refine Run.ret (decide_eq_true ⟨hp, hk, fun j hj => hJ j (by omega)⟩).symm

theorem impl_always_run : Run (fun _ => impl_always.f) (· = true) := by
  unfold impl_always.f
  exact Run.ret rfl

theorem impl_Colouring_code__always_run (x : Col) (hx : ByteC x) : Run (fun k => impl_Colouring_code__always.f k x) (· = given (isB x) true) := by
  unfold impl_Colouring_code__always.f
  refine Run.bindE (impl_Colouring_isColouring_run x hx) ?_
  refine Run.itn (fun h1 => ?_) (fun h1 => ?_)
  · exact Run.ret (by rw [given, if_neg h1])
  rw [given, if_pos h1]
  refine Run.bindE (impl_always_run) ?_
  exact Run.ite (fun h3 => Run.ret (by rw [if_pos h3])) (fun h3 => Run.ret (by rw [if_neg h3]))

theorem impl_size_int64_run (l : List Int) : Run (fun _ => impl_size_int64.f l) (· = (l.length : Int)) := by
  unfold impl_size_int64.f
  exact Run.ret rfl

theorem slices_Index_int64_int64_run (l : List Int) (v : Int) (hl : l.length < 4611686018427387904) : Run (fun k => slices_Index_int64_int64.f k l v) (fun r => decide (r ≥ 0) = l.contains v) := by
  unfold slices_Index_int64_int64.f
  refine Run.loop (L := fun q (i : Int) => slices_Index_int64_int64.l0 q l v i) (fun i => (l.length - i).toNat) (fun i => 0 ≤ i ∧ i ≤ l.length ∧ l.contains v = (l.drop i.toNat).contains v) ?_ 0 ⟨by omega, by omega, rfl⟩
  rintro i ⟨h0, h3, hJ⟩ ih
  simp only [slices_Index_int64_int64.l0]
  refine Run.ite (fun h => ?_) (fun h => ?_)
  · have hd : l.drop i.toNat = l[i.toNat]'(by omega) :: l.drop (i.toNat + 1) := List.drop_eq_getElem_cons (by omega)
    refine Run.bindE (Run.getI' h0 h) ?_
    rw [w64_id (x := i + 1) (by omega)]
    refine Run.ite (fun h5 => ?_) (fun h5 => ?_)
    · refine Run.ret ?_
      rw [hJ, hd, List.contains_cons, ← h5, beq_self_eq_true, Bool.true_or]
      exact decide_eq_true h0
    · refine ih (i + 1) ⟨by omega, by omega, ?_⟩ (by omega)
      rw [hJ, hd, show (i + 1).toNat = i.toNat + 1 by omega, List.contains_cons, beq_false_of_ne h5, Bool.false_or]
  · refine Run.ret ?_
    rw [hJ, List.drop_eq_nil_of_le (by omega)]; rfl

theorem slices_Contains_int64_int64_run (l : List Int) (v : Int) (hl : l.length < 4611686018427387904) : Run (fun k => slices_Contains_int64_int64.f k l v) (· = l.contains v) := by
  unfold slices_Contains_int64_int64.f
  refine Run.bind (slices_Index_int64_int64_run l v hl) fun r hr => ?_
  exact Run.ret hr

theorem slices_Clone_int64_int64_run (l : List Int) (hl : l.length < 1099511627776) : Run (fun _ => slices_Clone_int64_int64.f l) (· = l) := by
  unfold slices_Clone_int64_int64.f
  refine Run.bindE (Run.concat' (by simp; omega)) ?_
  exact Run.ret (List.nil_append l)

theorem impl_orders_run6 (n : Nat) (hn : n ≤ 6) : ∀ (d : Nat) (b : List Int), b.length + d = n → Run (fun k => impl_orders.f k n b) (· = ords n d b) := by
  intro d
  induction d with
  | zero =>
    intro b hb
    refine Run.step ?_
    simp only [impl_orders.f]
    refine Run.bindE (impl_size_int64_run b) ?_
    exact Run.yes (by omega) (Run.ret rfl)
  | succ d ihd =>
    intro b hb
    refine Run.step ?_
    simp only [impl_orders.f]
    refine Run.bindE (impl_size_int64_run b) ?_
    refine Run.no (by omega) ?_
    have hlen := fun m (hm : m ≤ 6) => ords_part6 n d hn (by omega) b m hm
    refine Run.loop (L := fun q (z : List (List Int) × Int) => impl_orders.l0 q n b z.1 z.2) (fun z => (n - z.2).toNat) (fun z => 0 ≤ z.2 ∧ z.2 ≤ n ∧ z.1 = ((List.range z.2.toNat).flatMap fun (i : Nat) => if b.contains (i : Int) = true then [] else ords n d (b ++ [(i : Int)]))) ?_ ([], 0) ⟨by simp only; omega, by simp only; omega, rfl⟩
    rintro ⟨T, i⟩ ⟨h0, h3, hT⟩ ih
    simp only at h0 h3 hT
    subst hT
    simp only [impl_orders.l0]
    obtain ⟨i, rfl⟩ := Int.eq_ofNat_of_zero_le h0
    simp only [Int.toNat_natCast] at ih ⊢
    have hl := hlen i (by omega)
    refine Run.ite (fun h => ?_) (fun h => ?_)
    · rw [w64_id (x := (i : Int) + 1) (by omega)]
      refine Run.bindE (slices_Contains_int64_int64_run b i (by omega)) ?_
      refine Run.ite (fun hc => ?_) (fun hc => ?_)
      · refine ih (((List.range i).flatMap fun (i : Nat) => if b.contains (i : Int) = true then [] else ords n d (b ++ [(i : Int)])), (i : Int) + 1) ⟨by simp only; omega, by simp only; omega, ?_⟩ (by simp only; omega)
        simp only
        rw [show ((i : Int) + 1).toNat = i + 1 by omega, List.range_succ, List.flatMap_append]
        simp only [List.flatMap_cons, List.flatMap_nil, List.append_nil]
        rw [if_pos hc, List.append_nil]
      · refine Run.bindE (slices_Clone_int64_int64_run b (by omega)) ?_
        refine Run.bindE (Run.push' (by omega)) ?_
        refine Run.bindE (ihd (b ++ [(i : Int)]) (by simp; omega)) ?_
        have hol := ords_len6 n d hn (b ++ [(i : Int)])
        have h5d : 6 ^ d ≤ 6 ^ 6 := Nat.pow_le_pow_right (by omega) (by omega)
        refine Run.bindE (Run.concatR' (by omega)) ?_
        refine ih (_, (i : Int) + 1) ⟨by simp only; omega, by simp only; omega, ?_⟩ (by simp only; omega)
        simp only
        rw [show ((i : Int) + 1).toNat = i + 1 by omega, List.range_succ, List.flatMap_append]
        simp only [List.flatMap_cons, List.flatMap_nil, List.append_nil]
        rw [if_neg hc]
    · refine Run.ret ?_
      rw [show i = n by omega]; rfl
theorem impl_orders_run (n : Nat) (hn : n ≤ 5) : ∀ (d : Nat) (b : List Int), b.length + d = n → Run (fun k => impl_orders.f k n b) (· = ords n d b) := impl_orders_run6 n (by omega)

theorem impl_number_run (i j : Nat) (hi : i ≤ 1000) (hj : j ≤ 1000) : Run (fun _ => impl_number.f i j) (· = (edg i j : Int)) := by
  unfold impl_number.f
  have hm : (max i j) ≤ 1000 := by omega
  have ti := tri_mono hm
  have tt : tri 1000 = 499500 := rfl
  rw [show max (i : Int) (j : Int) = ((max i j : Nat) : Int) by omega, show min (i : Int) (j : Int) = ((min i j : Nat) : Int) by omega]
  refine Run.ret ?_
  rw [tri_int (by omega), w64_id (by omega), edg]
  split
  · rw [show max i j = i by omega, show min i j = j by omega]; rfl
  · rw [show max i j = j by omega, show min i j = i by omega]; rfl
end Go.Proofs.Ytbgniopmmankdaa.P
