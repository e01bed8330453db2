/- What the pure functions come to, one by one (part 4). -/
import Derived.Test.YtocjhmeekecdiaaPFnExactExtensionsByDegree3
import Derived.Test.YtocjhmeekecdiaaGFnExactExtensionsByDegree10
namespace Go.Proofs.Ytocjhmeekecdiaa.P
open Go Go.RowKit Go.Proofs.Ytocjhmeekecdiaa.K Go.Proofs.Ytocjhmeekecdiaa.G
set_option linter.unusedVariables false
set_option linter.unusedSimpArgs false

theorem spec_l05Count_run (x : Col) (hx : ByteC x) (hp : 1 ≤ x.p ∧ x.p ≤ 16) (hk : 1 ≤ x.k ∧ x.k ≤ 1000) (l : List Int) (hl : (l.length : Int) = x.k) (hs : ∀ v ∈ l, 2 ≤ v ∧ v ≤ 17) (n : Nat) (hn : (n : Int) = x.p) : ∀ (d : Nat) (L : List Nat) (s : List Int), L.length + d = n → s.length = n + 1 →
    Run (fun k => spec_l05Count.f k x l (L.length : Int) (setsOf n x.k.toNat L) s) (· = (exts x l x.k.toNat d L).foldl incE s) := by
  have hm2 : (2 : Nat) ^ n ≤ 2 ^ 17 := Nat.pow_le_pow_right (by omega) (by omega)
  have hlt : ∀ g, mask g n < 2 ^ 17 := fun g => Nat.lt_of_lt_of_le (mask_lt g n) hm2
  intro d
  induction d with
  | zero =>
    intro L s hd hsl
    refine Run.step ?_
    simp only [spec_l05Count.f]
    refine Run.yes (by omega) ?_
    refine Run.bindE (a := (mask (fun p => decide (p < L.length) && decide (L.getD p 0 = 0)) n : Int)) ((Run.getI' (by omega) (by rw [setsOf_length]; omega)).mono fun r e => by rw [e]; exact setsOf_at (c := 0) (by rw [setsOf_length]; omega)) ?_
    have hl1 := hlt (fun p => decide (p < L.length) && decide (L.getD p 0 = 0))
    refine Run.bindE (spec_l01Ones_run _ (by omega)) ?_
    have e0 : cnt (mask (fun p => decide (p < L.length) && decide (L.getD p 0 = 0)) n).testBit 62 = cnt0 L := by
      rw [cnt_mask (by omega)]
      unfold cnt0 cnt
      rw [show n = L.length by omega, sel_congr (g := zeroB L) fun j hj => by rw [decide_eq_true hj, Bool.true_and]; rfl]
    rw [e0]
    have hc0 := cnt0_le L
    refine Run.bindE (a := s.getD (cnt0 L) 0) ((Run.getI' (by omega) (by omega)).mono fun r e => by rw [e]; exact (getD_at (by omega)).symm) ?_
    refine Run.bind (Q := fun _ => True) ((Run.getI' (by omega) (by omega)).mono fun _ _ => trivial) fun _ _ => ?_
    exact Run.ret rfl
  | succ d ihd =>
    intro L s hd hsl
    refine Run.step ?_
    simp only [spec_l05Count.f]
    refine Run.no (by omega) ?_
    rw [exts_succ]
    refine Run.loop (L := fun q (z : List Int × Int) => spec_l05Count.l0 q x l (L.length : Int) (setsOf n x.k.toNat L) z.1 z.2) (fun z => (x.k - z.2).toNat) (fun z => 0 ≤ z.2 ∧ z.2 ≤ x.k ∧ z.1.length = n + 1 ∧ (brs (fun c => if okExt x l L c = true then exts x l x.k.toNat d (L ++ [c]) else []) 0 x.k.toNat).foldl incE s = (brs (fun c => if okExt x l L c = true then exts x l x.k.toNat d (L ++ [c]) else []) z.2.toNat x.k.toNat).foldl incE z.1) ?_ (_, 0) ⟨by simp only; omega, by simp only; omega, hsl, rfl⟩
    rintro ⟨o, c⟩ ⟨g0, g3, ho, hc⟩ ih
    simp only at g0 g3 ho hc
    simp only [spec_l05Count.l0]
    obtain ⟨c, rfl⟩ := Int.eq_ofNat_of_zero_le g0
    simp only [Int.toNat_natCast] at ih hc ⊢
    refine Run.ite (fun h => ?_) (fun h => Run.ret ?_)
    · have hbs := brs_step (fun c => if okExt x l L c = true then exts x l x.k.toNat d (L ++ [c]) else []) (c := c) (K := x.k.toNat) (by omega)
      rw [w64_id (x := (c : Int) + 1) (by omega)]
      refine Run.bindE (a := l.getD c 0) ((Run.getI' (by omega) (by omega)).mono fun r e => by rw [e]; exact (getD_at (by omega)).symm) ?_
      have hlc : 2 ≤ l.getD c 0 ∧ l.getD c 0 ≤ 17 := by rw [getD_at (show c < l.length by omega)]; exact hs _ (List.getElem_mem _)
      refine Run.no (by omega) ?_
      refine Run.bindE (Run.getI' (by omega) (by rw [setsOf_length]; omega)) ?_
      rw [setsOf_at]
      refine Run.bindE (a := l.getD c 0) ((Run.getI' (by omega) (by omega)).mono fun r e => by rw [e]; exact (getD_at (by omega)).symm) ?_
      refine Run.bindE (spec_l01Around_run x hx (by omega) L.length c (by omega)) ?_
      have hl1 := hlt (fun p => decide (p < L.length) && decide (L.getD p 0 = c))
      have hl2 : mask (joinsB x L.length c) x.p.toNat < 2 ^ 17 := by rw [show x.p.toNat = n by omega]; exact hlt _
      rw [and64 (by omega) (by omega), show x.p.toNat = n by omega, mask_and, w64_id (x := l.getD c 0 - 2) (by omega), show l.getD c 0 - 2 = (((l.getD c 0).toNat - 2 : Nat) : Int) by omega]
      refine Run.bindE (spec_l03Clique_run x hx (by omega) c n hn ((l.getD c 0).toNat - 2) _ (by omega)) ?_
      rw [sets_near (show L.length ≤ n by omega)]
      have hok : (!decide (cnum (fun i j => joinsB x i c j) (upF (fun p => decide (L.getD p 0 = c) && joinsB x p c L.length) 0 L.length) ((l.getD c 0).toNat - 2) = 0)) = !okExt x l L c := rfl
      rw [hok]
      refine Run.ite (fun h5 => ?_) (fun h5 => ?_)
      · have h6 : okExt x l L c = false := by simpa using h5
        rw [hbs, h6] at hc
        exact ih (_, (c : Int) + 1) ⟨by simp only; omega, by simp only; omega, ho, by simp only; rw [show ((c : Int) + 1).toNat = c + 1 by omega]; exact hc⟩ (by simp only; omega)
      · have h6 : okExt x l L c = true := by simpa using h5
        rw [hbs, if_pos h6, List.foldl_append] at hc
        refine Run.bindE (spec_l01Own_run _ (by rw [setsOf_length]; omega)) ?_
        refine Run.bindE (a := (setsOf n x.k.toNat L).getD c 0) ((Run.getI' (by omega) (by rw [setsOf_length]; omega)).mono fun r e => by rw [e]; exact (getD_at (by rw [setsOf_length]; omega)).symm) ?_
        refine Run.bind (Q := fun _ => True) ((Run.getI' (by omega) (by rw [setsOf_length]; omega)).mono fun _ _ => trivial) fun _ _ => ?_
        have hlen : ((L ++ [c]).length : Int) = (L.length : Int) + 1 := by rw [List.length_append, List.length_singleton]; omega
        rw [wu64_id (x := (L.length : Int)) (by omega), setsOf_snoc (by omega) (by omega) (by omega), w64_id (x := (L.length : Int) + 1) (by omega), ← hlen]
        refine Run.bindE (ihd (L ++ [c]) o (by rw [List.length_append, List.length_singleton]; omega) ho) ?_
        refine ih (_, (c : Int) + 1) ⟨by simp only; omega, by simp only; omega, ?_, by simp only; rw [show ((c : Int) + 1).toNat = c + 1 by omega]; exact hc⟩ (by simp only; omega)
        exact foldl_inv incE (fun s => s.length = n + 1) (fun _ => True) (fun s L _ hs => by unfold incE; rw [List.length_set]; exact hs) _ _ (fun _ _ => trivial) ho
    · rw [brs_end (fun c => if okExt x l L c = true then exts x l x.k.toNat d (L ++ [c]) else []) (c := c) (K := x.k.toNat) (by omega)] at hc
      exact hc.symm

theorem spec_l05Degrees_run (x : Col) (hx : ByteC x) (hp : 1 ≤ x.p ∧ x.p ≤ 16) (hk : 1 ≤ x.k ∧ x.k ≤ 1000) (l : List Int) (hl : (l.length : Int) = x.k) (hs : ∀ v ∈ l, 2 ≤ v ∧ v ≤ 17) : Run (fun k => spec_l05Degrees.f k x l) (· = degM x l) := by
  unfold spec_l05Degrees.f
  rw [w64_id (x := x.p + 1) (by omega)]
  refine Run.bind (Q := fun _ => True) (Run.guard (by omega) trivial) fun _ _ => ?_
  refine Run.loop (L := fun q (i : Int) => spec_l05Degrees.l0 q x l i) (fun i => (l.length - i).toNat) (fun i => 0 ≤ i ∧ i ≤ l.length) ?_ 0 ⟨by omega, by omega⟩
  rintro i ⟨g0, g3⟩ ih
  simp only [spec_l05Degrees.l0]
  refine Run.ite (fun h => ?_) (fun h => ?_)
  · refine Run.bindE (Run.getI' g0 h) ?_
    have := hs _ (List.getElem_mem (l := l) (n := i.toNat) (by omega))
    rw [w64_id (x := i + 1) (by omega)]
    exact Run.no (by omega) (ih (i + 1) ⟨by omega, by omega⟩ (by omega))
  · refine Run.bind (Q := fun _ => True) (Run.guard (by omega) trivial) fun _ _ => ?_
    have hr := spec_l05Count_run x hx hp hk l hl hs x.p.toNat (by omega) x.p.toNat [] (List.replicate (x.p.toNat + 1) 0) (by simp) (by simp)
    rw [setsOf_nil] at hr
    rw [w64_id (x := x.p + 1) (by omega), show (x.p + 1).toNat = x.p.toNat + 1 by omega]
    refine Run.bindE hr ?_
    exact Run.ret rfl

theorem spec_ExtensionsByDegree_run (x : Col) (hx : ByteC x) (l : List Int) (hl : l.length < 4611686018427387904) : Run (fun k => spec_ExtensionsByDegree.f k x l) (· = degsM x l) := by
  unfold spec_ExtensionsByDegree.f
  refine Run.bindE (spec_l05Small_run x hx l hl) ?_
  rw [degsM]
  refine Run.ite (fun h => Run.ret (by rw [if_neg h])) (fun h => ?_)
  have hz := Decidable.not_not.mp h
  rw [if_pos hz]
  obtain ⟨h1, h2, h3⟩ := exCode_zero hz
  obtain ⟨h4, h5⟩ := given_zero h1
  have hc := isB_spec h4
  have h17 := hc.1
  have hk := hc.2.1
  simp only [Bool.and_eq_true, decide_eq_true_eq] at h5
  refine Run.bindE (spec_l05Degrees_run x hx (by omega) (by omega) l h5.1 (avoids_two h17.1 h5.2 h2)) ?_
  exact Run.ret rfl

theorem impl_in_run (n low high : Int) : Run (fun _ => impl_in.f n low high) (· = decide (low ≤ n ∧ n ≤ high)) := by
  unfold impl_in.f
  refine Run.ite (fun h => ?_) (fun h => ?_)
  · refine Run.ret (decide_eq_decide.mpr ?_); omega
  · refine Run.ret ((decide_eq_false ?_).symm); omega

theorem impl_Colouring_edges_run (x : Col) (hp : 0 ≤ x.p ∧ x.p ≤ 1000) : Run (fun _ => impl_Colouring_edges.f x) (· = (tri x.p.toNat : Int)) := by
  unfold impl_Colouring_edges.f
  have := tri_int (n := x.p.toNat) (by omega)
  rw [show ((x.p.toNat : Nat) : Int) = x.p by omega] at this
  exact Run.ret this

theorem impl_Colouring_isColouring_run (x : Col) (hx : ByteC x) : Run (fun k => impl_Colouring_isColouring.f k x) (· = isB x) := by
  unfold impl_Colouring_isColouring.f
  refine Run.bindE (impl_in_run _ _ _) ?_
  refine Run.itn (fun h1 => ?_) (fun h1 => ?_)
  · exact Run.ret (decide_eq_false fun h => h1 (decide_eq_true h.1)).symm
  refine Run.bindE (impl_in_run _ _ _) ?_
  refine Run.itn (fun h2 => ?_) (fun h2 => ?_)
  · exact Run.ret (decide_eq_false fun h => h2 (decide_eq_true h.2.1)).symm
  have hp := of_decide_eq_true h1
  have hk := of_decide_eq_true h2
  refine Run.loop (L := fun q (i : Int) => impl_Colouring_isColouring.l0 q x i) (fun i => (136 - i).toNat) (fun i => 0 ≤ i ∧ i ≤ 136 ∧ ∀ j : Nat, (j : Int) < i → (if j < tri x.p.toNat then x.e j < x.k else x.e j = 0)) ?_ 0 ⟨by omega, by omega, fun j hj => by omega⟩
  rintro i ⟨h0, h3, hJ⟩ ih
  simp only [impl_Colouring_isColouring.l0]
  refine Run.ite (fun h => ?_) (fun h => ?_)
  · refine Run.bindE (Run.getB' h0 h) ?_
    have hb := hx i.toNat
    rw [w64_id (x := x.e i.toNat) (by omega)]
    refine Run.ite (fun h5 => ?_) (fun h5 => ?_)
    · refine Run.ret (decide_eq_false fun hc => ?_).symm
      have := hc.2.2 i.toNat (by omega)
      by_cases h6 : i.toNat < tri x.p.toNat
      · rw [if_pos h6] at this; omega
      · rw [if_neg h6] at this; omega
    · refine Run.bindE (impl_Colouring_edges_run x (by omega)) ?_
      rw [w64_id (x := i + 1) (by omega)]
      refine Run.ite (fun h4 => ?_) (fun h4 => ?_)
      · refine Run.ite (fun h7 => ?_) (fun h7 => ?_)
        · refine Run.ret (decide_eq_false fun hc => ?_).symm
          have := hc.2.2 i.toNat (by omega)
          rw [if_neg (by omega)] at this; omega
        · refine ih (i + 1) ⟨by omega, by omega, fun j hj => ?_⟩ (by omega)
          by_cases ej : (j : Int) < i
          · exact hJ j ej
          · obtain rfl : j = i.toNat := by omega
            rw [if_neg (by omega)]; omega
      · refine ih (i + 1) ⟨by omega, by omega, fun j hj => ?_⟩ (by omega)
        by_cases ej : (j : Int) < i
        · exact hJ j ej
        · obtain rfl : j = i.toNat := by omega
          rw [if_pos (by omega)]; omega
  · refine Run.ret (decide_eq_true ⟨hp, hk, fun j hj => hJ j (by omega)⟩).symm

theorem impl_size_int64_run (l : List Int) : Run (fun _ => impl_size_int64.f l) (· = (l.length : Int)) := by
  unfold impl_size_int64.f
  exact Run.ret rfl

theorem impl_areIn_1_run (n lo hi : Int) : Run (fun _ => impl_areIn_1.f n lo hi) (· = !decide (lo ≤ n ∧ n ≤ hi)) := by
  unfold impl_areIn_1.f
  refine Run.bindE (impl_in_run _ _ _) ?_
  exact Run.ret rfl
end Go.Proofs.Ytocjhmeekecdiaa.P
