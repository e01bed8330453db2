/- What the pure functions come to, one by one (part 4). -/
import Derived.Test.YtocjhmeekecdiaaPFnExactFirstExtension3
import Derived.Test.YtocjhmeekecdiaaGFnExactFirstExtension11
namespace Go.Proofs.Ytocjhmeekecdiaa.P
open Go Go.RowKit Go.Proofs.Ytocjhmeekecdiaa.K Go.Proofs.Ytocjhmeekecdiaa.G
set_option linter.unusedVariables false
set_option linter.unusedSimpArgs false

theorem spec_l05Search_run (x : Col) (hx : ByteC x) (hp : 1 ≤ x.p ∧ x.p ≤ 16) (hk : 0 ≤ x.k ∧ x.k ≤ 1000) (l : List Int) (hl : (l.length : Int) = x.k) (hs : ∀ v ∈ l, 2 ≤ v ∧ v ≤ 17) (n : Nat) (hn : (n : Int) = x.p) : ∀ (d : Nat) (L : List Nat) (most : Nat), L.length + d = n → 0 < most → most ≤ 1000000 →
    Run (fun k => spec_l05Search.f k x l (L.map Int.ofNat) (setsOf n x.k.toNat L) most) (· = (asI (exts x l x.k.toNat d L)).take most) := by
  have hm2 : (2 : Nat) ^ n ≤ 2 ^ 17 := Nat.pow_le_pow_right (by omega) (by omega)
  have hlt : ∀ g, mask g n < 2 ^ 17 := fun g => Nat.lt_of_lt_of_le (mask_lt g n) hm2
  intro d
  induction d with
  | zero =>
    intro L most hd h0 hmost
    refine Run.step ?_
    simp only [spec_l05Search.f]
    rw [List.length_map]
    refine Run.yes (by omega) (Run.ret ?_)
    rw [List.take_of_length_le (by simp [asI, exts]; omega)]; rfl
  | succ d ihd =>
    intro L most hd h0 hmost
    refine Run.step ?_
    simp only [spec_l05Search.f]
    rw [List.length_map]
    refine Run.no (by omega) ?_
    rw [exts_succ]
    refine Run.loop (L := fun q (z : List (List Int) × Int) => spec_l05Search.l0 q x l (L.map Int.ofNat) (setsOf n x.k.toNat L) most z.1 z.2) (fun z => (x.k - z.2).toNat) (fun z => 0 ≤ z.2 ∧ z.2 ≤ x.k ∧ z.1.length ≤ most ∧ (asI (brs (fun c => if okExt x l L c = true then exts x l x.k.toNat d (L ++ [c]) else []) 0 x.k.toNat)).take most = (z.1 ++ asI (brs (fun c => if okExt x l L c = true then exts x l x.k.toNat d (L ++ [c]) else []) z.2.toNat x.k.toNat)).take most) ?_ (_, 0) ⟨by simp only; omega, by simp only; omega, by simp, rfl⟩
    rintro ⟨o, c⟩ ⟨g0, g3, ho, hc⟩ ih
    simp only at g0 g3 ho hc
    simp only [spec_l05Search.l0]
    obtain ⟨c, rfl⟩ := Int.eq_ofNat_of_zero_le g0
    simp only [Int.toNat_natCast] at ih hc ⊢
    rw [List.length_map]
    refine Run.ite (fun h => ?_) (fun h => Run.ret ?_)
    · have hbs := brs_step (fun c => if okExt x l L c = true then exts x l x.k.toNat d (L ++ [c]) else []) (c := c) (K := x.k.toNat) (by omega)
      refine Run.ite (fun ho' => ?_) (fun ho' => Run.ret ?_)
      · rw [w64_id (x := (c : Int) + 1) (by omega)]
        refine Run.bindE (a := l.getD c 0) ((Run.getI' (by omega) (by omega)).mono fun r e => by rw [e]; exact (getD_at (by omega)).symm) ?_
        have hlc : 2 ≤ l.getD c 0 ∧ l.getD c 0 ≤ 17 := by rw [getD_at (show c < l.length by omega)]; exact hs _ (List.getElem_mem _)
        refine Run.no (by omega) ?_
        refine Run.bindE (Run.getI' (by omega) (by rw [setsOf_length]; omega)) ?_
        rw [setsOf_at]
        refine Run.bindE (a := l.getD c 0) ((Run.getI' (by omega) (by omega)).mono fun r e => by rw [e]; exact (getD_at (by omega)).symm) ?_
        refine Run.bindE (spec_l01Around_run x hx (by omega) L.length c (by omega)) ?_
        have hl1 := hlt (fun p => decide (p < L.length) && decide (L.getD p 0 = c))
        have hl2 : mask (joinsB x L.length c) x.p.toNat < 2 ^ 17 := by rw [show x.p.toNat = n by omega]; exact hlt _
        rw [and64 (by omega) (by omega), show x.p.toNat = n by omega, mask_and, w64_id (x := l.getD c 0 - 2) (by omega), show l.getD c 0 - 2 = (((l.getD c 0).toNat - 2 : Nat) : Int) by omega]
        refine Run.bindE (spec_l03Clique_run x hx (by omega) c n hn ((l.getD c 0).toNat - 2) _ (by omega)) ?_
        rw [sets_near (show L.length ≤ n by omega)]
        have hok : (!decide (cnum (fun i j => joinsB x i c j) (upF (fun p => decide (L.getD p 0 = c) && joinsB x p c L.length) 0 L.length) ((l.getD c 0).toNat - 2) = 0)) = !okExt x l L c := rfl
        rw [hok]
        refine Run.ite (fun h5 => ?_) (fun h5 => ?_)
        · have h6 : okExt x l L c = false := by simpa using h5
          rw [hbs, h6] at hc
          exact ih (_, (c : Int) + 1) ⟨by simp only; omega, by simp only; omega, ho, by simp only; rw [show ((c : Int) + 1).toNat = c + 1 by omega]; exact hc⟩ (by simp only; omega)
        · have h6 : okExt x l L c = true := by simpa using h5
          rw [hbs, if_pos h6, asI_append, ← List.append_assoc] at hc
          refine Run.bindE (spec_l01Own_run _ (by rw [setsOf_length]; omega)) ?_
          refine Run.bindE (a := (setsOf n x.k.toNat L).getD c 0) ((Run.getI' (by omega) (by rw [setsOf_length]; omega)).mono fun r e => by rw [e]; exact (getD_at (by rw [setsOf_length]; omega)).symm) ?_
          refine Run.bind (Q := fun _ => True) ((Run.getI' (by omega) (by rw [setsOf_length]; omega)).mono fun _ _ => trivial) fun _ _ => ?_
          refine Run.bindE (spec_l01Own_run _ (by rw [List.length_map]; omega)) ?_
          refine Run.bindE (Run.push' (by rw [List.length_map]; omega)) ?_
          rw [wu64_id (x := (L.length : Int)) (by omega), setsOf_snoc (by omega) (by omega) (by omega), show L.map Int.ofNat ++ [(c : Int)] = (L ++ [c]).map Int.ofNat by simp, w64_id (x := (most : Int) - (o.length : Int)) (by omega), show (most : Int) - (o.length : Int) = ((most - o.length : Nat) : Int) by omega]
          refine Run.bindE (ihd (L ++ [c]) (most - o.length) (by rw [List.length_append, List.length_singleton]; omega) (by omega) (by omega)) ?_
          refine Run.bindE (Run.concatR' (by rw [List.length_take]; omega)) ?_
          have et : o ++ (asI (exts x l x.k.toNat d (L ++ [c]))).take (most - o.length) = (o ++ asI (exts x l x.k.toNat d (L ++ [c]))).take most := by
            rw [List.take_append, List.take_of_length_le (l := o) (by omega)]
          rw [et]
          refine ih (_, (c : Int) + 1) ⟨by simp only; omega, by simp only; omega, by simp only; rw [List.length_take]; omega, ?_⟩ (by simp only; omega)
          simp only
          rw [show ((c : Int) + 1).toNat = c + 1 by omega, take_take_append]
          exact hc
      · rw [hc, List.take_append_of_le_length (by omega), List.take_of_length_le (by omega)]
    · rw [brs_end (fun c => if okExt x l L c = true then exts x l x.k.toNat d (L ++ [c]) else []) (c := c) (K := x.k.toNat) (by omega)] at hc
      rw [hc]
      show o = (o ++ []).take most
      rw [List.append_nil, List.take_of_length_le (by omega)]

theorem spec_l05All_run (x : Col) (hx : ByteC x) (hp : 1 ≤ x.p ∧ x.p ≤ 16) (hk : 0 ≤ x.k ∧ x.k ≤ 1000) (l : List Int) (hl : (l.length : Int) = x.k) (hs : ∀ v ∈ l, 2 ≤ v ∧ v ≤ 17) (most : Nat) (h0 : 0 < most) (hmost : most ≤ 1000000) : Run (fun k => spec_l05All.f k x l most) (· = (asI (firstE x l)).take most) := by
  unfold spec_l05All.f
  refine Run.loop (L := fun q (i : Int) => spec_l05All.l0 q x l most i) (fun i => (l.length - i).toNat) (fun i => 0 ≤ i ∧ i ≤ l.length) ?_ 0 ⟨by omega, by omega⟩
  rintro i ⟨g0, g3⟩ ih
  simp only [spec_l05All.l0]
  refine Run.ite (fun h => ?_) (fun h => ?_)
  · refine Run.bindE (Run.getI' g0 h) ?_
    have := hs _ (List.getElem_mem (l := l) (n := i.toNat) (by omega))
    rw [w64_id (x := i + 1) (by omega)]
    exact Run.no (by omega) (ih (i + 1) ⟨by omega, by omega⟩ (by omega))
  · refine Run.bind (Q := fun _ => True) (Run.guard (by omega) trivial) fun _ _ => ?_
    have hr := spec_l05Search_run x hx hp hk l hl hs x.p.toNat (by omega) x.p.toNat [] most (by simp) h0 hmost
    rw [setsOf_nil] at hr
    refine Run.bindE hr ?_
    exact Run.ret rfl

theorem spec_FirstExtension_run (x : Col) (hx : ByteC x) (l : List Int) (hl : l.length < 4611686018427387904) : Run (fun k => spec_FirstExtension.f k x l) (· = firstM x l) := by
  unfold spec_FirstExtension.f
  refine Run.bindE (spec_l05Small_run x hx l hl) ?_
  rw [firstM]
  refine Run.ite (fun h => Run.ret (by rw [if_neg h])) (fun h => ?_)
  have hz := Decidable.not_not.mp h
  rw [if_pos hz]
  obtain ⟨h1, h2, h3⟩ := exCode_zero hz
  obtain ⟨h4, h5⟩ := given_zero h1
  have hc := isB_spec h4
  have h17 := hc.1
  have hk := hc.2.1
  simp only [Bool.and_eq_true, decide_eq_true_eq] at h5
  refine Run.bindE (spec_l05All_run x hx (by omega) (by omega) l h5.1 (avoids_two h17.1 h5.2 h2) 1 (by omega) (by omega)) ?_
  cases firstE x l with
  | nil => exact Run.yes rfl (Run.ret rfl)
  | cons L D =>
    have e : (asI (L :: D)).take 1 = [L.map Int.ofNat] := rfl
    rw [e]
    refine Run.no (by simp) ?_
    refine Run.bindE (a := L.map Int.ofNat) (Run.getR' (by omega) (by simp)) ?_
    exact Run.ret rfl

theorem impl_in_run (n low high : Int) : Run (fun _ => impl_in.f n low high) (· = decide (low ≤ n ∧ n ≤ high)) := by
  unfold impl_in.f
  refine Run.ite (fun h => ?_) (fun h => ?_)
  · refine Run.ret (decide_eq_decide.mpr ?_); omega
  · refine Run.ret ((decide_eq_false ?_).symm); omega

theorem impl_Colouring_edges_run (x : Col) (hp : 0 ≤ x.p ∧ x.p ≤ 1000) : Run (fun _ => impl_Colouring_edges.f x) (· = (tri x.p.toNat : Int)) := by
  unfold impl_Colouring_edges.f
  have := tri_int (n := x.p.toNat) (by omega)
  rw [show ((x.p.toNat : Nat) : Int) = x.p by omega] at this
  exact Run.ret this

theorem impl_Colouring_isColouring_run (x : Col) (hx : ByteC x) : Run (fun k => impl_Colouring_isColouring.f k x) (· = isB x) := by
  unfold impl_Colouring_isColouring.f
  refine Run.bindE (impl_in_run _ _ _) ?_
  refine Run.itn (fun h1 => ?_) (fun h1 => ?_)
  · exact Run.ret (decide_eq_false fun h => h1 (decide_eq_true h.1)).symm
  refine Run.bindE (impl_in_run _ _ _) ?_
  refine Run.itn (fun h2 => ?_) (fun h2 => ?_)
  · exact Run.ret (decide_eq_false fun h => h2 (decide_eq_true h.2.1)).symm
  have hp := of_decide_eq_true h1
  have hk := of_decide_eq_true h2
  refine Run.loop (L := fun q (i : Int) => impl_Colouring_isColouring.l0 q x i) (fun i => (136 - i).toNat) (fun i => 0 ≤ i ∧ i ≤ 136 ∧ ∀ j : Nat, (j : Int) < i → (if j < tri x.p.toNat then x.e j < x.k else x.e j = 0)) ?_ 0 ⟨by omega, by omega, fun j hj => by omega⟩
  rintro i ⟨h0, h3, hJ⟩ ih
  simp only [impl_Colouring_isColouring.l0]
  refine Run.ite (fun h => ?_) (fun h => ?_)
  · refine Run.bindE (Run.getB' h0 h) ?_
    have hb := hx i.toNat
    rw [w64_id (x := x.e i.toNat) (by omega)]
    refine Run.ite (fun h5 => ?_) (fun h5 => ?_)
    · refine Run.ret (decide_eq_false fun hc => ?_).symm
      have := hc.2.2 i.toNat (by omega)
      by_cases h6 : i.toNat < tri x.p.toNat
      · rw [if_pos h6] at this; omega
      · rw [if_neg h6] at this; omega
    · refine Run.bindE (impl_Colouring_edges_run x (by omega)) ?_
      rw [w64_id (x := i + 1) (by omega)]
      refine Run.ite (fun h4 => ?_) (fun h4 => ?_)
      · refine Run.ite (fun h7 => ?_) (fun h7 => ?_)
        · refine Run.ret (decide_eq_false fun hc => ?_).symm
          have := hc.2.2 i.toNat (by omega)
          rw [if_neg (by omega)] at this; omega
        · refine ih (i + 1) ⟨by omega, by omega, fun j hj => ?_⟩ (by omega)
          by_cases ej : (j : Int) < i
          · exact hJ j ej
          · obtain rfl : j = i.toNat := by omega
            rw [if_neg (by omega)]; omega
      · refine ih (i + 1) ⟨by omega, by omega, fun j hj => ?_⟩ (by omega)
        by_cases ej : (j : Int) < i
        · exact hJ j ej
        · obtain rfl : j = i.toNat := by omega
          rw [if_pos (by omega)]; omega
  · refine Run.ret (decide_eq_true ⟨hp, hk, fun j hj => hJ j (by omega)⟩).symm

theorem impl_size_int64_run (l : List Int) : Run (fun _ => impl_size_int64.f l) (· = (l.length : Int)) := by
  unfold impl_size_int64.f
  exact Run.ret rfl

theorem impl_areIn_1_run (n lo hi : Int) : Run (fun _ => impl_areIn_1.f n lo hi) (· = !decide (lo ≤ n ∧ n ≤ hi)) := by
  unfold impl_areIn_1.f
  refine Run.bindE (impl_in_run _ _ _) ?_
  exact Run.ret rfl
end Go.Proofs.Ytocjhmeekecdiaa.P
