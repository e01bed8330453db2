/- What the pure functions come to, one by one (part 4). -/
import Derived.Test.YtdpamdedomkomaaPFnExactFullCliques3
import Derived.Test.YtdpamdedomkomaaGFnExactFullCliques9
namespace Go.Proofs.Ytdpamdedomkomaa.P
open Go Go.RowKit Go.Proofs.Ytdpamdedomkomaa.K Go.Proofs.Ytdpamdedomkomaa.G
set_option linter.unusedVariables false
set_option linter.unusedSimpArgs false

theorem spec_l02Before_run (a b : List Nat) (ha : a.length ≤ 1000) (hb : b.length ≤ 1000) : Run (fun k => spec_l02Before.f k (a.map Int.ofNat) (b.map Int.ofNat)) (· = bef a b) := by
  unfold spec_l02Before.f
  refine Run.loop (L := fun q (z : Int) => spec_l02Before.l0 q (a.map Int.ofNat) (b.map Int.ofNat) z) (fun z => (a.length - z).toNat) (fun z => 0 ≤ z ∧ z ≤ a.length ∧ z ≤ b.length ∧ bef (a.drop z.toNat) (b.drop z.toNat) = bef a b) ?_ 0 ⟨by omega, by omega, by omega, rfl⟩
  rintro i ⟨i0, i1, i2, hi⟩ ih
  obtain ⟨i, rfl⟩ := Int.eq_ofNat_of_zero_le i0
  simp only [Int.toNat_natCast] at ih hi ⊢
  simp only [spec_l02Before.l0, List.length_map]
  have fin : ¬ (i < a.length ∧ i < b.length) → Run (fun _ => some (decide ((a.length : Int) < (b.length : Int)))) (· = bef a b) := fun h => by
    refine Run.ret ?_
    rw [← hi]
    by_cases h1 : i = a.length
    · rw [List.drop_eq_nil_of_le (show a.length ≤ i by omega)]
      by_cases h2 : i = b.length
      · rw [List.drop_eq_nil_of_le (show b.length ≤ i by omega)]
        exact decide_eq_false (by omega)
      · rw [show b.drop i = b[i]'(by omega) :: b.drop (i + 1) from List.drop_eq_getElem_cons (by omega)]
        exact decide_eq_true (by omega)
    · rw [List.drop_eq_nil_of_le (show b.length ≤ i by omega), bef_nil]
      exact decide_eq_false (by omega)
  refine Run.ite (fun h1 => ?_) (fun h1 => fin (by omega))
  refine Run.ite (fun h2 => ?_) (fun h2 => fin (by omega))
  have ea : (a.map Int.ofNat)[((i : Nat) : Int).toNat]'(by rw [List.length_map]; omega) = ((a[i]'(by omega) : Nat) : Int) := by rw [List.getElem_map]; rfl
  have eb : (b.map Int.ofNat)[((i : Nat) : Int).toNat]'(by rw [List.length_map]; omega) = ((b[i]'(by omega) : Nat) : Int) := by rw [List.getElem_map]; rfl
  rw [show a.drop i = a[i]'(by omega) :: a.drop (i + 1) from List.drop_eq_getElem_cons (by omega), show b.drop i = b[i]'(by omega) :: b.drop (i + 1) from List.drop_eq_getElem_cons (by omega), bef] at hi
  refine Run.bindE (Run.getI' (by omega) (by rw [List.length_map]; omega)) ?_
  refine Run.bindE (Run.getI' (by omega) (by rw [List.length_map]; omega)) ?_
  rw [ea, eb]
  refine Run.ite (fun h3 => ?_) (fun h3 => ?_)
  · refine Run.bindE (Run.getI' (by omega) (by rw [List.length_map]; omega)) ?_
    refine Run.bindE (Run.getI' (by omega) (by rw [List.length_map]; omega)) ?_
    rw [ea, eb]
    rw [if_neg (by omega)] at hi
    refine Run.ret ?_
    rw [← hi]
    exact decide_eq_decide.mpr (by omega)
  · rw [if_pos (by omega)] at hi
    rw [w64_id (x := (i : Int) + 1) (by omega)]
    refine ih ((i : Int) + 1) ⟨by omega, by omega, by omega, ?_⟩ (by omega)
    rw [show ((i : Int) + 1).toNat = i + 1 by omega]
    exact hi

theorem spec_FullCliques_run (x : Col) (hx : ByteC x) (c : Int) : Run (fun k => spec_FullCliques.f k x c) (· = fcM x c) := by
  unfold spec_FullCliques.f fcM
  refine Run.bindE (spec_l01Given_run x hx c [] (by simp)) ?_
  have eo : (decide (0 ≤ c ∧ c ≤ x.k - 1) && allIn [] 0 (x.p - 1)) = decide (0 ≤ c ∧ c ≤ x.k - 1) := by simp [allIn]
  rw [eo]
  refine Run.ite (fun h => ?_) (fun h => ?_)
  · exact Run.ret (by rw [if_neg h])
  have hz := Decidable.not_not.mp h
  have h17 := (isB_spec (given_zero hz).1).1
  rw [if_pos hz]
  have hm2 : (2 : Nat) ^ x.p.toNat ≤ 2 ^ 17 := Nat.pow_le_pow_right (by omega) (by omega)
  refine Run.bindE (spec_l02Rows_run x hx (by omega) c) ?_
  rw [all_mask (by omega)]
  have hs := spec_l02Full_run x (by omega) c 201 (by omega) (x.p.toNat + 1) [] [] (by simp [nextP]) (by simp [nextP]) (by simp)
  have e1 : maskL x.p.toNat [] = 0 := mask_zero fun q _ => rfl
  have e2 : mask (fun j => withB x c [] j && decide (nextP [] ≤ j)) x.p.toNat = mask (fun _ => true) x.p.toNat := mask_congr fun j _ => by simp [withB, nextP]
  have e3 : mask (fun j => withB x c [] j && decide (j < nextP [])) x.p.toNat = 0 := mask_zero fun q _ => by simp [nextP]
  rw [e1, e2, e3, List.nil_append] at hs
  have hF : upF (withB x c []) (nextP []) x.p.toNat = upF (fun _ => true) 0 x.p.toNat := rfl
  rw [hF] at hs
  refine Run.bindE hs ?_
  have hD : fullI x c (dfs (fun i j => joinsB x i c j) (x.p.toNat + 1) [] (upF (fun _ => true) 0 x.p.toNat)) = (fullD x c).map fun L => (maskL x.p.toNat L : Int) := rfl
  rw [hD]
  unfold listR
  refine Run.ite (fun h1 => Run.ret ?_) (fun h1 => ?_)
  · rw [List.length_take, List.length_map] at h1
    rw [if_neg (by omega)]
  rw [List.length_take, List.length_map] at h1
  have hlen : (fullD x c).length ≤ 200 := by omega
  rw [if_pos hlen, List.take_of_length_le (by rw [List.length_map]; omega)]
  have hgood := fun M (h : M ∈ fullD x c) => fullD_good h
  have hrise := fullD_rise x c
  generalize fullD x c = D at hlen hgood hrise
  refine Run.loop (L := fun q (z : List (List Int) × Int) => spec_FullCliques.l0 q (D.map fun L => (maskL x.p.toNat L : Int)) z.1 z.2) (fun z => (D.length - z.2).toNat) (fun z => 0 ≤ z.2 ∧ z.2 ≤ D.length ∧ z.1 = asI (D.take z.2.toNat)) ?_ ([], 0) ⟨by simp only; omega, by simp only; omega, rfl⟩
  rintro ⟨out, i⟩ ⟨i0, i1, ho⟩ ih
  simp only at i0 i1 ho
  obtain ⟨i, rfl⟩ := Int.eq_ofNat_of_zero_le i0
  simp only [Int.toNat_natCast] at ih ho ⊢
  subst ho
  simp only [spec_FullCliques.l0, List.length_map]
  refine Run.ite (fun hi => ?_) (fun hi => ?_)
  rotate_left
  · refine Run.ret ?_
    rw [List.take_of_length_le (by omega)]
  have hiD : i < D.length := by omega
  obtain ⟨g1, g2, g3⟩ := hgood (D[i]'hiD) (List.getElem_mem hiD)
  have ex : (D.map fun L => (maskL x.p.toNat L : Int))[((i : Nat) : Int).toNat]'(by rw [List.length_map]; omega) = (maskL x.p.toNat (D[i]'hiD) : Int) := by simp
  have hml := Nat.lt_of_lt_of_le (mask_lt (fun j => (D[i]'hiD).contains j) x.p.toNat) hm2
  refine Run.bindE (Run.getI' (by omega) (by rw [List.length_map]; omega)) ?_
  rw [ex]
  refine Run.bindE (spec_l01Points_run _ (by unfold maskL; omega)) ?_
  have hpts : sel (maskL x.p.toNat (D[i]'hiD)).testBit 62 = (D[i]'hiD).map Int.ofNat := by
    unfold maskL
    rw [sel_mask (by omega), sel_contains g1 g2]
  rw [hpts]
  have hti : (asI (D.take i)).length = i := by rw [asI_length, List.length_take]; omega
  refine Run.bindE (Run.concatR' (by rw [hti, List.length_singleton]; omega)) ?_
  have et : asI (D.take i) ++ [(D[i]'hiD).map Int.ofNat] = asI (D.take (i + 1)) := by
    rw [show D.take (i + 1) = D.take i ++ [D[i]'hiD] from (List.take_append_getElem hiD).symm, asI_append]; rfl
  rw [et, hti]
  have hl1 : (asI (D.take (i + 1))).length = i + 1 := by rw [asI_length, List.length_take]; omega
  have hat : ∀ k (hk : k < i + 1), (asI (D.take (i + 1)))[k]'(by omega) = (D[k]'(by omega)).map Int.ofNat := fun k hk => by simp [asI]
  refine Run.step ?_
  simp only [spec_FullCliques.l1]
  have set : Run (fun q => (getR (asI (D.take (i + 1))) (i : Int)).bind fun _ => spec_FullCliques.l0 q (D.map fun L => (maskL x.p.toNat L : Int)) ((asI (D.take (i + 1))).set ((i : Nat) : Int).toNat ((D[i]'hiD).map Int.ofNat)) (w64 ((i : Int) + 1))) (· = (asI D, 0)) := by
    refine Run.bindE (Run.getR' (by omega) (by omega)) ?_
    rw [w64_id (x := (i : Int) + 1) (by omega)]
    refine ih (_, (i : Int) + 1) ⟨by simp only; omega, by simp only; omega, ?_⟩ (by simp only; omega)
    simp only
    rw [show ((i : Int) + 1).toNat = i + 1 by omega]
    refine List.ext_getElem (by rw [List.length_set]) fun k h1 h2 => ?_
    rw [List.getElem_set]
    split
    · next e =>
      rw [Int.toNat_natCast] at e
      subst e
      exact (hat i (by omega)).symm
    · rfl
  refine Run.ite (fun h2 => ?_) (fun h2 => set)
  rw [w64_id (x := (i : Int) - 1) (by omega)]
  refine Run.bindE (Run.getR' (by omega) (by omega)) ?_
  have ep : (asI (D.take (i + 1)))[((i : Int) - 1).toNat]'(by omega) = (D[i - 1]'(by omega)).map Int.ofNat := by
    have e : ((i : Int) - 1).toNat = i - 1 := by omega
    simp only [e]
    exact hat (i - 1) (by omega)
  rw [ep]
  have g4 := (hgood (D[i - 1]'(by omega)) (List.getElem_mem _)).2.2
  refine Run.bindE (spec_l02Before_run (D[i]'hiD) (D[i - 1]'(by omega)) (by omega) (by omega)) ?_
  have hbf : bef (D[i]'hiD) (D[i - 1]'(by omega)) = false := List.pairwise_iff_getElem.mp hrise (i - 1) i (by omega) hiD (by omega)
  rw [hbf]
  exact Run.no (by simp) set

theorem impl_in_run (n low high : Int) : Run (fun _ => impl_in.f n low high) (· = decide (low ≤ n ∧ n ≤ high)) := by
  unfold impl_in.f
  refine Run.ite (fun h => ?_) (fun h => ?_)
  · refine Run.ret (decide_eq_decide.mpr ?_); omega
  · refine Run.ret ((decide_eq_false ?_).symm); omega

theorem impl_Colouring_edges_run (x : Col) (hp : 0 ≤ x.p ∧ x.p ≤ 1000) : Run (fun _ => impl_Colouring_edges.f x) (· = (tri x.p.toNat : Int)) := by
  unfold impl_Colouring_edges.f
  have := tri_int (n := x.p.toNat) (by omega)
  rw [show ((x.p.toNat : Nat) : Int) = x.p by omega] at this
  exact Run.ret this

theorem impl_Colouring_isColouring_run (x : Col) (hx : ByteC x) : Run (fun k => impl_Colouring_isColouring.f k x) (· = isB x) := by
  unfold impl_Colouring_isColouring.f
  refine Run.bindE (impl_in_run _ _ _) ?_
  refine Run.itn (fun h1 => ?_) (fun h1 => ?_)
  · exact Run.ret (decide_eq_false fun h => h1 (decide_eq_true h.1)).symm
  refine Run.bindE (impl_in_run _ _ _) ?_
  refine Run.itn (fun h2 => ?_) (fun h2 => ?_)
  · exact Run.ret (decide_eq_false fun h => h2 (decide_eq_true h.2.1)).symm
  have hp := of_decide_eq_true h1
  have hk := of_decide_eq_true h2
  refine Run.loop (L := fun q (i : Int) => impl_Colouring_isColouring.l0 q x i) (fun i => (136 - i).toNat) (fun i => 0 ≤ i ∧ i ≤ 136 ∧ ∀ j : Nat, (j : Int) < i → (if j < tri x.p.toNat then x.e j < x.k else x.e j = 0)) ?_ 0 ⟨by omega, by omega, fun j hj => by omega⟩
  rintro i ⟨h0, h3, hJ⟩ ih
  simp only [impl_Colouring_isColouring.l0]
  refine Run.ite (fun h => ?_) (fun h => ?_)
  · refine Run.bindE (Run.getB' h0 h) ?_
    have hb := hx i.toNat
    rw [w64_id (x := x.e i.toNat) (by omega)]
    refine Run.ite (fun h5 => ?_) (fun h5 => ?_)
    · refine Run.ret (decide_eq_false fun hc => ?_).symm
      have := hc.2.2 i.toNat (by omega)
      by_cases h6 : i.toNat < tri x.p.toNat
      · rw [if_pos h6] at this; omega
      · rw [if_neg h6] at this; omega
    · refine Run.bindE (impl_Colouring_edges_run x (by omega)) ?_
      rw [w64_id (x := i + 1) (by omega)]
      refine Run.ite (fun h4 => ?_) (fun h4 => ?_)
      · refine Run.ite (fun h7 => ?_) (fun h7 => ?_)
        · refine Run.ret (decide_eq_false fun hc => ?_).symm
          have := hc.2.2 i.toNat (by omega)
          rw [if_neg (by omega)] at this; omega
        · refine ih (i + 1) ⟨by omega, by omega, fun j hj => ?_⟩ (by omega)
          by_cases ej : (j : Int) < i
          · exact hJ j ej
          · obtain rfl : j = i.toNat := by omega
            rw [if_neg (by omega)]; omega
      · refine ih (i + 1) ⟨by omega, by omega, fun j hj => ?_⟩ (by omega)
        by_cases ej : (j : Int) < i
        · exact hJ j ej
        · obtain rfl : j = i.toNat := by omega
          rw [if_pos (by omega)]; omega
  · refine Run.ret (decide_eq_true ⟨hp, hk, fun j hj => hJ j (by omega)⟩).symm

theorem impl_Colouring_hasColour_run (x : Col) (hp : 1 ≤ x.k ∧ x.k ≤ 1000) (c : Int) : Run (fun _ => impl_Colouring_hasColour.f x c) (· = decide (0 ≤ c ∧ c ≤ x.k - 1)) := by
  unfold impl_Colouring_hasColour.f
  rw [w64_id (x := x.k - 1) (by omega)]
  refine Run.bindE (impl_in_run _ _ _) ?_
  exact Run.ret rfl

theorem impl_FullCliques_1_run (x : Col) (hc : IsCol x) (c : Int) : Run (fun _ => impl_FullCliques_1.f x c) (· = decide (0 ≤ c ∧ c ≤ x.k - 1)) := by
  unfold impl_FullCliques_1.f
  have h2 := hc.2.1
  refine Run.bindE (impl_Colouring_hasColour_run x (by omega) c) ?_
  exact Run.ret rfl
end Go.Proofs.Ytdpamdedomkomaa.P
