/- What the pure functions come to, one by one (part 8). -/
import Derived.Test.YtocjhmeekecdiaaPFnExactExtensionsByDegree7
import Derived.Test.YtocjhmeekecdiaaGFnExactExtensionsByDegree10
namespace Go.Proofs.Ytocjhmeekecdiaa.P
open Go Go.RowKit Go.Proofs.Ytocjhmeekecdiaa.K Go.Proofs.Ytocjhmeekecdiaa.G
set_option linter.unusedVariables false
set_option linter.unusedSimpArgs false

theorem impl_Colouring_extensions__ExtensionsByDegree_1_run (x : Col) (hx : ByteC x) (hp : 1 ≤ x.p ∧ x.p ≤ 16) (hk : 0 ≤ x.k ∧ x.k ≤ 1000) (l : List Int) (hl : (l.length : Int) = x.k) (hs : ∀ v ∈ l, 2 ≤ v ∧ v ≤ 17) (n : Nat) (hn : (n : Int) = x.p) : ∀ (d : Nat) (L : List Nat) (s : List Int), L.length + d = n → (fun s : List Int => s.length = n + 1) s →
    Run (fun k => impl_Colouring_extensions__ExtensionsByDegree_1.f k x l (L.map Int.ofNat) s) (· = runL (fun s (L : List Nat) => (true, incE s L)) s (exts x l x.k.toNat d L)) := by
  generalize hstp : (fun s (L : List Nat) => (true, incE s L)) = stp
  have hkeep : ∀ s (L : List Nat), L.length = n → (fun s : List Int => s.length = n + 1) s → (fun s : List Int => s.length = n + 1) (stp s L).2 := by
    intro s L hL hi
    rw [← hstp]; show (incE s L).length = n + 1; unfold incE; rw [List.length_set]; exact hi
  intro d
  induction d with
  | zero =>
    intro L s hd hi
    refine Run.step ?_
    simp only [impl_Colouring_extensions__ExtensionsByDegree_1.f]
    refine Run.bindE (impl_size_int64_run _) ?_
    rw [List.length_map]
    refine Run.yes (by omega) ?_
    refine Run.bindE (a := stp s L) (by rw [← hstp]; exact impl_ExtensionsByDegree_1_run L s (by omega) (by have h : s.length = n + 1 := hi; omega)) ?_
    refine Run.ret ?_
    show _ = runL stp s [L]
    rw [runL_cons, runL_nil]
    generalize stp s L = r
    obtain ⟨b, u⟩ := r
    cases b <;> rfl
  | succ d ihd =>
    intro L s hd hi
    refine Run.step ?_
    simp only [impl_Colouring_extensions__ExtensionsByDegree_1.f]
    refine Run.bindE (impl_size_int64_run _) ?_
    rw [List.length_map]
    refine Run.no (by omega) ?_
    rw [exts_succ]
    refine Run.loop (L := fun q (z : List Int × Int) => impl_Colouring_extensions__ExtensionsByDegree_1.l0 q x l (L.map Int.ofNat) (L.length : Int) z.1 z.2) (fun z => (x.k - z.2).toNat) (fun z => 0 ≤ z.2 ∧ z.2 ≤ x.k ∧ (fun s : List Int => s.length = n + 1) z.1 ∧ runL stp s (brs (fun c => if okExt x l L c = true then exts x l x.k.toNat d (L ++ [c]) else []) 0 x.k.toNat) = runL stp z.1 (brs (fun c => if okExt x l L c = true then exts x l x.k.toNat d (L ++ [c]) else []) z.2.toNat x.k.toNat)) ?_ (_, 0) ⟨by simp only; omega, by simp only; omega, hi, rfl⟩
    rintro ⟨t, c⟩ ⟨h0, h3, hi, hc⟩ ih
    simp only at h0 h3 hi hc
    simp only [impl_Colouring_extensions__ExtensionsByDegree_1.l0]
    obtain ⟨c, rfl⟩ := Int.eq_ofNat_of_zero_le h0
    simp only [Int.toNat_natCast] at ih hc
    rw [hc] at ih ⊢
    refine Run.ite (fun h => ?_) (fun h => Run.ret (by rw [brs_end _ (by omega)]; rfl))
    refine Run.loop (L := fun q (z : List Int × Int) => impl_Colouring_extensions__ExtensionsByDegree_1.l1 q x l (L.map Int.ofNat) (L.length : Int) t c z.1 z.2) (fun z => (L.length - z.2).toNat) (fun z => 0 ≤ z.2 ∧ z.2 ≤ L.length ∧ z.1 = sel (fun p => decide (L.getD p 0 = c) && joinsB x p c L.length) z.2.toNat) ?_ ([], 0) ⟨by simp only; omega, by simp only; omega, rfl⟩
    rintro ⟨near, p⟩ ⟨g0, g3, hnear⟩ ih2
    simp only at g0 g3 hnear
    subst hnear
    simp only [impl_Colouring_extensions__ExtensionsByDegree_1.l1]
    obtain ⟨p, rfl⟩ := Int.eq_ofNat_of_zero_le g0
    simp only [Int.toNat_natCast] at ih2 ⊢
    rw [List.length_map, w64_id (x := (c : Int) + 1) (by omega)]
    refine Run.ite (fun h' => ?_) (fun h' => ?_)
    · have hpl : p < L.length := by omega
      rw [w64_id (x := (p : Int) + 1) (by omega)]
      refine Run.bindE (a := (L.getD p 0 : Int)) ((Run.getI' (by omega) (by rw [List.length_map]; omega)).mono fun r e => by rw [e, List.getD_eq_getElem?_getD, List.getElem?_eq_getElem hpl]; simp) ?_
      have next0 : (decide (L.getD p 0 = c) && joinsB x p c L.length) = false → Run (fun q => impl_Colouring_extensions__ExtensionsByDegree_1.l1 q x l (L.map Int.ofNat) (L.length : Int) t c (sel (fun p => decide (L.getD p 0 = c) && joinsB x p c L.length) p) ((p : Int) + 1)) (· = runL stp t (brs (fun c => if okExt x l L c = true then exts x l x.k.toNat d (L ++ [c]) else []) c x.k.toNat)) := fun hf => ih2 (_, (p : Int) + 1) ⟨by simp only; omega, by simp only; omega, by simp only; rw [show ((p : Int) + 1).toNat = p + 1 by omega]; exact (sel_no (Bool.eq_false_iff.mp hf)).symm⟩ (by simp only; omega)
      refine Run.ite (fun h5 => ?_) (fun h5 => next0 (by rw [decide_eq_false (by omega), Bool.false_and]))
      refine Run.bindE (impl_Colouring_joins_run x hx (by omega) p L.length c (by omega) (by omega)) ?_
      have e5 : decide (L.getD p 0 = c) = true := decide_eq_true (by omega)
      refine Run.ite (fun h6 => ?_) (fun h6 => next0 (by rw [Bool.eq_false_iff.mpr h6, Bool.and_false]))
      have hlen := sel_length (fun p => decide (L.getD p 0 = c) && joinsB x p c L.length) p
      refine Run.bindE (Run.push' (by omega)) ?_
      exact ih2 (_, (p : Int) + 1) ⟨by simp only; omega, by simp only; omega, by simp only; rw [show ((p : Int) + 1).toNat = p + 1 by omega, sel_yes (by rw [e5, h6]; rfl)]⟩ (by simp only; omega)
    · obtain rfl : p = L.length := by omega
      refine Run.bindE (a := l.getD c 0) ((Run.getI' (by omega) (by omega)).mono fun r e => by rw [e]; exact (getD_at (by omega)).symm) ?_
      have hlc : 2 ≤ l.getD c 0 ∧ l.getD c 0 ≤ 17 := by rw [getD_at (show c < l.length by omega)]; exact hs _ (List.getElem_mem _)
      rw [w64_id (x := l.getD c 0 - 2) (by omega), show l.getD c 0 - 2 = (((l.getD c 0).toNat - 2 : Nat) : Int) by omega, sel_upF]
      have hup := upF_length (fun p => decide (L.getD p 0 = c) && joinsB x p c L.length) 0 L.length
      refine Run.bindE (impl_Colouring_hasClique_run x hx (by omega) c ((l.getD c 0).toNat - 2) _ (fun i hi => by have := (mem_upF.mp hi).1; omega) (by omega)) ?_
      have hok : (!decide (cnum (fun i j => joinsB x i c j) (upF (fun p => decide (L.getD p 0 = c) && joinsB x p c L.length) 0 L.length) ((l.getD c 0).toNat - 2) = 0)) = !okExt x l L c := rfl
      rw [hok]
      have hbs := brs_step (fun c => if okExt x l L c = true then exts x l x.k.toNat d (L ++ [c]) else []) (c := c) (K := x.k.toNat) (by omega)
      refine Run.ite (fun h5 => ?_) (fun h5 => ?_)
      · have h6 : okExt x l L c = false := by simpa using h5
        rw [hbs, h6] at ih ⊢
        exact ih (_, (c : Int) + 1) ⟨by simp only; omega, by simp only; omega, hi, by simp only; rw [show ((c : Int) + 1).toNat = c + 1 by omega]; rfl⟩ (by simp only; omega)
      · have h6 : okExt x l L c = true := by simpa using h5
        rw [hbs, if_pos h6, runL_append] at ih ⊢
        refine Run.bind (Q := fun _ => True) (Run.guard (by first | omega | (rw [List.length_map]; omega)) trivial) fun _ _ => ?_
        refine Run.bindE (Run.push' (by rw [List.length_map]; omega)) ?_
        rw [show L.map Int.ofNat ++ [(c : Int)] = (L ++ [c]).map Int.ofNat by simp]
        refine Run.bindE (ihd (L ++ [c]) t (by rw [List.length_append, List.length_singleton]; omega) hi) ?_
        have hinv : (fun s : List Int => s.length = n + 1) (runL stp t (exts x l x.k.toNat d (L ++ [c]))).2 := runL_inv stp (fun s : List Int => s.length = n + 1) (fun M => M.length = n) (fun s M hM hs => hkeep s M hM hs) (exts x l x.k.toNat d (L ++ [c])) t (fun M hM => by rw [exts_len x l x.k.toNat d (L ++ [c]) M hM, List.length_append, List.length_singleton]; omega) hi
        generalize hr : runL stp t (exts x l x.k.toNat d (L ++ [c])) = r at ih hinv ⊢
        refine Run.ite (fun hz => ?_) (fun hz => Run.ret ?_)
        · rw [if_pos hz] at ih ⊢
          exact ih (_, (c : Int) + 1) ⟨by simp only; omega, by simp only; omega, hinv, by simp only; rw [show ((c : Int) + 1).toNat = c + 1 by omega]⟩ (by simp only; omega)
        · rw [if_neg hz]
          obtain ⟨b, u⟩ := r
          simp only at hz ⊢
          rw [Bool.eq_false_iff.mpr hz]

theorem impl_Colouring_extend__ExtensionsByDegree_1_run (x : Col) (hx : ByteC x) (hp : 1 ≤ x.p ∧ x.p ≤ 16) (hk : 0 ≤ x.k ∧ x.k ≤ 1000) (l : List Int) (hl : (l.length : Int) = x.k) (hs : ∀ v ∈ l, 2 ≤ v ∧ v ≤ 17) (s : List Int) (h : s.length = x.p.toNat + 1) : Run (fun k => impl_Colouring_extend__ExtensionsByDegree_1.f k x l s) (· = (true, (firstE x l).foldl incE s)) := by
  unfold impl_Colouring_extend__ExtensionsByDegree_1.f
  refine Run.bindE (impl_Colouring_extensions__ExtensionsByDegree_1_run x hx hp hk l hl hs x.p.toNat (by omega) x.p.toNat [] s (by simp) h) ?_
  refine Run.ret ?_
  rw [runL_all]; rfl

theorem impl_ExtensionsByDegree_run (x : Col) (hx : ByteC x) (l : List Int) (hl : l.length < 4611686018427387904) : Run (fun k => impl_ExtensionsByDegree.f k x l) (· = degsM x l) := by
  unfold impl_ExtensionsByDegree.f
  refine Run.bindE (impl_Colouring_extendingCode__always_run x hx l hl 12) ?_
  show Run (fun k => if exCode x l 12 ≠ 0 then some (([] : List Int), exCode x l 12) else _) _
  rw [degsM]
  refine Run.ite (fun h => Run.ret (by rw [if_neg h])) (fun h => ?_)
  have hz := Decidable.not_not.mp h
  rw [if_pos hz]
  obtain ⟨h1, h2, h3⟩ := exCode_zero hz
  obtain ⟨h4, h5⟩ := given_zero h1
  have hc := isB_spec h4
  have h17 := hc.1
  have hk := hc.2.1
  simp only [Bool.and_eq_true, decide_eq_true_eq] at h5
  rw [w64_id (x := x.p + 1) (by omega)]
  refine Run.bind (Q := fun _ => True) (Run.guard (by omega) trivial) fun _ _ => ?_
  rw [show (x.p + 1).toNat = x.p.toNat + 1 by omega]
  refine Run.bindE (impl_Colouring_extend__ExtensionsByDegree_1_run x hx (by omega) (by omega) l h5.1 (avoids_two h17.1 h5.2 h2) _ (by simp)) ?_
  exact Run.ret rfl

theorem laws_eqInt64S_run (a b : List Int) (ha : a.length < 4611686018427387904) : Run (fun k => laws_eqInt64S.f k a b) (· = decide (a = b)) := by
  unfold laws_eqInt64S.f
  refine Run.ite (fun h => ?_) (fun h => ?_)
  · exact Run.ret (decide_eq_false fun e => h (by rw [e])).symm
  have hl : a.length = b.length := by omega
  refine Run.loop (L := fun q (i : Int) => laws_eqInt64S.l0 q a b i) (fun i => (a.length - i).toNat) (fun i => 0 ≤ i ∧ i ≤ a.length ∧ ∀ (j : Nat) (h : j < a.length), (j : Int) < i → a[j] = b[j]'(by omega)) ?_ 0 ⟨by omega, by omega, fun j _ hj => by omega⟩
  rintro i ⟨h0, h3, hJ⟩ ih
  simp only [laws_eqInt64S.l0]
  refine Run.ite (fun h => ?_) (fun h => ?_)
  · refine Run.bindE (Run.getI' h0 h) ?_
    refine Run.bindE (Run.getI' h0 (by omega)) ?_
    refine Run.ite (fun h5 => ?_) (fun h5 => ?_)
    · exact Run.ret (decide_eq_false fun e => h5 (by simp only [e])).symm
    · rw [w64_id (by omega)]
      refine ih (i + 1) ⟨by omega, by omega, fun j hj hji => ?_⟩ (by omega)
      by_cases ej : (j : Int) < i
      · exact hJ j hj ej
      · obtain rfl : j = i.toNat := by omega
        exact Decidable.not_not.mp h5
  · exact Run.ret (decide_eq_true (List.ext_getElem hl fun j h1 h2 => hJ j h1 (by omega))).symm
end Go.Proofs.Ytocjhmeekecdiaa.P
