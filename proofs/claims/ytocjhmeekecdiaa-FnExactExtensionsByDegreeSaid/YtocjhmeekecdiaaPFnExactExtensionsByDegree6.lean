/- What the pure functions come to, one by one (part 6). -/
import Derived.Test.YtocjhmeekecdiaaPFnExactExtensionsByDegree5
import Derived.Test.YtocjhmeekecdiaaGFnExactExtensionsByDegree10
namespace Go.Proofs.Ytocjhmeekecdiaa.P
open Go Go.RowKit Go.Proofs.Ytocjhmeekecdiaa.K Go.Proofs.Ytocjhmeekecdiaa.G
set_option linter.unusedVariables false
set_option linter.unusedSimpArgs false

theorem impl_Colouring_cliques__Colouring_firstOf_1_run (x : Col) (hx : ByteC x) (hp : 0 ≤ x.p ∧ x.p ≤ 17) (c m : Int) (n : Nat) (hn : (n : Int) = x.p) : ∀ (g : Nat) (L : List Nat) (o : List Int) (d : Nat), n - nextP L + 1 ≤ g → L.length ≤ nextP L → nextP L ≤ n → (∀ i ∈ L, i < n) → (L.length : Int) + d = m →
    Run (fun k => impl_Colouring_cliques__Colouring_firstOf_1.f k x c (L.map Int.ofNat) m o) (fun r => r.1 = decide (cnum (fun i j => joinsB x i c j) (upF (withB x c L) (nextP L) n) d = 0)) := by
  intro g
  induction g with
  | zero => intro L o d hg; omega
  | succ g ihg =>
    intro L o d hg hlen hnx hL hd
    refine Run.step ?_
    simp only [impl_Colouring_cliques__Colouring_firstOf_1.f]
    refine Run.bind (impl_Colouring_firstOf_1_run _ m o) fun r hr => ?_
    rw [List.length_map] at hr
    cases d with
    | zero =>
      refine Run.no (by rw [hr, decide_eq_false (by omega)]; decide) (Run.ret ?_)
      rw [cnum_zero]; rfl
    | succ d =>
      refine Run.yes (by rw [hr]; exact decide_eq_true (by omega)) ?_
      rw [List.length_map]
      refine Run.ite (fun h0 => ?_) (fun h0 => ?_)
      · obtain ⟨M, q, rfl⟩ : ∃ M q, L = M ++ [q] := ⟨L.dropLast, L.getLast (by intro h; rw [h] at h0; simp at h0), (List.dropLast_concat_getLast _).symm⟩
        have hq := nextP_snoc M q
        have hqn := hL q (by simp)
        rw [w64_id (x := (((M ++ [q]).length : Nat) : Int) - 1) (by omega)]
        refine Run.bindE (a := (q : Int)) ((Run.getI' (by omega) (by simp; omega)).mono fun r e => ?_) ?_
        · rw [e]; simp
        rw [w64_id (x := (q : Int) + 1) (by omega)]
        generalize M ++ [q] = L at *
        exact Run.loop (L := fun q (z : List Int × Int) => impl_Colouring_cliques__Colouring_firstOf_1.l0 q x c (L.map Int.ofNat) m z.1 z.2) (fun z => (x.p - z.2).toNat) (fun z => (nextP L : Int) ≤ z.2 ∧ z.2 ≤ x.p ∧ cnum (fun i j => joinsB x i c j) (upF (withB x c L) (nextP L) n) (d + 1) = cnum (fun i j => joinsB x i c j) (upF (withB x c L) z.2.toNat n) (d + 1)) (by
      rintro ⟨s, p⟩ ⟨h0, h3, hc⟩ ih
      simp only at h0 h3 hc
      simp only [impl_Colouring_cliques__Colouring_firstOf_1.l0]
      obtain ⟨p, rfl⟩ := Int.eq_ofNat_of_zero_le (show 0 ≤ p by omega)
      simp only [Int.toNat_natCast] at ih hc
      refine Run.ite (fun h => ?_) (fun h => ?_)
      · rw [w64_id (x := (p : Int) + 1) (by omega)]
        have next : cnum (fun i j => joinsB x i c j) (upF (withB x c L) (nextP L) n) (d + 1) = cnum (fun i j => joinsB x i c j) (upF (withB x c L) (p + 1) n) (d + 1) → ∀ s, Run (fun q => impl_Colouring_cliques__Colouring_firstOf_1.l0 q x c (L.map Int.ofNat) m s ((p : Int) + 1)) (fun r => r.1 = decide (cnum (fun i j => joinsB x i c j) (upF (withB x c L) (nextP L) n) (d + 1) = 0)) := fun hq s =>
          ih (s, (p : Int) + 1) ⟨by simp only; omega, by simp only; omega, by simp only; rw [show ((p : Int) + 1).toNat = p + 1 by omega]; exact hq⟩ (by simp only; omega)
        refine Run.bindE (impl_Colouring_goesWith_run x hx hp L p c (by omega) (fun i hi => by have := hL i hi; omega) h) ?_
        refine Run.ite (fun hw => ?_) (fun hw => next (by rw [hc, upF_no (by omega) hw]) _)
        have hy := upF_yes (f := withB x c L) (p := p) (n := n) (by omega) hw
        rw [hy, cnum_cons, upF_filter, ← withB_snoc] at hc
        refine Run.bindE (slices_Clone_int64_int64_run _ (by simp; omega)) ?_
        refine Run.bindE (Run.push' (by simp; omega)) ?_
        rw [show L.map Int.ofNat ++ [(p : Int)] = (L ++ [p]).map Int.ofNat by simp]
        refine Run.bind (ihg (L ++ [p]) s d (by rw [nextP_snoc]; omega) (by rw [nextP_snoc]; simp; omega) (by rw [nextP_snoc]; omega) (fun i hi => by rcases List.mem_append.mp hi with h | h; exact hL i h; simp at h; omega) (by simp; omega)) fun r hr => ?_
        rw [nextP_snoc] at hr
        refine Run.ite (fun hz => next ?_ _) (fun hz => Run.ret ?_)
        · rw [hr] at hz
          exact hc.trans (by rw [of_decide_eq_true hz, Nat.zero_add])
        · have : ¬ (cnum (fun i j => joinsB x i c j) (upF (withB x c (L ++ [p])) (p + 1) n) d = 0) := fun hq => hz (by rw [hr]; exact decide_eq_true hq)
          rw [hc]
          exact (decide_eq_false fun hq => this (by omega)).symm
      · refine Run.ret ?_
        rw [hc, upF_end _ (by omega), cnum_nil]; rfl) (r.2, (q : Int) + 1) ⟨by simp only; omega, by simp only; omega, by simp only; rw [hq, show ((q : Int) + 1).toNat = q + 1 by omega]⟩
      · obtain rfl : L = [] := List.length_eq_zero_iff.mp (by omega)
        generalize hLL : ([] : List Nat) = L at *
        exact Run.loop (L := fun q (z : List Int × Int) => impl_Colouring_cliques__Colouring_firstOf_1.l1 q x c (L.map Int.ofNat) m z.1 z.2) (fun z => (x.p - z.2).toNat) (fun z => (nextP L : Int) ≤ z.2 ∧ z.2 ≤ x.p ∧ cnum (fun i j => joinsB x i c j) (upF (withB x c L) (nextP L) n) (d + 1) = cnum (fun i j => joinsB x i c j) (upF (withB x c L) z.2.toNat n) (d + 1)) (by
      rintro ⟨s, p⟩ ⟨h0, h3, hc⟩ ih
      simp only at h0 h3 hc
      simp only [impl_Colouring_cliques__Colouring_firstOf_1.l1]
      obtain ⟨p, rfl⟩ := Int.eq_ofNat_of_zero_le (show 0 ≤ p by omega)
      simp only [Int.toNat_natCast] at ih hc
      refine Run.ite (fun h => ?_) (fun h => ?_)
      · rw [w64_id (x := (p : Int) + 1) (by omega)]
        have next : cnum (fun i j => joinsB x i c j) (upF (withB x c L) (nextP L) n) (d + 1) = cnum (fun i j => joinsB x i c j) (upF (withB x c L) (p + 1) n) (d + 1) → ∀ s, Run (fun q => impl_Colouring_cliques__Colouring_firstOf_1.l1 q x c (L.map Int.ofNat) m s ((p : Int) + 1)) (fun r => r.1 = decide (cnum (fun i j => joinsB x i c j) (upF (withB x c L) (nextP L) n) (d + 1) = 0)) := fun hq s =>
          ih (s, (p : Int) + 1) ⟨by simp only; omega, by simp only; omega, by simp only; rw [show ((p : Int) + 1).toNat = p + 1 by omega]; exact hq⟩ (by simp only; omega)
        refine Run.bindE (impl_Colouring_goesWith_run x hx hp L p c (by omega) (fun i hi => by have := hL i hi; omega) h) ?_
        refine Run.ite (fun hw => ?_) (fun hw => next (by rw [hc, upF_no (by omega) hw]) _)
        have hy := upF_yes (f := withB x c L) (p := p) (n := n) (by omega) hw
        rw [hy, cnum_cons, upF_filter, ← withB_snoc] at hc
        refine Run.bindE (slices_Clone_int64_int64_run _ (by simp; omega)) ?_
        refine Run.bindE (Run.push' (by simp; omega)) ?_
        rw [show L.map Int.ofNat ++ [(p : Int)] = (L ++ [p]).map Int.ofNat by simp]
        refine Run.bind (ihg (L ++ [p]) s d (by rw [nextP_snoc]; omega) (by rw [nextP_snoc]; simp; omega) (by rw [nextP_snoc]; omega) (fun i hi => by rcases List.mem_append.mp hi with h | h; exact hL i h; simp at h; omega) (by simp; omega)) fun r hr => ?_
        rw [nextP_snoc] at hr
        refine Run.ite (fun hz => next ?_ _) (fun hz => Run.ret ?_)
        · rw [hr] at hz
          exact hc.trans (by rw [of_decide_eq_true hz, Nat.zero_add])
        · have : ¬ (cnum (fun i j => joinsB x i c j) (upF (withB x c (L ++ [p])) (p + 1) n) d = 0) := fun hq => hz (by rw [hr]; exact decide_eq_true hq)
          rw [hc]
          exact (decide_eq_false fun hq => this (by omega)).symm
      · refine Run.ret ?_
        rw [hc, upF_end _ (by omega), cnum_nil]; rfl) (r.2, 0) ⟨by subst hLL; simp [nextP], by simp only; omega, by subst hLL; rfl⟩

theorem impl_Colouring_firstOf_run (x : Col) (hx : ByteC x) (hp : 0 ≤ x.p ∧ x.p ≤ 17) (c m : Int) (hm : 0 ≤ m) : Run (fun k => impl_Colouring_firstOf.f k x c m) (fun r => r.2 = hasClique x c m.toNat) := by
  unfold impl_Colouring_firstOf.f
  refine Run.bind (impl_Colouring_cliques__Colouring_firstOf_1_run x hx hp c m x.p.toNat (by omega) (x.p.toNat + 1) [] [] m.toNat (by simp [nextP]) (by simp) (by simp [nextP]) (fun i hi => by cases hi) (by simp; omega)) fun r hr => ?_
  refine Run.ret ?_
  exact congrArg (fun b => !b) hr

theorem impl_Colouring_avoids_run (x : Col) (hx : ByteC x) (hp : 1 ≤ x.p ∧ x.p ≤ 17) (hk : 0 ≤ x.k ∧ x.k ≤ 1000) (l : List Int) (hl : (l.length : Int) = x.k) (hs : allIn l 1 17 = true) : Run (fun k => impl_Colouring_avoids.f k x l) (· = avoidsB x l) := by
  unfold impl_Colouring_avoids.f
  refine Run.loop (L := fun q (i : Int) => impl_Colouring_avoids.l0 q x l i) (fun i => (l.length - i).toNat) (fun i => 0 ≤ i ∧ i ≤ l.length ∧ ∀ j : Nat, (j : Int) < i → hasClique x j (l.getD j 0).toNat = false) ?_ 0 ⟨by omega, by omega, fun j hj => by omega⟩
  rintro i ⟨h0, h3, hJ⟩ ih
  simp only [impl_Colouring_avoids.l0]
  obtain ⟨i, rfl⟩ := Int.eq_ofNat_of_zero_le h0
  refine Run.ite (fun h => ?_) (fun h => ?_)
  · refine Run.bindE (Run.getI' h0 (by omega)) ?_
    have eg : l.getD i 0 = l[((i : Int)).toNat]'(by omega) := getD_at (by omega)
    have hm := allIn_mem hs _ (List.getElem_mem (l := l) (n := ((i : Int)).toNat) (by omega))
    rw [← eg] at hm ⊢
    rw [w64_id (x := (i : Int) + 1) (by omega)]
    refine Run.bind (impl_Colouring_firstOf_run x hx (by omega) (i : Int) (l.getD i 0) (by omega)) fun r hr => ?_
    rw [hr]
    refine Run.ite (fun h5 => ?_) (fun h5 => ?_)
    · refine Run.ret (decide_eq_false fun hq => ?_).symm
      have := hq i (by omega)
      rw [this] at h5; cases h5
    · refine ih ((i : Int) + 1) ⟨by omega, by omega, fun j hj => ?_⟩ (by omega)
      by_cases ej : (j : Int) < i
      · exact hJ j ej
      · obtain rfl : j = i := by omega
        exact Bool.eq_false_iff.mpr h5
  · exact Run.ret (decide_eq_true fun j hj => hJ j (by omega)).symm

theorem impl_Colouring_extendingCode__always_run (x : Col) (hx : ByteC x) (l : List Int) (hl : l.length < 4611686018427387904) (most : Int) : Run (fun k => impl_Colouring_extendingCode__always.f k x l most) (· = (if given (isB x) (decide ((l.length : Int) = x.k) && allIn l 1 17) = 0 then (if avoidsB x l = true then (if x.p > most then 3 else 0) else 5) else given (isB x) (decide ((l.length : Int) = x.k) && allIn l 1 17))) := by
  unfold impl_Colouring_extendingCode__always.f
  refine Run.bindE (impl_Colouring_sizesCode__always_run x hx l hl) ?_
  refine Run.ite (fun h => Run.ret (by rw [if_neg h])) (fun h => ?_)
  have hz := Decidable.not_not.mp h
  rw [if_pos hz]
  obtain ⟨h1, h2⟩ := given_zero hz
  have hc := isB_spec h1
  have h17 := hc.1
  simp only [Bool.and_eq_true, decide_eq_true_eq] at h2
  refine Run.bindE (impl_Colouring_avoids_run x hx hc.1 (by have := hc.2.1; omega) l h2.1 h2.2) ?_
  refine Run.ite (fun h => ?_) (fun h => Run.ret (by rw [if_neg h]))
  rw [if_pos h]
  exact Run.ite (fun h => Run.ret (by rw [if_pos h])) (fun h => Run.ret (by rw [if_neg h]))
end Go.Proofs.Ytocjhmeekecdiaa.P
