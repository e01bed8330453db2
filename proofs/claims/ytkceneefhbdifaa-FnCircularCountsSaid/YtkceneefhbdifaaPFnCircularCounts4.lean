/- What the pure functions come to, one by one (part 4). -/
import Derived.Test.YtkceneefhbdifaaPFnCircularCounts3
import Derived.Test.YtkceneefhbdifaaGFnCircularCounts10
namespace Go.Proofs.Ytkceneefhbdifaa.P
open Go Go.RowKit Go.Proofs.Ytkceneefhbdifaa.K Go.Proofs.Ytkceneefhbdifaa.G
set_option linter.unusedVariables false
set_option linter.unusedSimpArgs false

theorem impl_Colouring_cliques__Colouring_firstOf_1_run (x : Col) (hx : ByteC x) (hp : 0 ≤ x.p ∧ x.p ≤ 17) (c : Int) (m : Int) (n : Nat) (hn : (n : Int) = x.p) : ∀ (g : Nat) (L : List Nat) (s : List Int), n - nextP L + 1 ≤ g → L.length ≤ nextP L → nextP L ≤ n → (∀ i ∈ L, i < n) → (fun _ : List Int => True) s →
    Run (fun k => impl_Colouring_cliques__Colouring_firstOf_1.f k x c (L.map Int.ofNat) m s) (· = runL (fun s (L : List Nat) => if (L.length : Int) < m then (true, s) else (false, L.map Int.ofNat)) s (dfs (fun i j => joinsB x i c j) g L (upF (withB x c L) (nextP L) n))) := by
  generalize hstp : (fun s (L : List Nat) => if (L.length : Int) < m then (true, s) else (false, L.map Int.ofNat)) = stp
  have hkeep : ∀ s (L : List Nat), (stp s L).1 = true → (fun _ : List Int => True) s → (fun _ : List Int => True) (stp s L).2 := by
    intro s L hb hi
    exact trivial
  intro g
  induction g with
  | zero => intro L s hg; omega
  | succ g ihg =>
    intro L s hg hlen hnx hL hi
    refine Run.step ?_
    simp only [impl_Colouring_cliques__Colouring_firstOf_1.f]
    rw [dfs_succ, runL_cons]
    refine Run.bindE (a := stp s L) (by rw [← hstp]; exact impl_Colouring_firstOf_1_run2 L m s) ?_
    have hi2 := hkeep s L
    generalize hst : stp s L = st at hi2
    obtain ⟨b, s⟩ := st
    simp only
    refine Run.ite (fun hb => ?_) (fun hb => Run.ret (by rw [if_neg hb]))
    rw [if_pos hb]
    replace hi := hi2 hb hi
    clear hst hi2
    rw [List.length_map]
    refine Run.ite (fun h0 => ?_) (fun h0 => ?_)
    · obtain ⟨M, q, rfl⟩ : ∃ M q, L = M ++ [q] := ⟨L.dropLast, L.getLast (by intro h; rw [h] at h0; simp at h0), (List.dropLast_concat_getLast _).symm⟩
      have hq := nextP_snoc M q
      have hqn := hL q (by simp)
      rw [w64_id (x := (((M ++ [q]).length : Nat) : Int) - 1) (by omega)]
      refine Run.bindE (a := (q : Int)) ((Run.getI' (by omega) (by simp; omega)).mono fun r e => ?_) ?_
      · rw [e]; simp
      rw [w64_id (x := (q : Int) + 1) (by omega)]
      generalize M ++ [q] = L at *
      exact Run.loop (L := fun q (z : List Int × Int) => impl_Colouring_cliques__Colouring_firstOf_1.l0 q x c (L.map Int.ofNat) m z.1 z.2) (fun z => (x.p - z.2).toNat) (fun z => (nextP L : Int) ≤ z.2 ∧ z.2 ≤ x.p ∧ (fun _ : List Int => True) z.1 ∧ runL stp s (sufL (fun p F => dfs (fun i j => joinsB x i c j) g (L ++ [p]) (F.filter (joinsB x p c))) (upF (withB x c L) (nextP L) n)) = runL stp z.1 (sufL (fun p F => dfs (fun i j => joinsB x i c j) g (L ++ [p]) (F.filter (joinsB x p c))) (upF (withB x c L) z.2.toNat n))) (by
      rintro ⟨t, p⟩ ⟨h0, h3, hi, hc⟩ ih
      simp only at h0 h3 hi hc
      simp only [impl_Colouring_cliques__Colouring_firstOf_1.l0]
      obtain ⟨p, rfl⟩ := Int.eq_ofNat_of_zero_le (show 0 ≤ p by omega)
      simp only [Int.toNat_natCast] at ih hc
      rw [hc] at ih ⊢
      refine Run.ite (fun h => ?_) (fun h => ?_)
      · rw [w64_id (x := (p : Int) + 1) (by omega)]
        refine Run.bindE (impl_Colouring_goesWith_run x hx hp L p c (by omega) (fun i hi => by have := hL i hi; omega) h) ?_
        refine Run.ite (fun hw => ?_) (fun hw => ih (t, (p : Int) + 1) ⟨by simp only; omega, by simp only; omega, hi, by simp only; rw [show ((p : Int) + 1).toNat = p + 1 by omega, upF_no (by omega) hw]⟩ (by simp only; omega))
        have hy := upF_yes (f := withB x c L) (p := p) (n := n) (by omega) hw
        have hrc := ihg (L ++ [p]) t (by rw [nextP_snoc]; omega) (by rw [nextP_snoc]; simp; omega) (by rw [nextP_snoc]; omega) (fun i hi => by rcases List.mem_append.mp hi with h | h; exact hL i h; simp at h; omega) hi
        rw [nextP_snoc, withB_snoc, ← upF_filter] at hrc
        rw [hy, sufL, runL_append] at ih ⊢
        refine Run.bindE (slices_Clone_int64_int64_run _ (by simp; omega)) ?_
        refine Run.bindE (Run.push' (by simp; omega)) ?_
        rw [show L.map Int.ofNat ++ [(p : Int)] = (L ++ [p]).map Int.ofNat by simp]
        refine Run.bindE hrc ?_
        have hinv := runL_keep stp (fun _ : List Int => True) hkeep (dfs (fun i j => joinsB x i c j) g (L ++ [p]) ((upF (withB x c L) (p + 1) n).filter (joinsB x p c))) t hi
        generalize hr : runL stp t (dfs (fun i j => joinsB x i c j) g (L ++ [p]) ((upF (withB x c L) (p + 1) n).filter (joinsB x p c))) = r at ih hinv ⊢
        refine Run.ite (fun hz => ?_) (fun hz => Run.ret ?_)
        · rw [if_pos hz] at ih ⊢
          exact ih (_, (p : Int) + 1) ⟨by simp only; omega, by simp only; omega, hinv hz, by simp only; rw [show ((p : Int) + 1).toNat = p + 1 by omega]⟩ (by simp only; omega)
        · rw [if_neg hz]
          obtain ⟨b, u⟩ := r
          simp only at hz ⊢
          rw [Bool.eq_false_iff.mpr hz]
      · refine Run.ret ?_
        rw [upF_end _ (by omega)]; rfl) (_, (q : Int) + 1) ⟨by simp only; omega, by simp only; omega, hi, by simp only; rw [hq, show ((q : Int) + 1).toNat = q + 1 by omega]⟩
    · have hnp : nextP L = 0 := by rw [List.length_eq_zero_iff.mp (show L.length = 0 by omega)]; rfl
      exact Run.loop (L := fun q (z : List Int × Int) => impl_Colouring_cliques__Colouring_firstOf_1.l1 q x c (L.map Int.ofNat) m z.1 z.2) (fun z => (x.p - z.2).toNat) (fun z => (nextP L : Int) ≤ z.2 ∧ z.2 ≤ x.p ∧ (fun _ : List Int => True) z.1 ∧ runL stp s (sufL (fun p F => dfs (fun i j => joinsB x i c j) g (L ++ [p]) (F.filter (joinsB x p c))) (upF (withB x c L) (nextP L) n)) = runL stp z.1 (sufL (fun p F => dfs (fun i j => joinsB x i c j) g (L ++ [p]) (F.filter (joinsB x p c))) (upF (withB x c L) z.2.toNat n))) (by
      rintro ⟨t, p⟩ ⟨h0, h3, hi, hc⟩ ih
      simp only at h0 h3 hi hc
      simp only [impl_Colouring_cliques__Colouring_firstOf_1.l1]
      obtain ⟨p, rfl⟩ := Int.eq_ofNat_of_zero_le (show 0 ≤ p by omega)
      simp only [Int.toNat_natCast] at ih hc
      rw [hc] at ih ⊢
      refine Run.ite (fun h => ?_) (fun h => ?_)
      · rw [w64_id (x := (p : Int) + 1) (by omega)]
        refine Run.bindE (impl_Colouring_goesWith_run x hx hp L p c (by omega) (fun i hi => by have := hL i hi; omega) h) ?_
        refine Run.ite (fun hw => ?_) (fun hw => ih (t, (p : Int) + 1) ⟨by simp only; omega, by simp only; omega, hi, by simp only; rw [show ((p : Int) + 1).toNat = p + 1 by omega, upF_no (by omega) hw]⟩ (by simp only; omega))
        have hy := upF_yes (f := withB x c L) (p := p) (n := n) (by omega) hw
        have hrc := ihg (L ++ [p]) t (by rw [nextP_snoc]; omega) (by rw [nextP_snoc]; simp; omega) (by rw [nextP_snoc]; omega) (fun i hi => by rcases List.mem_append.mp hi with h | h; exact hL i h; simp at h; omega) hi
        rw [nextP_snoc, withB_snoc, ← upF_filter] at hrc
        rw [hy, sufL, runL_append] at ih ⊢
        refine Run.bindE (slices_Clone_int64_int64_run _ (by simp; omega)) ?_
        refine Run.bindE (Run.push' (by simp; omega)) ?_
        rw [show L.map Int.ofNat ++ [(p : Int)] = (L ++ [p]).map Int.ofNat by simp]
        refine Run.bindE hrc ?_
        have hinv := runL_keep stp (fun _ : List Int => True) hkeep (dfs (fun i j => joinsB x i c j) g (L ++ [p]) ((upF (withB x c L) (p + 1) n).filter (joinsB x p c))) t hi
        generalize hr : runL stp t (dfs (fun i j => joinsB x i c j) g (L ++ [p]) ((upF (withB x c L) (p + 1) n).filter (joinsB x p c))) = r at ih hinv ⊢
        refine Run.ite (fun hz => ?_) (fun hz => Run.ret ?_)
        · rw [if_pos hz] at ih ⊢
          exact ih (_, (p : Int) + 1) ⟨by simp only; omega, by simp only; omega, hinv hz, by simp only; rw [show ((p : Int) + 1).toNat = p + 1 by omega]⟩ (by simp only; omega)
        · rw [if_neg hz]
          obtain ⟨b, u⟩ := r
          simp only at hz ⊢
          rw [Bool.eq_false_iff.mpr hz]
      · refine Run.ret ?_
        rw [upF_end _ (by omega)]; rfl) (_, 0) ⟨by simp only; omega, by simp only; omega, hi, by simp only; rw [hnp]; rfl⟩

theorem impl_Colouring_firstOf_run2 (x : Col) (hx : ByteC x) (hp : 0 ≤ x.p ∧ x.p ≤ 17) (c m : Int) (hm : 0 ≤ m) : Run (fun k => impl_Colouring_firstOf.f k x c m) (· = match (clq (fun i j => joinsB x i c j) m.toNat [] (upF (fun _ => true) 0 x.p.toNat)).head? with | some L => (L.map Int.ofNat, true) | none => ([], false)) := by
  unfold impl_Colouring_firstOf.f
  refine Run.bindE (impl_Colouring_cliques__Colouring_firstOf_1_run x hx hp c m x.p.toNat (by omega) (x.p.toNat + 1) [] [] (by simp [nextP]) (by simp) (by simp [nextP]) (fun i hi => by cases hi) trivial) ?_
  have hF : upF (withB x c []) (nextP []) x.p.toNat = upF (fun _ => true) 0 x.p.toNat := rfl
  have hl := upF_length (fun _ => true) 0 x.p.toNat
  rw [hF]
  have e : (fun (s : List Int) (L : List Nat) => if (L.length : Int) < m then (true, s) else (false, L.map Int.ofNat)) = fun s L => if (fun M : List Nat => !decide (M.length < ([] : List Nat).length + m.toNat)) L = true then (false, (fun M : List Nat => M.map Int.ofNat) L) else (true, s) := by
    funext s L
    by_cases h : (L.length : Int) < m
    · rw [if_pos h, if_neg]; simp; omega
    · rw [if_neg h, if_pos]; simp; omega
  rw [e, runL_first, dfs_find _ _ _ _ _ (by omega)]
  refine Run.ret ?_
  cases (clq (fun i j => joinsB x i c j) m.toNat [] (upF (fun _ => true) 0 x.p.toNat)).head? with
  | none => rfl
  | some L => rfl
theorem impl_Colouring_firstOf_run (x : Col) (hx : ByteC x) (hp : 0 ≤ x.p ∧ x.p ≤ 17) (c m : Int) (hm : 0 ≤ m) : Run (fun k => impl_Colouring_firstOf.f k x c m) (fun r => r.2 = hasClique x c m.toNat) := by
  refine (impl_Colouring_firstOf_run2 x hx hp c m hm).mono fun r hr => ?_
  have hh : hasClique x c m.toNat = !decide (cnum (fun i j => joinsB x i c j) (upF (fun _ => true) 0 x.p.toNat) m.toNat = 0) := rfl
  rw [hr, hh, ← clq_length _ _ []]
  cases clq (fun i j => joinsB x i c j) m.toNat [] (upF (fun _ => true) 0 x.p.toNat) with
  | nil => rfl
  | cons L D => rfl

theorem impl_Colouring_avoids_run (x : Col) (hx : ByteC x) (hp : 1 ≤ x.p ∧ x.p ≤ 17) (hk : 0 ≤ x.k ∧ x.k ≤ 1000) (l : List Int) (hl : (l.length : Int) = x.k) (hs : allIn l 1 17 = true) : Run (fun k => impl_Colouring_avoids.f k x l) (· = avoidsB x l) := by
  unfold impl_Colouring_avoids.f
  refine Run.loop (L := fun q (i : Int) => impl_Colouring_avoids.l0 q x l i) (fun i => (l.length - i).toNat) (fun i => 0 ≤ i ∧ i ≤ l.length ∧ ∀ j : Nat, (j : Int) < i → hasClique x j (l.getD j 0).toNat = false) ?_ 0 ⟨by omega, by omega, fun j hj => by omega⟩
  rintro i ⟨h0, h3, hJ⟩ ih
  simp only [impl_Colouring_avoids.l0]
  obtain ⟨i, rfl⟩ := Int.eq_ofNat_of_zero_le h0
  refine Run.ite (fun h => ?_) (fun h => ?_)
  · refine Run.bindE (Run.getI' h0 (by omega)) ?_
    have eg : l.getD i 0 = l[((i : Int)).toNat]'(by omega) := getD_at (by omega)
    have hm := allIn_mem hs _ (List.getElem_mem (l := l) (n := ((i : Int)).toNat) (by omega))
    rw [← eg] at hm ⊢
    rw [w64_id (x := (i : Int) + 1) (by omega)]
    refine Run.bind (impl_Colouring_firstOf_run x hx (by omega) (i : Int) (l.getD i 0) (by omega)) fun r hr => ?_
    rw [hr]
    refine Run.ite (fun h5 => ?_) (fun h5 => ?_)
    · refine Run.ret (decide_eq_false fun hq => ?_).symm
      have := hq i (by omega)
      rw [this] at h5; cases h5
    · refine ih ((i : Int) + 1) ⟨by omega, by omega, fun j hj => ?_⟩ (by omega)
      by_cases ej : (j : Int) < i
      · exact hJ j ej
      · obtain rfl : j = i := by omega
        exact Bool.eq_false_iff.mpr h5
  · exact Run.ret (decide_eq_true fun j hj => hJ j (by omega)).symm
end Go.Proofs.Ytkceneefhbdifaa.P
