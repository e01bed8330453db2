/- What the pure functions come to, one by one (part 4). -/
import Derived.Test.YtdpamdedomkomaaPFnExactCountTriangles3
import Derived.Test.YtdpamdedomkomaaGFnExactCountTriangles6
namespace Go.Proofs.Ytdpamdedomkomaa.P
open Go Go.RowKit Go.Proofs.Ytdpamdedomkomaa.K Go.Proofs.Ytdpamdedomkomaa.G
set_option linter.unusedVariables false
set_option linter.unusedSimpArgs false

theorem impl_Colouring_joins_run (x : Col) (hx : ByteC x) (hp : 0 ≤ x.p ∧ x.p ≤ 17) (i j : Nat) (c : Int) (hi : (i : Int) < x.p) (hj : (j : Int) < x.p) : Run (fun _ => impl_Colouring_joins.f x i j c) (· = joinsB x i c j) := by
  unfold impl_Colouring_joins.f
  refine Run.ite (fun h => ?_) (fun h => ?_)
  · refine Run.bindE (impl_Colouring_at_run x hx hp i j hi hj (by omega)) ?_
    refine Run.ret ?_
    rw [joinsB, decide_eq_true (p := i ≠ j) (by omega), Bool.true_and]
  · refine Run.ret ?_
    rw [joinsB, decide_eq_false (p := i ≠ j) (by omega), Bool.false_and]

theorem impl_Colouring_goesWith_1_run (x : Col) (hx : ByteC x) (hp : 0 ≤ x.p ∧ x.p ≤ 17) (i p : Nat) (c : Int) (hi : (i : Int) < x.p) (hj : (p : Int) < x.p) : Run (fun _ => impl_Colouring_goesWith_1.f i x p c) (· = !joinsB x i c p) := by
  unfold impl_Colouring_goesWith_1.f
  refine Run.bindE (impl_Colouring_joins_run x hx hp i p c hi hj) ?_
  exact Run.ret rfl

theorem slices_IndexFunc_int64_int64__Colouring_goesWith_1_run (x : Col) (hx : ByteC x) (hp : 0 ≤ x.p ∧ x.p ≤ 17) (L : List Nat) (p : Nat) (c : Int) (hL : L.length < 1000000) (hi : ∀ i ∈ L, (i : Int) < x.p) (hj : (p : Int) < x.p) : Run (fun k => slices_IndexFunc_int64_int64__Colouring_goesWith_1.f k (L.map Int.ofNat) x p c) (fun r => decide (r ≥ 0) = !withB x c L p) := by
  unfold slices_IndexFunc_int64_int64__Colouring_goesWith_1.f
  have hl : (L.map Int.ofNat).length = L.length := List.length_map ..
  refine Run.loop (L := fun q (i : Int) => slices_IndexFunc_int64_int64__Colouring_goesWith_1.l0 q (L.map Int.ofNat) x p c i) (fun i => (L.length - i).toNat) (fun i => 0 ≤ i ∧ i ≤ L.length ∧ withB x c L p = withB x c (L.drop i.toNat) p) ?_ 0 ⟨by omega, by omega, rfl⟩
  rintro i ⟨h0, h3, hJ⟩ ih
  simp only [slices_IndexFunc_int64_int64__Colouring_goesWith_1.l0]
  rw [hl]
  refine Run.ite (fun h => ?_) (fun h => ?_)
  · have hd : L.drop i.toNat = L[i.toNat]'(by omega) :: L.drop (i.toNat + 1) := List.drop_eq_getElem_cons (by omega)
    refine Run.bindE (Run.getI' h0 (by omega)) ?_
    rw [w64_id (x := i + 1) (by omega), List.getElem_map]
    refine Run.bindE (impl_Colouring_goesWith_1_run x hx hp _ p c (hi _ (List.getElem_mem _)) hj) ?_
    have hw : withB x c (L.drop i.toNat) p = (joinsB x (L[i.toNat]'(by omega)) c p && withB x c (L.drop (i.toNat + 1)) p) := by rw [hd]; rfl
    refine Run.ite (fun h5 => ?_) (fun h5 => ?_)
    · refine Run.ret ?_
      simp only [Bool.not_eq_true'] at h5
      rw [hJ, hw, h5, Bool.false_and, Bool.not_false]
      exact decide_eq_true h0
    · refine ih (i + 1) ⟨by omega, by omega, ?_⟩ (by omega)
      simp only [Bool.not_eq_true', Bool.not_eq_false] at h5
      rw [hJ, hw, show (i + 1).toNat = i.toNat + 1 by omega, h5, Bool.true_and]
  · refine Run.ret ?_
    rw [hJ, List.drop_eq_nil_of_le (by omega)]; rfl

theorem slices_ContainsFunc_int64_int64__Colouring_goesWith_1_run (x : Col) (hx : ByteC x) (hp : 0 ≤ x.p ∧ x.p ≤ 17) (L : List Nat) (p : Nat) (c : Int) (hL : L.length < 1000000) (hi : ∀ i ∈ L, (i : Int) < x.p) (hj : (p : Int) < x.p) : Run (fun k => slices_ContainsFunc_int64_int64__Colouring_goesWith_1.f k (L.map Int.ofNat) x p c) (· = !withB x c L p) := by
  unfold slices_ContainsFunc_int64_int64__Colouring_goesWith_1.f
  refine Run.bind (slices_IndexFunc_int64_int64__Colouring_goesWith_1_run x hx hp L p c hL hi hj) fun r hr => ?_
  exact Run.ret hr

theorem impl_Colouring_goesWith_run (x : Col) (hx : ByteC x) (hp : 0 ≤ x.p ∧ x.p ≤ 17) (L : List Nat) (p : Nat) (c : Int) (hL : L.length < 1000000) (hi : ∀ i ∈ L, (i : Int) < x.p) (hj : (p : Int) < x.p) : Run (fun k => impl_Colouring_goesWith.f k x c (L.map Int.ofNat) p) (· = withB x c L p) := by
  unfold impl_Colouring_goesWith.f
  refine Run.bindE (slices_ContainsFunc_int64_int64__Colouring_goesWith_1_run x hx hp L p c hL hi hj) ?_
  exact Run.ret (Bool.not_not _)

theorem slices_Clone_int64_int64_run (l : List Int) (hl : l.length < 1099511627776) : Run (fun _ => slices_Clone_int64_int64.f l) (· = l) := by
  unfold slices_Clone_int64_int64.f
  refine Run.bindE (Run.concat' (by simp; omega)) ?_
  exact Run.ret (List.nil_append l)

theorem impl_Colouring_cliques__Colouring_countThat_1__anyList_run (x : Col) (hx : ByteC x) (hp : 0 ≤ x.p ∧ x.p ≤ 17) (c : Int) (m : Int) (n : Nat) (hn : (n : Int) = x.p) : ∀ (g : Nat) (L : List Nat) (s : Int), n - nextP L + 1 ≤ g → L.length ≤ nextP L → nextP L ≤ n → (∀ i ∈ L, i < n) →
    Run (fun k => impl_Colouring_cliques__Colouring_countThat_1__anyList.f k x c (L.map Int.ofNat) m s) (· = runL (fun s (L : List Nat) => (true, if decide ((L.length : Int) = m) = true then w64 (s + 1) else s)) s (dfs (fun i j => joinsB x i c j) g L (upF (withB x c L) (nextP L) n))) := by
  generalize hstp : (fun s (L : List Nat) => (true, if decide ((L.length : Int) = m) = true then w64 (s + 1) else s)) = stp
  intro g
  induction g with
  | zero => intro L s hg; omega
  | succ g ihg =>
    intro L s hg hlen hnx hL
    refine Run.step ?_
    simp only [impl_Colouring_cliques__Colouring_countThat_1__anyList.f]
    rw [dfs_succ, runL_cons]
    refine Run.bindE (a := stp s L) (by rw [← hstp]; exact impl_Colouring_countThat_1__anyList_run L m s) ?_
    generalize hst : stp s L = st
    obtain ⟨b, s⟩ := st
    simp only
    refine Run.ite (fun hb => ?_) (fun hb => Run.ret (by rw [if_neg hb]))
    rw [if_pos hb]
    clear hst
    rw [List.length_map]
    refine Run.ite (fun h0 => ?_) (fun h0 => ?_)
    · obtain ⟨M, q, rfl⟩ : ∃ M q, L = M ++ [q] := ⟨L.dropLast, L.getLast (by intro h; rw [h] at h0; simp at h0), (List.dropLast_concat_getLast _).symm⟩
      have hq := nextP_snoc M q
      have hqn := hL q (by simp)
      rw [w64_id (x := (((M ++ [q]).length : Nat) : Int) - 1) (by omega)]
      refine Run.bindE (a := (q : Int)) ((Run.getI' (by omega) (by simp; omega)).mono fun r e => ?_) ?_
      · rw [e]; simp
      rw [w64_id (x := (q : Int) + 1) (by omega)]
      generalize M ++ [q] = L at *
      exact Run.loop (L := fun q (z : Int × Int) => impl_Colouring_cliques__Colouring_countThat_1__anyList.l0 q x c (L.map Int.ofNat) m z.1 z.2) (fun z => (x.p - z.2).toNat) (fun z => (nextP L : Int) ≤ z.2 ∧ z.2 ≤ x.p ∧ runL stp s (sufL (fun p F => dfs (fun i j => joinsB x i c j) g (L ++ [p]) (F.filter (joinsB x p c))) (upF (withB x c L) (nextP L) n)) = runL stp z.1 (sufL (fun p F => dfs (fun i j => joinsB x i c j) g (L ++ [p]) (F.filter (joinsB x p c))) (upF (withB x c L) z.2.toNat n))) (by
      rintro ⟨t, p⟩ ⟨h0, h3, hc⟩ ih
      simp only at h0 h3 hc
      simp only [impl_Colouring_cliques__Colouring_countThat_1__anyList.l0]
      obtain ⟨p, rfl⟩ := Int.eq_ofNat_of_zero_le (show 0 ≤ p by omega)
      simp only [Int.toNat_natCast] at ih hc
      rw [hc] at ih ⊢
      refine Run.ite (fun h => ?_) (fun h => ?_)
      · rw [w64_id (x := (p : Int) + 1) (by omega)]
        refine Run.bindE (impl_Colouring_goesWith_run x hx hp L p c (by omega) (fun i hi => by have := hL i hi; omega) h) ?_
        refine Run.ite (fun hw => ?_) (fun hw => ih (t, (p : Int) + 1) ⟨by simp only; omega, by simp only; omega, by simp only; rw [show ((p : Int) + 1).toNat = p + 1 by omega, upF_no (by omega) hw]⟩ (by simp only; omega))
        have hy := upF_yes (f := withB x c L) (p := p) (n := n) (by omega) hw
        have hrc := ihg (L ++ [p]) t (by rw [nextP_snoc]; omega) (by rw [nextP_snoc]; simp; omega) (by rw [nextP_snoc]; omega) (fun i hi => by rcases List.mem_append.mp hi with h | h; exact hL i h; simp at h; omega)
        rw [nextP_snoc, withB_snoc, ← upF_filter] at hrc
        rw [hy, sufL, runL_append] at ih ⊢
        refine Run.bindE (slices_Clone_int64_int64_run _ (by simp; omega)) ?_
        refine Run.bindE (Run.push' (by simp; omega)) ?_
        rw [show L.map Int.ofNat ++ [(p : Int)] = (L ++ [p]).map Int.ofNat by simp]
        refine Run.bindE hrc ?_
        generalize hr : runL stp t (dfs (fun i j => joinsB x i c j) g (L ++ [p]) ((upF (withB x c L) (p + 1) n).filter (joinsB x p c))) = r at ih ⊢
        refine Run.ite (fun hz => ?_) (fun hz => Run.ret ?_)
        · rw [if_pos hz] at ih ⊢
          exact ih (_, (p : Int) + 1) ⟨by simp only; omega, by simp only; omega, by simp only; rw [show ((p : Int) + 1).toNat = p + 1 by omega]⟩ (by simp only; omega)
        · rw [if_neg hz]
          obtain ⟨b, u⟩ := r
          simp only at hz ⊢
          rw [Bool.eq_false_iff.mpr hz]
      · refine Run.ret ?_
        rw [upF_end _ (by omega)]; rfl) (_, (q : Int) + 1) ⟨by simp only; omega, by simp only; omega, by simp only; rw [hq, show ((q : Int) + 1).toNat = q + 1 by omega]⟩
    · have hnp : nextP L = 0 := by rw [List.length_eq_zero_iff.mp (show L.length = 0 by omega)]; rfl
      exact Run.loop (L := fun q (z : Int × Int) => impl_Colouring_cliques__Colouring_countThat_1__anyList.l1 q x c (L.map Int.ofNat) m z.1 z.2) (fun z => (x.p - z.2).toNat) (fun z => (nextP L : Int) ≤ z.2 ∧ z.2 ≤ x.p ∧ runL stp s (sufL (fun p F => dfs (fun i j => joinsB x i c j) g (L ++ [p]) (F.filter (joinsB x p c))) (upF (withB x c L) (nextP L) n)) = runL stp z.1 (sufL (fun p F => dfs (fun i j => joinsB x i c j) g (L ++ [p]) (F.filter (joinsB x p c))) (upF (withB x c L) z.2.toNat n))) (by
      rintro ⟨t, p⟩ ⟨h0, h3, hc⟩ ih
      simp only at h0 h3 hc
      simp only [impl_Colouring_cliques__Colouring_countThat_1__anyList.l1]
      obtain ⟨p, rfl⟩ := Int.eq_ofNat_of_zero_le (show 0 ≤ p by omega)
      simp only [Int.toNat_natCast] at ih hc
      rw [hc] at ih ⊢
      refine Run.ite (fun h => ?_) (fun h => ?_)
      · rw [w64_id (x := (p : Int) + 1) (by omega)]
        refine Run.bindE (impl_Colouring_goesWith_run x hx hp L p c (by omega) (fun i hi => by have := hL i hi; omega) h) ?_
        refine Run.ite (fun hw => ?_) (fun hw => ih (t, (p : Int) + 1) ⟨by simp only; omega, by simp only; omega, by simp only; rw [show ((p : Int) + 1).toNat = p + 1 by omega, upF_no (by omega) hw]⟩ (by simp only; omega))
        have hy := upF_yes (f := withB x c L) (p := p) (n := n) (by omega) hw
        have hrc := ihg (L ++ [p]) t (by rw [nextP_snoc]; omega) (by rw [nextP_snoc]; simp; omega) (by rw [nextP_snoc]; omega) (fun i hi => by rcases List.mem_append.mp hi with h | h; exact hL i h; simp at h; omega)
        rw [nextP_snoc, withB_snoc, ← upF_filter] at hrc
        rw [hy, sufL, runL_append] at ih ⊢
        refine Run.bindE (slices_Clone_int64_int64_run _ (by simp; omega)) ?_
        refine Run.bindE (Run.push' (by simp; omega)) ?_
        rw [show L.map Int.ofNat ++ [(p : Int)] = (L ++ [p]).map Int.ofNat by simp]
        refine Run.bindE hrc ?_
        generalize hr : runL stp t (dfs (fun i j => joinsB x i c j) g (L ++ [p]) ((upF (withB x c L) (p + 1) n).filter (joinsB x p c))) = r at ih ⊢
        refine Run.ite (fun hz => ?_) (fun hz => Run.ret ?_)
        · rw [if_pos hz] at ih ⊢
          exact ih (_, (p : Int) + 1) ⟨by simp only; omega, by simp only; omega, by simp only; rw [show ((p : Int) + 1).toNat = p + 1 by omega]⟩ (by simp only; omega)
        · rw [if_neg hz]
          obtain ⟨b, u⟩ := r
          simp only at hz ⊢
          rw [Bool.eq_false_iff.mpr hz]
      · refine Run.ret ?_
        rw [upF_end _ (by omega)]; rfl) (_, 0) ⟨by simp only; omega, by simp only; omega, by simp only; rw [hnp]; rfl⟩
end Go.Proofs.Ytdpamdedomkomaa.P
