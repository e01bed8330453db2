/- What the pure functions come to, one by one (part 6). -/
import Derived.Test.YtdpamdedomkomaaPFnExactFullCliques5
import Derived.Test.YtdpamdedomkomaaGFnExactFullCliques9
namespace Go.Proofs.Ytdpamdedomkomaa.P
open Go Go.RowKit Go.Proofs.Ytdpamdedomkomaa.K Go.Proofs.Ytdpamdedomkomaa.G
set_option linter.unusedVariables false
set_option linter.unusedSimpArgs false

theorem impl_Colouring_cliques__Colouring_listThat_1__FullCliques_2_run (x : Col) (hx : ByteC x) (hp : 0 ≤ x.p ∧ x.p ≤ 17) (c : Int)  (n : Nat) (hn : (n : Int) = x.p) : ∀ (g : Nat) (L : List Nat) (s : List (List Int)), n - nextP L + 1 ≤ g → L.length ≤ nextP L → nextP L ≤ n → (∀ i ∈ L, i < n) → (fun s : List (List Int) => s.length ≤ 200) s →
    Run (fun k => impl_Colouring_cliques__Colouring_listThat_1__FullCliques_2.f k x c (L.map Int.ofNat) s c) (· = runL (gathS (maxB x c)) s (dfs (fun i j => joinsB x i c j) g L (upF (withB x c L) (nextP L) n))) := by
  generalize hstp : (gathS (maxB x c)) = stp
  have hkeep : ∀ s (L : List Nat), (stp s L).1 = true → (fun s : List (List Int) => s.length ≤ 200) s → (fun s : List (List Int) => s.length ≤ 200) (stp s L).2 := by
    intro s L hb hi
    subst hstp; exact gathS_keep _ s L hb hi
  intro g
  induction g with
  | zero => intro L s hg; omega
  | succ g ihg =>
    intro L s hg hlen hnx hL hi
    refine Run.step ?_
    simp only [impl_Colouring_cliques__Colouring_listThat_1__FullCliques_2.f]
    rw [dfs_succ, runL_cons]
    refine Run.bindE (a := stp s L) (by rw [← hstp]; exact impl_Colouring_listThat_1__FullCliques_2_run x hx hp c L s (by omega) (fun i hi => by have := hL i hi; omega) hi) ?_
    have hi2 := hkeep s L
    generalize hst : stp s L = st at hi2
    obtain ⟨b, s⟩ := st
    simp only
    refine Run.ite (fun hb => ?_) (fun hb => Run.ret (by rw [if_neg hb]))
    rw [if_pos hb]
    replace hi := hi2 hb hi
    clear hst hi2
    rw [List.length_map]
    refine Run.ite (fun h0 => ?_) (fun h0 => ?_)
    · obtain ⟨M, q, rfl⟩ : ∃ M q, L = M ++ [q] := ⟨L.dropLast, L.getLast (by intro h; rw [h] at h0; simp at h0), (List.dropLast_concat_getLast _).symm⟩
      have hq := nextP_snoc M q
      have hqn := hL q (by simp)
      rw [w64_id (x := (((M ++ [q]).length : Nat) : Int) - 1) (by omega)]
      refine Run.bindE (a := (q : Int)) ((Run.getI' (by omega) (by simp; omega)).mono fun r e => ?_) ?_
      · rw [e]; simp
      rw [w64_id (x := (q : Int) + 1) (by omega)]
      generalize M ++ [q] = L at *
      exact Run.loop (L := fun q (z : List (List Int) × Int) => impl_Colouring_cliques__Colouring_listThat_1__FullCliques_2.l0 q x c (L.map Int.ofNat) c z.1 z.2) (fun z => (x.p - z.2).toNat) (fun z => (nextP L : Int) ≤ z.2 ∧ z.2 ≤ x.p ∧ (fun s : List (List Int) => s.length ≤ 200) z.1 ∧ runL stp s (sufL (fun p F => dfs (fun i j => joinsB x i c j) g (L ++ [p]) (F.filter (joinsB x p c))) (upF (withB x c L) (nextP L) n)) = runL stp z.1 (sufL (fun p F => dfs (fun i j => joinsB x i c j) g (L ++ [p]) (F.filter (joinsB x p c))) (upF (withB x c L) z.2.toNat n))) (by
      rintro ⟨t, p⟩ ⟨h0, h3, hi, hc⟩ ih
      simp only at h0 h3 hi hc
      simp only [impl_Colouring_cliques__Colouring_listThat_1__FullCliques_2.l0]
      obtain ⟨p, rfl⟩ := Int.eq_ofNat_of_zero_le (show 0 ≤ p by omega)
      simp only [Int.toNat_natCast] at ih hc
      rw [hc] at ih ⊢
      refine Run.ite (fun h => ?_) (fun h => ?_)
      · rw [w64_id (x := (p : Int) + 1) (by omega)]
        refine Run.bindE (impl_Colouring_goesWith_run x hx hp L p c (by omega) (fun i hi => by have := hL i hi; omega) h) ?_
        refine Run.ite (fun hw => ?_) (fun hw => ih (t, (p : Int) + 1) ⟨by simp only; omega, by simp only; omega, hi, by simp only; rw [show ((p : Int) + 1).toNat = p + 1 by omega, upF_no (by omega) hw]⟩ (by simp only; omega))
        have hy := upF_yes (f := withB x c L) (p := p) (n := n) (by omega) hw
        have hrc := ihg (L ++ [p]) t (by rw [nextP_snoc]; omega) (by rw [nextP_snoc]; simp; omega) (by rw [nextP_snoc]; omega) (fun i hi => by rcases List.mem_append.mp hi with h | h; exact hL i h; simp at h; omega) hi
        rw [nextP_snoc, withB_snoc, ← upF_filter] at hrc
        rw [hy, sufL, runL_append] at ih ⊢
        refine Run.bindE (slices_Clone_int64_int64_run _ (by simp; omega)) ?_
        refine Run.bindE (Run.push' (by simp; omega)) ?_
        rw [show L.map Int.ofNat ++ [(p : Int)] = (L ++ [p]).map Int.ofNat by simp]
        refine Run.bindE hrc ?_
        have hinv := runL_keep stp (fun s : List (List Int) => s.length ≤ 200) hkeep (dfs (fun i j => joinsB x i c j) g (L ++ [p]) ((upF (withB x c L) (p + 1) n).filter (joinsB x p c))) t hi
        generalize hr : runL stp t (dfs (fun i j => joinsB x i c j) g (L ++ [p]) ((upF (withB x c L) (p + 1) n).filter (joinsB x p c))) = r at ih hinv ⊢
        refine Run.ite (fun hz => ?_) (fun hz => Run.ret ?_)
        · rw [if_pos hz] at ih ⊢
          exact ih (_, (p : Int) + 1) ⟨by simp only; omega, by simp only; omega, hinv hz, by simp only; rw [show ((p : Int) + 1).toNat = p + 1 by omega]⟩ (by simp only; omega)
        · rw [if_neg hz]
          obtain ⟨b, u⟩ := r
          simp only at hz ⊢
          rw [Bool.eq_false_iff.mpr hz]
      · refine Run.ret ?_
        rw [upF_end _ (by omega)]; rfl) (_, (q : Int) + 1) ⟨by simp only; omega, by simp only; omega, hi, by simp only; rw [hq, show ((q : Int) + 1).toNat = q + 1 by omega]⟩
    · have hnp : nextP L = 0 := by rw [List.length_eq_zero_iff.mp (show L.length = 0 by omega)]; rfl
      exact Run.loop (L := fun q (z : List (List Int) × Int) => impl_Colouring_cliques__Colouring_listThat_1__FullCliques_2.l1 q x c (L.map Int.ofNat) c z.1 z.2) (fun z => (x.p - z.2).toNat) (fun z => (nextP L : Int) ≤ z.2 ∧ z.2 ≤ x.p ∧ (fun s : List (List Int) => s.length ≤ 200) z.1 ∧ runL stp s (sufL (fun p F => dfs (fun i j => joinsB x i c j) g (L ++ [p]) (F.filter (joinsB x p c))) (upF (withB x c L) (nextP L) n)) = runL stp z.1 (sufL (fun p F => dfs (fun i j => joinsB x i c j) g (L ++ [p]) (F.filter (joinsB x p c))) (upF (withB x c L) z.2.toNat n))) (by
      rintro ⟨t, p⟩ ⟨h0, h3, hi, hc⟩ ih
      simp only at h0 h3 hi hc
      simp only [impl_Colouring_cliques__Colouring_listThat_1__FullCliques_2.l1]
      obtain ⟨p, rfl⟩ := Int.eq_ofNat_of_zero_le (show 0 ≤ p by omega)
      simp only [Int.toNat_natCast] at ih hc
      rw [hc] at ih ⊢
      refine Run.ite (fun h => ?_) (fun h => ?_)
      · rw [w64_id (x := (p : Int) + 1) (by omega)]
        refine Run.bindE (impl_Colouring_goesWith_run x hx hp L p c (by omega) (fun i hi => by have := hL i hi; omega) h) ?_
        refine Run.ite (fun hw => ?_) (fun hw => ih (t, (p : Int) + 1) ⟨by simp only; omega, by simp only; omega, hi, by simp only; rw [show ((p : Int) + 1).toNat = p + 1 by omega, upF_no (by omega) hw]⟩ (by simp only; omega))
        have hy := upF_yes (f := withB x c L) (p := p) (n := n) (by omega) hw
        have hrc := ihg (L ++ [p]) t (by rw [nextP_snoc]; omega) (by rw [nextP_snoc]; simp; omega) (by rw [nextP_snoc]; omega) (fun i hi => by rcases List.mem_append.mp hi with h | h; exact hL i h; simp at h; omega) hi
        rw [nextP_snoc, withB_snoc, ← upF_filter] at hrc
        rw [hy, sufL, runL_append] at ih ⊢
        refine Run.bindE (slices_Clone_int64_int64_run _ (by simp; omega)) ?_
        refine Run.bindE (Run.push' (by simp; omega)) ?_
        rw [show L.map Int.ofNat ++ [(p : Int)] = (L ++ [p]).map Int.ofNat by simp]
        refine Run.bindE hrc ?_
        have hinv := runL_keep stp (fun s : List (List Int) => s.length ≤ 200) hkeep (dfs (fun i j => joinsB x i c j) g (L ++ [p]) ((upF (withB x c L) (p + 1) n).filter (joinsB x p c))) t hi
        generalize hr : runL stp t (dfs (fun i j => joinsB x i c j) g (L ++ [p]) ((upF (withB x c L) (p + 1) n).filter (joinsB x p c))) = r at ih hinv ⊢
        refine Run.ite (fun hz => ?_) (fun hz => Run.ret ?_)
        · rw [if_pos hz] at ih ⊢
          exact ih (_, (p : Int) + 1) ⟨by simp only; omega, by simp only; omega, hinv hz, by simp only; rw [show ((p : Int) + 1).toNat = p + 1 by omega]⟩ (by simp only; omega)
        · rw [if_neg hz]
          obtain ⟨b, u⟩ := r
          simp only at hz ⊢
          rw [Bool.eq_false_iff.mpr hz]
      · refine Run.ret ?_
        rw [upF_end _ (by omega)]; rfl) (_, 0) ⟨by simp only; omega, by simp only; omega, hi, by simp only; rw [hnp]; rfl⟩

theorem impl_Colouring_listThat__FullCliques_2_run (x : Col) (hx : ByteC x) (hp : 0 ≤ x.p ∧ x.p ≤ 17) (c : Int) : Run (fun k => impl_Colouring_listThat__FullCliques_2.f k x c c) (· = listR (fullD x c)) := by
  unfold impl_Colouring_listThat__FullCliques_2.f
  refine Run.bindE (impl_Colouring_cliques__Colouring_listThat_1__FullCliques_2_run x hx hp c x.p.toNat (by omega) (x.p.toNat + 1) [] [] (by simp [nextP]) (by simp) (by simp [nextP]) (fun i hi => by cases hi) (by simp)) ?_
  have hF : upF (withB x c []) (nextP []) x.p.toNat = upF (fun _ => true) 0 x.p.toNat := rfl
  rw [hF]
  have hg := gath_run (maxB x c) (dfs (fun i j => joinsB x i c j) (x.p.toNat + 1) [] (upF (fun _ => true) 0 x.p.toNat)) [] (by simp)
  rw [List.length_nil, Nat.zero_add, List.nil_append] at hg
  unfold listR fullD
  rw [← hg]
  exact Run.ite (fun h => Run.ret (by rw [if_pos h])) (fun h => Run.ret (by rw [if_neg h]))

theorem impl_FullCliques_run (x : Col) (hx : ByteC x) (c : Int) : Run (fun k => impl_FullCliques.f k x c) (· = fcM x c) := by
  unfold impl_FullCliques.f
  refine Run.bindE (impl_Colouring_code__FullCliques_1_run x hx c) ?_
  rw [fcM]
  refine Run.ite (fun h => Run.ret (by rw [if_neg h])) (fun h => ?_)
  have hz := Decidable.not_not.mp h
  obtain ⟨h1, h2⟩ := given_zero hz
  have h17 := (isB_spec h1).1
  rw [if_pos hz]
  refine Run.bindE (impl_Colouring_listThat__FullCliques_2_run x hx (by omega) c) ?_
  exact Run.ret rfl

theorem laws_eqInt64S_run (a b : List Int) (ha : a.length < 4611686018427387904) : Run (fun k => laws_eqInt64S.f k a b) (· = decide (a = b)) := by
  unfold laws_eqInt64S.f
  refine Run.ite (fun h => ?_) (fun h => ?_)
  · exact Run.ret (decide_eq_false fun e => h (by rw [e])).symm
  have hl : a.length = b.length := by omega
  refine Run.loop (L := fun q (i : Int) => laws_eqInt64S.l0 q a b i) (fun i => (a.length - i).toNat) (fun i => 0 ≤ i ∧ i ≤ a.length ∧ ∀ (j : Nat) (h : j < a.length), (j : Int) < i → a[j] = b[j]'(by omega)) ?_ 0 ⟨by omega, by omega, fun j _ hj => by omega⟩
  rintro i ⟨h0, h3, hJ⟩ ih
  simp only [laws_eqInt64S.l0]
  refine Run.ite (fun h => ?_) (fun h => ?_)
  · refine Run.bindE (Run.getI' h0 h) ?_
    refine Run.bindE (Run.getI' h0 (by omega)) ?_
    refine Run.ite (fun h5 => ?_) (fun h5 => ?_)
    · exact Run.ret (decide_eq_false fun e => h5 (by simp only [e])).symm
    · rw [w64_id (by omega)]
      refine ih (i + 1) ⟨by omega, by omega, fun j hj hji => ?_⟩ (by omega)
      by_cases ej : (j : Int) < i
      · exact hJ j hj ej
      · obtain rfl : j = i.toNat := by omega
        exact Decidable.not_not.mp h5
  · exact Run.ret (decide_eq_true (List.ext_getElem hl fun j h1 h2 => hJ j h1 (by omega))).symm

theorem laws_eqInt64SS_run (a : List (List Int)) (ha : Short a) : Run (fun k => laws_eqInt64SS.f k a a) (· = true) := by
  unfold laws_eqInt64SS.f
  refine Run.no (fun h => h rfl) ?_
  have h1 := ha.1
  refine Run.loop (L := fun q (i : Int) => laws_eqInt64SS.l0 q a a i) (fun i => (a.length - i).toNat) (fun i => 0 ≤ i ∧ i ≤ a.length) ?_ 0 ⟨by omega, by omega⟩
  rintro i ⟨h0, h3⟩ ih
  simp only [laws_eqInt64SS.l0]
  refine Run.ite (fun h => ?_) (fun h => Run.ret rfl)
  refine Run.bindE (Run.getR' h0 h) ?_
  refine Run.bindE (Run.getR' h0 h) ?_
  have hl := ha.2 _ (List.getElem_mem (l := a) (n := i.toNat) (by omega))
  refine Run.bindE (laws_eqInt64S_run _ _ (by omega)) ?_
  rw [w64_id (x := i + 1) (by omega)]
  exact Run.yes (decide_eq_true rfl) (ih (i + 1) ⟨by omega, by omega⟩ (by omega))
end Go.Proofs.Ytdpamdedomkomaa.P
