/- What the pure functions come to, one by one (part 5). -/
import Derived.Test.YtdpamdedomkomaaPFnExactCliqueNumbers4
import Derived.Test.YtdpamdedomkomaaGFnExactCliqueNumbers6
namespace Go.Proofs.Ytdpamdedomkomaa.P
open Go Go.RowKit Go.Proofs.Ytdpamdedomkomaa.K Go.Proofs.Ytdpamdedomkomaa.G
set_option linter.unusedVariables false
set_option linter.unusedSimpArgs false

theorem impl_Colouring_cliques__Colouring_greatest_1_run (x : Col) (hx : ByteC x) (hp : 0 ≤ x.p ∧ x.p ≤ 17) (c : Int)  (n : Nat) (hn : (n : Int) = x.p) : ∀ (g : Nat) (L : List Nat) (s : List Int), n - nextP L + 1 ≤ g → L.length ≤ nextP L → nextP L ≤ n → (∀ i ∈ L, i < n) →
    Run (fun k => impl_Colouring_cliques__Colouring_greatest_1.f k x c (L.map Int.ofNat)  s) (· = runL (fun s (L : List Nat) => (true, if (L.length : Int) > (s.length : Int) then L.map Int.ofNat else s)) s (dfs (fun i j => joinsB x i c j) g L (upF (withB x c L) (nextP L) n))) := by
  generalize hstp : (fun s (L : List Nat) => (true, if (L.length : Int) > (s.length : Int) then L.map Int.ofNat else s)) = stp
  intro g
  induction g with
  | zero => intro L s hg; omega
  | succ g ihg =>
    intro L s hg hlen hnx hL
    refine Run.step ?_
    simp only [impl_Colouring_cliques__Colouring_greatest_1.f]
    rw [dfs_succ, runL_cons]
    refine Run.bindE (a := stp s L) (by rw [← hstp]; exact impl_Colouring_greatest_1_run L s) ?_
    generalize hst : stp s L = st
    obtain ⟨b, s⟩ := st
    simp only
    refine Run.ite (fun hb => ?_) (fun hb => Run.ret (by rw [if_neg hb]))
    rw [if_pos hb]
    clear hst
    rw [List.length_map]
    refine Run.ite (fun h0 => ?_) (fun h0 => ?_)
    · obtain ⟨M, q, rfl⟩ : ∃ M q, L = M ++ [q] := ⟨L.dropLast, L.getLast (by intro h; rw [h] at h0; simp at h0), (List.dropLast_concat_getLast _).symm⟩
      have hq := nextP_snoc M q
      have hqn := hL q (by simp)
      rw [w64_id (x := (((M ++ [q]).length : Nat) : Int) - 1) (by omega)]
      refine Run.bindE (a := (q : Int)) ((Run.getI' (by omega) (by simp; omega)).mono fun r e => ?_) ?_
      · rw [e]; simp
      rw [w64_id (x := (q : Int) + 1) (by omega)]
      generalize M ++ [q] = L at *
      exact Run.loop (L := fun q (z : List Int × Int) => impl_Colouring_cliques__Colouring_greatest_1.l0 q x c (L.map Int.ofNat)  z.1 z.2) (fun z => (x.p - z.2).toNat) (fun z => (nextP L : Int) ≤ z.2 ∧ z.2 ≤ x.p ∧ runL stp s (sufL (fun p F => dfs (fun i j => joinsB x i c j) g (L ++ [p]) (F.filter (joinsB x p c))) (upF (withB x c L) (nextP L) n)) = runL stp z.1 (sufL (fun p F => dfs (fun i j => joinsB x i c j) g (L ++ [p]) (F.filter (joinsB x p c))) (upF (withB x c L) z.2.toNat n))) (by
      rintro ⟨t, p⟩ ⟨h0, h3, hc⟩ ih
      simp only at h0 h3 hc
      simp only [impl_Colouring_cliques__Colouring_greatest_1.l0]
      obtain ⟨p, rfl⟩ := Int.eq_ofNat_of_zero_le (show 0 ≤ p by omega)
      simp only [Int.toNat_natCast] at ih hc
      rw [hc] at ih ⊢
      refine Run.ite (fun h => ?_) (fun h => ?_)
      · rw [w64_id (x := (p : Int) + 1) (by omega)]
        refine Run.bindE (impl_Colouring_goesWith_run x hx hp L p c (by omega) (fun i hi => by have := hL i hi; omega) h) ?_
        refine Run.ite (fun hw => ?_) (fun hw => ih (t, (p : Int) + 1) ⟨by simp only; omega, by simp only; omega, by simp only; rw [show ((p : Int) + 1).toNat = p + 1 by omega, upF_no (by omega) hw]⟩ (by simp only; omega))
        have hy := upF_yes (f := withB x c L) (p := p) (n := n) (by omega) hw
        have hrc := ihg (L ++ [p]) t (by rw [nextP_snoc]; omega) (by rw [nextP_snoc]; simp; omega) (by rw [nextP_snoc]; omega) (fun i hi => by rcases List.mem_append.mp hi with h | h; exact hL i h; simp at h; omega)
        rw [nextP_snoc, withB_snoc, ← upF_filter] at hrc
        rw [hy, sufL, runL_append] at ih ⊢
        refine Run.bindE (slices_Clone_int64_int64_run _ (by simp; omega)) ?_
        refine Run.bindE (Run.push' (by simp; omega)) ?_
        rw [show L.map Int.ofNat ++ [(p : Int)] = (L ++ [p]).map Int.ofNat by simp]
        refine Run.bindE hrc ?_
        generalize hr : runL stp t (dfs (fun i j => joinsB x i c j) g (L ++ [p]) ((upF (withB x c L) (p + 1) n).filter (joinsB x p c))) = r at ih ⊢
        refine Run.ite (fun hz => ?_) (fun hz => Run.ret ?_)
        · rw [if_pos hz] at ih ⊢
          exact ih (_, (p : Int) + 1) ⟨by simp only; omega, by simp only; omega, by simp only; rw [show ((p : Int) + 1).toNat = p + 1 by omega]⟩ (by simp only; omega)
        · rw [if_neg hz]
          obtain ⟨b, u⟩ := r
          simp only at hz ⊢
          rw [Bool.eq_false_iff.mpr hz]
      · refine Run.ret ?_
        rw [upF_end _ (by omega)]; rfl) (_, (q : Int) + 1) ⟨by simp only; omega, by simp only; omega, by simp only; rw [hq, show ((q : Int) + 1).toNat = q + 1 by omega]⟩
    · have hnp : nextP L = 0 := by rw [List.length_eq_zero_iff.mp (show L.length = 0 by omega)]; rfl
      exact Run.loop (L := fun q (z : List Int × Int) => impl_Colouring_cliques__Colouring_greatest_1.l1 q x c (L.map Int.ofNat)  z.1 z.2) (fun z => (x.p - z.2).toNat) (fun z => (nextP L : Int) ≤ z.2 ∧ z.2 ≤ x.p ∧ runL stp s (sufL (fun p F => dfs (fun i j => joinsB x i c j) g (L ++ [p]) (F.filter (joinsB x p c))) (upF (withB x c L) (nextP L) n)) = runL stp z.1 (sufL (fun p F => dfs (fun i j => joinsB x i c j) g (L ++ [p]) (F.filter (joinsB x p c))) (upF (withB x c L) z.2.toNat n))) (by
      rintro ⟨t, p⟩ ⟨h0, h3, hc⟩ ih
      simp only at h0 h3 hc
      simp only [impl_Colouring_cliques__Colouring_greatest_1.l1]
      obtain ⟨p, rfl⟩ := Int.eq_ofNat_of_zero_le (show 0 ≤ p by omega)
      simp only [Int.toNat_natCast] at ih hc
      rw [hc] at ih ⊢
      refine Run.ite (fun h => ?_) (fun h => ?_)
      · rw [w64_id (x := (p : Int) + 1) (by omega)]
        refine Run.bindE (impl_Colouring_goesWith_run x hx hp L p c (by omega) (fun i hi => by have := hL i hi; omega) h) ?_
        refine Run.ite (fun hw => ?_) (fun hw => ih (t, (p : Int) + 1) ⟨by simp only; omega, by simp only; omega, by simp only; rw [show ((p : Int) + 1).toNat = p + 1 by omega, upF_no (by omega) hw]⟩ (by simp only; omega))
        have hy := upF_yes (f := withB x c L) (p := p) (n := n) (by omega) hw
        have hrc := ihg (L ++ [p]) t (by rw [nextP_snoc]; omega) (by rw [nextP_snoc]; simp; omega) (by rw [nextP_snoc]; omega) (fun i hi => by rcases List.mem_append.mp hi with h | h; exact hL i h; simp at h; omega)
        rw [nextP_snoc, withB_snoc, ← upF_filter] at hrc
        rw [hy, sufL, runL_append] at ih ⊢
        refine Run.bindE (slices_Clone_int64_int64_run _ (by simp; omega)) ?_
        refine Run.bindE (Run.push' (by simp; omega)) ?_
        rw [show L.map Int.ofNat ++ [(p : Int)] = (L ++ [p]).map Int.ofNat by simp]
        refine Run.bindE hrc ?_
        generalize hr : runL stp t (dfs (fun i j => joinsB x i c j) g (L ++ [p]) ((upF (withB x c L) (p + 1) n).filter (joinsB x p c))) = r at ih ⊢
        refine Run.ite (fun hz => ?_) (fun hz => Run.ret ?_)
        · rw [if_pos hz] at ih ⊢
          exact ih (_, (p : Int) + 1) ⟨by simp only; omega, by simp only; omega, by simp only; rw [show ((p : Int) + 1).toNat = p + 1 by omega]⟩ (by simp only; omega)
        · rw [if_neg hz]
          obtain ⟨b, u⟩ := r
          simp only at hz ⊢
          rw [Bool.eq_false_iff.mpr hz]
      · refine Run.ret ?_
        rw [upF_end _ (by omega)]; rfl) (_, 0) ⟨by simp only; omega, by simp only; omega, by simp only; rw [hnp]; rfl⟩

theorem impl_Colouring_greatest_run (x : Col) (hx : ByteC x) (hp : 0 ≤ x.p ∧ x.p ≤ 17) (c : Int) : Run (fun k => impl_Colouring_greatest.f k x c) (· = (greatL x c).map Int.ofNat) := by
  unfold impl_Colouring_greatest.f
  refine Run.bindE (impl_Colouring_cliques__Colouring_greatest_1_run x hx hp c x.p.toNat (by omega) (x.p.toNat + 1) [] [] (by simp [nextP]) (by simp) (by simp [nextP]) (fun i hi => by cases hi)) ?_
  have hF : upF (withB x c []) (nextP []) x.p.toNat = upF (fun _ => true) 0 x.p.toNat := rfl
  have hf : ∀ (D : List (List Nat)) (b : List Nat), D.foldl (fun s (L : List Nat) => if (L.length : Int) > (s.length : Int) then L.map Int.ofNat else s) (b.map Int.ofNat) = (D.foldl longer b).map Int.ofNat := by
    intro D
    induction D with
    | nil => intro b; rfl
    | cons L D ih =>
      intro b
      rw [List.foldl_cons, List.foldl_cons, ← ih]
      congr 1
      rw [List.length_map]
      unfold longer
      by_cases h : L.length > b.length
      · rw [if_pos h, if_pos (by omega)]
      · rw [if_neg h, if_neg (by omega)]
  refine Run.ret ?_
  rw [hF]
  exact (congrArg Prod.snd (runL_all (fun (s : List Int) (L : List Nat) => if (L.length : Int) > (s.length : Int) then L.map Int.ofNat else s) _ [])).trans (hf _ [])

theorem impl_size_int64_run (l : List Int) : Run (fun _ => impl_size_int64.f l) (· = (l.length : Int)) := by
  unfold impl_size_int64.f
  exact Run.ret rfl

theorem impl_Colouring_cliqueNumbers_run (x : Col) (hx : ByteC x) (hp : 0 ≤ x.p ∧ x.p ≤ 17) (hk : 0 ≤ x.k ∧ x.k ≤ 1000) : Run (fun k => impl_Colouring_cliqueNumbers.f k x) (· = numsM x x.k.toNat) := by
  unfold impl_Colouring_cliqueNumbers.f
  refine Run.loop (L := fun q (z : List Int × Int) => impl_Colouring_cliqueNumbers.l0 q x z.1 z.2) (fun z => (x.k - z.2).toNat) (fun z => 0 ≤ z.2 ∧ z.2 ≤ x.k ∧ z.1 = numsM x z.2.toNat) ?_ ([], 0) ⟨by simp only; omega, by simp only; omega, rfl⟩
  rintro ⟨l, j⟩ ⟨h0, h3, hl⟩ ih
  simp only at h0 h3 hl
  subst hl
  simp only [impl_Colouring_cliqueNumbers.l0]
  obtain ⟨j, rfl⟩ := Int.eq_ofNat_of_zero_le h0
  simp only [Int.toNat_natCast] at ih ⊢
  refine Run.ite (fun h => ?_) (fun h => ?_)
  · rw [w64_id (x := (j : Int) + 1) (by omega)]
    refine Run.bindE (impl_Colouring_greatest_run x hx hp j) ?_
    refine Run.bindE (impl_size_int64_run _) ?_
    rw [List.length_map]
    refine Run.bindE (Run.push' (by rw [numsM_length]; omega)) ?_
    refine ih (_, (j : Int) + 1) ⟨by simp only; omega, by simp only; omega, ?_⟩ (by simp only; omega)
    simp only
    rw [show ((j : Int) + 1).toNat = j + 1 by omega, numsM_succ]
  · refine Run.ret ?_
    rw [show x.k.toNat = j by omega]

theorem impl_CliqueNumbers_run (x : Col) (hx : ByteC x) : Run (fun k => impl_CliqueNumbers.f k x) (· = numM x) := by
  unfold impl_CliqueNumbers.f
  refine Run.bindE (impl_Colouring_code__always_run x hx) ?_
  rw [numM]
  by_cases h1 : isB x = true
  · have hk := (isB_spec h1).2.1
    have h17 := (isB_spec h1).1
    rw [if_pos h1, given, if_pos h1, if_pos rfl]
    refine Run.no (fun h => h rfl) ?_
    refine Run.bindE (impl_Colouring_cliqueNumbers_run x hx (by omega) (by omega)) ?_
    exact Run.ret rfl
  · rw [if_neg h1, given, if_neg h1]
    exact Run.yes (by decide) (Run.ret rfl)

theorem laws_eqInt64S_run (a b : List Int) (ha : a.length < 4611686018427387904) : Run (fun k => laws_eqInt64S.f k a b) (· = decide (a = b)) := by
  unfold laws_eqInt64S.f
  refine Run.ite (fun h => ?_) (fun h => ?_)
  · exact Run.ret (decide_eq_false fun e => h (by rw [e])).symm
  have hl : a.length = b.length := by omega
  refine Run.loop (L := fun q (i : Int) => laws_eqInt64S.l0 q a b i) (fun i => (a.length - i).toNat) (fun i => 0 ≤ i ∧ i ≤ a.length ∧ ∀ (j : Nat) (h : j < a.length), (j : Int) < i → a[j] = b[j]'(by omega)) ?_ 0 ⟨by omega, by omega, fun j _ hj => by omega⟩
  rintro i ⟨h0, h3, hJ⟩ ih
  simp only [laws_eqInt64S.l0]
  refine Run.ite (fun h => ?_) (fun h => ?_)
  · refine Run.bindE (Run.getI' h0 h) ?_
    refine Run.bindE (Run.getI' h0 (by omega)) ?_
    refine Run.ite (fun h5 => ?_) (fun h5 => ?_)
    · exact Run.ret (decide_eq_false fun e => h5 (by simp only [e])).symm
    · rw [w64_id (by omega)]
      refine ih (i + 1) ⟨by omega, by omega, fun j hj hji => ?_⟩ (by omega)
      by_cases ej : (j : Int) < i
      · exact hJ j hj ej
      · obtain rfl : j = i.toNat := by omega
        exact Decidable.not_not.mp h5
  · exact Run.ret (decide_eq_true (List.ext_getElem hl fun j h1 h2 => hJ j h1 (by omega))).symm
end Go.Proofs.Ytdpamdedomkomaa.P
