/- What the pure functions come to, one by one (part 5). -/
import Derived.Test.YtdpamdedomkomaaPFnExactCliquesAt4
import Derived.Test.YtdpamdedomkomaaGFnExactCliquesAt5
namespace Go.Proofs.Ytdpamdedomkomaa.P
open Go Go.RowKit Go.Proofs.Ytdpamdedomkomaa.K Go.Proofs.Ytdpamdedomkomaa.G
set_option linter.unusedVariables false
set_option linter.unusedSimpArgs false

theorem impl_Colouring_cliques__Colouring_countThat_1__CliquesAt_2_run (x : Col) (hx : ByteC x) (hp : 0 ≤ x.p ∧ x.p ≤ 17) (c : Int) (m v : Int) (n : Nat) (hn : (n : Int) = x.p) : ∀ (g : Nat) (L : List Nat) (s : Int), n - nextP L + 1 ≤ g → L.length ≤ nextP L → nextP L ≤ n → (∀ i ∈ L, i < n) →
    Run (fun k => impl_Colouring_cliques__Colouring_countThat_1__CliquesAt_2.f k x c (L.map Int.ofNat) m v s) (· = runL (fun s (L : List Nat) => (true, if (decide ((L.length : Int) = m) && (L.map Int.ofNat).contains v) = true then w64 (s + 1) else s)) s (dfs (fun i j => joinsB x i c j) g L (upF (withB x c L) (nextP L) n))) := by
  generalize hstp : (fun s (L : List Nat) => (true, if (decide ((L.length : Int) = m) && (L.map Int.ofNat).contains v) = true then w64 (s + 1) else s)) = stp
  intro g
  induction g with
  | zero => intro L s hg; omega
  | succ g ihg =>
    intro L s hg hlen hnx hL
    refine Run.step ?_
    simp only [impl_Colouring_cliques__Colouring_countThat_1__CliquesAt_2.f]
    rw [dfs_succ, runL_cons]
    refine Run.bindE (a := stp s L) (by rw [← hstp]; exact impl_Colouring_countThat_1__CliquesAt_2_run L m v s (by omega)) ?_
    generalize hst : stp s L = st
    obtain ⟨b, s⟩ := st
    simp only
    refine Run.ite (fun hb => ?_) (fun hb => Run.ret (by rw [if_neg hb]))
    rw [if_pos hb]
    clear hst
    rw [List.length_map]
    refine Run.ite (fun h0 => ?_) (fun h0 => ?_)
    · obtain ⟨M, q, rfl⟩ : ∃ M q, L = M ++ [q] := ⟨L.dropLast, L.getLast (by intro h; rw [h] at h0; simp at h0), (List.dropLast_concat_getLast _).symm⟩
      have hq := nextP_snoc M q
      have hqn := hL q (by simp)
      rw [w64_id (x := (((M ++ [q]).length : Nat) : Int) - 1) (by omega)]
      refine Run.bindE (a := (q : Int)) ((Run.getI' (by omega) (by simp; omega)).mono fun r e => ?_) ?_
      · rw [e]; simp
      rw [w64_id (x := (q : Int) + 1) (by omega)]
      generalize M ++ [q] = L at *
      exact Run.loop (L := fun q (z : Int × Int) => impl_Colouring_cliques__Colouring_countThat_1__CliquesAt_2.l0 q x c (L.map Int.ofNat) m v z.1 z.2) (fun z => (x.p - z.2).toNat) (fun z => (nextP L : Int) ≤ z.2 ∧ z.2 ≤ x.p ∧ runL stp s (sufL (fun p F => dfs (fun i j => joinsB x i c j) g (L ++ [p]) (F.filter (joinsB x p c))) (upF (withB x c L) (nextP L) n)) = runL stp z.1 (sufL (fun p F => dfs (fun i j => joinsB x i c j) g (L ++ [p]) (F.filter (joinsB x p c))) (upF (withB x c L) z.2.toNat n))) (by
      rintro ⟨t, p⟩ ⟨h0, h3, hc⟩ ih
      simp only at h0 h3 hc
      simp only [impl_Colouring_cliques__Colouring_countThat_1__CliquesAt_2.l0]
      obtain ⟨p, rfl⟩ := Int.eq_ofNat_of_zero_le (show 0 ≤ p by omega)
      simp only [Int.toNat_natCast] at ih hc
      rw [hc] at ih ⊢
      refine Run.ite (fun h => ?_) (fun h => ?_)
      · rw [w64_id (x := (p : Int) + 1) (by omega)]
        refine Run.bindE (impl_Colouring_goesWith_run x hx hp L p c (by omega) (fun i hi => by have := hL i hi; omega) h) ?_
        refine Run.ite (fun hw => ?_) (fun hw => ih (t, (p : Int) + 1) ⟨by simp only; omega, by simp only; omega, by simp only; rw [show ((p : Int) + 1).toNat = p + 1 by omega, upF_no (by omega) hw]⟩ (by simp only; omega))
        have hy := upF_yes (f := withB x c L) (p := p) (n := n) (by omega) hw
        have hrc := ihg (L ++ [p]) t (by rw [nextP_snoc]; omega) (by rw [nextP_snoc]; simp; omega) (by rw [nextP_snoc]; omega) (fun i hi => by rcases List.mem_append.mp hi with h | h; exact hL i h; simp at h; omega)
        rw [nextP_snoc, withB_snoc, ← upF_filter] at hrc
        rw [hy, sufL, runL_append] at ih ⊢
        refine Run.bindE (slices_Clone_int64_int64_run _ (by simp; omega)) ?_
        refine Run.bindE (Run.push' (by simp; omega)) ?_
        rw [show L.map Int.ofNat ++ [(p : Int)] = (L ++ [p]).map Int.ofNat by simp]
        refine Run.bindE hrc ?_
        generalize hr : runL stp t (dfs (fun i j => joinsB x i c j) g (L ++ [p]) ((upF (withB x c L) (p + 1) n).filter (joinsB x p c))) = r at ih ⊢
        refine Run.ite (fun hz => ?_) (fun hz => Run.ret ?_)
        · rw [if_pos hz] at ih ⊢
          exact ih (_, (p : Int) + 1) ⟨by simp only; omega, by simp only; omega, by simp only; rw [show ((p : Int) + 1).toNat = p + 1 by omega]⟩ (by simp only; omega)
        · rw [if_neg hz]
          obtain ⟨b, u⟩ := r
          simp only at hz ⊢
          rw [Bool.eq_false_iff.mpr hz]
      · refine Run.ret ?_
        rw [upF_end _ (by omega)]; rfl) (_, (q : Int) + 1) ⟨by simp only; omega, by simp only; omega, by simp only; rw [hq, show ((q : Int) + 1).toNat = q + 1 by omega]⟩
    · have hnp : nextP L = 0 := by rw [List.length_eq_zero_iff.mp (show L.length = 0 by omega)]; rfl
      exact Run.loop (L := fun q (z : Int × Int) => impl_Colouring_cliques__Colouring_countThat_1__CliquesAt_2.l1 q x c (L.map Int.ofNat) m v z.1 z.2) (fun z => (x.p - z.2).toNat) (fun z => (nextP L : Int) ≤ z.2 ∧ z.2 ≤ x.p ∧ runL stp s (sufL (fun p F => dfs (fun i j => joinsB x i c j) g (L ++ [p]) (F.filter (joinsB x p c))) (upF (withB x c L) (nextP L) n)) = runL stp z.1 (sufL (fun p F => dfs (fun i j => joinsB x i c j) g (L ++ [p]) (F.filter (joinsB x p c))) (upF (withB x c L) z.2.toNat n))) (by
      rintro ⟨t, p⟩ ⟨h0, h3, hc⟩ ih
      simp only at h0 h3 hc
      simp only [impl_Colouring_cliques__Colouring_countThat_1__CliquesAt_2.l1]
      obtain ⟨p, rfl⟩ := Int.eq_ofNat_of_zero_le (show 0 ≤ p by omega)
      simp only [Int.toNat_natCast] at ih hc
      rw [hc] at ih ⊢
      refine Run.ite (fun h => ?_) (fun h => ?_)
      · rw [w64_id (x := (p : Int) + 1) (by omega)]
        refine Run.bindE (impl_Colouring_goesWith_run x hx hp L p c (by omega) (fun i hi => by have := hL i hi; omega) h) ?_
        refine Run.ite (fun hw => ?_) (fun hw => ih (t, (p : Int) + 1) ⟨by simp only; omega, by simp only; omega, by simp only; rw [show ((p : Int) + 1).toNat = p + 1 by omega, upF_no (by omega) hw]⟩ (by simp only; omega))
        have hy := upF_yes (f := withB x c L) (p := p) (n := n) (by omega) hw
        have hrc := ihg (L ++ [p]) t (by rw [nextP_snoc]; omega) (by rw [nextP_snoc]; simp; omega) (by rw [nextP_snoc]; omega) (fun i hi => by rcases List.mem_append.mp hi with h | h; exact hL i h; simp at h; omega)
        rw [nextP_snoc, withB_snoc, ← upF_filter] at hrc
        rw [hy, sufL, runL_append] at ih ⊢
        refine Run.bindE (slices_Clone_int64_int64_run _ (by simp; omega)) ?_
        refine Run.bindE (Run.push' (by simp; omega)) ?_
        rw [show L.map Int.ofNat ++ [(p : Int)] = (L ++ [p]).map Int.ofNat by simp]
        refine Run.bindE hrc ?_
        generalize hr : runL stp t (dfs (fun i j => joinsB x i c j) g (L ++ [p]) ((upF (withB x c L) (p + 1) n).filter (joinsB x p c))) = r at ih ⊢
        refine Run.ite (fun hz => ?_) (fun hz => Run.ret ?_)
        · rw [if_pos hz] at ih ⊢
          exact ih (_, (p : Int) + 1) ⟨by simp only; omega, by simp only; omega, by simp only; rw [show ((p : Int) + 1).toNat = p + 1 by omega]⟩ (by simp only; omega)
        · rw [if_neg hz]
          obtain ⟨b, u⟩ := r
          simp only at hz ⊢
          rw [Bool.eq_false_iff.mpr hz]
      · refine Run.ret ?_
        rw [upF_end _ (by omega)]; rfl) (_, 0) ⟨by simp only; omega, by simp only; omega, by simp only; rw [hnp]; rfl⟩

theorem impl_Colouring_countThat__CliquesAt_2_run (x : Col) (hx : ByteC x) (hp : 0 ≤ x.p ∧ x.p ≤ 17) (c : Int) (m v : Nat) (hv : (v : Int) < x.p) : Run (fun k => impl_Colouring_countThat__CliquesAt_2.f k x c ((m + 1 : Nat) : Int) v) (· = (cnum (fun i j => joinsB x i c j) (upF (joinsB x v c) 0 x.p.toNat) m : Int)) := by
  unfold impl_Colouring_countThat__CliquesAt_2.f
  refine Run.bindE (impl_Colouring_cliques__Colouring_countThat_1__CliquesAt_2_run x hx hp c ((m + 1 : Nat) : Int) v x.p.toNat (by omega) (x.p.toNat + 1) [] 0 (by simp [nextP]) (by simp) (by simp [nextP]) (fun i hi => by cases hi)) ?_
  have hF : upF (withB x c []) (nextP []) x.p.toNat = upF (fun _ => true) 0 x.p.toNat := rfl
  have hl := upF_length (fun _ => true) 0 x.p.toNat
  have hd := dfs_size (fun i j => joinsB x i c j) (x.p.toNat + 1) [] (upF (fun _ => true) 0 x.p.toNat)
  have h2 : 2 ^ (upF (fun _ => true) 0 x.p.toNat).length ≤ 2 ^ 17 := Nat.pow_le_pow_right (by omega) (by omega)
  have hc := runL_count (fun L : List Nat => decide ((L.length : Int) = ((m + 1 : Nat) : Int)) && (L.map Int.ofNat).contains (v : Int)) (dfs (fun i j => joinsB x i c j) (x.p.toNat + 1) [] (upF (fun _ => true) 0 x.p.toNat)) 0 (by omega)
  have hn := dfs_countAt (fun i j => joinsB x i c j) (fun i j => joins_symm x c i j) (fun i => joins_self x c i) v (x.p.toNat + 1) [] (upF (fun _ => true) 0 x.p.toNat) m (by omega) rfl (upF_nodup _ _ _)
  have e : (fun M : List Nat => decide (M.length = ([] : List Nat).length + (m + 1)) && M.contains v) = fun L : List Nat => decide ((L.length : Int) = ((m + 1 : Nat) : Int)) && (L.map Int.ofNat).contains (v : Int) := by
    funext M
    congr 1
    · exact decide_eq_decide.mpr (by simp; omega)
    · rw [Bool.eq_iff_iff]
      simp only [List.contains_iff_mem, List.mem_map]
      exact ⟨fun h => ⟨v, h, rfl⟩, fun ⟨a, ha, e⟩ => by obtain rfl : a = v := Int.ofNat.inj e; exact ha⟩
  have hin : (upF (fun _ => true) 0 x.p.toNat).contains v = true := by
    have := (mem_upF (f := fun _ => true) (p := 0) (n := x.p.toNat) (j := v)).mpr ⟨⟨by omega, by omega⟩, rfl⟩
    simpa using this
  rw [e, if_pos hin, upF_filter] at hn
  refine Run.ret ?_
  rw [hF]
  refine (congrArg Prod.snd hc).trans ?_
  rw [hn, Nat.zero_add]
  congr 1

theorem impl_CliquesAt_run (x : Col) (hx : ByteC x) (c v m : Int) : Run (fun k => impl_CliquesAt.f k x c v m) (· = atM x c v m) := by
  unfold impl_CliquesAt.f
  refine Run.bindE (impl_Colouring_code__CliquesAt_1_run x hx c v m) ?_
  rw [atM]
  refine Run.ite (fun h => Run.ret (by rw [if_neg h])) (fun h => ?_)
  have hz := Decidable.not_not.mp h
  obtain ⟨h1, h2⟩ := given_zero hz
  have h17 := (isB_spec h1).1
  simp only [Bool.and_eq_true, decide_eq_true_eq] at h2
  rw [if_pos hz]
  have hr := impl_Colouring_countThat__CliquesAt_2_run x hx (by omega) c (m.toNat - 1) v.toNat (by omega)
  rw [show ((m.toNat - 1 + 1 : Nat) : Int) = m by omega, show ((v.toNat : Nat) : Int) = v by omega] at hr
  refine Run.bindE hr ?_
  exact Run.ret rfl

theorem laws_FnExactCliquesAt_run (x : Col) (c v m : Int) (hx : ByteC x) (_ : I64 c) (_ : I64 v) (_ : I64 m) : Run (fun k => laws_FnExactCliquesAt.f k x c v m) (· = true) := by
  unfold laws_FnExactCliquesAt.f
  have hx' := cutC_bytes hx
  refine Run.bindE (laws_toColouring_run x) ?_
  refine Run.bindE (spec_CliquesAt_run _ hx' c v m) ?_
  refine Run.bindE (laws_toColouring_run x) ?_
  refine Run.bindE (impl_CliquesAt_run _ hx' c v m) ?_
  exact Run.no (fun h => h rfl) (Run.no (fun h => h rfl) (Run.ret rfl))
end Go.Proofs.Ytdpamdedomkomaa.P
