/- What the pure functions come to, one by one (part 3). -/
import Derived.Test.YtfbdcidedjocdaaPFnExactLeastPosition2
import Derived.Test.YtfbdcidedjocdaaGFnExactLeastPosition9
namespace Go.Proofs.Ytfbdcidedjocdaa.P
open Go Go.RowKit Go.Proofs.Ytfbdcidedjocdaa.K Go.Proofs.Ytfbdcidedjocdaa.G
set_option linter.unusedVariables false
set_option linter.unusedSimpArgs false

theorem spec_l09Renumbered_run (n : Nat) (l p : List Int) (hn : n ≤ 5) (hn1 : 1 ≤ n) (hl : l.length = tri n) (hp : goodP n p = true) : Run (fun k => spec_l09Renumbered.f k n l p) (· = renumP l p n) := by
  unfold spec_l09Renumbered.f
  have hg := goodP_at hp
  have hN : tri n ≤ 10 := tri_mono (n := 5) (by omega)
  refine Run.bindE (spec_l01Own_run l (by omega)) ?_
  refine Run.loop (L := fun q (z : List Int × Int) => spec_l09Renumbered.l0 q n l p z.1 z.2) (fun z => (n - z.2).toNat) (fun z => 1 ≤ z.2 ∧ z.2 ≤ n ∧ z.1 = sets l (opC p l z.2.toNat)) ?_ (_, 1) ⟨by simp only; omega, by simp only; omega, rfl⟩
  rintro ⟨s, j⟩ ⟨h0, h3, hs⟩ ih
  simp only at h0 h3 hs
  subst hs
  simp only [spec_l09Renumbered.l0]
  obtain ⟨j, rfl⟩ := Int.eq_ofNat_of_zero_le (show 0 ≤ j by omega)
  simp only [Int.toNat_natCast] at ih ⊢
  refine Run.ite (fun h => ?_) (fun h => ?_)
  · refine Run.loop (L := fun q (z : List Int × Int) => spec_l09Renumbered.l1 q n l p j z.1 z.2) (fun z => (j - z.2).toNat) (fun z => 0 ≤ z.2 ∧ z.2 ≤ j ∧ z.1 = sets (sets l (opC p l j)) (opB p l j z.2.toNat)) ?_ (_, 0) ⟨by simp only; omega, by simp only; omega, rfl⟩
    rintro ⟨s, i⟩ ⟨g0, g3, hs⟩ ih2
    simp only at g0 g3 hs
    subst hs
    simp only [spec_l09Renumbered.l1]
    obtain ⟨i, rfl⟩ := Int.eq_ofNat_of_zero_le g0
    simp only [Int.toNat_natCast] at ih2 ⊢
    refine Run.ite (fun h' => ?_) (fun h' => ?_)
    · obtain ⟨a, ea, ha⟩ := hg.2.1 i (by omega)
      obtain ⟨b, eb, hb⟩ := hg.2.1 j (by omega)
      have hab : a ≠ b := fun e => hg.2.2 i j (by omega) (by omega) (by rw [ea, eb, e])
      have ea' : p[((i : Int)).toNat]'(by have := hg.1; omega) = (a : Int) := by rw [← ea]; exact (getD_at (by have := hg.1; omega)).symm
      have eb' : p[((j : Int)).toNat]'(by have := hg.1; omega) = (b : Int) := by rw [← eb]; exact (getD_at (by have := hg.1; omega)).symm
      refine Run.bindE (Run.getI' (by omega) (by have := hg.1; omega)) ?_
      refine Run.bindE (Run.getI' (by omega) (by have := hg.1; omega)) ?_
      rw [ea', eb']
      have t1 := edg_lt (i := a) (j := b) (p := n) ha hb hab
      have t2 := edg_lt (i := i) (j := j) (p := n) (by omega) (by omega) (by omega)
      refine Run.bindE (spec_l01Edge_run a b (by omega) (by omega)) ?_
      refine Run.bindE (spec_l01Edge_run i j (by omega) (by omega)) ?_
      refine Run.bindE (Run.getI' (by omega) (by omega)) ?_
      refine Run.bindE (Run.getI' (by omega) (by rw [sets_length, sets_length]; omega)) ?_
      rw [w64_id (x := (i : Int) + 1) (by omega)]
      refine ih2 (_, (i : Int) + 1) ⟨by simp only; omega, by simp only; omega, ?_⟩ (by simp only; omega)
      simp only
      rw [show ((i : Int) + 1).toNat = i + 1 by omega, opB, sets_snoc, ea, eb]
      simp only [Int.toNat_natCast]
      rw [getD_at (l := l) (i := edg i j) (by omega)]
    · rw [w64_id (x := (j : Int) + 1) (by omega)]
      refine ih (_, (j : Int) + 1) ⟨by simp only; omega, by simp only; omega, ?_⟩ (by simp only; omega)
      simp only
      rw [show ((j : Int) + 1).toNat = j + 1 by omega, opC, sets_append, show i = j by omega]
      try rfl
  · refine Run.ret ?_
    rw [show j = n by omega]; rfl

theorem spec_l09Before_run (a b : List Int) (hl : a.length = b.length) (ha : a.length < 1000) : Run (fun k => spec_l09Before.f k a b) (· = ltL a b) := by
  unfold spec_l09Before.f
  refine Run.loop (L := fun q (i : Int) => spec_l09Before.l0 q a b i) (fun i => (a.length - i).toNat) (fun i => 0 ≤ i ∧ i ≤ a.length ∧ ltL a b = ltL (a.drop i.toNat) (b.drop i.toNat)) ?_ 0 ⟨by omega, by omega, rfl⟩
  rintro i ⟨h0, h3, hJ⟩ ih
  simp only [spec_l09Before.l0]
  refine Run.ite (fun h => ?_) (fun h => ?_)
  · have hd : a.drop i.toNat = a[i.toNat]'(by omega) :: a.drop (i.toNat + 1) := List.drop_eq_getElem_cons (by omega)
    have hd' : b.drop i.toNat = b[i.toNat]'(by omega) :: b.drop (i.toNat + 1) := List.drop_eq_getElem_cons (by omega)
    refine Run.bindE (Run.getI' h0 h) ?_
    refine Run.bindE (Run.getI' h0 (by omega)) ?_
    rw [hJ, hd, hd', ltL]
    refine Run.ite (fun h5 => ?_) (fun h5 => ?_)
    · rw [if_pos h5]
      refine Run.bindE (Run.getI' h0 h) ?_
      refine Run.bindE (Run.getI' h0 (by omega)) ?_
      exact Run.ret rfl
    · rw [w64_id (x := i + 1) (by omega), if_neg h5, show i.toNat + 1 = (i + 1).toNat by omega]
      have := ih (i + 1) ⟨by omega, by omega, ?_⟩ (by omega)
      · rw [show ltL a b = ltL (a.drop (i + 1).toNat) (b.drop (i + 1).toNat) by rw [hJ, hd, hd', ltL, if_neg h5, show i.toNat + 1 = (i + 1).toNat by omega]] at this
        exact this
      · rw [hJ, hd, hd', ltL, if_neg h5, show i.toNat + 1 = (i + 1).toNat by omega]
  · refine Run.ret ?_
    rw [hJ, List.drop_eq_nil_of_le (by omega)]; rfl

theorem spec_l09Least_run (n : Nat) (l : List Int) (hn : n ≤ 5) (hn1 : 1 ≤ n) (hl : l.length = tri n) : ∀ (d : Nat) (b best : List Int), b.length + d = n → best.length = l.length → (∀ p ∈ ords n d b, goodP n p = true) →
    Run (fun k => spec_l09Least.f k n l b best) (· = (ords n d b).foldl (stepP l n) best) := by
  have hN : tri n ≤ 10 := tri_mono (n := 5) (by omega)
  have hlen : ∀ (T : List (List Int)) (best : List Int), best.length = l.length → (T.foldl (stepP l n) best).length = l.length := by
    intro T
    induction T with
    | nil => intro best h; exact h
    | cons p T ih =>
      intro best h
      refine ih _ ?_
      unfold stepP; split
      · unfold renumP; rw [sets_length]
      · exact h
  intro d
  induction d with
  | zero =>
    intro b best hb hbest hq
    refine Run.step ?_
    simp only [spec_l09Least.f]
    refine Run.yes (by omega) ?_
    refine Run.bindE (spec_l09Renumbered_run n l b hn hn1 hl (hq b (List.mem_singleton.mpr rfl))) ?_
    refine Run.bindE (spec_l09Before_run _ best (by unfold renumP; rw [sets_length]; exact hbest.symm) (by unfold renumP; rw [sets_length]; omega)) ?_
    show Run _ (· = stepP l n best b)
    unfold stepP
    exact Run.ite (fun h => Run.ret (by rw [if_pos h])) (fun h => Run.ret (by rw [if_neg h]))
  | succ d ihd =>
    intro b best hb hbest hq
    refine Run.step ?_
    simp only [spec_l09Least.f]
    refine Run.no (by omega) ?_
    refine Run.loop (L := fun q (z : List Int × Int) => spec_l09Least.l0 q n l b z.1 z.2) (fun z => (n - z.2).toNat) (fun z => 0 ≤ z.2 ∧ z.2 ≤ n ∧ z.1 = (((List.range z.2.toNat).flatMap fun (i : Nat) => if b.contains (i : Int) = true then [] else ords n d (b ++ [(i : Int)])).foldl (stepP l n) best)) ?_ (best, 0) ⟨by simp only; omega, by simp only; omega, rfl⟩
    rintro ⟨s, i⟩ ⟨h0, h3, hs⟩ ih
    simp only at h0 h3 hs
    simp only [spec_l09Least.l0]
    obtain ⟨i, rfl⟩ := Int.eq_ofNat_of_zero_le h0
    simp only [Int.toNat_natCast] at ih hs ⊢
    have hsl : s.length = l.length := by rw [hs]; exact hlen _ _ hbest
    refine Run.ite (fun h => ?_) (fun h => ?_)
    · have next : ∀ s', s' = (if b.contains (i : Int) = true then [] else ords n d (b ++ [(i : Int)])).foldl (stepP l n) s → Run (fun q => spec_l09Least.l0 q n l b s' ((i : Int) + 1)) (· = (ords n (d + 1) b).foldl (stepP l n) best) := fun s' hs' => by
        refine ih (s', (i : Int) + 1) ⟨by simp only; omega, by simp only; omega, ?_⟩ (by simp only; omega)
        simp only
        rw [show ((i : Int) + 1).toNat = i + 1 by omega, List.range_succ, List.flatMap_append, List.foldl_append, ← hs, hs']
        simp only [List.flatMap_cons, List.flatMap_nil, List.append_nil]
      refine Run.loop (L := fun q (z : Bool × Int) => spec_l09Least.l1 q n l b s i z.1 z.2) (fun z => (b.length - z.2).toNat) (fun z => 0 ≤ z.2 ∧ z.2 ≤ b.length ∧ z.1 = (b.take z.2.toNat).contains (i : Int)) ?_ (false, 0) ⟨by simp only; omega, by simp only; omega, rfl⟩
      rintro ⟨c, j⟩ ⟨g0, g3, hc⟩ ih2
      simp only at g0 g3 hc
      simp only [spec_l09Least.l1]
      rw [w64_id (x := (i : Int) + 1) (by omega)]
      refine Run.ite (fun hj => ?_) (fun hj => ?_)
      · rw [w64_id (x := j + 1) (by omega)]
        have ht : b.take (j + 1).toNat = b.take j.toNat ++ [b[j.toNat]'(by omega)] := by
          rw [show (j + 1).toNat = j.toNat + 1 by omega, List.take_succ_eq_append_getElem (by omega)]
        refine Run.ite (fun h5 => ?_) (fun h5 => ?_)
        · refine ih2 (true, j + 1) ⟨by simp only; omega, by simp only; omega, ?_⟩ (by simp only; omega)
          simp only
          rw [ht, List.contains_eq_any_beq, List.any_append, ← List.contains_eq_any_beq, ← hc, h5, Bool.true_or]
        · refine Run.bindE (Run.getI' g0 hj) ?_
          refine ih2 (decide (b[j.toNat]'(by omega) = (i : Int)), j + 1) ⟨by simp only; omega, by simp only; omega, ?_⟩ (by simp only; omega)
          simp only
          rw [ht, List.contains_eq_any_beq, List.any_append, ← List.contains_eq_any_beq, ← hc, Bool.eq_false_iff.mpr h5, Bool.false_or]
          simp only [List.any_cons, List.any_nil, Bool.or_false]
          rw [Bool.eq_iff_iff]; simp; exact eq_comm
      · rw [List.take_of_length_le (by omega)] at hc
        refine Run.ite (fun h5 => ?_) (fun h5 => ?_)
        · exact next s (by rw [← hc, if_pos h5]; rfl)
        · refine Run.bindE (spec_l01Own_run b (by omega)) ?_
          refine Run.bindE (Run.push' (by omega)) ?_
          have hno : ¬ b.contains (i : Int) = true := by rw [← hc]; exact h5
          refine Run.bindE (ihd (b ++ [(i : Int)]) s (by simp; omega) hsl (fun p hp => hq p ?_)) ?_
          · rw [ords]
            refine List.mem_flatMap.mpr ⟨i, List.mem_range.mpr (by omega), ?_⟩
            rw [if_neg hno]; exact hp
          · exact next _ (by rw [if_neg hno])
    · refine Run.ret ?_
      rw [hs, show i = n by omega]; rfl

theorem spec_LeastPosition_run (n : Int) (l : List Int) (hl : l.length < 4611686018427387904) : Run (fun k => spec_LeastPosition.f k n l) (· = (if posCode n l = 0 then (leastM n l, 0) else ([], posCode n l))) := by
  unfold spec_LeastPosition.f
  refine Run.bindE (spec_l09Code_run n l hl) ?_
  refine Run.ite (fun h => Run.ret (by rw [if_neg h])) (fun h => ?_)
  have hz := Decidable.not_not.mp h
  obtain ⟨h1, h2, h3, h4⟩ := shape_of (posCode_zero hz).1
  have h5 := shape_one (posCode_zero hz).1
  have hN : tri n.toNat ≤ 10 := tri_mono (n := 5) (by omega)
  rw [if_pos hz]
  refine Run.bindE (spec_l01Own_run l (by omega)) ?_
  have hc := spec_l09Least_run n.toNat l h1 h5 h2 n.toNat [] l (by simp) rfl (fun p hp => ((Bool.and_eq_true _ _).mp (List.all_eq_true.mp (ords_good _ h1) p hp)).1)
  rw [h3] at hc
  refine Run.bindE hc ?_
  exact Run.ret rfl

theorem impl_in_run (n low high : Int) : Run (fun _ => impl_in.f n low high) (· = decide (low ≤ n ∧ n ≤ high)) := by
  unfold impl_in.f
  refine Run.ite (fun h => ?_) (fun h => ?_)
  · refine Run.ret (decide_eq_decide.mpr ?_); omega
  · refine Run.ret ((decide_eq_false ?_).symm); omega

theorem impl_size_int64_run (l : List Int) : Run (fun _ => impl_size_int64.f l) (· = (l.length : Int)) := by
  unfold impl_size_int64.f
  exact Run.ret rfl

theorem impl_areIn_1_run (n lo hi : Int) : Run (fun _ => impl_areIn_1.f n lo hi) (· = !decide (lo ≤ n ∧ n ≤ hi)) := by
  unfold impl_areIn_1.f
  refine Run.bindE (impl_in_run _ _ _) ?_
  exact Run.ret rfl
end Go.Proofs.Ytfbdcidedjocdaa.P
