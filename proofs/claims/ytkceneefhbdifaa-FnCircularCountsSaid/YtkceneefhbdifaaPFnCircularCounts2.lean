/- What the pure functions come to, one by one (part 2). -/
import Derived.Test.YtkceneefhbdifaaPFnCircularCounts00
import Derived.Test.YtkceneefhbdifaaGFnCircularCounts10
namespace Go.Proofs.Ytkceneefhbdifaa.P
open Go Go.RowKit Go.Proofs.Ytkceneefhbdifaa.K Go.Proofs.Ytkceneefhbdifaa.G
set_option linter.unusedVariables false
set_option linter.unusedSimpArgs false

theorem laws_big_run (l : List Int) : Run (fun _ => laws_big.f l) (· = decide ((l.length : Int) > 4096)) := by
  unfold laws_big.f
  exact Run.ret rfl

theorem spec_l01From_run (l : List Int) (hl : l.length ≤ 4096) : Run (fun k => spec_l01From.f k l) (fun r => r.1 = l ∧ r.2.1 = 0) := by
  unfold spec_l01From.f
  refine Run.loop (L := fun q (z : List Int × Int × Int × Int) => spec_l01From.l0 q l z.1 z.2.1 z.2.2.1 z.2.2.2) (fun z => (l.length - z.2.2.2).toNat) (fun z => 0 ≤ z.2.2.2 ∧ z.2.2.2 ≤ l.length ∧ z.1 = l ∧ z.2.1 = 0) ?_ (l, 0, _, 0) ⟨by simp only; omega, by simp only; omega, rfl, rfl⟩
  rintro ⟨s, a, h, i⟩ ⟨i0, i1, hs, ha⟩ ih
  simp only at i0 i1 hs ha ih ⊢
  simp only [spec_l01From.l0]
  refine Run.ite (fun hi => ?_) (fun hi => Run.ret ⟨hs, ha⟩)
  refine Run.ite (fun hi2 => ?_) (fun hi2 => Run.ret ⟨hs, ha⟩)
  refine Run.bind (Q := fun _ => True) ((Run.getI' i0 hi).mono fun _ _ => trivial) fun t _ => ?_
  rw [w64_id (x := i + 1) (by omega)]
  exact ih (_, _, _, i + 1) ⟨by simp only; omega, by simp only; omega, hs, ha⟩ (by simp only; omega)

theorem spec_l01Next_run (s : List Int) (hs : ∀ v ∈ s, 0 ≤ v ∧ v < 256) (hl : s.length ≤ 4096) (a h n : Int) (ha : 0 ≤ a) (hn : 1 ≤ n) : Run (fun _ => spec_l01Next.f s a h n) (fun r => (0 ≤ r.1 ∧ r.1 < n) ∧ r.2.1 = s ∧ 0 ≤ r.2.2.1) := by
  unfold spec_l01Next.f
  refine Run.no (by omega) ?_
  have hand := fun X => andu_range X 16777215 (by decide)
  have h1 := hand (shrI .u64 (wu64 ((wu64 (h * 6364136223846793005)) + 1442695040888963407)) 33)
  rw [show ((16777215 : Nat) : Int) = 16777215 from rfl] at h1
  generalize bitop .and .u64 (shrI .u64 (wu64 ((wu64 (h * 6364136223846793005)) + 1442695040888963407)) 33) 16777215 = y at h1 ⊢
  generalize wu64 ((wu64 (h * 6364136223846793005)) + 1442695040888963407) = g
  rw [w64_id (x := y) (by omega)]
  refine Run.ite (fun hlt => ?_) (fun hlt => ?_)
  · refine Run.bind (Q := fun t => 0 ≤ t ∧ t < 256) (Run.getI ha hlt (hs _ (List.getElem_mem _))) fun t ht => ?_
    refine Run.bind (Q := fun _ => True) (Run.guard (by omega) trivial) fun _ _ => ?_
    rw [w64_id (x := t) (by omega), w64_id (x := y + t) (by omega), w64_id (x := a + 1) (by omega)]
    refine Run.ret ⟨⟨Int.tmod_nonneg _ (by omega), Int.tmod_lt_of_pos _ (by omega)⟩, rfl, ?_⟩
    simp only; omega
  · refine Run.bind (Q := fun _ => True) (Run.guard (by omega) trivial) fun _ _ => ?_
    exact Run.ret ⟨⟨Int.tmod_nonneg _ (by omega), Int.tmod_lt_of_pos _ (by omega)⟩, rfl, ha⟩

theorem spec_l01Pick_run (s : List Int) (hs : ∀ v ∈ s, 0 ≤ v ∧ v < 256) (hl : s.length ≤ 4096) (a h : Int) (ha : 0 ≤ a) (l : List Int) (h1 : 1 ≤ l.length) : Run (fun _ => spec_l01Pick.f s a h l) (fun r => r.2.1 = s ∧ 0 ≤ r.2.2.1) := by
  unfold spec_l01Pick.f
  refine Run.bind (spec_l01Next_run s hs hl a h (l.length : Int) ha (by omega)) fun r hr => ?_
  refine Run.bind (Q := fun _ => True) ((Run.getI' hr.1.1 hr.1.2).mono fun _ _ => trivial) fun t _ => ?_
  exact Run.ret hr.2

theorem spec_l01Near_run (s : List Int) (hs : ∀ v ∈ s, 0 ≤ v ∧ v < 256) (hl : s.length ≤ 4096) (a h : Int) (ha : 0 ≤ a) : Run (fun _ => spec_l01Near.f s a h 11) (fun r => r.2.1 = s ∧ 0 ≤ r.2.2.1) := by
  unfold spec_l01Near.f
  refine Run.bind (spec_l01Next_run s hs hl a h 14 ha (by omega)) fun r hr => ?_
  obtain ⟨_, e1, e2⟩ := hr
  rw [e1]
  refine Run.ite (fun h0 => ?_) (fun h0 => ?_)
  · refine Run.bind (spec_l01Pick_run s hs hl _ _ e2 _ (by simp)) fun t ht => ?_
    exact Run.ret ht
  · refine Run.bind (spec_l01Next_run s hs hl _ _ _ e2 (by rw [w64_id (by omega)]; omega)) fun t ht => ?_
    exact Run.ret ht.2

theorem spec_l03DrawSizes_run (s : List Int) (hs : ∀ v ∈ s, 0 ≤ v ∧ v < 256) (hl : s.length ≤ 4096) (a h : Int) (ha : 0 ≤ a) : Run (fun _ => spec_l03DrawSizes.f s a h) (fun r => r.1.length ≤ 3) := by
  unfold spec_l03DrawSizes.f
  refine Run.bind (spec_l01Pick_run s hs hl a h ha _ (by simp)) fun r hr => ?_
  rw [hr.1]
  refine Run.bind (spec_l01Pick_run s hs hl _ _ hr.2 _ (by simp)) fun t ht => ?_
  rw [ht.1]
  refine Run.bind (spec_l01Next_run s hs hl _ _ 16 ht.2 (by omega)) fun u hu => ?_
  obtain ⟨_, e1, e2⟩ := hu
  rw [e1]
  refine Run.ite (fun h0 => ?_) (fun h0 => ?_)
  · refine Run.bindE (Run.push' (by simp)) ?_
    exact Run.ret (by simp)
  refine Run.ite (fun h1 => ?_) (fun h1 => Run.ret (by simp))
  refine Run.bind (spec_l01Pick_run s hs hl _ _ e2 _ (by simp)) fun v hv => ?_
  refine Run.bind (Q := fun _ => True) ((Run.getI' (by omega) (by simp)).mono fun _ _ => trivial) fun _ _ => ?_
  exact Run.ret (by simp)

theorem spec_DrawFirstCircular_run (l : List Int) (hs : ∀ v ∈ l, 0 ≤ v ∧ v < 256) (hl : l.length ≤ 4096) : Run (fun k => spec_DrawFirstCircular.f k l) (fun r => r.2.length ≤ 3) := by
  unfold spec_DrawFirstCircular.f
  refine Run.bind (spec_l01From_run l hl) fun r hr => ?_
  rw [hr.1, hr.2]
  refine Run.bind (spec_l01Near_run l hs hl 0 _ (by omega)) fun t ht => ?_
  rw [ht.1]
  refine Run.bind (spec_l03DrawSizes_run l hs hl _ _ ht.2) fun u hu => ?_
  exact Run.ret hu

theorem impl_in_run (n low high : Int) : Run (fun _ => impl_in.f n low high) (· = decide (low ≤ n ∧ n ≤ high)) := by
  unfold impl_in.f
  refine Run.ite (fun h => ?_) (fun h => ?_)
  · refine Run.ret (decide_eq_decide.mpr ?_); omega
  · refine Run.ret ((decide_eq_false ?_).symm); omega

theorem impl_size_int64_run (l : List Int) : Run (fun _ => impl_size_int64.f l) (· = (l.length : Int)) := by
  unfold impl_size_int64.f
  exact Run.ret rfl

theorem impl_areIn_1_run (n lo hi : Int) : Run (fun _ => impl_areIn_1.f n lo hi) (· = !decide (lo ≤ n ∧ n ≤ hi)) := by
  unfold impl_areIn_1.f
  refine Run.bindE (impl_in_run _ _ _) ?_
  exact Run.ret rfl

theorem slices_IndexFunc_int64_int64__areIn_1_run (list : List Int) (lo hi : Int) (hl : list.length < 4611686018427387904) : Run (fun k => slices_IndexFunc_int64_int64__areIn_1.f k list lo hi) (fun r => decide (r ≥ 0) = !allIn list lo hi) := by
  unfold slices_IndexFunc_int64_int64__areIn_1.f
  refine Run.loop (L := fun q (i : Int) => slices_IndexFunc_int64_int64__areIn_1.l0 q list lo hi i) (fun i => (list.length - i).toNat) (fun i => 0 ≤ i ∧ i ≤ list.length ∧ allIn list lo hi = allIn (list.drop i.toNat) lo hi) ?_ 0 ⟨by omega, by omega, rfl⟩
  rintro i ⟨h0, h3, hJ⟩ ih
  simp only [slices_IndexFunc_int64_int64__areIn_1.l0]
  refine Run.ite (fun h => ?_) (fun h => ?_)
  · have hd : list.drop i.toNat = list[i.toNat]'(by omega) :: list.drop (i.toNat + 1) := List.drop_eq_getElem_cons (by omega)
    refine Run.bindE (Run.getI' h0 h) ?_
    rw [w64_id (x := i + 1) (by omega)]
    refine Run.bindE (impl_areIn_1_run _ _ _) ?_
    refine Run.ite (fun h5 => ?_) (fun h5 => ?_)
    · refine Run.ret ?_
      rw [hJ, hd, allIn_cons]
      simp only [Bool.not_eq_true'] at h5
      rw [h5, Bool.false_and, Bool.not_false]
      exact decide_eq_true h0
    · refine ih (i + 1) ⟨by omega, by omega, ?_⟩ (by omega)
      simp only [Bool.not_eq_true', Bool.not_eq_false] at h5
      rw [hJ, hd, show (i + 1).toNat = i.toNat + 1 by omega, allIn_cons, h5, Bool.true_and]
  · refine Run.ret ?_
    rw [hJ, List.drop_eq_nil_of_le (by omega)]; rfl

theorem slices_ContainsFunc_int64_int64__areIn_1_run (list : List Int) (lo hi : Int) (hl : list.length < 4611686018427387904) : Run (fun k => slices_ContainsFunc_int64_int64__areIn_1.f k list lo hi) (· = !allIn list lo hi) := by
  unfold slices_ContainsFunc_int64_int64__areIn_1.f
  refine Run.bind (slices_IndexFunc_int64_int64__areIn_1_run list lo hi hl) fun r hr => ?_
  exact Run.ret hr

theorem impl_areIn_run (list : List Int) (many lo hi : Int) (hl : list.length < 4611686018427387904) : Run (fun k => impl_areIn.f k list many lo hi) (· = (decide ((list.length : Int) = many) && allIn list lo hi)) := by
  unfold impl_areIn.f
  refine Run.bindE (impl_size_int64_run list) ?_
  refine Run.ite (fun h => ?_) (fun h => ?_)
  · refine Run.bindE (slices_ContainsFunc_int64_int64__areIn_1_run list lo hi hl) ?_
    exact Run.ret (by rw [decide_eq_true h, Bool.true_and, Bool.not_not])
  · exact Run.ret (by rw [decide_eq_false h, Bool.false_and])

theorem impl_areTwo_run (l : List Int) (hl : l.length ≤ 3) : Run (fun k => impl_areTwo.f k l) (· = twoB l) := by
  unfold impl_areTwo.f
  refine Run.bindE (impl_areIn_run l 2 2 6 (by omega)) ?_
  exact Run.ret rfl

theorem impl_distance_run (i j n : Nat) (hij : i ≤ j) (hj : j ≤ n) (hn : n ≤ 1000) : Run (fun _ => impl_distance.f n i j) (· = (min (j - i) (n - (j - i)) : Nat)) := by
  unfold impl_distance.f
  refine Run.ret ?_
  rw [show max (i : Int) (j : Int) = j by omega, show min (i : Int) (j : Int) = i by omega, w64_id (x := (j : Int) - i) (by omega), w64_id (x := (n : Int) - ((j : Int) - i)) (by omega)]
  omega

theorem impl_circularOf_1_run (i j n : Nat) (l : List Int) (hij : i < j) (hj : j < n) (hn : n ≤ 17) (hl : l.length = n / 2) : Run (fun _ => impl_circularOf_1.f i j l n) (· = l.getD (min (j - i) (n - (j - i)) - 1) 0) := by
  unfold impl_circularOf_1.f
  refine Run.bindE (impl_distance_run i j n (by omega) (by omega) (by omega)) ?_
  rw [w64_id (by omega)]
  refine Run.bindE (Run.getI' (by omega) (by omega)) ?_
  refine Run.ret ?_
  rw [List.getD_eq_getElem?_getD, List.getElem?_eq_getElem (by omega), Option.getD_some]
  congr 1
  omega

theorem impl_number_run (i j : Nat) (hi : i ≤ 1000) (hj : j ≤ 1000) : Run (fun _ => impl_number.f i j) (· = (edg i j : Int)) := by
  unfold impl_number.f
  have hm : (max i j) ≤ 1000 := by omega
  have ti := tri_mono hm
  have tt : tri 1000 = 499500 := rfl
  rw [show max (i : Int) (j : Int) = ((max i j : Nat) : Int) by omega, show min (i : Int) (j : Int) = ((min i j : Nat) : Int) by omega]
  refine Run.ret ?_
  rw [tri_int (by omega), w64_id (by omega), edg]
  split
  · rw [show max i j = i by omega, show min i j = j by omega]; rfl
  · rw [show max i j = j by omega, show min i j = i by omega]; rfl

theorem impl_Colouring_put_run (x : Col) (i j : Nat) (c : Int) (hi : i < j) (hj : j < 17) : Run (fun _ => impl_Colouring_put.f x i j c) (· = ⟨x.p, x.k, upd x.e (tri j + i) (w8 c)⟩) := by
  unfold impl_Colouring_put.f
  refine Run.bindE (impl_number_run i j (by omega) (by omega)) ?_
  have := low136 hi hj
  rw [edg_low hi]
  refine Run.bindE (Run.getB' (by omega) (by omega)) ?_
  exact Run.ret rfl
end Go.Proofs.Ytkceneefhbdifaa.P
