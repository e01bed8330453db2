/- What the pure functions come to, one by one (part 5). -/
import Derived.Test.YtdpamdedomkomaaPFnExactCountTriangles4
import Derived.Test.YtdpamdedomkomaaGFnExactCountTriangles6
namespace Go.Proofs.Ytdpamdedomkomaa.P
open Go Go.RowKit Go.Proofs.Ytdpamdedomkomaa.K Go.Proofs.Ytdpamdedomkomaa.G
set_option linter.unusedVariables false
set_option linter.unusedSimpArgs false

theorem impl_Colouring_countThat__anyList_run (x : Col) (hx : ByteC x) (hp : 0 ≤ x.p ∧ x.p ≤ 17) (c : Int) (m : Nat) : Run (fun k => impl_Colouring_countThat__anyList.f k x c m) (· = (cnum (fun i j => joinsB x i c j) (upF (fun _ => true) 0 x.p.toNat) m : Int)) := by
  unfold impl_Colouring_countThat__anyList.f
  refine Run.bindE (impl_Colouring_cliques__Colouring_countThat_1__anyList_run x hx hp c m x.p.toNat (by omega) (x.p.toNat + 1) [] 0 (by simp [nextP]) (by simp) (by simp [nextP]) (fun i hi => by cases hi)) ?_
  have hF : upF (withB x c []) (nextP []) x.p.toNat = upF (fun _ => true) 0 x.p.toNat := rfl
  have hl := upF_length (fun _ => true) 0 x.p.toNat
  have hd := dfs_size (fun i j => joinsB x i c j) (x.p.toNat + 1) [] (upF (fun _ => true) 0 x.p.toNat)
  have h2 : 2 ^ (upF (fun _ => true) 0 x.p.toNat).length ≤ 2 ^ 17 := Nat.pow_le_pow_right (by omega) (by omega)
  have hc := runL_count (fun L : List Nat => decide ((L.length : Int) = (m : Int))) (dfs (fun i j => joinsB x i c j) (x.p.toNat + 1) [] (upF (fun _ => true) 0 x.p.toNat)) 0 (by omega)
  have hn := dfs_count (fun i j => joinsB x i c j) (x.p.toNat + 1) [] (upF (fun _ => true) 0 x.p.toNat) m (by omega)
  have e : (fun M : List Nat => decide (M.length = ([] : List Nat).length + m)) = fun L : List Nat => decide ((L.length : Int) = (m : Int)) := by
    funext M; exact decide_eq_decide.mpr (by simp; omega)
  rw [e] at hn
  refine Run.ret ?_
  rw [hF]
  refine (congrArg Prod.snd hc).trans ?_
  rw [hn, Nat.zero_add]

theorem impl_Colouring_triangles_run (x : Col) (hx : ByteC x) (hp : 0 ≤ x.p ∧ x.p ≤ 17) (hk : 0 ≤ x.k ∧ x.k ≤ 1000) : Run (fun k => impl_Colouring_triangles.f k x) (· = trisM x x.k.toNat) := by
  unfold impl_Colouring_triangles.f
  refine Run.loop (L := fun q (z : List Int × Int) => impl_Colouring_triangles.l0 q x z.1 z.2) (fun z => (x.k - z.2).toNat) (fun z => 0 ≤ z.2 ∧ z.2 ≤ x.k ∧ z.1 = trisM x z.2.toNat) ?_ ([], 0) ⟨by simp only; omega, by simp only; omega, rfl⟩
  rintro ⟨l, j⟩ ⟨h0, h3, hl⟩ ih
  simp only at h0 h3 hl
  subst hl
  simp only [impl_Colouring_triangles.l0]
  obtain ⟨j, rfl⟩ := Int.eq_ofNat_of_zero_le h0
  simp only [Int.toNat_natCast] at ih ⊢
  refine Run.ite (fun h => ?_) (fun h => ?_)
  · rw [w64_id (x := (j : Int) + 1) (by omega)]
    refine Run.bindE (impl_Colouring_countThat__anyList_run x hx hp j 3) ?_
    refine Run.bindE (Run.push' (by rw [trisM_length]; omega)) ?_
    refine ih (_, (j : Int) + 1) ⟨by simp only; omega, by simp only; omega, ?_⟩ (by simp only; omega)
    simp only
    rw [show ((j : Int) + 1).toNat = j + 1 by omega, trisM_succ]
  · refine Run.ret ?_
    rw [show x.k.toNat = j by omega]

theorem impl_CountTriangles_run (x : Col) (hx : ByteC x) : Run (fun k => impl_CountTriangles.f k x) (· = triM x) := by
  unfold impl_CountTriangles.f
  refine Run.bindE (impl_Colouring_code__always_run x hx) ?_
  rw [triM]
  by_cases h1 : isB x = true
  · have hk := (isB_spec h1).2.1
    have h17 := (isB_spec h1).1
    rw [if_pos h1, given, if_pos h1, if_pos rfl]
    refine Run.no (fun h => h rfl) ?_
    refine Run.bindE (impl_Colouring_triangles_run x hx (by omega) (by omega)) ?_
    exact Run.ret rfl
  · rw [if_neg h1, given, if_neg h1]
    exact Run.yes (by decide) (Run.ret rfl)

theorem laws_eqInt64S_run (a b : List Int) (ha : a.length < 4611686018427387904) : Run (fun k => laws_eqInt64S.f k a b) (· = decide (a = b)) := by
  unfold laws_eqInt64S.f
  refine Run.ite (fun h => ?_) (fun h => ?_)
  · exact Run.ret (decide_eq_false fun e => h (by rw [e])).symm
  have hl : a.length = b.length := by omega
  refine Run.loop (L := fun q (i : Int) => laws_eqInt64S.l0 q a b i) (fun i => (a.length - i).toNat) (fun i => 0 ≤ i ∧ i ≤ a.length ∧ ∀ (j : Nat) (h : j < a.length), (j : Int) < i → a[j] = b[j]'(by omega)) ?_ 0 ⟨by omega, by omega, fun j _ hj => by omega⟩
  rintro i ⟨h0, h3, hJ⟩ ih
  simp only [laws_eqInt64S.l0]
  refine Run.ite (fun h => ?_) (fun h => ?_)
  · refine Run.bindE (Run.getI' h0 h) ?_
    refine Run.bindE (Run.getI' h0 (by omega)) ?_
    refine Run.ite (fun h5 => ?_) (fun h5 => ?_)
    · exact Run.ret (decide_eq_false fun e => h5 (by simp only [e])).symm
    · rw [w64_id (by omega)]
      refine ih (i + 1) ⟨by omega, by omega, fun j hj hji => ?_⟩ (by omega)
      by_cases ej : (j : Int) < i
      · exact hJ j hj ej
      · obtain rfl : j = i.toNat := by omega
        exact Decidable.not_not.mp h5
  · exact Run.ret (decide_eq_true (List.ext_getElem hl fun j h1 h2 => hJ j h1 (by omega))).symm

theorem laws_markInt64S_run (a : List Int) (k0 : Int) (hk : 0 ≤ k0 ∧ k0 < 1000000000) (ha : a.length < 4611686018427387904) : Run (fun k => laws_markInt64S.f k a k0) (· = (k0 + a.length, seqI k0 a.length)) := by
  unfold laws_markInt64S.f
  refine Run.loop (L := fun q (s : List Int × Int × Int) => laws_markInt64S.l0 q s.1 s.2.1 s.2.2) (fun s => (a.length - s.2.2).toNat) (fun s => 0 ≤ s.2.2 ∧ s.2.2 ≤ a.length ∧ s.2.1 = k0 + s.2.2 ∧ s.1 = seqI k0 s.2.2.toNat ++ a.drop s.2.2.toNat) ?_ (a, k0, 0) ⟨by simp only; omega, by simp only; omega, by simp, by simp [seqI]⟩
  rintro ⟨l, v, i⟩ ⟨h0, h3, hv, hl⟩ ih
  simp only at h0 h3 hv hl
  simp only [laws_markInt64S.l0]
  have hlen : l.length = a.length := by rw [hl]; simp [seqI]; omega
  refine Run.ite (fun h => ?_) (fun h => ?_)
  · refine Run.bindE (Run.getI' h0 h) ?_
    rw [w64_id (x := v + 1) (by omega), w64_id (x := i + 1) (by omega)]
    refine ih (_, v + 1, i + 1) ⟨by simp only; omega, by simp only; omega, by simp only; omega, ?_⟩ (by simp only; omega)
    simp only
    have hd : a.drop i.toNat = a[i.toNat]'(by omega) :: a.drop (i.toNat + 1) := List.drop_eq_getElem_cons (by omega)
    rw [hl, hd, set_append (by simp [seqI]), show (i + 1).toNat = i.toNat + 1 by omega]
    simp only [seqI, List.range_succ, List.map_append, List.append_assoc, List.map_cons, List.map_nil, List.singleton_append]
    rw [hv, show ((i.toNat : Nat) : Int) = i by omega]
  · have : i = a.length := by omega
    subst this
    refine Run.ret ?_
    rw [hl, hv]; simp

theorem laws_heldInt64S_run (n : Nat) (k0 : Int) (hk : 0 ≤ k0 ∧ k0 < 1000000000) (hn : n < 4611686018427387904) : Run (fun k => laws_heldInt64S.f k (seqI k0 n) k0) (· = k0 + n) := by
  unfold laws_heldInt64S.f
  have hlen : (seqI k0 n).length = n := by simp [seqI]
  refine Run.loop (L := fun q (s : Int × Int) => laws_heldInt64S.l0 q (seqI k0 n) s.1 s.2) (fun s => (n - s.2).toNat) (fun s => 0 ≤ s.2 ∧ s.2 ≤ n ∧ s.1 = k0 + s.2) ?_ (k0, 0) ⟨by simp only; omega, by simp only; omega, by simp⟩
  rintro ⟨v, i⟩ ⟨h0, h3, hv⟩ ih
  simp only at h0 h3 hv
  simp only [laws_heldInt64S.l0]
  rw [hlen]
  refine Run.ite (fun h => ?_) (fun h => ?_)
  · refine Run.bindE (Run.getI' h0 (by omega)) ?_
    refine Run.no ?_ ?_
    · simp only [seqI, List.getElem_map, List.getElem_range]; omega
    rw [w64_id (x := v + 1) (by omega), w64_id (x := i + 1) (by omega)]
    exact ih (v + 1, i + 1) ⟨by simp only; omega, by simp only; omega, by simp only; omega⟩ (by simp only; omega)
  · exact Run.ret (by omega)

theorem laws_FnExactCountTriangles_run (x : Col) (hx : ByteC x) : Run (fun k => laws_FnExactCountTriangles.f k x) (· = true) := by
  unfold laws_FnExactCountTriangles.f
  have hx' := cutC_bytes hx
  have hlen : (triM (cutC x)).1.length ≤ 1000 := by
    unfold triM
    split
    · next h =>
      have h1 := (isB_spec h).2.1
      rw [trisM_length]; omega
    · simp
  refine Run.bindE (laws_toColouring_run x) ?_
  refine Run.bindE (spec_CountTriangles_run _ hx') ?_
  refine Run.bindE (laws_toColouring_run x) ?_
  refine Run.bindE (impl_CountTriangles_run _ hx') ?_
  refine Run.bindE (laws_eqInt64S_run _ _ (by omega)) ?_
  refine Run.yes (decide_eq_true rfl) (Run.no (fun h => h rfl) ?_)
  refine Run.bindE (laws_markInt64S_run _ 1 (by omega) (by omega)) ?_
  refine Run.bindE (laws_heldInt64S_run _ 1 (by omega) (by omega)) ?_
  refine Run.no (by omega) (Run.no (fun h => h rfl) ?_)
  refine Run.bindE (laws_toColouring_run x) ?_
  refine Run.bindE (impl_CountTriangles_run _ hx') ?_
  refine Run.bindE (laws_eqInt64S_run _ _ (by omega)) ?_
  refine Run.yes (decide_eq_true rfl) (Run.no (fun h => h rfl) ?_)
  refine Run.bindE (laws_heldInt64S_run _ 1 (by omega) (by omega)) ?_
  exact Run.no (by omega) (Run.no (fun h => h rfl) (Run.ret rfl))
end Go.Proofs.Ytdpamdedomkomaa.P
