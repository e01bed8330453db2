/- What the pure functions come to, one by one (part 7). -/
import Derived.Test.YtjhcacfhahpdgaaPFnExactLongestPath6
import Derived.Test.YtjhcacfhahpdgaaGFnExactLongestPath8
namespace Go.Proofs.Ytjhcacfhahpdgaa.P
open Go Go.RowKit Go.Proofs.Ytjhcacfhahpdgaa.K Go.Proofs.Ytjhcacfhahpdgaa.G
set_option linter.unusedVariables false
set_option linter.unusedSimpArgs false

theorem impl_Colouring_path_go (x : Col) (hx : ByteC x) (c : Int) (hp : 0 ≤ x.p ∧ x.p ≤ 17) : ∀ (m U l : Nat) (pre : List Int) (M : List ((Int × Int) × Int)), U < 2 ^ x.p.toNat → l < x.p.toNat → LMem (fun i j => joinsB x i c j) x.p.toNat M → IsB (fun i j => joinsB x i c j) x.p.toNat U l (m : Int) → pre.length + m ≤ 100 → Run (fun q => impl_Colouring_path.l1 q x c (pre ++ [(l : Int)]) M (U : Int) (m : Int)) (· = pre ++ [(l : Int)] ++ gM (fun i j => joinsB x i c j) x.p.toNat m U l)
  | 0, U, l, pre, M, hU, hl, hM, hB, hlen => by
    refine Run.step ?_
    simp only [impl_Colouring_path.l1]
    refine Run.no (by omega) (Run.ret ?_)
    rw [gM, List.append_nil]
  | m + 1, U, l, pre, M, hU, hl, hM, hB, hlen => by
    refine Run.step ?_
    simp only [impl_Colouring_path.l1]
    have hm2 : (2 : Nat) ^ x.p.toNat ≤ 2 ^ 17 := Nat.pow_le_pow_right (by omega) (by omega)
    refine Run.yes (by omega) ?_
    have hlg : (pre ++ [(l : Int)]).length = pre.length + 1 := by rw [List.length_append, List.length_singleton]
    rw [w64_id (x := ((pre ++ [(l : Int)]).length : Int) - 1) (by omega)]
    refine Run.bindE (Run.getI' (by omega) (by omega)) ?_
    have eg : (pre ++ [(l : Int)])[((((pre ++ [(l : Int)]).length : Nat) : Int) - 1).toNat]'(by omega) = (l : Int) := by
      have e : ((((pre ++ [(l : Int)]).length : Nat) : Int) - 1).toNat = pre.length := by omega
      simp only [e]
      simp
    rw [eg]
    refine Run.bindE (impl_Colouring_neighbours_run x hx hp l c (by omega)) ?_
    rw [sel_upF]
    obtain ⟨p0, r0, hpr⟩ := gM_some ((hB.2 (m + 1)).mpr (by omega))
    rw [gM, hpr]
    simp only
    have hfil : upF (gNext (fun i j => joinsB x i c j) x.p.toNat m U l) 0 x.p.toNat = (upF (joinsB x l c) 0 x.p.toNat).filter fun p => (!U.testBit p) && rp (fun i j => joinsB x i c j) x.p.toNat m (U ||| 2 ^ p) p := by
      rw [upF_filter]
      exact upF_congr fun j _ _ => by unfold gNext; rw [Bool.and_assoc]
    rw [hfil] at hpr
    have hmem : ∀ p ∈ upF (joinsB x l c) 0 x.p.toNat, p < x.p.toNat ∧ joinsB x l c p = true := fun p h => by have := mem_upF.mp h; exact ⟨this.1.2, this.2⟩
    have hFl := upF_length (joinsB x l c) 0 x.p.toNat
    clear hfil
    generalize upF (joinsB x l c) 0 x.p.toNat = F at hmem hFl hpr
    refine Run.loop (L := fun q (z : List ((Int × Int) × Int) × Int) => impl_Colouring_path.l2 q x c (pre ++ [(l : Int)]) (U : Int) ((m + 1 : Nat) : Int) (F.map Int.ofNat) z.1 z.2) (fun z => (F.length - z.2).toNat)
      (fun z => 0 ≤ z.2 ∧ z.2 ≤ F.length ∧ LMem (fun i j => joinsB x i c j) x.p.toNat z.1 ∧ (F.drop z.2.toNat).filter (fun p => (!U.testBit p) && rp (fun i j => joinsB x i c j) x.p.toNat m (U ||| 2 ^ p) p) = p0 :: r0) ?_ (M, 0) ⟨by simp only; omega, by simp only; omega, hM, hpr⟩
    rintro ⟨M', j⟩ ⟨j0, j1, hM', hd⟩ ih
    simp only at j0 j1 hM' hd
    obtain ⟨j, rfl⟩ := Int.eq_ofNat_of_zero_le j0
    simp only [Int.toNat_natCast] at ih hd ⊢
    simp only [impl_Colouring_path.l2, List.length_map]
    refine Run.ite (fun hj => ?_) (fun hj => ?_)
    rotate_left
    · rw [List.drop_eq_nil_of_le (by omega), List.filter_nil] at hd
      cases hd
    obtain ⟨hpn, hpg⟩ := hmem (F[j]'(by omega)) (List.getElem_mem (by omega))
    rw [show F.drop j = F[j]'(by omega) :: F.drop (j + 1) from List.drop_eq_getElem_cons (by omega), List.filter_cons] at hd
    have ex : (F.map Int.ofNat)[((j : Nat) : Int).toNat]'(by rw [List.length_map]; omega) = ((F[j]'(by omega) : Nat) : Int) := by rw [List.getElem_map]; rfl
    refine Run.bindE (Run.getI' (by omega) (by rw [List.length_map]; omega)) ?_
    rw [ex]
    generalize F[j]'(by omega) = p at hpn hpg hd
    have next : ∀ M'', LMem (fun i j => joinsB x i c j) x.p.toNat M'' → ¬ ((!U.testBit p) && rp (fun i j => joinsB x i c j) x.p.toNat m (U ||| 2 ^ p) p) = true → Run (fun q => impl_Colouring_path.l2 q x c (pre ++ [(l : Int)]) (U : Int) ((m + 1 : Nat) : Int) (F.map Int.ofNat) M'' ((j : Int) + 1)) (· = pre ++ [(l : Int)] ++ (p0 : Int) :: gM (fun i j => joinsB x i c j) x.p.toNat m (U ||| 2 ^ p0) p0) := fun M'' h1 h2 => by
      rw [if_neg h2] at hd
      refine ih (M'', (j : Int) + 1) ⟨by simp only; omega, by simp only; omega, h1, ?_⟩ (by simp only; omega)
      simp only
      rw [show ((j : Int) + 1).toNat = j + 1 by omega]
      exact hd
    refine Run.bind (Q := fun _ => True) (Run.guard (by omega) trivial) fun _ _ => ?_
    rw [w64_id (x := (j : Int) + 1) (by omega)]
    refine Run.ite (fun h1 => ?_) (fun h1 => next M' hM' fun hq => ?_)
    rotate_left
    · rw [Bool.and_eq_true, Bool.not_eq_true'] at hq
      exact h1 ((bit64z (by omega) (by omega)).mpr hq.1)
    have hbit := (bit64z (by omega) (by omega)).mp h1
    have hgt := or_gt hU hpn hbit
    have hin := or_in hU hpn
    have hpi : (2 : Nat) ^ p ≤ 2 ^ 17 := Nat.pow_le_pow_right (by omega) (by omega)
    refine Run.bind (Q := fun _ => True) (Run.guard (by omega) trivial) fun _ _ => ?_
    rw [shl64 (by omega), or64 (by omega) (by omega)]
    refine Run.bind (impl_longest_behind_run x hx c hp (2 ^ x.p.toNat) (U ||| 2 ^ p) p M' hin hpn (by omega) hM') fun r hr => ?_
    obtain ⟨hv, hr2⟩ := hr
    rw [w64_id (x := ((m + 1 : Nat) : Int) - 1) (by omega)]
    have hle : r.1 ≤ m := by
      have h2 := (hv.2 r.1.toNat).mpr (by have := hv.1; omega)
      have h3 := (hB.2 (r.1.toNat + 1)).mp (rp_succ.mpr ⟨p, hpn, hpg, hbit, h2⟩)
      omega
    refine Run.ite (fun h3 => ?_) (fun h3 => next r.2 hr2 fun hq => ?_)
    rotate_left
    · rw [Bool.and_eq_true] at hq
      have := (hv.2 m).mp hq.2
      omega
    have hrp := (hv.2 m).mpr (by omega)
    rw [if_pos (by rw [hbit, hrp]; rfl)] at hd
    obtain ⟨e1, e2⟩ := List.cons.inj hd
    subst e1
    refine Run.bind (Q := fun _ => True) (Run.guard (by omega) trivial) fun _ _ => ?_
    refine Run.bindE (Run.push' (by omega)) ?_
    have hlast := impl_Colouring_path_go x hx c hp m (U ||| 2 ^ p) p (pre ++ [(l : Int)]) r.2 hin hpn hr2 (by rw [show r.1 = (m : Int) by omega] at hv; exact hv) (by omega)
    rw [show ((m + 1 : Nat) : Int) - 1 = (m : Int) by omega]
    rw [show pre ++ [(l : Int)] ++ (p : Int) :: gM (fun i j => joinsB x i c j) x.p.toNat m (U ||| 2 ^ p) p = pre ++ [(l : Int)] ++ [(p : Int)] ++ gM (fun i j => joinsB x i c j) x.p.toNat m (U ||| 2 ^ p) p by rw [List.append_assoc (pre ++ [(l : Int)])]; rfl]
    exact hlast
theorem impl_Colouring_path_run (x : Col) (hx : ByteC x) (c : Int) (hp : 1 ≤ x.p ∧ x.p ≤ 17) : Run (fun k => impl_Colouring_path.f k x c) (PathOf (fun i j => joinsB x i c j) x.p.toNat) := by
  unfold impl_Colouring_path.f
  have hm2 : (2 : Nat) ^ x.p.toNat ≤ 2 ^ 17 := Nat.pow_le_pow_right (by omega) (by omega)
  refine Run.loop (L := fun q (z : List ((Int × Int) × Int) × Int × Int × Int) => impl_Colouring_path.l0 q x c z.1 z.2.1 z.2.2.1 z.2.2.2) (fun z => (x.p - z.2.2.2).toNat)
    (fun z => 0 ≤ z.2.2.2 ∧ z.2.2.2 ≤ x.p ∧ LMem (fun i j => joinsB x i c j) x.p.toNat z.1 ∧ ((z.2.2.2 = 0 ∧ z.2.1 = 0 ∧ z.2.2.1 = -1) ∨ ∃ B p : Nat, z.2.2.1 = B ∧ z.2.1 = p ∧ (p : Int) < z.2.2.2 ∧ (∀ q : Nat, (q : Int) < z.2.2.2 → ¬ rp (fun i j => joinsB x i c j) x.p.toNat (B + 1) (2 ^ q) q = true) ∧ IsB (fun i j => joinsB x i c j) x.p.toNat (2 ^ p) p (B : Int) ∧ (∀ q, q < p → ¬ rp (fun i j => joinsB x i c j) x.p.toNat B (2 ^ q) q = true))) ?_ ([], 0, -1, 0) ⟨by simp only; omega, by simp only; omega, lmem_nil _ _, .inl ⟨rfl, rfl, rfl⟩⟩
  rintro ⟨M, first, all, i⟩ ⟨i0, i1, hM, hinv⟩ ih
  simp only at i0 i1 hM hinv
  obtain ⟨i, rfl⟩ := Int.eq_ofNat_of_zero_le i0
  simp only [impl_Colouring_path.l0]
  refine Run.ite (fun hi => ?_) (fun hi => ?_)
  · refine Run.bind (Q := fun _ => True) (Run.guard (by omega) trivial) fun _ _ => ?_
    have hpi : (2 : Nat) ^ i < 2 ^ x.p.toNat := Nat.pow_lt_pow_right (by omega) (by omega)
    rw [shl64 (by omega), w64_id (x := (i : Int) + 1) (by omega)]
    refine Run.bind (impl_longest_behind_run x hx c (by omega) (2 ^ x.p.toNat) (2 ^ i) i M hpi (by omega) (Nat.sub_le _ _) hM) fun r hr => ?_
    obtain ⟨hv, hr2⟩ := hr
    have hv0 := hv.1
    refine Run.ite (fun h1 => ?_) (fun h1 => ?_)
    · refine ih (r.2, (i : Int), r.1, (i : Int) + 1) ⟨by simp only; omega, by simp only; omega, hr2, .inr ⟨r.1.toNat, i, by simp only; omega, rfl, by simp only <;> omega, fun q hq hrp => ?_, by rw [show ((r.1.toNat : Nat) : Int) = r.1 by omega]; exact hv, fun q hq hrp => ?_⟩⟩ (by simp only; omega)
      · simp only at hq
        by_cases e : q = i
        · subst e
          have := (hv.2 _).mp hrp
          omega
        · rcases hinv with ⟨z1, _, _⟩ | ⟨B, p, e1, e2, h3, h4, h5, h6⟩
          · omega
          · exact h4 q (by omega) (rp_le (r.1.toNat - B) (B + 1) (by rw [show B + 1 + (r.1.toNat - B) = r.1.toNat + 1 by omega]; exact hrp))
      · rcases hinv with ⟨z1, _, _⟩ | ⟨B, p, e1, e2, h3, h4, h5, h6⟩
        · omega
        · exact h4 q (by omega) (rp_le (r.1.toNat - (B + 1)) (B + 1) (by rw [show B + 1 + (r.1.toNat - (B + 1)) = r.1.toNat by omega]; exact hrp))
    · rcases hinv with ⟨z1, z2, z3⟩ | ⟨B, p, e1, e2, h3, h4, h5, h6⟩
      · omega
      · refine ih (r.2, first, all, (i : Int) + 1) ⟨by simp only; omega, by simp only; omega, hr2, .inr ⟨B, p, e1, e2, by simp only; omega, fun q hq hrp => ?_, h5, h6⟩⟩ (by simp only; omega)
        simp only at hq
        by_cases e : q = i
        · subst e
          have := (hv.2 _).mp hrp
          omega
        · exact h4 q (by omega) hrp
  · rcases hinv with ⟨z1, z2, z3⟩ | ⟨B, p, e1, e2, h3, h4, h5, h6⟩
    · omega
    · subst e1 e2
      have hpi : (2 : Nat) ^ p < 2 ^ x.p.toNat := Nat.pow_lt_pow_right (by omega) (by omega)
      refine Run.bind (Q := fun _ => True) (Run.guard (by omega) trivial) fun _ _ => ?_
      rw [shl64 (by omega)]
      have hB := (h5.2 B).mpr (Int.le_refl _)
      refine Run.eq (r := [] ++ [(p : Int)] ++ gM (fun i j => joinsB x i c j) x.p.toNat B (2 ^ p) p) (impl_Colouring_path_go x hx c (by omega) B (2 ^ p) p [] M hpi (by omega) hM h5 (by have := rp_short hB; rw [List.length_nil]; omega)) ?_
      exact ⟨B, p, by omega, fun q hq => h4 q (by omega), hB, h6, rfl⟩

theorem impl_LongestPath_run (x : Col) (hx : ByteC x) (c : Int) : Run (fun k => impl_LongestPath.f k x c) (LongP x c) := by
  unfold impl_LongestPath.f
  refine Run.bindE (impl_Colouring_patternCode_run x hx c) ?_
  refine Run.ite (fun h => Run.ret (.inl ⟨h, rfl⟩)) (fun h => ?_)
  have hz := Decidable.not_not.mp h
  refine Run.bind (impl_Colouring_path_run x hx c (by have := patC_zero hz; omega)) fun r hr => ?_
  exact Run.ret (.inr ⟨hz, rfl, hr⟩)

theorem laws_eqInt64S_run (a b : List Int) (ha : a.length < 4611686018427387904) : Run (fun k => laws_eqInt64S.f k a b) (· = decide (a = b)) := by
  unfold laws_eqInt64S.f
  refine Run.ite (fun h => ?_) (fun h => ?_)
  · exact Run.ret (decide_eq_false fun e => h (by rw [e])).symm
  have hl : a.length = b.length := by omega
  refine Run.loop (L := fun q (i : Int) => laws_eqInt64S.l0 q a b i) (fun i => (a.length - i).toNat) (fun i => 0 ≤ i ∧ i ≤ a.length ∧ ∀ (j : Nat) (h : j < a.length), (j : Int) < i → a[j] = b[j]'(by omega)) ?_ 0 ⟨by omega, by omega, fun j _ hj => by omega⟩
  rintro i ⟨h0, h3, hJ⟩ ih
  simp only [laws_eqInt64S.l0]
  refine Run.ite (fun h => ?_) (fun h => ?_)
  · refine Run.bindE (Run.getI' h0 h) ?_
    refine Run.bindE (Run.getI' h0 (by omega)) ?_
    refine Run.ite (fun h5 => ?_) (fun h5 => ?_)
    · exact Run.ret (decide_eq_false fun e => h5 (by simp only [e])).symm
    · rw [w64_id (by omega)]
      refine ih (i + 1) ⟨by omega, by omega, fun j hj hji => ?_⟩ (by omega)
      by_cases ej : (j : Int) < i
      · exact hJ j hj ej
      · obtain rfl : j = i.toNat := by omega
        exact Decidable.not_not.mp h5
  · exact Run.ret (decide_eq_true (List.ext_getElem hl fun j h1 h2 => hJ j h1 (by omega))).symm
end Go.Proofs.Ytjhcacfhahpdgaa.P
