/- What the pure functions come to, one by one (part 6). -/
import Derived.Test.YtjhcacfhahpdgaaPFnExactLongestPath5
import Derived.Test.YtjhcacfhahpdgaaGFnExactLongestPath8
namespace Go.Proofs.Ytjhcacfhahpdgaa.P
open Go Go.RowKit Go.Proofs.Ytjhcacfhahpdgaa.K Go.Proofs.Ytjhcacfhahpdgaa.G
set_option linter.unusedVariables false
set_option linter.unusedSimpArgs false

theorem impl_longest_behind_run (x : Col) (hx : ByteC x) (c : Int) (hp : 0 ≤ x.p ∧ x.p ≤ 17) : ∀ (f U l : Nat) (M : List ((Int × Int) × Int)), U < 2 ^ x.p.toNat → l < x.p.toNat → 2 ^ x.p.toNat - U ≤ f → LMem (fun i j => joinsB x i c j) x.p.toNat M → Run (fun k => impl_longest_behind.f k x c M (U : Int) (l : Int)) (fun r => IsB (fun i j => joinsB x i c j) x.p.toNat U l r.1 ∧ LMem (fun i j => joinsB x i c j) x.p.toNat r.2)
  | 0, _, _, _, _, _, h, _ => by omega
  | f + 1, U, l, M, hU, hl, hf, hM => by
    refine Run.step ?_
    simp only [impl_longest_behind.f]
    have hm2 : (2 : Nat) ^ x.p.toNat ≤ 2 ^ 17 := Nat.pow_le_pow_right (by omega) (by omega)
    refine Run.ite (fun hk => ?_) (fun _ => ?_)
    · refine Run.ret ⟨?_, hM⟩
      obtain ⟨v, hv⟩ := Option.isSome_iff_exists.mp hk
      rw [hv]
      exact hM U l hU hl v hv
    refine Run.bindE (impl_Colouring_neighbours_run x hx hp l c (by omega)) ?_
    rw [sel_upF]
    have hmem : ∀ p ∈ upF (joinsB x l c) 0 x.p.toNat, p < x.p.toNat ∧ joinsB x l c p = true := fun p h => by have := mem_upF.mp h; exact ⟨this.1.2, this.2⟩
    have hall : ∀ p, p < x.p.toNat → joinsB x l c p = true → p ∈ upF (joinsB x l c) 0 x.p.toNat := fun p h1 h2 => mem_upF.mpr ⟨⟨Nat.zero_le _, h1⟩, h2⟩
    have hFl := upF_length (joinsB x l c) 0 x.p.toNat
    generalize upF (joinsB x l c) 0 x.p.toNat = F at hmem hall hFl
    refine Run.loop (L := fun q (z : List ((Int × Int) × Int) × Int × Int) => impl_longest_behind.l0 q x c (U : Int) (l : Int) (F.map Int.ofNat) z.1 z.2.1 z.2.2) (fun z => (F.length - z.2.2).toNat)
      (fun z => 0 ≤ z.2.2 ∧ z.2.2 ≤ F.length ∧ LMem (fun i j => joinsB x i c j) x.p.toNat z.1 ∧ 0 ≤ z.2.1 ∧ z.2.1 ≤ 100 ∧ ∀ m : Nat, (m : Int) ≤ z.2.1 ↔ (m = 0 ∨ ∃ p ∈ F.take z.2.2.toNat, U.testBit p = false ∧ rp (fun i j => joinsB x i c j) x.p.toNat (m - 1) (U ||| 2 ^ p) p = true)) ?_ (M, 0, 0) ⟨by simp only; omega, by simp only; omega, hM, by simp only; omega, by simp only; omega, fun m => by simp only; simp <;> omega⟩
    rintro ⟨M', b, j⟩ ⟨j0, j1, hM', b0, b1, hb⟩ ih
    simp only at j0 j1 hM' b0 b1 hb
    obtain ⟨j, rfl⟩ := Int.eq_ofNat_of_zero_le j0
    simp only [Int.toNat_natCast] at ih hb ⊢
    simp only [impl_longest_behind.l0, List.length_map]
    refine Run.ite (fun hj => ?_) (fun hj => ?_)
    · obtain ⟨hpn, hpg⟩ := hmem (F[j]'(by omega)) (List.getElem_mem (by omega))
      have et : F.take (j + 1) = F.take j ++ [F[j]'(by omega)] := (List.take_append_getElem (by omega)).symm
      have ex : (F.map Int.ofNat)[((j : Nat) : Int).toNat]'(by rw [List.length_map]; omega) = ((F[j]'(by omega) : Nat) : Int) := by rw [List.getElem_map]; rfl
      refine Run.bindE (Run.getI' (by omega) (by rw [List.length_map]; omega)) ?_
      rw [ex]
      generalize F[j]'(by omega) = p at hpn hpg et
      have next : ∀ M'' b', LMem (fun i j => joinsB x i c j) x.p.toNat M'' → 0 ≤ b' → b' ≤ 100 → (∀ m : Nat, (m : Int) ≤ b' ↔ ((m : Int) ≤ b ∨ U.testBit p = false ∧ rp (fun i j => joinsB x i c j) x.p.toNat (m - 1) (U ||| 2 ^ p) p = true)) → Run (fun q => impl_longest_behind.l0 q x c (U : Int) (l : Int) (F.map Int.ofNat) M'' b' ((j : Int) + 1)) (fun r => IsB (fun i j => joinsB x i c j) x.p.toNat U l r.1 ∧ LMem (fun i j => joinsB x i c j) x.p.toNat r.2) := fun M'' b' h1 h2 h2' h3 => by
        refine ih (M'', b', (j : Int) + 1) ⟨by simp only; omega, by simp only; omega, h1, h2, h2', fun m => ?_⟩ (by simp only; omega)
        simp only
        rw [show ((j : Int) + 1).toNat = j + 1 by omega, et, h3, hb]
        constructor
        · rintro ((h | ⟨q, hq, h⟩) | h)
          · exact .inl h
          · exact .inr ⟨q, List.mem_append_left _ hq, h⟩
          · exact .inr ⟨p, List.mem_append_right _ (List.mem_singleton.mpr rfl), h⟩
        · rintro (h | ⟨q, hq, h⟩)
          · exact .inl (.inl h)
          · rcases List.mem_append.mp hq with hq | hq
            · exact .inl (.inr ⟨q, hq, h⟩)
            · rw [List.mem_singleton] at hq
              subst hq
              exact .inr h
      refine Run.bind (Q := fun _ => True) (Run.guard (by omega) trivial) fun _ _ => ?_
      rw [w64_id (x := (j : Int) + 1) (by omega)]
      refine Run.ite (fun h1 => ?_) (fun h1 => ?_)
      rotate_left
      · refine next M' b hM' b0 b1 fun m => ⟨.inl, ?_⟩
        rintro (h | ⟨h, _⟩)
        · exact h
        · exact absurd ((bit64z (by omega) (by omega)).mpr h) h1
      have hbit := (bit64z (by omega) (by omega)).mp h1
      have hgt := or_gt hU hpn hbit
      have hin := or_in hU hpn
      have hpi : (2 : Nat) ^ p ≤ 2 ^ 17 := Nat.pow_le_pow_right (by omega) (by omega)
      refine Run.bind (Q := fun _ => True) (Run.guard (by omega) trivial) fun _ _ => ?_
      rw [shl64 (by omega), or64 (by omega) (by omega)]
      refine Run.bind (impl_longest_behind_run x hx c hp f (U ||| 2 ^ p) p M' hin hpn (by omega) hM') fun r hr => ?_
      obtain ⟨⟨v0, hv⟩, hr2⟩ := hr
      have hv1 : r.1 ≤ 17 := by
        have := rp_short ((hv r.1.toNat).mpr (by omega))
        omega
      rw [w64_id (by omega)]
      refine next r.2 _ hr2 (by omega) (by omega) fun m => ?_
      rw [hv]
      constructor
      · intro h
        by_cases hc : (m : Int) ≤ b
        · exact .inl hc
        · exact .inr ⟨hbit, by omega⟩
      · rintro (h | ⟨_, h⟩) <;> omega
    · rw [List.take_of_length_le (by omega)] at hb
      have hB : IsB (fun i j => joinsB x i c j) x.p.toNat U l b := by
        refine ⟨b0, fun m => ?_⟩
        rw [hb]
        cases m with
        | zero => exact ⟨fun _ => .inl rfl, fun _ => rfl⟩
        | succ m =>
          rw [rp_succ]
          constructor
          · rintro ⟨p, h1, h2, h3, h4⟩
            exact .inr ⟨p, hall p h1 h2, h3, h4⟩
          · rintro (h | ⟨p, h1, h2, h3⟩)
            · cases h
            · have := hmem p h1
              exact ⟨p, this.1, this.2, h2, h3⟩
      exact Run.ret ⟨hB, hM'.put hB⟩
end Go.Proofs.Ytjhcacfhahpdgaa.P
