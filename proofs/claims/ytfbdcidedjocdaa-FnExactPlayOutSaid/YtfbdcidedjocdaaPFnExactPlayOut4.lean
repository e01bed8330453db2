/- What the pure functions come to, one by one (part 4). -/
import Derived.Test.YtfbdcidedjocdaaPFnExactPlayOut3
import Derived.Test.YtfbdcidedjocdaaGFnExactPlayOut10
namespace Go.Proofs.Ytfbdcidedjocdaa.P
open Go Go.RowKit Go.Proofs.Ytfbdcidedjocdaa.K Go.Proofs.Ytfbdcidedjocdaa.G
set_option linter.unusedVariables false
set_option linter.unusedSimpArgs false

theorem spec_l09Table_run (n : Int) (l : List Int) (hg : Good n l) : Run (fun k => spec_l09Table.f k n) (· = List.replicate (3 ^ tri n.toNat) (-1)) := by
  unfold spec_l09Table.f
  have h5 := hg.n5
  have hn := hg.nn
  obtain ⟨m, rfl⟩ : ∃ m : Nat, n = m := ⟨n.toNat, by omega⟩
  simp only [Int.toNat_natCast] at h5 ⊢
  have hD : w64 (Int.tdiv (w64 ((m : Int) * (w64 ((m : Int) - 1)))) 2) = (tri m : Int) := by
    have : m = 0 ∨ m = 1 ∨ m = 2 ∨ m = 3 ∨ m = 4 ∨ m = 5 := by omega
    rcases this with rfl | rfl | rfl | rfl | rfl | rfl <;> decide
  have hN : tri m ≤ 10 := tri_mono (n := 5) h5
  have hp := pow10 hN
  refine Run.loop (L := fun q (z : Int × Int) => spec_l09Table.l0 q (m : Int) z.1 z.2) (fun z => (tri m - z.2).toNat) (fun z => 0 ≤ z.2 ∧ z.2 ≤ tri m ∧ z.1 = ((3 ^ z.2.toNat : Nat) : Int)) ?_ (1, 0) ⟨by simp only; omega, by simp only; omega, rfl⟩
  rintro ⟨s, j⟩ ⟨h0, h3, hs⟩ ih
  simp only at h0 h3 hs
  obtain ⟨j, rfl⟩ := Int.eq_ofNat_of_zero_le h0
  simp only [Int.toNat_natCast] at ih hs ⊢
  simp only [spec_l09Table.l0, hD]
  have hj := pow10 (d := j) (by omega)
  have hsb : 0 ≤ s ∧ s ≤ 59049 := by rw [hs]; generalize 3 ^ j = A at hj; omega
  refine Run.ite (fun h => ?_) (fun h => ?_)
  · rw [w64_id (x := (j : Int) + 1) (by omega), w64_id (x := s * 3) (by omega)]
    refine ih (s * 3, (j : Int) + 1) ⟨by simp only; omega, by simp only; omega, ?_⟩ (by simp only; omega)
    simp only
    rw [show ((j : Int) + 1).toNat = j + 1 by omega, Nat.pow_succ, hs]
    generalize 3 ^ j = A
    omega
  · have ej : j = tri m := by omega
    subst ej
    refine Run.bind (Q := fun _ => True) (Run.guard (by omega) trivial) fun _ _ => ?_
    have es : s.toNat = 3 ^ tri m := by rw [hs, Int.toNat_natCast]
    refine Run.loop (L := fun q (z : List Int × Int) => spec_l09Table.l1 q s z.1 z.2) (fun z => (s - z.2).toNat) (fun z => 0 ≤ z.2 ∧ z.2 ≤ s ∧ z.1 = List.replicate z.2.toNat (-1) ++ List.replicate (s.toNat - z.2.toNat) 0) ?_ (List.replicate s.toNat 0, 0) ⟨by simp only; omega, by simp only; omega, rfl⟩
    rintro ⟨L, i⟩ ⟨i0, i1, hL⟩ ih2
    simp only at i0 i1 hL
    obtain ⟨i, rfl⟩ := Int.eq_ofNat_of_zero_le i0
    simp only [Int.toNat_natCast] at ih2 hL ⊢
    simp only [spec_l09Table.l1, List.length_replicate]
    refine Run.ite (fun h => ?_) (fun h => ?_)
    · rw [w64_id (x := (i : Int) + 1) (by omega)]
      refine Run.bindE (Run.getI' (by omega) (by rw [hL]; simp; omega)) ?_
      refine ih2 (L.set ((i : Int)).toNat (-1), (i : Int) + 1) ⟨by simp only; omega, by simp only; omega, ?_⟩ (by simp only; omega)
      simp only
      rw [hL, show ((i : Int) + 1).toNat = i + 1 by omega, show ((i : Int)).toNat = i by omega]
      rw [show s.toNat - i = (s.toNat - (i + 1)) + 1 by omega, List.replicate_succ, List.set_append_right _ _ (by rw [List.length_replicate]; exact Nat.le_refl _), List.length_replicate, Nat.sub_self, List.set_cons_zero, List.replicate_succ', List.append_assoc]
      rfl
    · refine Run.ret ?_
      rw [hL, show i = s.toNat by omega, Nat.sub_self, es, List.replicate_zero, List.append_nil]

theorem spec_l09Free_run (l : List Int) (hl : l.length < 1000) : Run (fun k => spec_l09Free.f k l) (· = sel (freeE l) l.length) := by
  unfold spec_l09Free.f
  refine Run.loop (L := fun q (z : List Int × Int) => spec_l09Free.l0 q l z.1 z.2) (fun z => (l.length - z.2).toNat) (fun z => 0 ≤ z.2 ∧ z.2 ≤ l.length ∧ z.1 = sel (freeE l) z.2.toNat) ?_ ([], 0) ⟨by simp only; omega, by simp only; omega, rfl⟩
  rintro ⟨m, j⟩ ⟨h0, h3, hm⟩ ih
  simp only at h0 h3 hm
  subst hm
  simp only [spec_l09Free.l0]
  obtain ⟨j, rfl⟩ := Int.eq_ofNat_of_zero_le h0
  simp only [Int.toNat_natCast] at ih ⊢
  refine Run.ite (fun h => ?_) (fun h => ?_)
  · rw [w64_id (x := (j : Int) + 1) (by omega)]
    have eg : l.getD j 0 = l[((j : Int)).toNat]'(by omega) := getD_at (by omega)
    refine Run.bindE (Run.getI' (by omega) h) ?_
    rw [← eg]
    refine Run.ite (fun h1 => ?_) (fun h1 => ?_)
    · have hlen := sel_length (freeE l) j
      refine Run.bindE (Run.push' (by omega)) ?_
      refine ih (_, (j : Int) + 1) ⟨by simp only; omega, by simp only; omega, ?_⟩ (by simp only; omega)
      simp only
      rw [show ((j : Int) + 1).toNat = j + 1 by omega, sel_yes (f := freeE l) (decide_eq_true h1)]
    · refine ih (sel (freeE l) j, (j : Int) + 1) ⟨by simp only; omega, by simp only; omega, ?_⟩ (by simp only; omega)
      simp only
      rw [show ((j : Int) + 1).toNat = j + 1 by omega, sel_no (f := freeE l) (fun hq => h1 (of_decide_eq_true hq))]
  · refine Run.ret ?_
    rw [show j = l.length by omega]

theorem spec_l09Result_run (n : Int) (l : List Int) (h1 : n.toNat ≤ 5) (h2 : l.length = tri n.toNat) (h3 : ((n.toNat : Nat) : Int) = n) (h4 : allIn l (-1) 1 = true) : Run (fun k => spec_l09Result.f k n l) (· = resM n l) := by
  unfold spec_l09Result.f
  have hN : tri n.toNat ≤ 10 := tri_mono (n := 5) (by omega)
  have hmv := moverN_range l (by omega)
  refine Run.bindE (spec_l09Mover_run l (by omega)) ?_
  rw [w64_id (x := 1 - moverN l) (by omega), resM]
  have hc := spec_l09Common_run n.toNat l (1 - moverN l) h1 h2
  rw [h3] at hc
  refine Run.bindE hc ?_
  refine Run.ite (fun h => ?_) (fun h => ?_)
  · exact Run.ret (by rw [if_pos (by omega)])
  rw [if_neg (by omega)]
  refine Run.bindE (spec_l09Free_run l (by omega)) ?_
  exact Run.ite (fun h => Run.ret (by rw [if_pos (by omega)])) (fun h => Run.ret (by rw [if_neg (by omega)]))

theorem spec_l09Number_run (n : Int) (l : List Int) (hg : Good n l) : Run (fun k => spec_l09Number.f k l) (· = (numN l : Int)) := by
  unfold spec_l09Number.f
  have ht := hg.ten
  refine Run.loop (L := fun q (z : Int × Int) => spec_l09Number.l0 q l z.1 z.2) (fun z => (l.length - z.2).toNat) (fun z => 0 ≤ z.2 ∧ z.2 ≤ l.length ∧ z.1 = (numN (l.take z.2.toNat) : Int)) ?_ (0, 0) ⟨by simp only; omega, by simp only; omega, rfl⟩
  rintro ⟨s, j⟩ ⟨h0, h3, hs⟩ ih
  simp only at h0 h3 hs
  obtain ⟨j, rfl⟩ := Int.eq_ofNat_of_zero_le h0
  simp only [Int.toNat_natCast] at ih hs ⊢
  simp only [spec_l09Number.l0]
  have hal : ∀ d, allIn (l.take d) (-1) 1 = true := fun d => by
    unfold allIn
    rw [List.all_eq_true]
    intro v hv
    have := allIn_mem hg.all v (List.mem_of_mem_take hv)
    exact decide_eq_true this
  have hlt := numN_lt j (l.take j) (by rw [List.length_take]; omega) (hal j)
  have hj := pow10 (d := j) (by omega)
  refine Run.ite (fun h => ?_) (fun h => ?_)
  · have hv := allIn_mem hg.all (l[j]'(by omega)) (List.getElem_mem (by omega))
    have et : l.take (j + 1) = l.take j ++ [l[j]'(by omega)] := (List.take_append_getElem (by omega)).symm
    rw [w64_id (x := (j : Int) + 1) (by omega)]
    refine Run.bindE (Run.getI' (by omega) h) ?_
    simp only [Int.toNat_natCast]
    rw [w64_id (x := s * 3) (by omega), w64_id (x := s * 3 + l[j]'(by omega)) (by omega), w64_id (x := s * 3 + l[j]'(by omega) + 1) (by omega)]
    refine ih (_, (j : Int) + 1) ⟨by simp only; omega, by simp only; omega, ?_⟩ (by simp only; omega)
    simp only
    rw [show ((j : Int) + 1).toNat = j + 1 by omega, et, numN_snoc]
    omega
  · refine Run.ret ?_
    rw [hs, show j = l.length by omega, List.take_length]

theorem spec_l01Own_run (l : List Int) (hl : l.length < 1099511627776) : Run (fun _ => spec_l01Own.f l) (· = l) := by
  unfold spec_l01Own.f
  refine Run.bindE (Run.concat' (by simp; omega)) ?_
  exact Run.ret (List.nil_append l)

theorem spec_l09Move_run (l : List Int) (e : Nat) (hl : l.length < 1000) (he : e < l.length) : Run (fun k => spec_l09Move.f k l e) (· = l.set e (moverN l)) := by
  unfold spec_l09Move.f
  refine Run.bindE (spec_l01Own_run l (by omega)) ?_
  refine Run.bindE (spec_l09Mover_run l hl) ?_
  refine Run.bindE (Run.getI' (by omega) (by omega)) ?_
  exact Run.ret rfl
end Go.Proofs.Ytfbdcidedjocdaa.P
