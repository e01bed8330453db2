/- What the pure functions come to, one by one (part 9). -/
import Derived.Test.YtkceneefhbdifaaPFnCircularCounts8
import Derived.Test.YtkceneefhbdifaaGFnCircularCounts10
namespace Go.Proofs.Ytkceneefhbdifaa.P
open Go Go.RowKit Go.Proofs.Ytkceneefhbdifaa.K Go.Proofs.Ytkceneefhbdifaa.G
set_option linter.unusedVariables false
set_option linter.unusedSimpArgs false

theorem fst_good {n : Int} {s : List Int} (h : (fstM n s).2 = 0) : circB n s = true ∧ circS n.toNat s ≠ [] ∧ ∃ v, fstM n s = (circC n.toNat (bitsL (n.toNat / 2) v), 0) ∧ goodC n.toNat s v = true := by
  unfold fstM at h ⊢
  split at h
  · next hb =>
    split at h
    · cases h
    · next hq =>
      rw [if_pos hb, if_neg hq]
      exact ⟨hb, hq, _, rfl, circS_good hq⟩
  · cases h
theorem fst_two {n : Int} {s : List Int} (hb : circB n s = true) (hq : circS n.toNat s ≠ []) : (fstM n s).2 = 0 := by
  unfold fstM
  rw [if_pos hb, if_neg hq]
theorem circ_avoids (n v : Nat) (hn : 2 ≤ n ∧ n ≤ 13) (s : List Int) (hl : s.length ≤ 3) (ht : twoB s = true) (hg : goodC n s v = true) : Run (fun k => impl_AvoidsSizes.f k (circC n (bitsL (n / 2) v)) s) (· = (true, 0)) := by
  obtain ⟨hc, hb⟩ := circC_col (n := n) (v := v) (by omega)
  refine (impl_AvoidsSizes_run _ hb s (by omega)).mono fun r hr => ?_
  unfold twoB at ht
  rw [Bool.and_eq_true, decide_eq_true_eq] at ht
  have h17 : allIn s 1 17 = true := List.all_eq_true.mpr fun v hv => decide_eq_true (by have := allIn_mem ht.2 v hv; omega)
  have hB : isB (circC n (bitsL (n / 2) v)) = true := decide_eq_true hc
  have hk : (decide ((s.length : Int) = (circC n (bitsL (n / 2) v)).k) && allIn s 1 17) = true := by
    rw [h17, Bool.and_true]; exact decide_eq_true ht.1
  rw [hr, hB, hk]
  unfold goodC at hg
  rw [hg]; rfl
theorem circB_two {n : Int} {s : List Int} (h : circB n s = true) : (2 ≤ n ∧ n ≤ 13) ∧ twoB s = true := by
  unfold circB at h
  rw [Bool.and_eq_true, decide_eq_true_eq] at h
  exact h
theorem circ_tail (code : List Int) (hs : ∀ v ∈ code, 0 ≤ v ∧ v < 256) (hl : code.length ≤ 4096) : Run (fun k => (spec_DrawGreatestCircular.f k code).bind fun t29 => (impl_GreatestCircular.f k t29).bind fun t33 => (spec_GreatestCircular.f k t29).bind fun t34 => if t33.2 ≠ t34.2 then (some false) else (if t33.1 ≠ t34.1 then (some false) else (if t33.2 = 0 then ((impl_FirstCircular.f k t33.1 t29).bind fun t38 => (impl_AvoidsSizes.f k t38.1 t29).bind fun t40 => if t38.2 ≠ 0 then (some false) else (if t40.2 ≠ 0 then (some false) else (if t40.1 = true then (if t33.1 < 13 then ((impl_CountCircular.f k (w64 (t33.1 + 1)) t29).bind fun t45 => if t45.2 ≠ 0 then (some false) else (if t45.1 ≠ 0 then (some false) else (some true))) else (some true)) else (some false)))) else (some true)))) (· = true) := by
  refine Run.bind (spec_DrawGreatestCircular_run code hs hl) fun s hsl => ?_
  refine Run.bindE (impl_GreatestCircular_run s hsl) ?_
  refine Run.bindE (spec_GreatestCircular_run s hsl) ?_
  refine Run.no (fun h => h rfl) (Run.no (fun h => h rfl) ?_)
  refine Run.ite (fun h0 => ?_) (fun _ => Run.ret rfl)
  have ht : twoB s = true := by
    unfold greatM at h0
    split at h0
    · assumption
    · cases h0
  have hgm : greatM s = greatC s 12 := by unfold greatM; rw [if_pos ht]
  rw [hgm] at h0 ⊢
  obtain ⟨g, e⟩ : ∃ g, greatC s 12 = (g, 0) := ⟨(greatC s 12).1, by rw [← h0]⟩
  rw [e]
  obtain ⟨h1, h2, h3, h4⟩ := greatC_yes e
  have hb : circB g s = true := by unfold circB; rw [ht, Bool.and_true]; exact decide_eq_true (by omega)
  obtain ⟨_, _, v, hv, hg⟩ := fst_good (fst_two hb h3)
  refine Run.bindE (impl_FirstCircular_run g s hsl) ?_
  rw [hv]
  refine Run.bindE (circ_avoids g.toNat v (by omega) s hsl ht hg) ?_
  refine Run.no (fun h => h rfl) (Run.no (fun h => h rfl) (Run.yes rfl ?_))
  refine Run.ite (fun h13 => ?_) (fun _ => Run.ret rfl)
  simp only at h13
  have hcm : countM (w64 (g + 1)) s = (0, 0) := by
    rw [w64_id (by omega)]
    unfold countM
    have hb2 : circB (g + 1) s = true := by unfold circB; rw [ht, Bool.and_true]; exact decide_eq_true (by omega)
    rw [if_pos hb2, h4 (g + 1).toNat (by omega) (by omega)]; rfl
  refine Run.bindE (impl_CountCircular_run _ s hsl) ?_
  rw [hcm]
  exact Run.no (fun h => h rfl) (Run.no (fun h => h rfl) (Run.ret rfl))
theorem laws_FnCircularCounts_run (code : List Int) (hs : ∀ v ∈ code, 0 ≤ v ∧ v < 256) : Run (fun k => laws_FnCircularCounts.f k code) (· = true) := by
  unfold laws_FnCircularCounts.f
  refine Run.bindE (laws_big_run code) ?_
  refine Run.ite (fun _ => Run.ret rfl) (fun hbig => ?_)
  have hl : code.length ≤ 4096 := by
    have : ¬ ((code.length : Int) > 4096) := by simpa using hbig
    omega
  have tail := circ_tail code hs hl
  refine Run.bind (spec_DrawFirstCircular_run code hs hl) fun r hr => ?_
  obtain ⟨n, s⟩ := r
  simp only at hr ⊢
  refine Run.bindE (impl_FirstCircular_run n s hr) ?_
  refine Run.bindE (spec_FirstCircular_run n s hr) ?_
  refine Run.bindE (impl_CountCircular_run n s hr) ?_
  refine Run.bindE (spec_CountCircular_run n s hr) ?_
  refine Run.no (fun h => h rfl) (Run.yes (same_refl _) (Run.no (fun h => h rfl) (Run.no (fun h => h rfl) ?_)))
  have hx : (countM n s).2 = 0 → (decide ((countM n s).1 > 0)) = decide ((fstM n s).2 = 0) := fun h => by
    unfold countM at h ⊢
    unfold fstM
    split at h
    · next hb =>
      rw [if_pos hb, if_pos hb]
      refine decide_eq_decide.mpr ?_
      by_cases hq : circS n.toNat s = []
      · rw [if_pos hq, hq]; simp
      · rw [if_neg hq]
        have : (circS n.toNat s).length ≠ 0 := fun e => hq (List.length_eq_zero_iff.mp e)
        simp only
        constructor
        · intro _; trivial
        · intro _; omega
    · cases h
  have more : ∀ (g : Nat → Option Bool), Run g (· = true) → (fstM n s).2 = 0 → Run (fun k => (impl_AvoidsSizes.f k (fstM n s).1 s).bind fun t20 => (impl_ListOfCircular.f k (fstM n s).1).bind fun t21 => if t20.2 ≠ 0 then (some false) else (if t21.2 ≠ 0 then (some false) else (if t20.1 = true then (if (t21.1.length : Int) ≠ (w64 (Int.tdiv n 2)) then (some false) else (g k)) else (some false)))) (· = true) := fun g hg h0 => by
    obtain ⟨hb, _, v, hv, hgd⟩ := fst_good h0
    obtain ⟨hn, ht⟩ := circB_two hb
    rw [hv]
    obtain ⟨hc, hbt⟩ := circC_col (n := n.toNat) (v := v) (by omega)
    refine Run.bindE (circ_avoids n.toNat v (by omega) s hr ht hgd) ?_
    refine Run.bindE (impl_ListOfCircular_run _ hbt) ?_
    rw [circ_listM (by omega)]
    refine Run.no (fun h => h rfl) (Run.no (fun h => h rfl) (Run.yes rfl (Run.no (fun h => h ?_) hg)))
    have e1 : Int.tdiv n 2 = ((n.toNat / 2 : Nat) : Int) := by
      have e0 : n = ((n.toNat : Nat) : Int) := by omega
      rw [e0]; rfl
    rw [bitsL_len, e1, w64_id (by omega)]
  refine Run.ite (fun h0 => ?_) (fun _ => ?_)
  · refine Run.no (fun h => ?_) ?_
    · rw [hx h0] at h; simp at h
    · exact Run.ite (fun h1 => more _ tail h1) (fun _ => tail)
  · exact Run.ite (fun h1 => more _ tail h1) (fun _ => tail)
end Go.Proofs.Ytkceneefhbdifaa.P
