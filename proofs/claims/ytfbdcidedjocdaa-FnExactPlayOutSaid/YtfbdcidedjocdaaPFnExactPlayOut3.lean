/- What the pure functions come to, one by one (part 3). -/
import Derived.Test.YtfbdcidedjocdaaPFnExactPlayOut2
import Derived.Test.YtfbdcidedjocdaaGFnExactPlayOut10
namespace Go.Proofs.Ytfbdcidedjocdaa.P
open Go Go.RowKit Go.Proofs.Ytfbdcidedjocdaa.K Go.Proofs.Ytfbdcidedjocdaa.G
set_option linter.unusedVariables false
set_option linter.unusedSimpArgs false

theorem spec_l09Common_run (n : Nat) (l : List Int) (who : Int) (hn : n ≤ 5) (hl : l.length = tri n) : Run (fun k => spec_l09Common.f k n l who) (· = ((comm l.length (trC l who n) : Int), ((trC l who n).length : Int))) := by
  unfold spec_l09Common.f
  have hN : tri n ≤ 10 := tri_mono (n := 5) (by omega)
  have hful : w64 (shlI .i64 1 (wu64 (l.length : Int)) - 1) = (comm l.length ([] : List (List Int)) : Int) := by
    have := mask_true l.length
    have h2 : (2 : Nat) ^ l.length ≤ 2 ^ 10 := Nat.pow_le_pow_right (by omega) (by omega)
    rw [wu64_id (by omega), shl64 (by omega), w64_id (by omega)]
    unfold comm
    simp only [List.all_nil]
    omega
  rw [hful]
  have hcomm : ∀ T, comm l.length T < 2 ^ 10 := fun T => Nat.lt_of_lt_of_le (mask_lt _ _) (Nat.pow_le_pow_right (by omega) (by omega))
  by_cases hn2 : n < 2
  · refine Run.step ?_
    simp only [spec_l09Common.l0]
    refine Run.no (by omega) (Run.ret ?_)
    have : n = 0 ∨ n = 1 := by omega
    rcases this with rfl | rfl <;> rfl
  refine Run.loop (L := fun q (z : Int × Int × Int) => spec_l09Common.l0 q n l who z.1 z.2.1 z.2.2) (fun z => (n - z.2.2).toNat) (fun z => 2 ≤ z.2.2 ∧ z.2.2 ≤ n ∧ z.1 = (comm l.length (trC l who z.2.2.toNat) : Int) ∧ z.2.1 = ((trC l who z.2.2.toNat).length : Int)) ?_ (_, 0, 2) ⟨by simp only; omega, by simp only; omega, rfl, rfl⟩
  rintro ⟨v, m, c⟩ ⟨h0, h3, hv, hm⟩ ih
  simp only at h0 h3 hv hm
  subst hv hm
  simp only [spec_l09Common.l0]
  obtain ⟨c, rfl⟩ := Int.eq_ofNat_of_zero_le (show 0 ≤ c by omega)
  simp only [Int.toNat_natCast] at ih ⊢
  refine Run.ite (fun h => ?_) (fun h => ?_)
  · refine Run.loop (L := fun q (z : Int × Int × Int) => spec_l09Common.l1 q n l who c z.1 z.2.1 z.2.2) (fun z => (c - z.2.2).toNat) (fun z => 1 ≤ z.2.2 ∧ z.2.2 ≤ c ∧ z.1 = (comm l.length (trC l who c ++ trB l who c z.2.2.toNat) : Int) ∧ z.2.1 = ((trC l who c ++ trB l who c z.2.2.toNat).length : Int)) ?_ (_, _, 1) ⟨by simp only; omega, by simp only; omega, by show _ = ((comm l.length (trC l who c ++ ([] ++ [])) : Nat) : Int); rw [List.append_nil, List.append_nil], by show _ = ((trC l who c ++ ([] ++ [])).length : Int); rw [List.append_nil, List.append_nil]⟩
    rintro ⟨v, m, b⟩ ⟨g0, g3, hv, hm⟩ ih2
    simp only at g0 g3 hv hm
    subst hv hm
    simp only [spec_l09Common.l1]
    obtain ⟨b, rfl⟩ := Int.eq_ofNat_of_zero_le (show 0 ≤ b by omega)
    simp only [Int.toNat_natCast] at ih2 ⊢
    refine Run.ite (fun h' => ?_) (fun h' => ?_)
    · refine Run.loop (L := fun q (z : Int × Int × Int) => spec_l09Common.l2 q n l who c b z.1 z.2.1 z.2.2) (fun z => (b - z.2.2).toNat) (fun z => 0 ≤ z.2.2 ∧ z.2.2 ≤ b ∧ z.1 = (comm l.length (trC l who c ++ trB l who c b ++ trA l who b c z.2.2.toNat) : Int) ∧ z.2.1 = ((trC l who c ++ trB l who c b ++ trA l who b c z.2.2.toNat).length : Int)) ?_ (_, _, 0) ⟨by simp only; omega, by simp only; omega, by show _ = ((comm l.length (_ ++ []) : Nat) : Int); rw [List.append_nil], by show _ = ((_ ++ ([] : List (List Int))).length : Int); rw [List.append_nil]⟩
      rintro ⟨v, m, a⟩ ⟨f0, f3, hv, hm⟩ ih3
      simp only at f0 f3 hv hm
      subst hv hm
      simp only [spec_l09Common.l2]
      obtain ⟨a, rfl⟩ := Int.eq_ofNat_of_zero_le f0
      simp only [Int.toNat_natCast] at ih3 ⊢
      refine Run.ite (fun h'' => ?_) (fun h'' => ?_)
      · have e1 := edg_lt (i := a) (j := b) (p := n) (by omega) (by omega) (by omega)
        have e2 := edg_lt (i := a) (j := c) (p := n) (by omega) (by omega) (by omega)
        have e3 := edg_lt (i := b) (j := c) (p := n) (by omega) (by omega) (by omega)
        have q1 : l.getD (edg a b) 0 = l[((edg a b : Nat) : Int).toNat]'(by omega) := getD_at (by omega)
        have q2 : l.getD (edg a c) 0 = l[((edg a c : Nat) : Int).toNat]'(by omega) := getD_at (by omega)
        have q3 : l.getD (edg b c) 0 = l[((edg b c : Nat) : Int).toNat]'(by omega) := getD_at (by omega)
        have k1 := trC_length l who c
        have k2 := trB_length l who c b
        have k3 := trA_length l who b c a
        have k4 : c * (c * c) ≤ 5 * (5 * 5) := Nat.mul_le_mul (by omega) (Nat.mul_le_mul (by omega) (by omega))
        have k5 : b * b ≤ 5 * 5 := Nat.mul_le_mul (by omega) (by omega)
        have kl : (trC l who c ++ trB l who c b ++ trA l who b c a).length ≤ 200 := by simp only [List.length_append]; omega
        have no : monoB l who a b c ≠ true → Run (fun q => spec_l09Common.l2 q n l who c b (comm l.length (trC l who c ++ trB l who c b ++ trA l who b c a) : Int) ((trC l who c ++ trB l who c b ++ trA l who b c a).length : Int) ((a : Int) + 1)) (· = ((comm l.length (trC l who n) : Int), ((trC l who n).length : Int))) := fun hm => by
          refine ih3 (_, _, (a : Int) + 1) ⟨by simp only; omega, by simp only; omega, ?_, ?_⟩ (by simp only; omega)
          · simp only; rw [show ((a : Int) + 1).toNat = a + 1 by omega, trA, if_neg hm, List.append_nil]
          · simp only; rw [show ((a : Int) + 1).toNat = a + 1 by omega, trA, if_neg hm, List.append_nil]
        refine Run.bindE (spec_l01Edge_run a b (by omega) (by omega)) ?_
        refine Run.bindE (spec_l01Edge_run a c (by omega) (by omega)) ?_
        refine Run.bindE (spec_l01Edge_run b c (by omega) (by omega)) ?_
        rw [w64_id (x := (a : Int) + 1) (by omega)]
        refine Run.bindE (Run.getI' (by omega) (by omega)) ?_
        rw [← q1]
        refine Run.itn (fun t1 => no (by unfold monoB; rw [hasE_no t1]; simp)) (fun t1 => ?_)
        refine Run.bindE (Run.getI' (by omega) (by omega)) ?_
        rw [← q2]
        refine Run.itn (fun t2 => no (by unfold monoB; rw [hasE_no t2]; simp)) (fun t2 => ?_)
        refine Run.bindE (Run.getI' (by omega) (by omega)) ?_
        rw [← q3]
        refine Run.itn (fun t3 => no (by unfold monoB; rw [hasE_no t3]; simp)) (fun t3 => ?_)
        have hm : monoB l who a b c = true := by unfold monoB; rw [hasE_yes t1, hasE_yes t2, hasE_yes t3]; rfl
        have p1 : (2 : Nat) ^ edg a b < 2 ^ 10 := Nat.pow_lt_pow_right (by omega) (by omega)
        have p2 : (2 : Nat) ^ edg a c < 2 ^ 10 := Nat.pow_lt_pow_right (by omega) (by omega)
        have p3 : (2 : Nat) ^ edg b c < 2 ^ 10 := Nat.pow_lt_pow_right (by omega) (by omega)
        have o1 := Nat.or_lt_two_pow p1 p2
        have o2 := Nat.or_lt_two_pow o1 p3
        have cl := hcomm (trC l who c ++ trB l who c b ++ trA l who b c a)
        rw [wu64_id (x := ((edg a b : Nat) : Int)) (by omega), wu64_id (x := ((edg a c : Nat) : Int)) (by omega), wu64_id (x := ((edg b c : Nat) : Int)) (by omega),
          shl64 (n := edg a b) (by omega), shl64 (n := edg a c) (by omega), shl64 (n := edg b c) (by omega), or64 (by omega) (by omega), or64 (by omega) (by omega), and64 (by omega) (by omega), w64_id (by omega)]
        refine ih3 (_, _, (a : Int) + 1) ⟨by simp only; omega, by simp only; omega, ?_, ?_⟩ (by simp only; omega)
        · simp only
          rw [show ((a : Int) + 1).toNat = a + 1 by omega, trA, if_pos hm, ← List.append_assoc, comm_snoc (by omega) (by omega) (by omega)]
        · simp only
          rw [show ((a : Int) + 1).toNat = a + 1 by omega, trA, if_pos hm, ← List.append_assoc, List.length_append (bs := [_])]; rfl
      · rw [w64_id (x := (b : Int) + 1) (by omega)]
        refine ih2 (_, _, (b : Int) + 1) ⟨by simp only; omega, by simp only; omega, ?_, ?_⟩ (by simp only; omega)
        · simp only; rw [show ((b : Int) + 1).toNat = b + 1 by omega, trB, show a = b by omega, List.append_assoc]
        · simp only; rw [show ((b : Int) + 1).toNat = b + 1 by omega, trB, show a = b by omega, List.append_assoc]
    · rw [w64_id (x := (c : Int) + 1) (by omega)]
      refine ih (_, _, (c : Int) + 1) ⟨by simp only; omega, by simp only; omega, ?_, ?_⟩ (by simp only; omega)
      · simp only; rw [show ((c : Int) + 1).toNat = c + 1 by omega, trC, show b = c by omega]
      · simp only; rw [show ((c : Int) + 1).toNat = c + 1 by omega, trC, show b = c by omega]
  · refine Run.ret ?_
    rw [show c = n by omega]

theorem spec_l09Is_run (n : Nat) (l : List Int) (hn : n ≤ 5) (hl : l.length = tri n) : Run (fun k => spec_l09Is.f k n l) (· = posB n l) := by
  unfold spec_l09Is.f
  have hN : tri n ≤ 10 := tri_mono (n := 5) (by omega)
  have hmv := moverN_range l (by omega)
  rw [posB]
  refine Run.bindE (spec_l09Mover_run l (by omega)) ?_
  have tail : Run (fun k => (spec_l09Common.f k n l (moverN l)).bind fun t4 => (spec_l09Common.f k n l (w64 (1 - moverN l))).bind fun t5 => if t4.2 = 0 then (if t5.2 = 0 then (some true) else (some (decide (t5.1 ≠ 0)))) else (some false))
      (· = ((trC l (moverN l) n).isEmpty && ((trC l (1 - moverN l) n).isEmpty || decide (comm l.length (trC l (1 - moverN l) n) ≠ 0)))) := by
    refine Run.bindE (spec_l09Common_run n l _ hn hl) ?_
    rw [w64_id (x := 1 - moverN l) (by omega)]
    refine Run.bindE (spec_l09Common_run n l _ hn hl) ?_
    refine Run.ite (fun h => ?_) (fun h => ?_)
    · rw [isEmpty_yes (show (trC l (moverN l) n).length = 0 by omega), Bool.true_and]
      refine Run.ite (fun h' => ?_) (fun h' => ?_)
      · exact Run.ret (by rw [isEmpty_yes (show (trC l (1 - moverN l) n).length = 0 by omega), Bool.true_or])
      · refine Run.ret ?_
        rw [isEmpty_no (show (trC l (1 - moverN l) n).length ≠ 0 by omega), Bool.false_or]
        exact decide_eq_decide.mpr (by omega)
    · exact Run.ret (by rw [isEmpty_no (show (trC l (moverN l) n).length ≠ 0 by omega), Bool.false_and])
  refine Run.ite (fun h => ?_) (fun h => ?_)
  · refine Run.ite (fun h' => ?_) (fun h' => ?_)
    · refine Run.ret ?_
      rw [decide_eq_false (p := 0 ≤ moverN l ∧ moverN l ≤ 1) (by omega), Bool.false_and]
    · rw [decide_eq_true (p := 0 ≤ moverN l ∧ moverN l ≤ 1) (by omega), Bool.true_and]
      exact tail
  · rw [decide_eq_true (p := 0 ≤ moverN l ∧ moverN l ≤ 1) (by omega), Bool.true_and]
    exact tail

theorem spec_l09Code_run (n : Int) (l : List Int) (hl : l.length < 4611686018427387904) : Run (fun k => spec_l09Code.f k n l) (· = posCode n l) := by
  unfold spec_l09Code.f
  refine Run.bindE (spec_l09Lists_run n l hl) ?_
  rw [posCode]
  by_cases h : shapeB n l = true
  · rw [if_pos h, if_pos h]
    obtain ⟨h1, h2, h3, h4⟩ := shape_of h
    refine Run.no (by decide) ?_
    have := spec_l09Is_run n.toNat l h1 h2
    rw [h3] at this
    refine Run.bindE this ?_
    exact Run.ite (fun h => Run.ret (by rw [if_pos h])) (fun h => Run.ret (by rw [if_neg h]))
  · rw [if_neg h, if_neg h]
    exact Run.yes (by decide) (Run.ret rfl)
end Go.Proofs.Ytfbdcidedjocdaa.P
