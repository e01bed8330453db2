/- What the pure functions come to, one by one (part 3). -/
import Derived.Test.YtdpamdedomkomaaPFnExactFullCliques2
import Derived.Test.YtdpamdedomkomaaGFnExactFullCliques9
namespace Go.Proofs.Ytdpamdedomkomaa.P
open Go Go.RowKit Go.Proofs.Ytdpamdedomkomaa.K Go.Proofs.Ytdpamdedomkomaa.G
set_option linter.unusedVariables false
set_option linter.unusedSimpArgs false

theorem spec_l02Full_run (x : Col) (hp : 0 ≤ x.p ∧ x.p ≤ 17) (c : Int) (m : Nat) (hm : m ≤ 1000) : ∀ (g : Nat) (L : List Nat) (out : List Int), x.p.toNat - nextP L + 1 ≤ g → nextP L ≤ x.p.toNat → out.length ≤ m →
    Run (fun k => spec_l02Full.f k (rowsM x c x.p.toNat) (maskL x.p.toNat L : Int) (mask (fun j => withB x c L j && decide (nextP L ≤ j)) x.p.toNat : Int) (mask (fun j => withB x c L j && decide (j < nextP L)) x.p.toNat : Int) out (m : Int)) (· = (out ++ fullI x c (dfs (fun i j => joinsB x i c j) g L (upF (withB x c L) (nextP L) x.p.toNat))).take m) := by
  intro g
  induction g with
  | zero => intro L out h; omega
  | succ g ihg =>
  intro L out hg hnx ho
  refine Run.step ?_
  simp only [spec_l02Full.f]
  have hm2 : (2 : Nat) ^ x.p.toNat ≤ 2 ^ 17 := Nat.pow_le_pow_right (by omega) (by omega)
  rw [dfs_succ, fullI_cons]
  refine Run.ite (fun h => ?_) (fun h => ?_)
  · have hno : ∀ q, q < x.p.toNat → ¬ (withB x c L q && decide (nextP L ≤ q)) = true := fun q hq hf => by
      have := (mask_nz (f := fun j => withB x c L j && decide (nextP L ≤ j)) (n := x.p.toNat)).mpr ⟨q, hq, hf⟩
      omega
    have hF : upF (withB x c L) (nextP L) x.p.toNat = [] := by
      cases hF : upF (withB x c L) (nextP L) x.p.toNat with
      | nil => rfl
      | cons q r =>
        have := mem_upF.mp (show q ∈ upF (withB x c L) (nextP L) x.p.toNat by rw [hF]; exact List.mem_cons_self ..)
        exact absurd (by rw [this.2, decide_eq_true this.1.1]; rfl) (hno q this.1.2)
    rw [hF, sufL, show fullI x c [] = [] from rfl, List.append_nil]
    refine Run.ite (fun h2 => ?_) (fun h2 => ?_)
    · have hmx : maxB x c L = true := maxB_yes fun q hq => by
        cases hw : withB x c L q with
        | false => rfl
        | true =>
          by_cases hle : nextP L ≤ q
          · exact absurd (by rw [hw, decide_eq_true hle]; rfl) (hno q hq)
          · have := (mask_nz (f := fun j => withB x c L j && decide (j < nextP L)) (n := x.p.toNat)).mpr ⟨q, hq, by rw [hw, decide_eq_true (by omega)]; rfl⟩
            omega
      rw [if_pos hmx]
      refine Run.ite (fun h3 => ?_) (fun h3 => Run.ret ?_)
      · refine Run.bindE (Run.push' (by omega)) (Run.ret ?_)
        rw [List.take_of_length_le (by rw [List.length_append, List.length_singleton]; omega)]
      · rw [show m = out.length by omega, take_full]
    · obtain ⟨q, hq, hf⟩ := (mask_nz (f := fun j => withB x c L j && decide (j < nextP L)) (n := x.p.toNat)).mp (by omega)
      rw [maxB_no hq ((Bool.and_eq_true _ _).mp hf).1, if_neg (by simp), List.append_nil, List.take_of_length_le ho]
      exact Run.ret rfl
  obtain ⟨q, hq, hf⟩ := (mask_nz (f := fun j => withB x c L j && decide (nextP L ≤ j)) (n := x.p.toNat)).mp (by omega)
  rw [maxB_no hq ((Bool.and_eq_true _ _).mp hf).1, if_neg (by simp), List.nil_append]
  clear hf h
  generalize hT : (out ++ fullI x c (sufL (fun p F => dfs (fun i j => joinsB x i c j) g (L ++ [p]) (F.filter ((fun i j => joinsB x i c j) p))) (upF (withB x c L) (nextP L) x.p.toNat))).take m = T
  refine Run.loop (L := fun q (z : List Int × Int × Int × Int) => spec_l02Full.l0 q (rowsM x c x.p.toNat) (maskL x.p.toNat L : Int) (m : Int) z.1 z.2.1 z.2.2.1 z.2.2.2) (fun z => (x.p - z.2.2.2).toNat)
    (fun z => 0 ≤ z.2.2.2 ∧ z.2.2.2 ≤ x.p ∧ z.1.length ≤ m ∧ ∃ r : Nat, r = max z.2.2.2.toNat (nextP L) ∧ z.2.1 = (mask (fun j => withB x c L j && decide (r ≤ j)) x.p.toNat : Int) ∧ z.2.2.1 = (mask (fun j => withB x c L j && decide (j < r)) x.p.toNat : Int) ∧ (z.1 ++ fullI x c (sufL (fun p F => dfs (fun i j => joinsB x i c j) g (L ++ [p]) (F.filter ((fun i j => joinsB x i c j) p))) (upF (withB x c L) r x.p.toNat))).take m = T) ?_ (out, _, _, 0)
    ⟨by simp only; omega, by simp only; omega, ho, nextP L, by simp only; omega, rfl, rfl, hT⟩
  clear hT ho out
  rintro ⟨out, fr, dn, p⟩ ⟨p0, p1, ho, r, hr, h1, h2, hT⟩ ih
  simp only at p0 p1 ho hr h1 h2 hT
  subst h1 h2
  obtain ⟨p, rfl⟩ := Int.eq_ofNat_of_zero_le p0
  simp only [Int.toNat_natCast] at ih hr ⊢
  simp only [spec_l02Full.l0, rowsM_length]
  have hl1 := Nat.lt_of_lt_of_le (mask_lt (fun j => withB x c L j && decide (r ≤ j)) x.p.toNat) hm2
  have hl2 := Nat.lt_of_lt_of_le (mask_lt (fun j => withB x c L j && decide (j < r)) x.p.toNat) hm2
  refine Run.ite (fun hpn => ?_) (fun hpn => Run.ret ?_)
  rotate_left
  · rw [upF_end _ (p := r) (by omega), sufL, show fullI x c [] = [] from rfl, List.append_nil, List.take_of_length_le ho] at hT
    exact hT
  have hpn' : p < x.p.toNat := by omega
  refine Run.ite (fun h3 => ?_) (fun h3 => Run.ret ?_)
  rotate_left
  · rw [show m = out.length by omega, take_full] at hT
    exact hT
  have hpi : (2 : Nat) ^ p ≤ 2 ^ 17 := Nat.pow_le_pow_right (by omega) (by omega)
  have hbit : (mask (fun j => withB x c L j && decide (r ≤ j)) x.p.toNat).testBit p = (withB x c L p && decide (r ≤ p)) := by rw [testBit_mask, decide_eq_true hpn', Bool.true_and]
  rw [wu64_id (x := (p : Int)) (by omega), shl64 (by omega), and64 (by omega) (by omega), w64_id (x := (p : Int) + 1) (by omega)]
  refine Run.ite (fun h4 => ?_) (fun h4 => ?_)
  · have hb : (withB x c L p && decide (r ≤ p)) = false := by
      rw [← hbit]
      cases hb : (mask (fun j => withB x c L j && decide (r ≤ j)) x.p.toNat).testBit p with
      | false => rfl
      | true =>
        rw [bit_one hb] at h4
        have : 0 < 2 ^ p := Nat.pow_pos (by omega)
        omega
    have hwp : r = p → withB x c L p = false := fun e => by
      rw [decide_eq_true (by omega), Bool.and_true] at hb
      exact hb
    refine ih (out, _, _, (p : Int) + 1) ⟨by simp only; omega, by simp only; omega, ho, max (p + 1) (nextP L), by simp only; rw [show ((p : Int) + 1).toNat = p + 1 by omega], ?_, ?_, ?_⟩ (by simp only; omega)
    · simp only
      congr 1
      refine mask_congr fun j hj => ?_
      by_cases e : r = p
      · by_cases e2 : j = p
        · rw [e2, hwp e]; rfl
        · congr 1; exact decide_eq_decide.mpr (by omega)
      · congr 1; exact decide_eq_decide.mpr (by omega)
    · simp only
      congr 1
      refine mask_congr fun j hj => ?_
      by_cases e : r = p
      · by_cases e2 : j = p
        · rw [e2, hwp e]; rfl
        · congr 1; exact decide_eq_decide.mpr (by omega)
      · congr 1; exact decide_eq_decide.mpr (by omega)
    · simp only
      by_cases e : r = p
      · rw [e, upF_no hpn' (by rw [hwp e]; simp)] at hT
        rw [show max (p + 1) (nextP L) = p + 1 by omega]
        exact hT
      · rw [show max (p + 1) (nextP L) = r by omega]
        exact hT
  have hb : (withB x c L p && decide (r ≤ p)) = true := by
    rw [← hbit]
    cases hb : (mask (fun j => withB x c L j && decide (r ≤ j)) x.p.toNat).testBit p with
    | true => rfl
    | false => rw [bit_none hb] at h4; exact absurd rfl h4
  rw [Bool.and_eq_true, decide_eq_true_eq] at hb
  obtain ⟨hw, hrp⟩ := hb
  have er : r = p := by omega
  subst er
  have hself : joinsB x r c r = false := by unfold joinsB; simp
  have hml := Nat.lt_of_lt_of_le (mask_lt (joinsB x r c) x.p.toNat) hm2
  refine Run.bindE (Run.getI' (by omega) (by rw [rowsM_length]; omega)) ?_
  refine Run.bindE (Run.getI' (by omega) (by rw [rowsM_length]; omega)) ?_
  rw [rowsM_at]
  have hsl := Nat.lt_of_lt_of_le (mask_lt (fun j => L.contains j) x.p.toNat) hm2
  have e1 : bitop .or .i64 (maskL x.p.toNat L : Int) ((2 ^ r : Nat) : Int) = (maskL x.p.toNat (L ++ [r]) : Int) := by
    unfold maskL
    rw [or64 (by omega) (by omega), mask_or hpn']
    congr 1
    refine mask_congr fun j _ => ?_
    simp [List.contains_eq_mem]
  have e2 : bitop .and .i64 (mask (fun j => withB x c L j && decide (r ≤ j)) x.p.toNat : Int) (mask (joinsB x r c) x.p.toNat : Int) = (mask (fun j => withB x c (L ++ [r]) j && decide (nextP (L ++ [r]) ≤ j)) x.p.toNat : Int) := by
    rw [and64 (by omega) (by omega), mask_and, withB_snoc, nextP_snoc]
    congr 1
    refine mask_congr fun j _ => ?_
    by_cases e : j = r
    · subst e; simp [hself]
    · rw [Bool.eq_iff_iff]
      simp only [Bool.and_eq_true, decide_eq_true_eq]
      constructor
      · rintro ⟨⟨a, b⟩, d⟩; exact ⟨⟨a, d⟩, by omega⟩
      · rintro ⟨⟨a, d⟩, b⟩; exact ⟨⟨a, by omega⟩, d⟩
  have e3 : bitop .and .i64 (mask (fun j => withB x c L j && decide (j < r)) x.p.toNat : Int) (mask (joinsB x r c) x.p.toNat : Int) = (mask (fun j => withB x c (L ++ [r]) j && decide (j < nextP (L ++ [r]))) x.p.toNat : Int) := by
    rw [and64 (by omega) (by omega), mask_and, withB_snoc, nextP_snoc]
    congr 1
    refine mask_congr fun j _ => ?_
    by_cases e : j = r
    · subst e; simp [hself]
    · rw [Bool.eq_iff_iff]
      simp only [Bool.and_eq_true, decide_eq_true_eq]
      constructor
      · rintro ⟨⟨a, b⟩, d⟩; exact ⟨⟨a, d⟩, by omega⟩
      · rintro ⟨⟨a, d⟩, b⟩; exact ⟨⟨a, by omega⟩, d⟩
  rw [e1, e2, e3]
  have hc := ihg (L ++ [r]) out (by rw [nextP_snoc]; omega) (by rw [nextP_snoc]; omega) ho
  rw [nextP_snoc] at hc ⊢
  refine Run.bindE hc ?_
  have hx1 : (mask (fun j => withB x c L j && decide (r ≤ j)) x.p.toNat) ^^^ 2 ^ r = mask (fun j => withB x c L j && decide (r + 1 ≤ j)) x.p.toNat := by
    rw [mask_xor hpn' (by rw [hw]; simp)]
    refine mask_congr fun j _ => ?_
    rw [Bool.and_assoc]
    congr 1
    rw [← Bool.decide_and]
    exact decide_eq_decide.mpr (by omega)
  have hx2 : (mask (fun j => withB x c L j && decide (j < r)) x.p.toNat) ||| 2 ^ r = mask (fun j => withB x c L j && decide (j < r + 1)) x.p.toNat := by
    rw [mask_or hpn']
    refine mask_congr fun j _ => ?_
    by_cases e : j = r
    · subst e; rw [hw]; simp
    · rw [decide_eq_false e, Bool.or_false, show decide (j < r) = decide (j < r + 1) from decide_eq_decide.mpr (by omega)]
  rw [xor64 (by omega) (by omega), or64 (by omega) (by omega), hx1, hx2]
  refine ih (_, _, _, (r : Int) + 1) ⟨by simp only; omega, by simp only; omega, by simp only [List.length_take]; omega, r + 1, by simp only; omega, rfl, rfl, ?_⟩ (by simp only; omega)
  simp only
  rw [upF_yes hpn' hw, sufL, fullI_append, ← List.append_assoc] at hT
  have hfil : (upF (withB x c L) (r + 1) x.p.toNat).filter ((fun i j => joinsB x i c j) r) = upF (withB x c (L ++ [r])) (r + 1) x.p.toNat := by rw [upF_filter, withB_snoc]
  rw [hfil] at hT
  rw [take_take_app]
  exact hT

theorem spec_l01Points_run (s : Nat) (hs : s < 2 ^ 62) : Run (fun k => spec_l01Points.f k (s : Int)) (· = sel s.testBit 62) := by
  unfold spec_l01Points.f
  refine Run.loop (L := fun q (z : List Int × Int) => spec_l01Points.l0 q s z.1 z.2) (fun z => (62 - z.2).toNat) (fun z => 0 ≤ z.2 ∧ z.2 ≤ 62 ∧ z.1 = sel s.testBit z.2.toNat) ?_ ([], 0) ⟨by simp only; omega, by simp only; omega, rfl⟩
  rintro ⟨l, j⟩ ⟨h0, h3, hl⟩ ih
  simp only at h0 h3 hl
  simp only [spec_l01Points.l0]
  obtain ⟨j, rfl⟩ := Int.eq_ofNat_of_zero_le h0
  simp only [Int.toNat_natCast] at hl
  refine Run.ite (fun h => ?_) (fun h => ?_)
  · rw [w64_id (x := (j : Int) + 1) (by omega), wu64_id (by omega)]
    have hb := bit64 (a := s) (n := j) (by omega) (by omega)
    refine Run.ite (fun h1 => ?_) (fun h1 => ?_)
    · have hlen := sel_length s.testBit j
      refine Run.bindE (Run.push' (by rw [hl]; omega)) ?_
      refine ih (_, (j : Int) + 1) ⟨by simp only; omega, by simp only; omega, ?_⟩ (by simp only; omega)
      simp only
      rw [show ((j : Int) + 1).toNat = j + 1 by omega, sel_yes (hb.mp h1), hl]
    · refine ih (_, (j : Int) + 1) ⟨by simp only; omega, by simp only; omega, ?_⟩ (by simp only; omega)
      simp only
      rw [show ((j : Int) + 1).toNat = j + 1 by omega, sel_no (fun h => h1 (hb.mpr h)), hl]
  · refine Run.ret ?_
    rw [hl, show j = 62 by omega]
end Go.Proofs.Ytdpamdedomkomaa.P
