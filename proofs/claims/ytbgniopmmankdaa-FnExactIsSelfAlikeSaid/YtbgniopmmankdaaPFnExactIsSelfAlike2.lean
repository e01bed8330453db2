/- What the pure functions come to, one by one (part 2). -/
import Derived.Test.YtbgniopmmankdaaPFnExactIsSelfAlike00
import Derived.Test.YtbgniopmmankdaaGFnExactIsSelfAlike9
namespace Go.Proofs.Ytbgniopmmankdaa.P
open Go Go.RowKit Go.Proofs.Ytbgniopmmankdaa.K Go.Proofs.Ytbgniopmmankdaa.G
set_option linter.unusedVariables false
set_option linter.unusedSimpArgs false

theorem laws_toByteA136_run (e : Nat → Int) : Run (fun k => laws_toByteA136.f k e) (· = cut e) := by
  unfold laws_toByteA136.f
  refine Run.loop (L := fun q (s : (Nat → Int) × Int) => laws_toByteA136.l0 q e s.1 s.2) (fun s => (136 - s.2).toNat) (fun s => 0 ≤ s.2 ∧ s.2 ≤ 136 ∧ s.1 = fun (j : Nat) => if (j : Int) < s.2 then e j else 0) ?_ (_, 0) ⟨by omega, by omega, by funext j; rw [if_neg]; show ¬ ((j : Int) < 0); omega⟩
  rintro ⟨s, i⟩ ⟨h0, h1, hs⟩ ih
  simp only at h0 h1 hs
  simp only [laws_toByteA136.l0]
  refine Run.ite (fun h => ?_) (fun h => ?_)
  · refine Run.bindE (Run.getB' h0 h) ?_
    refine Run.bindE (Run.getB' h0 h) ?_
    rw [w64_id (by omega)]
    refine ih (_, i + 1) ⟨by simp only; omega, by simp only; omega, ?_⟩ (by simp only; omega)
    funext j
    show upd s i.toNat (e i.toNat) j = if (j : Int) < i + 1 then e j else 0
    by_cases e1 : j = i.toNat
    · rw [e1, upd_same, if_pos (by omega)]
    · rw [upd_other e1, hs]
      show (if (j : Int) < i then e j else 0) = _
      by_cases e2 : (j : Int) < i
      · rw [if_pos e2, if_pos (by omega)]
      · rw [if_neg e2, if_neg (by omega)]
  · refine Run.ret ?_
    rw [hs]
    funext j
    show (if (j : Int) < i then e j else 0) = cut e j
    unfold cut
    by_cases e2 : (j : Int) < i
    · rw [if_pos e2, if_pos (by omega)]
    · rw [if_neg e2, if_neg (by omega)]

theorem laws_toColouring_run (x : Col) : Run (fun k => laws_toColouring.f k x) (· = cutC x) := by
  unfold laws_toColouring.f
  refine Run.bindE (laws_toByteA136_run _) ?_
  exact Run.ret rfl

theorem spec_l01In_run (n low high : Int) : Run (fun _ => spec_l01In.f n low high) (· = decide (low ≤ n ∧ n ≤ high)) := by
  unfold spec_l01In.f
  refine Run.ite (fun h => ?_) (fun h => ?_)
  · refine Run.ret (decide_eq_decide.mpr ?_); omega
  · refine Run.ret ((decide_eq_false ?_).symm); omega

theorem spec_l01Is_run (x : Col) (hx : ByteC x) : Run (fun k => spec_l01Is.f k x) (· = isB x) := by
  unfold spec_l01Is.f
  refine Run.bindE (spec_l01In_run _ _ _) ?_
  refine Run.itn (fun h1 => ?_) (fun h1 => ?_)
  · exact Run.ret (decide_eq_false fun h => h1 (decide_eq_true h.1)).symm
  refine Run.bindE (spec_l01In_run _ _ _) ?_
  refine Run.itn (fun h2 => ?_) (fun h2 => ?_)
  · exact Run.ret (decide_eq_false fun h => h2 (decide_eq_true h.2.1)).symm
  have hp := of_decide_eq_true h1
  have hk := of_decide_eq_true h2
  refine Run.loop (L := fun q (i : Int) => spec_l01Is.l0 q x i) (fun i => (136 - i).toNat) (fun i => 0 ≤ i ∧ i ≤ 136 ∧ ∀ j : Nat, (j : Int) < i → (if j < tri x.p.toNat then x.e j < x.k else x.e j = 0)) ?_ 0 ⟨by omega, by omega, fun j hj => by omega⟩
  rintro i ⟨h0, h3, hJ⟩ ih
  simp only [spec_l01Is.l0]
  have et : w64 (Int.tdiv (w64 (x.p * (w64 (x.p - 1)))) 2) = (tri x.p.toNat : Int) := by
    have := tri_int (n := x.p.toNat) (by omega)
    rwa [show ((x.p.toNat : Nat) : Int) = x.p by omega] at this
  refine Run.ite (fun h => ?_) (fun h => ?_)
  · rw [et]
    refine Run.ite (fun h4 => ?_) (fun h4 => ?_)
    · refine Run.bindE (Run.getB' h0 h) ?_
      have hb := hx i.toNat
      rw [w64_id (by omega)]
      refine Run.ite (fun h5 => ?_) (fun h5 => ?_)
      · refine Run.ret (decide_eq_false fun hc => ?_).symm
        have := hc.2.2 i.toNat (by omega)
        rw [if_pos (by omega)] at this; omega
      · rw [w64_id (by omega)]
        refine ih (i + 1) ⟨by omega, by omega, fun j hj => ?_⟩ (by omega)
        by_cases ej : (j : Int) < i
        · exact hJ j ej
        · obtain rfl : j = i.toNat := by omega
          rw [if_pos (by omega)]; omega
    · refine Run.bindE (Run.getB' h0 h) ?_
      refine Run.ite (fun h5 => ?_) (fun h5 => ?_)
      · refine Run.ret (decide_eq_false fun hc => ?_).symm
        have := hc.2.2 i.toNat (by omega)
        rw [if_neg (by omega)] at this; omega
      · rw [w64_id (by omega)]
        refine ih (i + 1) ⟨by omega, by omega, fun j hj => ?_⟩ (by omega)
        by_cases ej : (j : Int) < i
        · exact hJ j ej
        · obtain rfl : j = i.toNat := by omega
          rw [if_neg (by omega)]; omega
  · refine Run.ret (decide_eq_true ⟨hp, hk, fun j hj => hJ j (by omega)⟩).symm

theorem spec_l01Own_run (l : List Int) (hl : l.length < 1099511627776) : Run (fun _ => spec_l01Own.f l) (· = l) := by
  unfold spec_l01Own.f
  refine Run.bindE (Run.concat' (by simp; omega)) ?_
  exact Run.ret (List.nil_append l)

theorem spec_l06Orders_run (n : Nat) (hn : n ≤ 6) : ∀ (d : Nat) (b : List Int), b.length + d = n → Run (fun k => spec_l06Orders.f k b n) (· = ords n d b) := by
  intro d
  induction d with
  | zero =>
    intro b hb
    refine Run.step ?_
    simp only [spec_l06Orders.f]
    exact Run.yes (by omega) (Run.ret rfl)
  | succ d ihd =>
    intro b hb
    refine Run.step ?_
    simp only [spec_l06Orders.f]
    refine Run.no (by omega) ?_
    have hlen := fun m (hm : m ≤ 6) => ords_part6 n d hn (by omega) b m hm
    refine Run.loop (L := fun q (z : List (List Int) × Int) => spec_l06Orders.l0 q b n z.1 z.2) (fun z => (n - z.2).toNat) (fun z => 0 ≤ z.2 ∧ z.2 ≤ n ∧ z.1 = ((List.range z.2.toNat).flatMap fun (i : Nat) => if b.contains (i : Int) = true then [] else ords n d (b ++ [(i : Int)]))) ?_ ([], 0) ⟨by simp only; omega, by simp only; omega, rfl⟩
    rintro ⟨T, i⟩ ⟨h0, h3, hT⟩ ih
    simp only at h0 h3 hT
    obtain ⟨i, rfl⟩ := Int.eq_ofNat_of_zero_le h0
    simp only [Int.toNat_natCast] at ih hT ⊢
    simp only [spec_l06Orders.l0]
    refine Run.ite (fun h => ?_) (fun h => ?_)
    rotate_left
    · refine Run.ret ?_
      rw [hT, show i = n by omega]; rfl
    have hl := hlen i (by omega)
    rw [← hT] at hl
    refine Run.loop (L := fun q (z : Bool × Int) => spec_l06Orders.l1 q b n T i z.1 z.2) (fun z => (b.length - z.2).toNat) (fun z => 0 ≤ z.2 ∧ z.2 ≤ b.length ∧ z.1 = (b.take z.2.toNat).contains (i : Int)) ?_ (false, 0) ⟨by simp only; omega, by simp only; omega, rfl⟩
    rintro ⟨f, j⟩ ⟨j0, j3, hf⟩ ih2
    simp only at j0 j3 hf
    obtain ⟨j, rfl⟩ := Int.eq_ofNat_of_zero_le j0
    simp only [Int.toNat_natCast] at ih2 hf ⊢
    simp only [spec_l06Orders.l1]
    refine Run.ite (fun hj => ?_) (fun hj => ?_)
    · have et : b.take (j + 1) = b.take j ++ [b[j]'(by omega)] := (List.take_append_getElem (by omega)).symm
      have ec : (b.take (j + 1)).contains (i : Int) = (f || decide (b[j]'(by omega) = (i : Int))) := by
        rw [et, hf, Bool.eq_iff_iff]
        simp only [List.contains_iff_mem, List.mem_append, List.mem_singleton, Bool.or_eq_true, decide_eq_true_eq]
        constructor
        · rintro (h | h); exact .inl h; exact .inr h.symm
        · rintro (h | h); exact .inl h; exact .inr h.symm
      rw [w64_id (x := (j : Int) + 1) (by omega)]
      refine Run.ite (fun h1 => ?_) (fun h1 => ?_)
      · refine ih2 (true, (j : Int) + 1) ⟨by simp only; omega, by simp only; omega, ?_⟩ (by simp only; omega)
        simp only
        rw [show ((j : Int) + 1).toNat = j + 1 by omega, ec, h1]; rfl
      · refine Run.bindE (Run.getI' (by omega) hj) ?_
        refine ih2 (_, (j : Int) + 1) ⟨by simp only; omega, by simp only; omega, ?_⟩ (by simp only; omega)
        simp only
        rw [show ((j : Int) + 1).toNat = j + 1 by omega, ec, Bool.eq_false_iff.mpr h1, Bool.false_or]; rfl
    · rw [List.take_of_length_le (by omega)] at hf
      rw [w64_id (x := (i : Int) + 1) (by omega)]
      refine Run.ite (fun hc => ?_) (fun hc => ?_)
      · refine ih (T, (i : Int) + 1) ⟨by simp only; omega, by simp only; omega, ?_⟩ (by simp only; omega)
        simp only
        rw [show ((i : Int) + 1).toNat = i + 1 by omega, List.range_succ, List.flatMap_append, hT]
        simp only [List.flatMap_cons, List.flatMap_nil, List.append_nil]
        rw [if_pos (by rw [← hf]; exact hc), List.append_nil]
      · refine Run.bindE (spec_l01Own_run b (by omega)) ?_
        refine Run.bindE (Run.push' (by omega)) ?_
        refine Run.bindE (ihd (b ++ [(i : Int)]) (by simp; omega)) ?_
        have hol := ords_len6 n d hn (b ++ [(i : Int)])
        have h5d : 6 ^ d ≤ 6 ^ 6 := Nat.pow_le_pow_right (by omega) (by omega)
        refine Run.bindE (Run.concatR' (by omega)) ?_
        refine ih (_, (i : Int) + 1) ⟨by simp only; omega, by simp only; omega, ?_⟩ (by simp only; omega)
        simp only
        rw [show ((i : Int) + 1).toNat = i + 1 by omega, List.range_succ, List.flatMap_append, hT]
        simp only [List.flatMap_cons, List.flatMap_nil, List.append_nil]
        rw [if_neg (by rw [← hf]; exact hc)]

theorem spec_l01Turned_run (x : Col) (hx : ByteC x) (hc : IsCol x) (q : List Int) (hq : Perm x.k.toNat q) : Run (fun k => spec_l01Turned.f k x q) (· = trnC x q (tri x.p.toNat)) := by
  unfold spec_l01Turned.f
  have hp := hc.1
  have hk := hc.2.1
  have ht : w64 (Int.tdiv (w64 (x.p * (w64 (x.p - 1)))) 2) = (tri x.p.toNat : Int) := by
    have := tri_int (n := x.p.toNat) (by omega)
    rw [show ((x.p.toNat : Nat) : Int) = x.p by omega] at this
    exact this
  have h136 : tri x.p.toNat ≤ 136 := by have := tri_mono (m := x.p.toNat) (n := 17) (by omega); rw [tri17] at this; exact this
  refine Run.loop (L := fun k (z : Col × Int) => spec_l01Turned.l0 k q z.1 z.2) (fun z => (tri x.p.toNat - z.2).toNat) (fun z => 0 ≤ z.2 ∧ z.2 ≤ tri x.p.toNat ∧ z.1 = trnC x q z.2.toNat) ?_ (x, 0) ⟨by simp only; omega, by simp only; omega, rfl⟩
  rintro ⟨y, e⟩ ⟨e0, e1, hy⟩ ih
  simp only at e0 e1 hy
  obtain ⟨e, rfl⟩ := Int.eq_ofNat_of_zero_le e0
  simp only [Int.toNat_natCast] at ih hy ⊢
  subst hy
  simp only [spec_l01Turned.l0]
  rw [(trnC_p x q e).1, ht]
  refine Run.ite (fun he => ?_) (fun he => Run.ret (by rw [show e = tri x.p.toNat by omega]))
  have het : e < tri x.p.toNat := by omega
  have hxe := hc.2.2 e (by omega)
  rw [if_pos het] at hxe
  have hx0 := (hx e).1
  have hee : (trnC x q e).e e = x.e e := by rw [trnC_e, if_neg (by omega)]
  refine Run.bindE (Run.getB' (by omega) (by omega)) ?_
  simp only [Int.toNat_natCast]
  rw [hee]
  refine Run.bindE (Run.getI' hx0 (by rw [hq.len]; omega)) ?_
  refine Run.bind (Q := fun _ => True) ((Run.getB' (by omega) (by omega)).mono fun _ _ => trivial) fun _ _ => ?_
  rw [w64_id (x := (e : Int) + 1) (by omega)]
  refine ih (_, (e : Int) + 1) ⟨by simp only; omega, by simp only; omega, ?_⟩ (by simp only; omega)
  simp only
  rw [show ((e : Int) + 1).toNat = e + 1 by omega, trnC, List.getD_eq_getElem?_getD, List.getElem?_eq_getElem (by rw [hq.len]; omega)]
  rfl

theorem spec_l01Edge_run (i j : Nat) (hi : i ≤ 1000) (hj : j ≤ 1000) : Run (fun _ => spec_l01Edge.f i j) (· = (edg i j : Int)) := by
  unfold spec_l01Edge.f
  have ti := tri_mono hi
  have tj := tri_mono hj
  have tt : tri 1000 = 499500 := rfl
  refine Run.ite (fun h => ?_) (fun h => ?_)
  · refine Run.ret ?_
    rw [tri_int (by omega), w64_id (by omega), edg, if_pos (by omega)]; rfl
  · refine Run.ret ?_
    rw [tri_int (by omega), w64_id (by omega), edg, if_neg (by omega)]; rfl

theorem spec_l01At_run (x : Col) (hx : ByteC x) (hp : 0 ≤ x.p ∧ x.p ≤ 17) (i j : Nat) (hi : (i : Int) < x.p) (hj : (j : Int) < x.p) (hn : i ≠ j) : Run (fun _ => spec_l01At.f x i j) (· = colr x i j) := by
  unfold spec_l01At.f
  refine Run.bindE (spec_l01Edge_run i j (by omega) (by omega)) ?_
  have := edg_lt136 (i := i) (j := j) (p := x.p.toNat) (by omega) (by omega) (by omega) hn
  refine Run.bindE (Run.getB' (by omega) (by omega)) ?_
  have hb := hx ((edg i j : Nat) : Int).toNat
  exact Run.ret (w64_id (by omega))
end Go.Proofs.Ytbgniopmmankdaa.P
