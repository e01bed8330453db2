/- What the pure functions come to, one by one (part 7). -/
import Derived.Test.YtdpamdedomkomaaPFnExactFullCliques6
import Derived.Test.YtdpamdedomkomaaGFnExactFullCliques9
namespace Go.Proofs.Ytdpamdedomkomaa.P
open Go Go.RowKit Go.Proofs.Ytdpamdedomkomaa.K Go.Proofs.Ytdpamdedomkomaa.G
set_option linter.unusedVariables false
set_option linter.unusedSimpArgs false

theorem laws_markInt64S_run (a : List Int) (k0 : Int) (hk : 0 ≤ k0 ∧ k0 < 1000000000) (ha : a.length < 4611686018427387904) : Run (fun k => laws_markInt64S.f k a k0) (· = (k0 + a.length, seqI k0 a.length)) := by
  unfold laws_markInt64S.f
  refine Run.loop (L := fun q (s : List Int × Int × Int) => laws_markInt64S.l0 q s.1 s.2.1 s.2.2) (fun s => (a.length - s.2.2).toNat) (fun s => 0 ≤ s.2.2 ∧ s.2.2 ≤ a.length ∧ s.2.1 = k0 + s.2.2 ∧ s.1 = seqI k0 s.2.2.toNat ++ a.drop s.2.2.toNat) ?_ (a, k0, 0) ⟨by simp only; omega, by simp only; omega, by simp, by simp [seqI]⟩
  rintro ⟨l, v, i⟩ ⟨h0, h3, hv, hl⟩ ih
  simp only at h0 h3 hv hl
  simp only [laws_markInt64S.l0]
  have hlen : l.length = a.length := by rw [hl]; simp [seqI]; omega
  refine Run.ite (fun h => ?_) (fun h => ?_)
  · refine Run.bindE (Run.getI' h0 h) ?_
    rw [w64_id (x := v + 1) (by omega), w64_id (x := i + 1) (by omega)]
    refine ih (_, v + 1, i + 1) ⟨by simp only; omega, by simp only; omega, by simp only; omega, ?_⟩ (by simp only; omega)
    simp only
    have hd : a.drop i.toNat = a[i.toNat]'(by omega) :: a.drop (i.toNat + 1) := List.drop_eq_getElem_cons (by omega)
    rw [hl, hd, set_append (by simp [seqI]), show (i + 1).toNat = i.toNat + 1 by omega]
    simp only [seqI, List.range_succ, List.map_append, List.append_assoc, List.map_cons, List.map_nil, List.singleton_append]
    rw [hv, show ((i.toNat : Nat) : Int) = i by omega]
  · have : i = a.length := by omega
    subst this
    refine Run.ret ?_
    rw [hl, hv]; simp

theorem laws_markInt64SS_run (a : List (List Int)) (ha : Short a) : Run (fun k => laws_markInt64SS.f k a 1) (· = (1 + (totR a : Int), markR 1 a)) := by
  unfold laws_markInt64SS.f
  have h1 := ha.1
  refine Run.loop (L := fun q (z : List (List Int) × Int × Int) => laws_markInt64SS.l0 q z.1 z.2.1 z.2.2) (fun z => (a.length - z.2.2).toNat) (fun z => ∃ i : Nat, i ≤ a.length ∧ z = (markR 1 (a.take i) ++ a.drop i, 1 + (totR (a.take i) : Int), (i : Int))) ?_ (a, 1, 0) ⟨0, Nat.zero_le _, by simp [markR, totR]⟩
  rintro _ ⟨i, hi, rfl⟩ ih
  simp only [laws_markInt64SS.l0]
  have ht := ha.take i
  have hlen : (markR 1 (a.take i) ++ a.drop i).length = a.length := by rw [List.length_append, markR_length, List.length_take, List.length_drop]; omega
  have hml : (markR 1 (a.take i)).length = i := by rw [markR_length, List.length_take]; omega
  rw [hlen]
  refine Run.ite (fun h => ?_) (fun h => Run.ret ?_)
  · have hil : i < a.length := by omega
    have hd : a.drop i = a[i] :: a.drop (i + 1) := List.drop_eq_getElem_cons hil
    have hg : (markR 1 (a.take i) ++ a.drop i)[((i : Int)).toNat]'(by rw [hlen]; omega) = a[i] := by
      rw [List.getElem_append_right (by rw [hml]; omega)]
      simp only [Int.toNat_natCast, hml, Nat.sub_self, List.getElem_drop, Nat.add_zero]
    refine Run.bindE (a := a[i]) ((Run.getR' (by omega) (by rw [hlen]; omega)).mono fun r e => by rw [e]; exact hg) ?_
    have hl := ha.2 _ (List.getElem_mem hil)
    refine Run.bindE (laws_markInt64S_run _ _ (by omega) (by omega)) ?_
    rw [w64_id (x := (i : Int) + 1) (by omega)]
    refine ih (_, _, (i : Int) + 1) ⟨i + 1, by omega, ?_⟩ (by simp only; omega)
    have hts := List.take_succ_eq_append_getElem hil
    rw [hts, markR_append, totR_append, totR_cons]
    simp only [Int.toNat_natCast]
    refine Prod.ext ?_ (Prod.ext ?_ ?_)
    · simp only
      rw [hd, List.set_append_right _ _ (by omega), hml, Nat.sub_self, List.set_cons_zero, List.append_assoc]
      rfl
    · simp only [totR, List.map_nil, List.sum_nil]; omega
    · simp only; omega
  · obtain rfl : i = a.length := by omega
    rw [List.take_of_length_le (Nat.le_refl _), List.drop_of_length_le (Nat.le_refl _), List.append_nil]

theorem laws_heldInt64S_run (n : Nat) (k0 : Int) (hk : 0 ≤ k0 ∧ k0 < 1000000000) (hn : n < 4611686018427387904) : Run (fun k => laws_heldInt64S.f k (seqI k0 n) k0) (· = k0 + n) := by
  unfold laws_heldInt64S.f
  have hlen : (seqI k0 n).length = n := by simp [seqI]
  refine Run.loop (L := fun q (s : Int × Int) => laws_heldInt64S.l0 q (seqI k0 n) s.1 s.2) (fun s => (n - s.2).toNat) (fun s => 0 ≤ s.2 ∧ s.2 ≤ n ∧ s.1 = k0 + s.2) ?_ (k0, 0) ⟨by simp only; omega, by simp only; omega, by simp⟩
  rintro ⟨v, i⟩ ⟨h0, h3, hv⟩ ih
  simp only at h0 h3 hv
  simp only [laws_heldInt64S.l0]
  rw [hlen]
  refine Run.ite (fun h => ?_) (fun h => ?_)
  · refine Run.bindE (Run.getI' h0 (by omega)) ?_
    refine Run.no ?_ ?_
    · simp only [seqI, List.getElem_map, List.getElem_range]; omega
    rw [w64_id (x := v + 1) (by omega), w64_id (x := i + 1) (by omega)]
    exact ih (v + 1, i + 1) ⟨by simp only; omega, by simp only; omega, by simp only; omega⟩ (by simp only; omega)
  · exact Run.ret (by omega)

theorem laws_heldInt64SS_run (a : List (List Int)) (ha : Short a) : Run (fun k => laws_heldInt64SS.f k (markR 1 a) 1) (· = 1 + (totR a : Int)) := by
  unfold laws_heldInt64SS.f
  have h1 := ha.1
  refine Run.loop (L := fun q (z : Int × Int) => laws_heldInt64SS.l0 q (markR 1 a) z.1 z.2) (fun z => (a.length - z.2).toNat) (fun z => ∃ i : Nat, i ≤ a.length ∧ z = (1 + (totR (a.take i) : Int), (i : Int))) ?_ (1, 0) ⟨0, Nat.zero_le _, by simp [totR]⟩
  rintro _ ⟨i, hi, rfl⟩ ih
  simp only [laws_heldInt64SS.l0]
  have ht := ha.take i
  rw [markR_length]
  refine Run.ite (fun h => ?_) (fun h => Run.ret ?_)
  · have hil : i < a.length := by omega
    have hd : a = a.take i ++ a[i] :: a.drop (i + 1) := by rw [← List.drop_eq_getElem_cons hil, List.take_append_drop]
    have hm : markR 1 a = markR 1 (a.take i) ++ seqI (1 + (totR (a.take i) : Int)) a[i].length :: markR (1 + (totR (a.take i) : Int) + (a[i].length : Int)) (a.drop (i + 1)) := by
      conv => lhs; rw [hd, markR_append]
      rfl
    have hml : (markR 1 (a.take i)).length = i := by rw [markR_length, List.length_take]; omega
    have hg : (markR 1 a)[((i : Int)).toNat]'(by rw [markR_length]; omega) = seqI (1 + (totR (a.take i) : Int)) a[i].length := by
      have h9 : (markR 1 a)[i]? = some (seqI (1 + (totR (a.take i) : Int)) a[i].length) := by
        rw [hm, List.getElem?_append_right (by omega), hml, Nat.sub_self]; rfl
      have h8 := List.getElem?_eq_getElem (l := markR 1 a) (i := i) (by rw [markR_length]; omega)
      rw [h8] at h9
      exact Option.some.inj h9
    refine Run.bindE (a := seqI (1 + (totR (a.take i) : Int)) a[i].length) ((Run.getR' (by omega) (by rw [markR_length]; omega)).mono fun r e => by rw [e]; exact hg) ?_
    have hl := ha.2 _ (List.getElem_mem hil)
    refine Run.bindE (laws_heldInt64S_run _ _ (by omega) (by omega)) ?_
    rw [w64_id (x := (i : Int) + 1) (by omega)]
    refine Run.no (by omega) ?_
    refine ih (_, (i : Int) + 1) ⟨i + 1, by omega, ?_⟩ (by simp only; omega)
    rw [List.take_succ_eq_append_getElem hil, totR_append, totR_cons]
    refine Prod.ext ?_ ?_
    · simp only [totR, List.map_nil, List.sum_nil]; omega
    · simp only; omega
  · obtain rfl : i = a.length := by omega
    rw [List.take_of_length_le (Nat.le_refl _)]

theorem laws_FnExactFullCliques_run (x : Col) (c : Int) (hx : ByteC x) (_ : I64 c) : Run (fun k => laws_FnExactFullCliques.f k x c) (· = true) := by
  unfold laws_FnExactFullCliques.f
  have hx' := cutC_bytes hx
  have hs := fcM_short (cutC x) c
  have ht := hs.tot
  refine Run.bindE (laws_toColouring_run x) ?_
  refine Run.bindE (spec_FullCliques_run _ hx' c) ?_
  refine Run.bindE (laws_toColouring_run x) ?_
  refine Run.bindE (impl_FullCliques_run _ hx' c) ?_
  refine Run.bindE (laws_eqInt64SS_run _ hs) ?_
  refine Run.yes rfl (Run.no (fun h => h rfl) ?_)
  refine Run.bindE (laws_markInt64SS_run _ hs) ?_
  refine Run.bindE (laws_heldInt64SS_run _ hs) ?_
  refine Run.no (by omega) (Run.no (fun h => h rfl) ?_)
  refine Run.bindE (laws_toColouring_run x) ?_
  refine Run.bindE (impl_FullCliques_run _ hx' c) ?_
  refine Run.bindE (laws_eqInt64SS_run _ hs) ?_
  refine Run.yes rfl (Run.no (fun h => h rfl) ?_)
  refine Run.bindE (laws_heldInt64SS_run _ hs) ?_
  exact Run.no (by omega) (Run.no (fun h => h rfl) (Run.ret rfl))
end Go.Proofs.Ytdpamdedomkomaa.P
