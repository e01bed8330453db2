/- What the pure functions come to, one by one (part 9). -/
import Derived.Test.YtbgniopmmankdaaPFnExactPointOrbits8
import Derived.Test.YtbgniopmmankdaaGFnExactPointOrbits11
namespace Go.Proofs.Ytbgniopmmankdaa.P
open Go Go.RowKit Go.Proofs.Ytbgniopmmankdaa.K Go.Proofs.Ytbgniopmmankdaa.G
set_option linter.unusedVariables false
set_option linter.unusedSimpArgs false

theorem laws_heldInt64SS_run (a : List (List Int)) (ha : Short a) : Run (fun k => laws_heldInt64SS.f k (markR 1 a) 1) (· = 1 + (totR a : Int)) := by
  unfold laws_heldInt64SS.f
  have h1 := ha.1
  refine Run.loop (L := fun q (z : Int × Int) => laws_heldInt64SS.l0 q (markR 1 a) z.1 z.2) (fun z => (a.length - z.2).toNat) (fun z => ∃ i : Nat, i ≤ a.length ∧ z = (1 + (totR (a.take i) : Int), (i : Int))) ?_ (1, 0) ⟨0, Nat.zero_le _, by simp [totR]⟩
  rintro _ ⟨i, hi, rfl⟩ ih
  simp only [laws_heldInt64SS.l0]
  have ht := ha.take i
  rw [markR_length]
  refine Run.ite (fun h => ?_) (fun h => Run.ret ?_)
  · have hil : i < a.length := by omega
    have hd : a = a.take i ++ a[i] :: a.drop (i + 1) := by rw [← List.drop_eq_getElem_cons hil, List.take_append_drop]
    have hm : markR 1 a = markR 1 (a.take i) ++ seqI (1 + (totR (a.take i) : Int)) a[i].length :: markR (1 + (totR (a.take i) : Int) + (a[i].length : Int)) (a.drop (i + 1)) := by
      conv => lhs; rw [hd, markR_append]
      rfl
    have hml : (markR 1 (a.take i)).length = i := by rw [markR_length, List.length_take]; omega
    have hg : (markR 1 a)[((i : Int)).toNat]'(by rw [markR_length]; omega) = seqI (1 + (totR (a.take i) : Int)) a[i].length := by
      have h9 : (markR 1 a)[i]? = some (seqI (1 + (totR (a.take i) : Int)) a[i].length) := by
        rw [hm, List.getElem?_append_right (by omega), hml, Nat.sub_self]; rfl
      have h8 := List.getElem?_eq_getElem (l := markR 1 a) (i := i) (by rw [markR_length]; omega)
      rw [h8] at h9
      exact Option.some.inj h9
    refine Run.bindE (a := seqI (1 + (totR (a.take i) : Int)) a[i].length) ((Run.getR' (by omega) (by rw [markR_length]; omega)).mono fun r e => by rw [e]; exact hg) ?_
    have hl := ha.2 _ (List.getElem_mem hil)
    refine Run.bindE (laws_heldInt64S_run _ _ (by omega) (by omega)) ?_
    rw [w64_id (x := (i : Int) + 1) (by omega)]
    refine Run.no (by omega) ?_
    refine ih (_, (i : Int) + 1) ⟨i + 1, by omega, ?_⟩ (by simp only; omega)
    rw [List.take_succ_eq_append_getElem hil, totR_append, totR_cons]
    refine Prod.ext ?_ ?_
    · simp only [totR, List.map_nil, List.sum_nil]; omega
    · simp only; omega
  · obtain rfl : i = a.length := by omega
    rw [List.take_of_length_le (Nat.le_refl _)]

theorem laws_FnExactPointOrbits_run (x : Col) (hx : ByteC x) : Run (fun k => laws_FnExactPointOrbits.f k x) (· = true) := by
  unfold laws_FnExactPointOrbits.f
  have hx' := cutC_bytes hx
  have hs := poR_short (x := cutC x)
  refine Run.bindE (laws_toColouring_run x) ?_
  refine Run.bindE (spec_PointOrbits_run _ hx') ?_
  refine Run.bindE (laws_toColouring_run x) ?_
  refine Run.bindE (impl_PointOrbits_run _ hx') ?_
  refine Run.bindE (laws_eqInt64SS_run _ hs) ?_
  refine Run.yes rfl (Run.no (fun h => h rfl) ?_)
  refine Run.bindE (laws_markInt64SS_run _ hs) ?_
  refine Run.bindE (laws_heldInt64SS_run _ hs) ?_
  refine Run.no (by omega) (Run.no (fun h => h rfl) ?_)
  refine Run.bindE (laws_toColouring_run x) ?_
  refine Run.bindE (impl_PointOrbits_run _ hx') ?_
  refine Run.bindE (laws_eqInt64SS_run _ hs) ?_
  refine Run.yes rfl (Run.no (fun h => h rfl) ?_)
  refine Run.bindE (laws_heldInt64SS_run _ hs) ?_
  exact Run.no (by omega) (Run.no (fun h => h rfl) (Run.ret rfl))
end Go.Proofs.Ytbgniopmmankdaa.P
