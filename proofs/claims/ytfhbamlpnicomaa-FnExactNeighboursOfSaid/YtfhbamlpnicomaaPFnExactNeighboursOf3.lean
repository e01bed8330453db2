/- What the pure functions come to, one by one (part 3). -/
import Derived.Test.YtfhbamlpnicomaaPFnExactNeighboursOf2
import Derived.Test.YtfhbamlpnicomaaGFnExactNeighboursOf4
namespace Go.Proofs.Ytfhbamlpnicomaa.P
open Go Go.RowKit Go.Proofs.Ytfhbamlpnicomaa.K Go.Proofs.Ytfhbamlpnicomaa.G
set_option linter.unusedVariables false
set_option linter.unusedSimpArgs false

theorem laws_heldInt64S_run (n : Nat) (k0 : Int) (hk : 0 ≤ k0 ∧ k0 < 1000000000) (hn : n < 4611686018427387904) : Run (fun k => laws_heldInt64S.f k (seqI k0 n) k0) (· = k0 + n) := by
  unfold laws_heldInt64S.f
  have hlen : (seqI k0 n).length = n := by simp [seqI]
  refine Run.loop (L := fun q (s : Int × Int) => laws_heldInt64S.l0 q (seqI k0 n) s.1 s.2) (fun s => (n - s.2).toNat) (fun s => 0 ≤ s.2 ∧ s.2 ≤ n ∧ s.1 = k0 + s.2) ?_ (k0, 0) ⟨by simp only; omega, by simp only; omega, by simp⟩
  rintro ⟨v, i⟩ ⟨h0, h3, hv⟩ ih
  simp only at h0 h3 hv
  simp only [laws_heldInt64S.l0]
  rw [hlen]
  refine Run.ite (fun h => ?_) (fun h => ?_)
  · refine Run.bindE (Run.getI' h0 (by omega)) ?_
    refine Run.no ?_ ?_
    · simp only [seqI, List.getElem_map, List.getElem_range]; omega
    rw [w64_id (x := v + 1) (by omega), w64_id (x := i + 1) (by omega)]
    exact ih (v + 1, i + 1) ⟨by simp only; omega, by simp only; omega, by simp only; omega⟩ (by simp only; omega)
  · exact Run.ret (by omega)

theorem laws_FnExactNeighboursOf_run (x : Col) (i c : Int) (hx : ByteC x) (_ : I64 i) (_ : I64 c) : Run (fun k => laws_FnExactNeighboursOf.f k x i c) (· = true) := by
  unfold laws_FnExactNeighboursOf.f
  have hx' := cutC_bytes hx
  have hlen : (neighM (cutC x) i c).1.length ≤ 1000 := by
    unfold neighM
    split
    · next h =>
      have h1 := (isB_spec (given_zero h).1).1
      exact Nat.le_trans (sel_length _ _) (by show x.p.toNat ≤ 1000; have : (cutC x).p = x.p := rfl; omega)
    · simp
  refine Run.bindE (laws_toColouring_run x) ?_
  refine Run.bindE (spec_NeighboursOf_run _ hx' i c) ?_
  refine Run.bindE (laws_toColouring_run x) ?_
  refine Run.bindE (impl_NeighboursOf_run _ hx' i c) ?_
  refine Run.bindE (laws_eqInt64S_run _ _ (by omega)) ?_
  refine Run.yes (decide_eq_true rfl) (Run.no (fun h => h rfl) ?_)
  refine Run.bindE (laws_markInt64S_run _ 1 (by omega) (by omega)) ?_
  refine Run.bindE (laws_heldInt64S_run _ 1 (by omega) (by omega)) ?_
  refine Run.no (by omega) (Run.no (fun h => h rfl) ?_)
  refine Run.bindE (laws_toColouring_run x) ?_
  refine Run.bindE (impl_NeighboursOf_run _ hx' i c) ?_
  refine Run.bindE (laws_eqInt64S_run _ _ (by omega)) ?_
  refine Run.yes (decide_eq_true rfl) (Run.no (fun h => h rfl) ?_)
  refine Run.bindE (laws_heldInt64S_run _ 1 (by omega) (by omega)) ?_
  exact Run.no (by omega) (Run.no (fun h => h rfl) (Run.ret rfl))
end Go.Proofs.Ytfhbamlpnicomaa.P
