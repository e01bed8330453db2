/- What the pure functions come to, one by one (part 8). -/
import Derived.Test.YtbgniopmmankdaaPFnExactIsSelfAlike7
import Derived.Test.YtbgniopmmankdaaGFnExactIsSelfAlike9
namespace Go.Proofs.Ytbgniopmmankdaa.P
open Go Go.RowKit Go.Proofs.Ytbgniopmmankdaa.K Go.Proofs.Ytbgniopmmankdaa.G
set_option linter.unusedVariables false
set_option linter.unusedSimpArgs false

theorem impl_Colouring_alike_run (x : Col) (hx : ByteC x) (hc : IsCol x) : Run (fun k => impl_Colouring_alike.f k x 1) (fun r => r.2.2 = alikeB x) := by
  unfold impl_Colouring_alike.f
  have hp := hc.1
  have hk := hc.2.1
  have ho := impl_orders_run6 x.k.toNat (by omega) x.k.toNat [] (by simp)
  rw [show ((x.k.toNat : Nat) : Int) = x.k by omega] at ho
  refine Run.bindE ho ?_
  have hperm := ords_perm x.k.toNat x.k.toNat [] (by simp) (fun i h => by simp at h) (fun i j _ h => by simp at h)
  have hlen := ords_len6 x.k.toNat x.k.toNat (by omega) []
  have h6d : 6 ^ x.k.toNat ≤ 6 ^ 6 := Nat.pow_le_pow_right (by omega) (by omega)
  have h6 : (6 : Nat) ^ 6 = 46656 := rfl
  have hpos : 1 ≤ (ords x.k.toNat x.k.toNat []).length := ords_pos x.k.toNat (by omega)
  unfold alikeB
  generalize ords x.k.toNat x.k.toNat [] = T at hperm hlen hpos
  refine Run.bind (Q := fun _ => True) (Run.guard (by omega) trivial) fun _ _ => ?_
  have hT : (T.take (T.length : Int).toNat).drop (1 : Int).toNat = T.drop 1 := by
    rw [show (T.length : Int).toNat = T.length by omega, List.take_length]; rfl
  have hdl : (T.drop 1).length = T.length - 1 := by simp
  have hperm' : ∀ p ∈ T.drop 1, Perm x.k.toNat p := fun p h => hperm p (List.mem_of_mem_drop h)
  refine Run.loop (L := fun q (z : Int) => impl_Colouring_alike.l0 q x 1 T z) (fun z => (T.length - z).toNat) (fun z => 0 ≤ z ∧ z + 1 ≤ T.length ∧ ((T.drop 1).any fun q => exG (fit2 (recC x q) x) x.p.toNat x.p.toNat []) = (((T.drop 1).drop z.toNat).any fun q => exG (fit2 (recC x q) x) x.p.toNat x.p.toNat [])) ?_ 0 ⟨by omega, by omega, rfl⟩
  rintro i ⟨i0, i1, hi⟩ ih
  obtain ⟨i, rfl⟩ := Int.eq_ofNat_of_zero_le i0
  simp only [Int.toNat_natCast] at ih hi ⊢
  simp only [impl_Colouring_alike.l0]
  rw [hT]
  generalize T.drop 1 = D at hdl hperm' hi ih ⊢
  refine Run.ite (fun h => ?_) (fun h => Run.ret (by rw [hi, List.drop_eq_nil_of_le (by omega)]; rfl))
  have hil : i < D.length := by omega
  rw [show D.drop i = D[i]'hil :: D.drop (i + 1) from List.drop_eq_getElem_cons hil, List.any_cons] at hi
  refine Run.bindE (Run.getR' (by omega) (by omega)) ?_
  simp only [Int.toNat_natCast]
  have hP := hperm' _ (List.getElem_mem hil)
  generalize D[i]'hil = q at hP hi
  obtain ⟨hcr, hbr⟩ := recC_col hx hc hP
  refine Run.bindE (impl_Colouring_recoloured__Colouring_alike_1_run x hx hc q hP) ?_
  refine Run.bind (impl_Colouring_renumbering_run (recC x q) x hbr hcr hx hc rfl rfl) fun r hr => ?_
  have hr' : r.2 = exG (fit2 (recC x q) x) x.p.toNat x.p.toNat [] := hr
  rw [hr']
  refine Run.ite (fun hb => Run.ret ?_) (fun hb => ?_)
  · simp only
    rw [hi, hb]; rfl
  · rw [w64_id (x := (i : Int) + 1) (by omega)]
    rw [Bool.eq_false_iff.mpr hb, Bool.false_or] at hi
    refine ih ((i : Int) + 1) ⟨by omega, by omega, ?_⟩ (by omega)
    rw [show ((i : Int) + 1).toNat = i + 1 by omega]; exact hi

theorem impl_Colouring_isSelfAlike_run (x : Col) (hx : ByteC x) (hc : IsCol x) : Run (fun k => impl_Colouring_isSelfAlike.f k x) (· = alikeB x) := by
  unfold impl_Colouring_isSelfAlike.f
  refine Run.bind (impl_Colouring_alike_run x hx hc) fun r hr => ?_
  exact Run.ret hr

theorem impl_IsSelfAlike_run (x : Col) (hx : ByteC x) : Run (fun k => impl_IsSelfAlike.f k x) (· = saR x) := by
  unfold impl_IsSelfAlike.f saR
  refine Run.bindE (impl_Colouring_code__always_run x hx) ?_
  by_cases h : isB x = true
  rotate_left
  · have : given (isB x) true = 1 := by rw [given, if_neg h]
    rw [this, if_neg h]
    exact Run.yes (by decide) (Run.ret rfl)
  have : given (isB x) true = 0 := by rw [given, if_pos h]; rfl
  rw [this, if_pos h]
  refine Run.no (by decide) ?_
  refine Run.bindE (impl_Colouring_isSelfAlike_run x hx (isB_spec h)) ?_
  exact Run.ret rfl

theorem laws_FnExactIsSelfAlike_run (x : Col) (hx : ByteC x) : Run (fun k => laws_FnExactIsSelfAlike.f k x) (· = true) := by
  unfold laws_FnExactIsSelfAlike.f
  have hx' := cutC_bytes hx
  refine Run.bindE (laws_toColouring_run x) ?_
  refine Run.bindE (spec_IsSelfAlike_run _ hx') ?_
  refine Run.bindE (laws_toColouring_run x) ?_
  refine Run.bindE (impl_IsSelfAlike_run _ hx') ?_
  refine Run.no (fun h => ?_) (Run.no (fun h => h rfl) (Run.ret rfl))
  simp at h
end Go.Proofs.Ytbgniopmmankdaa.P
