/- A row is taken out of rows, written, and put back; parts of rows. Nothing of the program stands here. -/
import Derived.Test.YtbgniopmmankdaaKD
namespace Go.Proofs.Ytbgniopmmankdaa.K
open Go Go.RowKit
set_option linter.unusedVariables false
set_option linter.unusedSimpArgs false

theorem flat_set (vs : List Value) (i : Nat) (v : Value) (h : i < vs.length) : ((vs.set i v).flatMap vblk).Perm (vblk v ++ (vs.eraseIdx i).flatMap vblk) := by
  have := List.Perm.flatMap_right vblk (perm_set vs i v h)
  simpa using this
theorem flat_get (vs : List Value) (i : Nat) (v : Value) (h : vs[i]? = some v) : (vs.flatMap vblk).Perm (vblk v ++ (vs.eraseIdx i).flatMap vblk) := by
  obtain ⟨hl, rfl⟩ := List.getElem?_eq_some_iff.1 h
  have := List.Perm.flatMap_right vblk (perm_eraseIdx vs i hl)
  simpa using this

section
variable {P : Program} {X M0 : List Nat} {w0 w : World} {own : List HL} {φs : List (World → Prop)} {n : Nat} {T : List (Nat × Value)} {a : Act} {o : Oper} {ops : Array Oper} {rest : List Oper} {Q : Exit → Act → World → Prop}

theorem AllOwn.ro {M : List Nat} {B E2 : Nat} {vs : List Value} {ll : List (List Int)} (h : AllOwn B E2 vs ll w) (hM : ∀ b ∈ vs.flatMap vblk, b ∉ M) : RO M w (AllOwn B E2 vs ll) :=
  ⟨vs.flatMap vblk, fun b hb => ⟨by obtain ⟨i, l, A, c, m, _, _, h2, h3⟩ := h.1.blk b hb; exact h2.lt b h3, hM b hb⟩, fun w' hw => ⟨h.1.of_blocks hw, h.2⟩⟩

theorem AllOwn.take {B E2 q d i : Nat} {Br : Option Addr} {l : List Int} {vs : List Value} {ll : List (List Int)} (h : AllOwn B E2 vs ll w) (hv : vs[i]? = some (.slice Br q d)) (hl : ll[i]? = some l) :
    AllOwn B E2 (vs.set i (.slice none 0 0)) (ll.set i []) w ∧ OwnAt B E2 Br d q l w ∧ ∀ b ∈ vecBlk Br d, b ∉ (vs.set i (.slice none 0 0)).flatMap vblk := by
  have hi : i < vs.length := (List.getElem?_eq_some_iff.1 hv).1
  have p1 := flat_get vs i _ hv
  have p2 := flat_set vs i (.slice none 0 0) hi
  have e0 : vblk (.slice none 0 0) = [] := rfl
  rw [e0, List.nil_append] at p2
  have hnd := p1.nodup_iff.1 h.2.2
  obtain ⟨n1, n2, n3⟩ := List.nodup_append.1 hnd
  have hmem : ∀ b ∈ (vs.set i (.slice none 0 0)).flatMap vblk, b ∈ vs.flatMap vblk := fun b hb => p1.mem_iff.2 (List.mem_append.2 (.inr (p2.mem_iff.1 hb)))
  refine ⟨⟨⟨by simpa using h.1.1, fun k l' hk => ?_⟩, fun b hb => h.2.1 b (hmem b hb), p2.nodup_iff.2 n2⟩, ⟨?_, fun b hb => h.2.1 b (p1.mem_iff.2 (List.mem_append.2 (.inl hb)))⟩, fun b hb hb' => n3 b hb b (p2.mem_iff.1 hb') rfl⟩
  · rw [List.getElem?_set] at hk
    by_cases e : i = k
    · subst e
      rw [if_pos rfl] at hk
      split at hk
      · cases hk
        exact ⟨none, 0, 0, by simp [hi], by simp [vecHolds]⟩
      · cases hk
    · rw [if_neg e] at hk
      obtain ⟨A, c, m, h1, h2⟩ := h.1.2 k l' hk
      exact ⟨A, c, m, by rw [List.getElem?_set, if_neg e]; exact h1, h2⟩
  · obtain ⟨A, c, m, h1, h2⟩ := h.1.2 i l hl
    rw [hv] at h1
    cases h1
    exact h2

/-- a row of rows that are the call's own becomes a heaplet -/
theorem Ms.takeRow {B E2 q d i : Nat} {Br : Option Addr} {l : List Int} {vs : List Value} {ll : List (List Int)} (h : Ms X M0 w0 own φs w) (k : Nat) (hB : w0.heap.size ≤ B) (hk : φs[k]? = some (AllOwn B E2 vs ll)) (hv : vs[i]? = some (.slice Br q d)) (hl : ll[i]? = some l) :
    Ms X M0 w0 (.vec Br d E2 1 q (ints l) :: own) [AllOwn B E2 (vs.set i (.slice none 0 0)) (ll.set i [])] w := by
  have hr := h.ro k hk
  have hn := hr.now
  have hap := AllOwn.apart hr
  obtain ⟨h1, h2, h3⟩ := hn.take hv hl
  have hi : i < vs.length := (List.getElem?_eq_some_iff.1 hv).1
  have p1 := flat_get vs i _ hv
  have p2 := flat_set vs i (.slice none 0 0) hi
  have e0 : vblk (.slice none 0 0) = [] := rfl
  rw [e0, List.nil_append] at p2
  have hrow : ∀ b ∈ vecBlk Br d, b ∉ X ++ fps own := fun b hb => hap b (p1.mem_iff.2 (List.mem_append.2 (.inl hb)))
  refine ⟨h.mod, ?_, ?_, ?_, h.xlt, ?_⟩
  · intro y hy
    rcases List.mem_cons.1 hy with rfl | hy
    · exact h2.1
    · exact h.holds y hy
  · rw [fps_cons]
    exact List.nodup_append.2 ⟨vecBlk_nodup Br d, h.nodup, fun b hb c hc e => by subst e; exact hrow b hb (List.mem_append.2 (.inr hc))⟩
  · intro b hb
    rw [fps_cons] at hb
    rcases List.mem_append.1 hb with hb | hb
    · exact .inr (Nat.le_trans hB (h2.2 b hb))
    · exact h.src b hb
  · intro φ hφ
    simp only [List.mem_singleton] at hφ
    subst hφ
    refine h1.ro fun b hb hbm => ?_
    have hin : b ∈ vs.flatMap vblk := p1.mem_iff.2 (List.mem_append.2 (.inr (p2.mem_iff.1 hb)))
    rcases List.mem_append.1 hbm with hx | hx
    · exact hap b hin (List.mem_append.2 (.inl hx))
    · rw [fps_cons] at hx
      rcases List.mem_append.1 hx with hx | hx
      · exact h3 b hx hb
      · exact hap b hin (List.mem_append.2 (.inr hx))

theorem AllOwn.put {B E2 c m i : Nat} {A : Option Addr} {l : List Int} {vs : List Value} {ll : List (List Int)} (h : AllOwn B E2 (vs.set i (.slice none 0 0)) (ll.set i []) w) (h2 : OwnAt B E2 A c m l w) (hn : NewTo A c (vs.set i (.slice none 0 0)) w) :
    AllOwn B E2 (vs.set i (.slice A m c)) (ll.set i l) w := by
  have hlen : vs.length = ll.length := by have := h.1.1; simpa using this
  by_cases hi : i < vs.length
  · have p1 := flat_set vs i (.slice none 0 0) hi
    have p2 := flat_set vs i (.slice A m c) hi
    have e0 : vblk (.slice none 0 0) = [] := rfl
    rw [e0, List.nil_append] at p1
    refine ⟨⟨by simpa using hlen, fun k l' hk => ?_⟩, fun b hb => ?_, ?_⟩
    · rw [List.getElem?_set] at hk
      by_cases e : i = k
      · subst e
        rw [if_pos rfl, if_pos (by omega)] at hk
        cases hk
        exact ⟨A, c, m, by simp [hi], h2.1⟩
      · rw [if_neg e] at hk
        obtain ⟨A', c', m', h3, h4⟩ := h.1.2 k l' (by rw [List.getElem?_set, if_neg e]; exact hk)
        rw [List.getElem?_set, if_neg e] at h3
        exact ⟨A', c', m', by rw [List.getElem?_set, if_neg e]; exact h3, h4⟩
    · rcases List.mem_append.1 (p2.mem_iff.1 hb) with hb | hb
      · exact h2.2 b hb
      · exact h.2.1 b (p1.mem_iff.2 hb)
    · refine p2.nodup_iff.2 (List.nodup_append.2 ⟨vecBlk_nodup A c, p1.nodup_iff.1 h.2.2, fun b hb d hd e => ?_⟩)
      subst e
      exact hn b hb (p1.mem_iff.2 hd)
  · rw [List.set_eq_of_length_le (by omega), List.set_eq_of_length_le (by omega)] at h ⊢
    exact h

theorem allOwn_put {M : List Nat} {B E2 c m : Nat} {A : Option Addr} {l : List Int} {vs : List Value} {ll : List (List Int)} (i : Nat) (h : RO M w (AllOwn B E2 (vs.set i (.slice none 0 0)) (ll.set i []))) (h2 : RO M w (OwnAt B E2 A c m l)) (hn : NewTo A c (vs.set i (.slice none 0 0)) w) :
    RO M w (AllOwn B E2 (vs.set i (.slice A m c)) (ll.set i l)) :=
  (h.and h2).mono fun w' hh => hh.1.put hh.2 hn

theorem ev_index_rowsH {t : TypeId} {x ix : Operand} {A : Option Addr} {m c B E2 j : Nat} {k : IntKind} {i : Int} {vs : List Value} {ll : List (List Int)} {l : List Int} {v : Value} (ht : Tm n T a) (ho : o.op = .indexAddr t x ix) (hx : opv T x = some (.slice A m c)) (hi : opv T ix = some (.int k i))
    (hf : sliceOf P t = some 1) (hr : RowAt A c m 1 vs w) (hall : AllOwn B E2 (vs.set j v) (ll.set j []) w) (hv : getR ll i = some l) : (execOp a.eval o).run P w = .ok (.value (.pointer (some (eaddr A i.toNat 1)))) w := by
  have h1 := hall.1.1
  simp only [List.length_set] at h1
  have h2 := hr.1
  exact ev_indexAddr_sl ht ho hx hi hf (getR_lo hv) (by have := getR_hi hv; omega) hr.base

theorem Ms.lendRowsO {passed rest : List HL} {A : Option Addr} {c E m B E2 : Nat} {vs : List Value} {ll : List (List Int)} (h : Ms X M0 w0 (passed ++ rest) φs w) (j k : Nat) (hj : rest[j]? = some (.vec A c E 1 m vs)) (hk : φs[k]? = some (AllOwn B E2 vs ll)) : RO (fps passed) w (RowsAt A c m vs ll) :=
  (h.lendVec j hj).and ((h.lendFact k hk).mono fun _ hh => AllOwn.all hh)

/-! ### a part of rows -/
theorem RowsAt.slice {A : Option Addr} {m c : Nat} {i j : Int} {vs : List Value} {ll : List (List Int)} (hr : RowsAt A c m vs ll w) (h : 0 ≤ i ∧ i ≤ j ∧ j ≤ (ll.length : Int)) : RowsAt (sliceA A i.toNat c) (c - i.toNat) (j.toNat - i.toNat) ((vs.take j.toNat).drop i.toNat) ((ll.take j.toNat).drop i.toNat) w := by
  have hl := hr.len
  refine ⟨RowAt.slice (i := i.toNat) (j := j.toNat) hr.1 (by omega) (by omega), by simp [hr.2.1], fun k l hk => ?_⟩
  rw [List.getElem?_drop, List.getElem?_take] at hk
  split at hk
  · next hlt =>
    obtain ⟨B, d, q, h1, h2⟩ := hr.2.2 _ _ hk
    refine ⟨B, d, q, ?_, h2⟩
    rw [List.getElem?_drop, List.getElem?_take, if_pos hlt]
    exact h1
  · cases hk
theorem ev_slice_rows {t e : TypeId} {x : Operand} {lo hi : Option Operand} {A : Option Addr} {m c : Nat} {k k' : IntKind} {i j : Int} {vs : List Value} {l : List (List Int)} (ht : Tm n T a) (ho : o.op = .slice t x lo hi none) (hx : opv T x = some (.slice A m c)) (hu : P.underlying t = some (.slice e)) (hs : (P.info? e).map (·.size) = some 1)
    (hr : RowsAt A c m vs l w) (hlo : (lo = none ∧ i = 0) ∨ ∃ l, lo = some l ∧ opv T l = some (.int k i)) (hhi : (hi = none ∧ j = (l.length : Int)) ∨ ∃ h, hi = some h ∧ opv T h = some (.int k' j)) (h : 0 ≤ i ∧ i ≤ j ∧ j ≤ (l.length : Int)) :
    (execOp a.eval o).run P w = .ok (.value (.slice (sliceA A i.toNat c) (j.toNat - i.toNat) (c - i.toNat))) w := by
  have hl := hr.len
  refine ev_slice ht ho hx hu hs hlo (hhi.imp (fun hh => ⟨hh.1, by rw [hh.2, hl]⟩) id) h.1 h.2.1 (by rw [hl]; exact h.2.2) hr.1.2.1

end
end Go.Proofs.Ytbgniopmmankdaa.K
