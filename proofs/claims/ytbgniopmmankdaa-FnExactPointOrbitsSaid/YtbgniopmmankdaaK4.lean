/- Append, slices of slices, calls, loops, the begin and the end of a function. Nothing of the program stands here. -/
import Derived.Test.YtbgniopmmankdaaK3
namespace Go.Proofs.Ytbgniopmmankdaa.K
open Go Go.RowKit
set_option linter.unusedVariables false
set_option linter.unusedSimpArgs false

section
variable {P : Program} {X M0 : List Nat} {w0 w : World} {own : List HL} {φs : List (World → Prop)} {n : Nat} {T : List (Nat × Value)} {a : Act} {o : Oper} {ops : Array Oper} {rest : List Oper} {Q : Exit → Act → World → Prop}

/-! ### append onto a slice of the call's own -/

theorem Mod.of_grown {w w' : World} {row : Option Nat} (h : w.grownBy w' row) : Mod row.toList w w' :=
  ⟨h.os, h.tape, h.output, h.size, fun k hk hn => h.block k hk fun e => hn (by rw [← e]; simp)⟩

/-- the facts on types that append wants -/
structure AppTy (P : Program) (t E sz bytes : Nat) : Prop where
  und : P.underlying t = some (.slice E)
  zero : ∃ i z, P.info? E = some i ∧ i.zero = some z ∧ z.cells.size = sz ∧ i.size = sz ∧ i.bytes = bytes
  pos : 0 < sz

theorem run_append_vec {t ty E sz bytes c m k cb : Nat} {A B : Option Addr} {xs ys : List Value} (hty : AppTy P t E sz bytes) (hown : vecHolds w A c E sz m xs) (hys : RowAt B cb k sz ys w) (h1 : ∀ u ∈ ys, u.oneCell' = true)
    (hb : (m + k) * bytes ≤ 140737488355328) (h63 : m + k ≤ maxLen) :
    ∃ A' c' w', (Builtin.append_ #[t, t] ty #[.slice A m c, .slice B k cb]).run P w = .ok (.slice A' (m + k) c') w' ∧ vecHolds w' A' c' E sz (m + k) (xs ++ ys) ∧ Mod (vecBlk A c) w w' ∧
      (vecBlk A' c').Nodup ∧ ∀ b ∈ vecBlk A' c', b ∈ vecBlk A c ∨ w.heap.size ≤ b := by
  obtain ⟨hund, ⟨i, z, hi, hz, hzs, hsz, hby⟩, hpos⟩ := hty
  have hnd : ∀ (A : Option Addr) (c : Nat), (vecBlk A c).Nodup := fun A c => by
    cases A with
    | none => simp [vecBlk]
    | some a => cases c <;> simp [vecBlk]
  by_cases hk : k = 0
  · -- nothing is appended
    subst hk
    have hy0 : ys = [] := List.eq_nil_of_length_eq_zero (by simpa using hys.1)
    subst hy0
    refine ⟨A, c, w, ?_, by simpa using hown, Mod.refl _ _, hnd A c, fun b hb => .inl hb⟩
    have hfits : m + 0 ≤ c := by
      rcases hown.2 with ⟨_, h⟩ | ⟨_, h⟩
      · omega
      · rcases h.2 with ⟨h3, h4⟩ | ⟨g, cap, cur, hv, hg, hh, hnc, _⟩
        · omega
        · injection hv with _ _ e3; omega
    have hfc : (Builtin.firstCells i.size 0 (.slice B 0 cb)).run P w = .ok #[] w := by
      cases B with
      | none => exact run_firstCells_none (P := P) w i.size 0 0 cb
      | some b => exact run_firstCells_some (P := P) w i.size 0 b 0 cb [] (by simp) (by simp)
    cases A with
    | none => simp [Builtin.append_, run_underlying hund, sizeOf, typeInfo, hi, Builtin.lenOf, hfc, show m ≤ c by omega]
    | some a => simp [Builtin.append_, run_underlying hund, sizeOf, typeInfo, hi, Builtin.lenOf, hfc, show m ≤ c by omega, storeCells]
  · obtain ⟨b, p, rfl, hcell⟩ : ∃ b p, B = some ⟨b, p, none⟩ ∧ ∀ i v, ys[i]? = some v → w.cell? ⟨b, p + i, none⟩ = some v := by
      rcases hys.2.2 with h | h
      · exact absurd h hk
      · exact h
    have hnews : ∀ j u, ys[j]? = some u → w.cell? ((⟨b, p, none⟩ : Addr).add j) = some u := fun j u hu => by rw [addr_add]; exact hcell j u hu
    rcases hown.2 with ⟨hc0, hm0⟩ | ⟨hc0, ho⟩
    · subst hc0; subst hm0
      have hx0 : xs = [] := List.eq_nil_of_length_eq_zero (by simpa using hown.1)
      subst hx0
      have hcap := grownCap_ge w (0 + k) 0 E
      have hmx := grownCap_le_maxLen w (0 + k) 0 E h63
      have key : ∀ (r : Result Value), r = .ok (.slice (some ⟨w.heap.size, 0, none⟩) (0 + k) (grownCap w (0 + k) 0 E)) (w.drew.alloc (.cells (ys.toArray ++ Builtin.zeroCells z.cells (grownCap w (0 + k) 0 E - (0 + k))) E)) →
          ∃ A' c' w', r = .ok (.slice A' (0 + k) c') w' ∧ vecHolds w' A' c' E sz (0 + k) ([] ++ ys) ∧ Mod (vecBlk A 0) w w' ∧ (vecBlk A' c').Nodup ∧ ∀ b ∈ vecBlk A' c', b ∈ vecBlk A 0 ∨ w.heap.size ≤ b := by
        intro r hr
        refine ⟨_, _, _, hr, ⟨by simpa using hys.1, .inr ⟨by omega, by simpa using hys.1, .inr ⟨w.heap.size, _, _, rfl, Nat.zero_le _, heap_alloc_new w.drew _, hcap, hmx, ?_, ?_⟩⟩⟩, ?_, hnd _ _, ?_⟩
        · simp only [Array.size_append, List.size_toArray, size_zeroCells, hzs, hys.1]
          rw [← Nat.add_mul]
          congr 1
          omega
        · simp only [Array.toList_append, List.nil_append]
          rw [List.take_append_of_le_length (by simp [hys.1])]
          rw [List.take_of_length_le (by simp [hys.1])]
        · refine (Mod.mono (M := []) ?_ (by simp))
          exact (Mod.drew w).trans (Mod.alloc w.drew _) (by simp)
        · intro b hb
          obtain ⟨c', hc'⟩ : ∃ q, grownCap w (0 + k) 0 E = q + 1 := ⟨grownCap w (0 + k) 0 E - 1, by omega⟩
          rw [hc'] at hb
          simp [vecBlk] at hb
          subst hb
          exact .inr (Nat.le_refl _)
      apply key
      cases A with
      | none =>
        have := run_append_nil (P := P) w t ty E i z hund hi hz ⟨b, p, none⟩ k cb ys (by rw [hsz]; exact hys.1) hnews (by omega) (by have := h63; simp only [maxLen] at this; omega) (by rw [hby]; have := hb; simp only [Nat.zero_add] at this; omega)
        simpa using this
      | some aa =>
        have := run_append_grow (P := P) w t ty E i z hund hi hz aa 0 0 [] (by simp) (by simp) ⟨b, p, none⟩ k cb ys (by rw [hsz]; exact hys.1) hnews (by omega) (by have := h63; simp only [maxLen] at this; omega)
          (by rw [hby]; exact growslice_fits (by omega) hb)
        simpa using this
    · rcases ho.2 with ⟨h3, h4⟩ | ⟨g, cap, cur, hv, hg, hh, hnc, hmx, hs, htk⟩
      · injection h3 with e1 e2 e3
        omega
      injection hv with e1 e2 e3
      subst e1; subst e3
      obtain ⟨c', rfl⟩ : ∃ q, c = q + 1 := ⟨c - 1, by omega⟩
      have hxl := hown.1
      by_cases hroom : m + k ≤ c' + 1
      · have hfit : m * i.size + ys.length ≤ cur.size := by rw [hsz, hys.1, hs, ← Nat.add_mul]; exact Nat.mul_le_mul_right _ hroom
        have hr := run_append_room (P := P) w t ty E i hund hi g m (c' + 1) cur hh ⟨b, p, none⟩ k cb ys (by rw [hsz]; exact hys.1) hnews h1 hroom hfit
        rw [hsz] at hr hfit
        refine ⟨_, _, _, hr, ⟨by rw [List.length_append, hxl, hys.1, Nat.add_mul], .inr ⟨by omega, by rw [List.length_append, hxl, hys.1, Nat.add_mul], .inr ⟨g, _, _, rfl, Nat.zero_le _, setRow_heap w g cur _ E _ hh, hroom, hmx, ?_, ?_⟩⟩⟩, ?_, hnd _ _, fun b hb => .inl hb⟩
        · simp only [List.size_toArray, List.length_append, List.length_take, List.length_drop, Array.length_toList]
          omega
        · rw [htk]
          rw [List.take_append_of_le_length (by rw [List.length_append, hxl, hys.1, Nat.add_mul]; exact Nat.le_refl _)]
          rw [List.take_of_length_le (by rw [List.length_append, hxl, hys.1, Nat.add_mul]; exact Nat.le_refl _)]
        · exact ⟨rfl, rfl, rfl, by simp, fun q _ hq => setRow_other w g q _ (fun e => hq (by simp [vecBlk, e]))⟩
      · have holds : ∀ j u, xs[j]? = some u → w.cell? ((⟨g, 0, none⟩ : Addr).add j) = some u := ho.cells (g := g) rfl
        have hr := run_append_grow (P := P) w t ty E i z hund hi hz ⟨g, 0, none⟩ m (c' + 1) xs (by rw [hsz]; exact hxl) holds ⟨b, p, none⟩ k cb ys (by rw [hsz]; exact hys.1) hnews (by omega) (by have := h63; simp only [maxLen] at this; omega)
          (by rw [hby]; exact growslice_fits (by omega) hb)
        have hcap := grownCap_ge w (m + k) (c' + 1) E
        have hmx' := grownCap_le_maxLen w (m + k) (c' + 1) E h63
        refine ⟨_, _, _, hr, ⟨by rw [List.length_append, hxl, hys.1, Nat.add_mul], .inr ⟨by omega, by rw [List.length_append, hxl, hys.1, Nat.add_mul], .inr ⟨w.heap.size, _, _, rfl, Nat.zero_le _, heap_alloc_new w.drew _, hcap, hmx', ?_, ?_⟩⟩⟩, ?_, hnd _ _, ?_⟩
        · simp only [Array.size_append, List.size_toArray, size_zeroCells, hzs, hys.1, hxl]
          rw [← Nat.add_mul, ← Nat.add_mul]
          congr 1
          omega
        · simp only [Array.toList_append]
          rw [List.take_append_of_le_length (by simp [hxl, hys.1, Nat.add_mul])]
          rw [List.take_of_length_le (by simp [hxl, hys.1, Nat.add_mul])]
        · refine (Mod.mono (M := []) ?_ (by simp))
          exact (Mod.drew w).trans (Mod.alloc w.drew _) (by simp)
        · intro b hb
          obtain ⟨q, hq⟩ : ∃ q, grownCap w (m + k) (c' + 1) E = q + 1 := ⟨grownCap w (m + k) (c' + 1) E - 1, by omega⟩
          rw [hq] at hb
          simp [vecBlk] at hb
          subst hb
          exact .inr (Nat.le_refl _)

/-- append onto heaplet number j, of a row that can be read -/
theorem wpl_append {t E sz bytes c m k cb : Nat} {x y : Operand} {A B : Option Addr} {xs ys : List Value} (j : Nat) (hg : o.guard = none) (hd : dstOk o.dst n = true) (ht : Tm n T a) (hM : Ms X M0 w0 own φs w)
    (ho : o.op = .call { callee := .builtin .append, args := #[x, y], argTypes := #[t, t] }) (hty : AppTy P t E sz bytes) (hx : opv T x = some (.slice A m c)) (hy : opv T y = some (.slice B k cb)) (hj : own[j]? = some (.vec A c E sz m xs))
    (hys : RowAt B cb k sz ys w) (h1 : ∀ u ∈ ys, u.oneCell' = true) (hb : (m + k) * bytes ≤ 140737488355328) (h63 : m + k ≤ maxLen)
    (kk : ∀ A' c' a', Tm n (putT o.dst (.slice A' (m + k) c') T) a' → ∀ w', Ms X M0 w0 (own.set j (.vec A' c' E sz (m + k) (xs ++ ys))) φs w' → wpList P ops Q rest a' w') : wpList P ops Q (o :: rest) a w := by
  have hh := hM.holds _ (List.mem_of_getElem? hj)
  simp only [HL.holds] at hh
  obtain ⟨A', c', w', hr, hown', hmod, hnd, hsrc⟩ := run_append_vec (ty := o.type) hty hh hys h1 hb h63
  refine wpl_new (v := .slice A' (m + k) c') (w' := w') hg hd ht ?_ fun a' ht' => kk A' c' a' ht' w' (hM.turnAt j hj hmod hown' hnd hsrc)
  unfold execOp
  simp only [ho, resolve, invoke, builtin, Sem.run_bind, Sem.run_pure, Result.andThen_ok, List.map_toArray, List.map_cons, List.map_nil, ht.eval hx, ht.eval hy, hr]

end
end Go.Proofs.Ytbgniopmmankdaa.K
