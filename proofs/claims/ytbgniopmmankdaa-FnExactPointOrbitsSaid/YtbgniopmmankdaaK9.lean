/- Slices with room: what is pushed lies in the same row, and is taken away again. Nothing of the program stands here. -/
import Derived.Test.YtbgniopmmankdaaK8
namespace Go.Proofs.Ytbgniopmmankdaa.K
open Go Go.RowKit
set_option linter.unusedVariables false
set_option linter.unusedSimpArgs false

section
variable {P : Program} {X M0 : List Nat} {w0 w : World} {own : List HL} {φs : List (World → Prop)} {n : Nat} {T : List (Nat × Value)} {a : Act} {o : Oper} {ops : Array Oper} {rest : List Oper} {Q : Exit → Act → World → Prop}

theorem vecBlk_nodup (A : Option Addr) (c : Nat) : (vecBlk A c).Nodup := by
  cases A with
  | none => simp [vecBlk]
  | some a => cases c <;> simp [vecBlk]

theorem run_append_in {t ty E sz bytes c m k cb : Nat} {A B : Option Addr} {xs ys : List Value} (hty : AppTy P t E sz bytes) (hown : vecHolds w A c E sz m xs) (hys : RowAt B cb k sz ys w) (h1 : ∀ u ∈ ys, u.oneCell' = true) (hk : 0 < k) (hroom : m + k ≤ c) :
    ∃ w', (Builtin.append_ #[t, t] ty #[.slice A m c, .slice B k cb]).run P w = .ok (.slice A (m + k) c) w' ∧ vecHolds w' A c E sz (m + k) (xs ++ ys) ∧ Mod (vecBlk A c) w w' := by
  obtain ⟨hund, ⟨i, z, hi, hz, hzs, hsz, hby⟩, hpos⟩ := hty
  obtain ⟨b, p, rfl, hcell⟩ : ∃ b p, B = some ⟨b, p, none⟩ ∧ ∀ i v, ys[i]? = some v → w.cell? ⟨b, p + i, none⟩ = some v := by
    rcases hys.2.2 with h | h
    · omega
    · exact h
  have hnews : ∀ j u, ys[j]? = some u → w.cell? ((⟨b, p, none⟩ : Addr).add j) = some u := fun j u hu => by rw [addr_add]; exact hcell j u hu
  rcases hown.2 with ⟨hc0, hm0⟩ | ⟨hc0, ho⟩
  · omega
  rcases ho.2 with ⟨h3, h4⟩ | ⟨g, cap, cur, hv, hg, hh, hnc, hmx, hs, htk⟩
  · injection h3 with e1 e2 e3
    omega
  injection hv with e1 e2 e3
  subst e1; subst e3
  obtain ⟨c', rfl⟩ : ∃ q, c = q + 1 := ⟨c - 1, by omega⟩
  have hxl := hown.1
  have hfit : m * i.size + ys.length ≤ cur.size := by rw [hsz, hys.1, hs, ← Nat.add_mul]; exact Nat.mul_le_mul_right _ hroom
  have hr := run_append_room (P := P) w t ty E i hund hi g m (c' + 1) cur hh ⟨b, p, none⟩ k cb ys (by rw [hsz]; exact hys.1) hnews h1 hroom hfit
  rw [hsz] at hr hfit
  refine ⟨_, hr, ⟨by rw [List.length_append, hxl, hys.1, Nat.add_mul], .inr ⟨by omega, by rw [List.length_append, hxl, hys.1, Nat.add_mul], .inr ⟨g, _, _, rfl, Nat.zero_le _, setRow_heap w g cur _ E _ hh, hroom, hmx, ?_, ?_⟩⟩⟩, ?_⟩
  · simp only [List.size_toArray, List.length_append, List.length_take, List.length_drop, Array.length_toList]
    omega
  · rw [htk]
    rw [List.take_append_of_le_length (by rw [List.length_append, hxl, hys.1, Nat.add_mul]; exact Nat.le_refl _)]
    rw [List.take_of_length_le (by rw [List.length_append, hxl, hys.1, Nat.add_mul]; exact Nat.le_refl _)]
  · exact ⟨rfl, rfl, rfl, by simp, fun q _ hq => setRow_other w g q _ (fun e => hq (by simp [vecBlk, e]))⟩

/-- x is pushed onto heaplet j, which has room -/
theorem wpl_push_in {t E c c1 m : Nat} {x y : Operand} {A B : Option Addr} {l r : List Int} {v : Int} (j i : Nat) (hg : o.guard = none) (hd : dstOk o.dst n = true) (ht : Tm n T a) (hM : Ms X M0 w0 own φs w)
    (ho : o.op = .call { callee := .builtin .append, args := #[x, y], argTypes := #[t, t] }) (hty : AppTy P t E 1 8) (hx : opv T x = some (.slice A m c)) (hy : opv T y = some (.slice B 1 c1))
    (hj : own[j]? = some (.vec A c E 1 m (ints l))) (hi : own[i]? = some (.vec B c1 E 1 1 (ints [v]))) (hroom : l.length < c) (hp : push l v = some r)
    (kk : ∀ a', Tm n (putT o.dst (.slice A (m + 1) c) T) a' → ∀ w', Ms X M0 w0 (own.set j (.vec A c E 1 (m + 1) (ints r))) φs w' → wpList P ops Q rest a' w') : wpList P ops Q (o :: rest) a w := by
  have hr := push_get hp
  subst hr
  have hm := (hM.vec_row j hj).len
  have hh := hM.holds _ (List.mem_of_getElem? hj)
  simp only [HL.holds] at hh
  obtain ⟨w', hrun, hown', hmod⟩ := run_append_in (ty := o.type) hty hh (hM.vec_row i hi) (ints_one _) (by omega) (by omega)
  have e1 : ints l ++ ints [v] = ints (l ++ [v]) := by simp [ints]
  rw [e1] at hown'
  refine wpl_new (v := .slice A (m + 1) c) (w' := w') hg hd ht ?_ fun a' ht' => kk a' ht' w' (hM.turnAt j hj hmod hown' (vecBlk_nodup _ _) fun b hb => .inl hb)
  unfold execOp
  simp only [ho, resolve, invoke, builtin, Sem.run_bind, Sem.run_pure, Result.andThen_ok, List.map_toArray, List.map_cons, List.map_nil, ht.eval hx, ht.eval hy, hrun]

/-- .. and what was pushed is taken away -/
theorem Ms.unpush {A : Option Addr} {c E m : Nat} {l r : List Int} {v : Int} (h : Ms X M0 w0 own φs w) (j : Nat) (hj : own[j]? = some (.vec A c E 1 (m + 1) (ints r))) (hp : push l v = some r) : Ms X M0 w0 (own.set j (.vec A c E 1 m (ints l))) φs w := by
  have hr := push_get hp
  subst hr
  have hm := (h.vec_row j hj).len
  rw [List.length_append, List.length_singleton] at hm
  have hh := h.holds _ (List.mem_of_getElem? hj)
  simp only [HL.holds] at hh
  refine h.turnAt j hj (Mod.refl _ _) ?_ (vecBlk_nodup _ _) fun b hb => .inl hb
  obtain ⟨h1, h2⟩ := hh
  refine ⟨by rw [length_ints]; omega, ?_⟩
  rcases h2 with ⟨hc, hn⟩ | ⟨hc, hx, h2⟩
  · omega
  rcases h2 with ⟨h3, h4⟩ | ⟨g, cap, cur, hv, hg, hh, hnc, hmx, hs, htk⟩
  · omega
  injection hv with e1 e2 e3
  subst e1; subst e3
  refine .inr ⟨hc, by rw [length_ints]; omega, .inr ⟨g, c, cur, rfl, hg, hh, by omega, hmx, hs, ?_⟩⟩
  have e : ints l = (ints (l ++ [v])).take (m * 1) := by
    have : ints (l ++ [v]) = ints l ++ ints [v] := by simp [ints]
    rw [this, List.take_append_of_le_length (by rw [length_ints]; omega), List.take_of_length_le (by rw [length_ints]; omega)]
  rw [e, ← htk, List.take_take]
  congr 1
  omega

/-- make([]int64, 0, c) -/
theorem wpl_make_cap {t E c : Nat} {x y : Operand} {k1 k2 : IntKind} (hg : o.guard = none) (hd : dstOk o.dst n = true) (ht : Tm n T a) (hM : Ms X M0 w0 own φs w) (ho : o.op = .makeSlice t x y) (hu : P.underlying t = some (.slice E)) (hz : zeroOf P E = some [.int .i64 0]) (hs : (P.info? E).map (·.size) = some 1)
    (hb : (P.info? E).map (fun i => decide (i.bytes ≤ 1024)) = some true) (hx : opv T x = some (.int k1 0)) (hy : opv T y = some (.int k2 (c : Int))) (h0 : c ≤ 1048576)
    (k : ∀ A a', Tm n (putT o.dst (.slice A 0 c) T) a' → ∀ w', Ms X M0 w0 (.vec A c E 1 0 (ints []) :: own) φs w' → wpList P ops Q rest a' w') : wpList P ops Q (o :: rest) a w := by
  refine wpl_makeSlice hg hd ht hM ho hu hz hs hb hx hy (Int.le_refl _) (by omega) (by omega) ?_
  intro A a' ht' w' hm'
  have e : ((c : Int)).toNat = c := by omega
  rw [e] at ht' hm'
  exact k A a' ht' w' hm'

end
end Go.Proofs.Ytbgniopmmankdaa.K
