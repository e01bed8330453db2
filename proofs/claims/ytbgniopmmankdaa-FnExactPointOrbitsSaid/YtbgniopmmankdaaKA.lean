/- Slices that were read and become the call's own again; rows of rows that are the call's own. Nothing of the program stands here. -/
import Derived.Test.YtbgniopmmankdaaK9
namespace Go.Proofs.Ytbgniopmmankdaa.K
open Go Go.RowKit
set_option linter.unusedVariables false
set_option linter.unusedSimpArgs false

section
variable {P : Program} {X M0 : List Nat} {w0 w : World} {own : List HL} {φs : List (World → Prop)} {n : Nat} {T : List (Nat × Value)} {a : Act} {o : Oper} {ops : Array Oper} {rest : List Oper} {Q : Exit → Act → World → Prop}

/-- a slice of numbers that is whole, in a block of at least B -/
def OwnAt (B E : Nat) (A : Option Addr) (c n : Nat) (l : List Int) (w : World) : Prop := vecHolds w A c E 1 n (ints l) ∧ ∀ b ∈ vecBlk A c, B ≤ b
/-- such slices, each in a block of its own -/
def AllOwn (B E2 : Nat) (vs : List Value) (ll : List (List Int)) (w : World) : Prop := rowsHold w E2 vs ll ∧ (∀ b ∈ vs.flatMap vblk, B ≤ b) ∧ (vs.flatMap vblk).Nodup
def NewTo (A : Option Addr) (c : Nat) (vs : List Value) : World → Prop := fun _ => ∀ b ∈ vecBlk A c, b ∉ vs.flatMap vblk

theorem OwnAt.row {B E : Nat} {A : Option Addr} {c m : Nat} {l : List Int} (h : OwnAt B E A c m l w) : IntsAt A c m l w := vecHolds.row h.1

theorem AllOwn.all {B E2 : Nat} {vs : List Value} {ll : List (List Int)} (h : AllOwn B E2 vs ll w) : AllInts vs ll w := by
  refine ⟨h.1.1, fun i l hl => ?_⟩
  obtain ⟨A, c, m, h1, h2⟩ := h.1.2 i l hl
  exact ⟨A, c, m, h1, vecHolds.row h2⟩

theorem vecHolds.cells {A : Option Addr} {c E sz m : Nat} {xs : List Value} (h : vecHolds w A c E sz m xs) : ∀ b ∈ vecBlk A c, ∃ cs e z, w.heap[b]? = some (.cells cs e z) := by
  intro b hb
  rcases h.2 with ⟨h0, _⟩ | ⟨h0, ho⟩
  · subst h0
    cases A <;> simp [vecBlk] at hb
  · rcases ho.2 with ⟨h3, h4⟩ | ⟨g, cap, cur, hv, hg, hh, _⟩
    · injection h3 with e1 e2 e3; omega
    · injection hv with e1 e2 e3
      subst e1; subst e3
      obtain ⟨c', rfl⟩ : ∃ q, c = q + 1 := ⟨c - 1, by omega⟩
      simp [vecBlk] at hb
      subst hb
      exact ⟨_, _, _, hh⟩

/-- a block that a fact speaks of lies apart -/
theorem RO.apart {M : List Nat} {φ : World → Prop} {b : Nat} (h : RO M w φ) (hc : ∀ w', φ w' → ∃ cs e z, w'.heap[b]? = some (.cells cs e z)) : b ∉ M := by
  obtain ⟨F, hF, hφ⟩ := h
  by_cases hb : b ∈ F
  · exact (hF b hb).2
  · exfalso
    obtain ⟨cs, e, z, h1⟩ := hc { w with heap := w.heap.setIfInBounds b (.map #[] 0) } (hφ _ fun b' hb' => by
      have : b ≠ b' := fun e => hb (e ▸ hb')
      simp [Array.getElem?_setIfInBounds_ne this])
    simp only [Array.getElem?_setIfInBounds] at h1
    split at h1
    · split at h1
      · cases h1
      · cases h1
    · rename_i hne; simp at hne

theorem OwnAt.apart {M : List Nat} {B E : Nat} {A : Option Addr} {c m : Nat} {l : List Int} (h : RO M w (OwnAt B E A c m l)) : ∀ b ∈ vecBlk A c, b ∉ M :=
  fun b hb => h.apart fun w' hw => hw.1.cells b hb
theorem AllOwn.apart {M : List Nat} {B E2 : Nat} {vs : List Value} {ll : List (List Int)} (h : RO M w (AllOwn B E2 vs ll)) : ∀ b ∈ vs.flatMap vblk, b ∉ M :=
  fun b hb => h.apart fun w' hw => by
    obtain ⟨i, l, A, c, m, _, _, h2, h3⟩ := hw.1.blk b hb
    exact h2.cells b h3

theorem OwnAt.ro {M : List Nat} {B E : Nat} {A : Option Addr} {c m : Nat} {l : List Int} (h : OwnAt B E A c m l w) (hM : ∀ b ∈ vecBlk A c, b ∉ M) : RO M w (OwnAt B E A c m l) :=
  ⟨vecBlk A c, fun b hb => ⟨h.1.lt b hb, hM b hb⟩, fun w' hw => ⟨h.1.of_blocks hw, h.2⟩⟩

theorem ownAt_nil {M : List Nat} (B E : Nat) : RO M w (OwnAt B E none 0 0 []) :=
  ⟨[], by simp, fun _ _ => ⟨⟨by simp [ints], .inl ⟨rfl, rfl⟩⟩, by simp [vecBlk]⟩⟩
theorem allOwn_nil {M : List Nat} (B E2 : Nat) : RO M w (AllOwn B E2 [] []) :=
  ⟨[], by simp, fun _ _ => ⟨⟨rfl, fun i l h => by simp at h⟩, by simp, by simp⟩⟩
theorem allOwn_one {M : List Nat} {B E2 : Nat} {A : Option Addr} {c m : Nat} {l : List Int} (h : RO M w (OwnAt B E2 A c m l)) : RO M w (AllOwn B E2 [.slice A m c] [l]) := by
  refine h.mono fun w' h => ⟨⟨rfl, fun i l' hl => ?_⟩, by simpa [vblk] using h.2, by simpa [vblk] using vecBlk_nodup A c⟩
  cases i with
  | zero => simp at hl; subst hl; exact ⟨A, c, m, rfl, h.1⟩
  | succ i => simp at hl
theorem allOwn_append {M : List Nat} {B E2 : Nat} {vs us : List Value} {ll mm r : List (List Int)} (e : concatR ll mm = some r) (h1 : RO M w (AllOwn B E2 vs ll)) (h2 : RO M w (AllOwn B E2 us mm)) (hd : ∀ b ∈ us.flatMap vblk, b ∉ vs.flatMap vblk) : RO M w (AllOwn B E2 (vs ++ us) r) := by
  unfold concatR at e
  split at e
  · cases e
    refine (h1.and h2).mono fun w' h => ⟨⟨by simp [h.1.1.1, h.2.1.1], fun i l' hl => ?_⟩, ?_, ?_⟩
    · rw [List.getElem?_append] at hl
      split at hl
      · rename_i hlt
        obtain ⟨A, c, m, h3, h4⟩ := h.1.1.2 i l' hl
        refine ⟨A, c, m, ?_, h4⟩
        rw [List.getElem?_append_left (by rw [h.1.1.1]; exact hlt)]
        exact h3
      · rename_i hlt
        obtain ⟨A, c, m, h3, h4⟩ := h.2.1.2 _ l' hl
        refine ⟨A, c, m, ?_, h4⟩
        rw [List.getElem?_append_right (by rw [h.1.1.1]; omega), h.1.1.1]
        exact h3
    · intro b hb
      rw [List.flatMap_append] at hb
      rcases List.mem_append.1 hb with hb | hb
      · exact h.1.2.1 b hb
      · exact h.2.2.1 b hb
    · rw [List.flatMap_append]
      exact List.nodup_append.2 ⟨h.1.2.2, h.2.2.2, fun b hb c hc e => by subst e; exact hd b hc hb⟩
  · cases e
theorem newTo_one {A : Option Addr} {c m : Nat} {vs : List Value} (h : NewTo A c vs w) : ∀ b ∈ [Value.slice A m c].flatMap vblk, b ∉ vs.flatMap vblk := by
  intro b hb
  exact h b (by simpa [vblk] using hb)
theorem newTo_nil {M : List Nat} {A : Option Addr} {c : Nat} : RO M w (NewTo A c []) := RO.const (by simp)
theorem newTo_zero {M : List Nat} {vs : List Value} : RO M w (NewTo none 0 vs) := RO.const (by simp [vecBlk])

/-- the block of an own slice is none of theirs -/
theorem Ms.newTo {A : Option Addr} {c E sz m B E2 : Nat} {xs vs : List Value} {ll : List (List Int)} (h : Ms X M0 w0 own φs w) (j k : Nat) (hj : own[j]? = some (.vec A c E sz m xs)) (hk : φs[k]? = some (AllOwn B E2 vs ll)) : RO (X ++ fps own) w (NewTo A c vs) := by
  refine RO.const fun b hb hb' => ?_
  have h1 := AllOwn.apart (h.ro k hk) b hb'
  exact h1 (List.mem_append.2 (.inr (mem_fps.2 ⟨_, List.mem_of_getElem? hj, hb⟩)))

theorem srcNil {own' : List HL} {B : Nat} : ∀ b ∈ fps [], b ∈ fps own' ∨ B ≤ b := by simp [fps]
theorem srcIn {own' fs : List HL} {x y : HL} {B : Nat} (k : Nat) (hk : own'[k]? = some y) (hf : y.fp = x.fp) (r : ∀ b ∈ fps fs, b ∈ fps own' ∨ B ≤ b) : ∀ b ∈ fps (x :: fs), b ∈ fps own' ∨ B ≤ b := by
  intro b hb
  rw [fps_cons] at hb
  rcases List.mem_append.1 hb with hb | hb
  · exact .inl (mem_fps.2 ⟨y, List.mem_of_getElem? hk, hf ▸ hb⟩)
  · exact r b hb
theorem srcGe {own' fs : List HL} {x : HL} {B : Nat} (hV : ∀ b ∈ x.fp, B ≤ b) (r : ∀ b ∈ fps fs, b ∈ fps own' ∨ B ≤ b) : ∀ b ∈ fps (x :: fs), b ∈ fps own' ∨ B ≤ b := by
  intro b hb
  rw [fps_cons] at hb
  rcases List.mem_append.1 hb with hb | hb
  · exact .inr (hV b hb)
  · exact r b hb

/-- a heaplet that was not there at the begin lies in new blocks -/
theorem Ms.ownGe {formals : List HL} {x : HL} {B : Nat} (h : Ms X (fps formals) w0 own φs w) (j : Nat) (hB : B ≤ w0.heap.size) (hform : ∀ b ∈ fps formals, b ∈ fps (own.eraseIdx j) ∨ B ≤ b) (hj : own[j]? = some x) : ∀ b ∈ x.fp, B ≤ b := by
  obtain ⟨hl, he⟩ := List.getElem?_eq_some_iff.1 hj
  have h1 : Ms X (fps formals) w0 (own[j] :: own.eraseIdx j) φs w := h.permute (perm_eraseIdx own j hl)
  rw [he] at h1
  have hnd := h1.nodup
  rw [fps_cons] at hnd
  intro b hb
  rcases h1.src b (by rw [fps_cons]; exact List.mem_append.2 (.inl hb)) with h4 | h4
  · rcases hform b h4 with h5 | h5
    · exact absurd rfl ((List.nodup_append.1 hnd).2.2 b hb b h5)
    · exact h5
  · omega

/-- an own slice becomes one that is read, and may become an own one again -/
theorem Ms.shutOwn {A : Option Addr} {c E m B : Nat} {l : List Int} (h : Ms X M0 w0 own φs w) (j : Nat) (hge : ∀ b ∈ (HL.vec A c E 1 m (ints l)).fp, B ≤ b) (hj : own[j]? = some (.vec A c E 1 m (ints l))) : Ms X M0 w0 (own.eraseIdx j) (OwnAt B E A c m l :: φs) w := by
  obtain ⟨hl, he⟩ := List.getElem?_eq_some_iff.1 hj
  have hh := h.holds _ (List.mem_of_getElem? hj)
  simp only [HL.holds] at hh
  have hp := perm_eraseIdx own j hl
  have h1 : Ms X M0 w0 (own[j] :: own.eraseIdx j) φs w := h.permute hp
  rw [he] at h1
  have h2 : Ms X M0 w0 (own.eraseIdx j) φs w := h1.perm (rest := [.vec A c E 1 m (ints l)]) (List.perm_append_singleton _ _).symm
  have hnd := h1.nodup
  rw [fps_cons] at hnd
  have hdis := (List.nodup_append.1 hnd).2.2
  have hin : ∀ b ∈ vecBlk A c, b ∈ (HL.vec A c E 1 m (ints l)).fp := fun b hb => hb
  refine h2.addφ (OwnAt.ro ⟨hh, fun b hb => hge b (hin b hb)⟩ fun b hb hbm => ?_)
  rcases List.mem_append.1 hbm with h3 | h3
  · rcases h1.src b (by rw [fps_cons]; exact List.mem_append.2 (.inl (hin b hb))) with h4 | h4
    · exact (h.xlt _ h3).2 h4
    · have := (h.xlt _ h3).1; omega
  · exact hdis b (hin b hb) b h3 rfl

/-- .. and is one again, at the end of what made it -/
theorem Ms.reclaim {A : Option Addr} {c E m B : Nat} {l : List Int} (h : Ms X M0 w0 own φs w) (k : Nat) (hB : w0.heap.size ≤ B) (hk : φs[k]? = some (OwnAt B E A c m l)) : Ms X M0 w0 (.vec A c E 1 m (ints l) :: own) [] w := by
  have hr := h.ro k hk
  have hn := hr.now
  have hap := OwnAt.apart hr
  refine ⟨h.mod, ?_, ?_, ?_, h.xlt, by simp⟩
  · intro y hy
    rcases List.mem_cons.1 hy with rfl | hy
    · exact hn.1
    · exact h.holds y hy
  · rw [fps_cons]
    exact List.nodup_append.2 ⟨vecBlk_nodup A c, h.nodup, fun b hb d hd e => by subst e; exact hap b hb (List.mem_append.2 (.inr hd))⟩
  · intro b hb
    rw [fps_cons] at hb
    rcases List.mem_append.1 hb with hb | hb
    · exact .inr (Nat.le_trans hB (hn.2 b hb))
    · exact h.src b hb

theorem Ms.gather {A : Option Addr} {c E E2 m B : Nat} {vs : List Value} {ll : List (List Int)} (h : Ms X M0 w0 own φs w) (j k : Nat) (hB : w0.heap.size ≤ B) (hj : own[j]? = some (.vec A c E 1 m vs)) (hk : φs[k]? = some (AllOwn B E2 vs ll)) : Ms X M0 w0 (own.set j (.vecs A c E E2 m vs ll)) [] w := by
  obtain ⟨hl, he⟩ := List.getElem?_eq_some_iff.1 hj
  have hh := h.holds _ (List.mem_of_getElem? hj)
  simp only [HL.holds] at hh
  have hr := h.ro k hk
  have hn := hr.now
  have hap := AllOwn.apart hr
  have h1 : Ms X M0 w0 (own[j] :: own.eraseIdx j) φs w := h.permute (perm_eraseIdx own j hl)
  rw [he] at h1
  have hnd := h1.nodup
  rw [fps_cons] at hnd
  obtain ⟨n1, n2, n3⟩ := List.nodup_append.1 hnd
  have hap' : ∀ b ∈ vs.flatMap vblk, b ∉ vecBlk A c ∧ b ∉ fps (own.eraseIdx j) := fun b hb => by
    have h2 := hap b hb
    have h3 : ∀ b, b ∈ fps own ↔ b ∈ fps (own[j] :: own.eraseIdx j) := fun b => (List.Perm.flatMap_right HL.fp (perm_eraseIdx own j hl)).mem_iff
    have h4 : b ∉ fps (own[j] :: own.eraseIdx j) := fun hq => h2 (List.mem_append.2 (.inr ((h3 b).2 hq)))
    rw [he, fps_cons] at h4
    exact ⟨fun hq => h4 (List.mem_append.2 (.inl hq)), fun hq => h4 (List.mem_append.2 (.inr hq))⟩
  have h2 : Ms X M0 w0 (.vecs A c E E2 m vs ll :: own.eraseIdx j) [] w := by
    refine ⟨h.mod, ?_, ?_, ?_, h.xlt, by simp⟩
    · intro y hy
      rcases List.mem_cons.1 hy with rfl | hy
      · exact ⟨hh, hn.1⟩
      · exact h1.holds y (List.mem_cons.2 (.inr hy))
    · rw [fps_cons]
      refine List.nodup_append.2 ⟨List.nodup_append.2 ⟨vecBlk_nodup A c, hn.2.2, fun b hb d hd e => by subst e; exact (hap' b hd).1 hb⟩, n2, fun b hb d hd e => ?_⟩
      subst e
      rcases List.mem_append.1 hb with hb | hb
      · exact n3 b hb b hd rfl
      · exact (hap' b hb).2 hd
    · intro b hb
      rw [fps_cons] at hb
      rcases List.mem_append.1 hb with hb | hb
      · rcases List.mem_append.1 hb with hb | hb
        · exact h1.src b (by rw [fps_cons]; exact List.mem_append.2 (.inl hb))
        · exact .inr (Nat.le_trans hB (hn.2.1 b hb))
      · exact h1.src b (by rw [fps_cons]; exact List.mem_append.2 (.inr hb))
  exact h2.permute (perm_set own j _ hl).symm

theorem Ms.nilVecs (h : Ms X M0 w0 own φs w) (A : Option Addr) (E E2 : Nat) : Ms X M0 w0 (.vecs A 0 E E2 0 [] [] :: own) φs w := by
  have hf : fps (HL.vecs A 0 E E2 0 [] [] :: own) = fps own := by rw [fps_cons]; cases A <;> simp [HL.fp, vecBlk]
  refine ⟨h.mod, ?_, by rw [hf]; exact h.nodup, by rw [hf]; exact h.src, h.xlt, by rw [hf]; exact h.ros⟩
  intro x hx
  rcases List.mem_cons.1 hx with rfl | hx
  · exact ⟨⟨by simp, .inl ⟨rfl, rfl⟩⟩, rfl, fun i l h => by simp at h⟩
  · exact h.holds x hx

theorem vecs_rows {A : Option Addr} {c E E2 m : Nat} {vs : List Value} {ll : List (List Int)} (h : (HL.vecs A c E E2 m vs ll).holds w) : RowsAt A c m vs ll w := by
  refine ⟨vecHolds.row h.1, h.2.1, fun i l hl => ?_⟩
  obtain ⟨A, c, m, h1, h2⟩ := h.2.2 i l hl
  exact ⟨A, c, m, h1, vecHolds.row h2⟩
theorem Ms.vecsRows (h : Ms X M0 w0 own φs w) (j : Nat) {A : Option Addr} {c E E2 m : Nat} {vs : List Value} {ll : List (List Int)} (hj : own[j]? = some (.vecs A c E E2 m vs ll)) : RowsAt A c m vs ll w :=
  vecs_rows (h.holds _ (List.mem_of_getElem? hj))

theorem Ms.rowsOfO (h : Ms X M0 w0 own φs w) (j k : Nat) {A : Option Addr} {c E m B E2 : Nat} {vs : List Value} {ll : List (List Int)} (hj : own[j]? = some (.vec A c E 1 m vs)) (hk : φs[k]? = some (AllOwn B E2 vs ll)) : RowsAt A c m vs ll w :=
  ⟨h.vec_row j hj, AllOwn.all (h.fact k hk)⟩

/-- what is owned may be read by a callee that hands nothing back -/
theorem Ms.lendVecs {passed rest : List HL} {A : Option Addr} {c E E2 m : Nat} {vs : List Value} {ll : List (List Int)} (h : Ms X M0 w0 (passed ++ rest) φs w) (j : Nat) (hj : rest[j]? = some (.vecs A c E E2 m vs ll)) : RO (fps passed) w (RowsAt A c m vs ll) := by
  have hmem : HL.vecs A c E E2 m vs ll ∈ rest := List.mem_of_getElem? hj
  have hh := h.holds _ (List.mem_append.2 (.inr hmem))
  have hnd := h.nodup
  rw [fps_append] at hnd
  refine ⟨(HL.vecs A c E E2 m vs ll).fp, fun b hb => ⟨hh.lt b hb, fun hin => ?_⟩, fun w' hw => vecs_rows (hh.of_blocks hw)⟩
  exact (List.nodup_append.1 hnd).2.2 _ hin _ (mem_fps.2 ⟨_, hmem, hb⟩) rfl

theorem flat_part : ∀ vs : List Value, (vs.flatMap vblk).Nodup → List.Pairwise (fun x y : Value => ∀ b ∈ vblk x, b ∉ vblk y) vs
  | [], _ => List.Pairwise.nil
  | v :: vs, h => by
    rw [List.flatMap_cons] at h
    obtain ⟨_, h2, h3⟩ := List.nodup_append.1 h
    refine List.pairwise_cons.2 ⟨fun u hu b hb hb' => ?_, flat_part vs h2⟩
    exact h3 b hb b (List.mem_flatMap.2 ⟨u, hu, hb'⟩) rfl

/-- one row is handed to a callee that writes it in place -/
theorem Ms.preRow (h : Ms X M0 w0 own φs w) (j : Nat) {A B : Option Addr} {c E E2 m d q i : Nat} {vs : List Value} {ll : List (List Int)} {l : List Int} (hj : own[j]? = some (.vecs A c E E2 m vs ll)) (hl : ll[i]? = some l) (hv : vs[i]? = some (.slice B q d)) : Pre [] w [.vec B d E2 1 q (ints l)] [] := by
  have hh := h.holds _ (List.mem_of_getElem? hj)
  obtain ⟨A', c', n', h1, h2⟩ := hh.2.2 i l hl
  rw [hv] at h1
  cases h1
  refine ⟨fun x hx => ?_, ?_, by simp, by simp⟩
  · simp only [List.mem_singleton] at hx; subst hx; exact h2
  · simp only [fps, List.flatMap_cons, List.flatMap_nil, List.append_nil]
    exact vecBlk_nodup _ _

theorem Ms.backRow {w' : World} (h : Ms X M0 w0 own φs w) (j : Nat) {A B : Option Addr} {c E E2 m d q i : Nat} {vs : List Value} {ll : List (List Int)} {l l' : List Int} {φ' : List (World → Prop)} (hj : own[j]? = some (.vecs A c E E2 m vs ll)) (hl : ll[i]? = some l) (hv : vs[i]? = some (.slice B q d))
    (hp : Post [] (fps [.vec B d E2 1 q (ints l)]) w [.vec B d E2 1 q (ints l')] φ' w') : Ms X M0 w0 (own.set j (.vecs A c E E2 m vs (ll.set i l'))) φs w' := by
  have hh := h.holds _ (List.mem_of_getElem? hj)
  have hil : i < ll.length := (List.getElem?_eq_some_iff.1 hl).1
  have hsub : ∀ b ∈ vecBlk B d, b ∈ vs.flatMap vblk := fun b hb => List.mem_flatMap.2 ⟨_, List.mem_of_getElem? hv, hb⟩
  have hf : fps [HL.vec B d E2 1 q (ints l)] = vecBlk B d := by simp [fps, HL.fp]
  have hmod : Mod (vecBlk B d) w w' := hf ▸ hp.mod
  have hnd : (vecBlk A c ++ vs.flatMap vblk).Nodup := ((nodup_fps_iff own).1 h.nodup).1 _ (List.mem_of_getElem? hj)
  obtain ⟨n1, n2, n3⟩ := List.nodup_append.1 hnd
  have hlen := hh.2.1
  -- the rows' blocks lie apart
  have hpart : ∀ (k : Nat) (u : Value), k ≠ i → vs[k]? = some u → ∀ b ∈ vblk u, b ∉ vecBlk B d := by
    intro k u hne hu b hb hb'
    obtain ⟨hk, rfl⟩ := List.getElem?_eq_some_iff.1 hu
    obtain ⟨hi', hiv⟩ := List.getElem?_eq_some_iff.1 hv
    have hpw : List.Pairwise (fun x y : Value => ∀ b ∈ vblk x, b ∉ vblk y) vs := flat_part vs n2
    rcases Nat.lt_or_gt_of_ne hne with hlt | hlt
    · have := List.pairwise_iff_getElem.1 hpw k i hk hi' hlt b hb
      rw [hiv] at this; exact this hb'
    · have := List.pairwise_iff_getElem.1 hpw i k hi' hk hlt b (by rw [hiv]; exact hb')
      exact this hb
  refine h.turnAt j hj (hmod.mono fun b hb => List.mem_append.2 (.inr (hsub b hb))) ?_ hnd fun b hb => .inl hb
  refine ⟨vecHolds.of_blocks hh.1 fun b hb => hmod.block b (hh.1.lt b hb) fun hb' => n3 b hb b (hsub b hb') rfl, by simpa using hlen, fun k l'' hk => ?_⟩
  rw [List.getElem?_set] at hk
  split at hk
  · next e =>
    subst e
    cases hk
    exact ⟨B, d, q, hv, hp.holds (.vec B d E2 1 q (ints l')) (List.mem_singleton.2 rfl)⟩
  · next e =>
    obtain ⟨A', c', n', h1, h2⟩ := hh.2.2 k l'' hk
    exact ⟨A', c', n', h1, h2.of_blocks fun b hb => hmod.block b (h2.lt b hb) (hpart k _ (Ne.symm e) h1 b hb)⟩

/-- rows are appended onto heaplet j: those of heaplet i -/
theorem wpl_concat_rowsO {t E c c1 m m1 : Nat} {x y : Operand} {A B : Option Addr} {vs us : List Value} {ll mm r : List (List Int)} (j i : Nat) (hg : o.guard = none) (hd : dstOk o.dst n = true) (ht : Tm n T a) (hM : Ms X M0 w0 own φs w)
    (ho : o.op = .call { callee := .builtin .append, args := #[x, y], argTypes := #[t, t] }) (hty : AppTy P t E 1 24) (hx : opv T x = some (.slice A m c)) (hy : opv T y = some (.slice B m1 c1))
    (hj : own[j]? = some (.vec A c E 1 m vs)) (hi : own[i]? = some (.vec B c1 E 1 m1 us)) (h1 : RowsAt A c m vs ll w) (h2 : RowsAt B c1 m1 us mm w) (hp : concatR ll mm = some r)
    (kk : ∀ A' c' m' a', Tm n (putT o.dst (.slice A' m' c') T) a' → ∀ w', Ms X M0 w0 (own.set j (.vec A' c' E 1 m' (vs ++ us))) φs w' → wpList P ops Q rest a' w') : wpList P ops Q (o :: rest) a w := by
  have e1 := h1.len
  have e2 := h2.len
  unfold concatR at hp
  split at hp
  · exact wpl_append j hg hd ht hM ho hty hx hy hj h2.1 h2.2.one (by omega) (by unfold maxLen; omega) fun A' c' a' ht' w' hm' => kk A' c' _ a' ht' w' hm'
  · cases hp

end
end Go.Proofs.Ytbgniopmmankdaa.K
