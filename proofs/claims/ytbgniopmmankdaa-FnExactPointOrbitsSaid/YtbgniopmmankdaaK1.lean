/- The walk's own words: what is known of a frame and of memory ('Tm', 'Ms'), and how each step turns it. Nothing of the program stands here. -/
import Derived.WalkKit
import Derived.KernelRfl
namespace Go.Proofs.Ytbgniopmmankdaa.K
open Go Go.RowKit
set_option linter.unusedVariables false
set_option linter.unusedSimpArgs false

/-! ### temporaries -/

def look : List (Nat × Value) → Nat → Option Value
  | [], _ => none
  | (k, v) :: r, t => bif Nat.beq k t then some v else look r t

def opv (T : List (Nat × Value)) : Operand → Option Value
  | .tmp t => look T t
  | .const v => some v
  | .global g => some (.pointer (some ⟨g, 0, none⟩))
  | .func f => some (.func (.func f) #[] #[])

def opvs (T : List (Nat × Value)) : List Operand → Option (List Value)
  | [] => some []
  | x :: r => match opv T x, opvs T r with
    | some v, some vs => some (v :: vs)
    | _, _ => none

structure Tm (n : Nat) (T : List (Nat × Value)) (a : Act) : Prop where
  size : a.tmps.size = n
  defers : a.defers = []
  get : ∀ t v, look T t = some v → a.tmps.getD t undef = v

theorem Tm.eval {n : Nat} {T : List (Nat × Value)} {a : Act} {x : Operand} {v : Value} (h : Tm n T a) (hx : opv T x = some v) : a.eval x = v := by
  cases x with
  | tmp t => exact h.get t v hx
  | const c => simpa [opv, Act.eval] using hx
  | global g => simpa [opv, Act.eval] using hx
  | func f => simpa [opv, Act.eval] using hx

theorem Tm.evals {n : Nat} {T : List (Nat × Value)} {a : Act} (h : Tm n T a) : ∀ (xs : List Operand) (vs : List Value), opvs T xs = some vs → xs.map a.eval = vs := by
  intro xs
  induction xs with
  | nil => intro vs hv; simp [opvs] at hv; simp [hv]
  | cons x r ih =>
    intro vs hv
    unfold opvs at hv
    split at hv
    · rename_i v ws h1 h2
      cases hv
      rw [List.map_cons, h.eval h1, ih _ h2]
    · cases hv

def putT (d : Option Nat) (v : Value) (T : List (Nat × Value)) : List (Nat × Value) :=
  match d with
  | some d => (d, v) :: T
  | none => T

def dstOk (d : Option Nat) (n : Nat) : Bool :=
  match d with
  | some d => Nat.blt d n
  | none => true

theorem Tm.put {n : Nat} {T : List (Nat × Value)} {a : Act} (h : Tm n T a) (d : Option Nat) (v : Value) (hd : dstOk d n = true) : Tm n (putT d v T) (a.put d v) := by
  cases d with
  | none => exact h
  | some d =>
    have hd' : d < n := by
      have h0 : Nat.ble (d + 1) n = true := hd
      exact Nat.le_of_ble_eq_true h0
    refine ⟨by simp [Act.put, h.size], by simp [Act.put, h.defers], ?_⟩
    intro t u hu
    simp only [putT, look] at hu
    cases hb : Nat.beq d t with
    | true =>
      have e : d = t := Nat.eq_of_beq_eq_true hb
      rw [hb] at hu
      simp at hu
      subst e; subst hu
      simp [Act.put, Array.getD_eq_getD_getElem?, h.size, hd']
    | false =>
      rw [hb] at hu
      have e : d ≠ t := fun e => by subst e; simp at hb
      have := h.get t u hu
      rw [Array.getD_eq_getD_getElem?] at this ⊢
      simp only [Act.put]
      rw [Array.getElem?_setIfInBounds_ne e]
      exact this

/-- every entry of the list is known -/
def tsub (T : List (Nat × Value)) : List (Nat × Value) → Prop
  | [] => True
  | (t, v) :: r => look T t = some v ∧ tsub T r

theorem tsub.get {T : List (Nat × Value)} : ∀ {T' : List (Nat × Value)}, tsub T T' → ∀ t v, look T' t = some v → look T t = some v := by
  intro T'
  induction T' with
  | nil => intro _ t v h; cases h
  | cons p r ih =>
    obtain ⟨k, u⟩ := p
    intro h t v hv
    simp only [look] at hv
    cases hb : Nat.beq k t with
    | true =>
      have e : k = t := Nat.eq_of_beq_eq_true hb
      rw [hb] at hv
      simp at hv
      subst e; subst hv
      exact h.1
    | false =>
      rw [hb] at hv
      exact ih h.2 t v hv

theorem Tm.sub {n : Nat} {T T' : List (Nat × Value)} {a : Act} (h : Tm n T a) (hs : tsub T T') : Tm n T' a :=
  ⟨h.size, h.defers, fun t v hv => h.get t v (hs.get t v hv)⟩

/-! ### memory: what may have turned -/

structure Mod (M : List Nat) (w w' : World) : Prop where
  os : w'.os = w.os
  tape : w'.tape = w.tape
  output : w'.output = w.output
  size : w.heap.size ≤ w'.heap.size
  block : ∀ k, k < w.heap.size → k ∉ M → w'.heap[k]? = w.heap[k]?

theorem Mod.refl (M : List Nat) (w : World) : Mod M w w := ⟨rfl, rfl, rfl, Nat.le_refl _, fun _ _ _ => rfl⟩

theorem Mod.trans {M M' : List Nat} {a b c : World} (h : Mod M a b) (k : Mod M' b c) (hM : ∀ x ∈ M', x ∈ M ∨ a.heap.size ≤ x) : Mod M a c :=
  ⟨k.os.trans h.os, k.tape.trans h.tape, k.output.trans h.output, Nat.le_trans h.size k.size, fun i hi hn =>
    (k.block i (Nat.lt_of_lt_of_le hi h.size) (fun hm => (hM i hm).elim hn (fun hle => by omega))).trans (h.block i hi hn)⟩

theorem Mod.below {w w' : World} (h : Mod [] w w') : Below w.heap.size w w' := ⟨h.os, h.tape, h.output, h.size, fun k hk => h.block k hk (by simp)⟩

theorem Mod.drew (w : World) : Mod [] w w.drew := ⟨rfl, rfl, rfl, Nat.le_refl _, fun _ _ _ => rfl⟩

theorem Mod.alloc (w : World) (o : Obj) : Mod [] w (w.alloc o) :=
  ⟨rfl, rfl, rfl, by simp, fun k hk _ => Below.heap_alloc _ _ _ hk⟩

theorem Mod.mono {M M' : List Nat} {w w' : World} (h : Mod M w w') (hM : ∀ b ∈ M, b ∈ M') : Mod M' w w' :=
  ⟨h.os, h.tape, h.output, h.size, fun k hk hn => h.block k hk fun hm => hn (hM k hm)⟩

/-! ### facts that only look at blocks outside of M -/

def RO (M : List Nat) (w : World) (φ : World → Prop) : Prop :=
  ∃ F : List Nat, (∀ b ∈ F, b < w.heap.size ∧ b ∉ M) ∧ ∀ w' : World, (∀ b ∈ F, w'.heap[b]? = w.heap[b]?) → φ w'

theorem RO.now {M : List Nat} {w : World} {φ : World → Prop} (h : RO M w φ) : φ w := by
  obtain ⟨F, _, hF⟩ := h
  exact hF w fun _ _ => rfl

theorem RO.step {M M' S : List Nat} {w w' : World} {φ : World → Prop} (h : RO M w φ) (hm : Mod S w w') (hS : ∀ b ∈ S, b ∈ M) (hM : ∀ b ∈ M', b ∈ M ∨ w.heap.size ≤ b) : RO M' w' φ := by
  obtain ⟨F, hF, hφ⟩ := h
  refine ⟨F, fun b hb => ⟨Nat.lt_of_lt_of_le (hF b hb).1 hm.size, fun hb' => ?_⟩, fun w'' hw => hφ w'' fun b hb => ?_⟩
  · rcases hM b hb' with h1 | h1
    · exact (hF b hb).2 h1
    · have := (hF b hb).1; omega
  · rw [hw b hb, hm.block b (hF b hb).1 fun hs => (hF b hb).2 (hS b hs)]

theorem RO.mono {M : List Nat} {w : World} {φ ψ : World → Prop} (h : RO M w φ) (hi : ∀ w, φ w → ψ w) : RO M w ψ := by
  obtain ⟨F, hF, hφ⟩ := h
  exact ⟨F, hF, fun w' hw => hi _ (hφ w' hw)⟩

theorem RO.sub {M M' : List Nat} {w : World} {φ : World → Prop} (h : RO M w φ) (hM : ∀ b ∈ M', b ∈ M) : RO M' w φ := by
  obtain ⟨F, hF, hφ⟩ := h
  exact ⟨F, fun b hb => ⟨(hF b hb).1, fun hm => (hF b hb).2 (hM b hm)⟩, hφ⟩

theorem RO.and {M : List Nat} {w : World} {φ ψ : World → Prop} (h : RO M w φ) (k : RO M w ψ) : RO M w (fun w => φ w ∧ ψ w) := by
  obtain ⟨F, hF, hφ⟩ := h
  obtain ⟨G, hG, hψ⟩ := k
  refine ⟨F ++ G, fun b hb => ?_, fun w' hw => ⟨hφ w' fun b hb => hw b (List.mem_append.2 (.inl hb)), hψ w' fun b hb => hw b (List.mem_append.2 (.inr hb))⟩⟩
  rcases List.mem_append.1 hb with h | h
  · exact hF b h
  · exact hG b h

theorem RO.const {M : List Nat} {w : World} {p : Prop} (h : p) : RO M w (fun _ => p) := ⟨[], by simp, fun _ _ => h⟩

/-! ### heaplets of the call's own -/

inductive HL
  | blk (b E : Nat) (C : List Value)
  | obj (b : Nat) (o : Obj)
  | vec (A : Option Addr) (c E sz n : Nat) (xs : List Value)
  | vecs (A : Option Addr) (c E E2 n : Nat) (vs : List Value) (ll : List (List Int))
  | kv (b : Nat) (m : List (Value × Value))

def vecBlk (A : Option Addr) (c : Nat) : List Nat :=
  match A, c with
  | some a, _ + 1 => [a.block]
  | _, _ => []

def vblk : Value → List Nat
  | .slice A _ c => vecBlk A c
  | _ => []

def HL.fp : HL → List Nat
  | .blk b _ _ => [b]
  | .obj b _ => [b]
  | .vec A c _ _ _ _ => vecBlk A c
  | .vecs A c _ _ _ vs _ => vecBlk A c ++ vs.flatMap vblk
  | .kv b _ => [b]

/-- a slice that is the call's own: nothing of it is there, or it lies at the head of a block -/
def vecHolds (w : World) (A : Option Addr) (c E sz n : Nat) (xs : List Value) : Prop :=
  xs.length = n * sz ∧ (c = 0 ∧ n = 0 ∨ 0 < c ∧ w.ownsRow 0 E sz (.slice A n c) n xs)

/-- the values vs are slices of the call's own that hold the lists ll -/
def rowsHold (w : World) (E2 : Nat) (vs : List Value) (ll : List (List Int)) : Prop :=
  vs.length = ll.length ∧ ∀ (i : Nat) (l : List Int), ll[i]? = some l → ∃ A c n, vs[i]? = some (.slice A n c) ∧ vecHolds w A c E2 1 n (l.map (Value.int .i64))

def HL.holds (w : World) : HL → Prop
  | .blk b E C => w.heap[b]? = some (.cells C.toArray E (0, 0))
  | .obj b o => w.heap[b]? = some o
  | .vec A c E sz n xs => vecHolds w A c E sz n xs
  | .vecs A c E E2 n vs ll => vecHolds w A c E 1 n vs ∧ rowsHold w E2 vs ll
  | .kv b m => ∃ es clock, w.heap[b]? = some (.map es clock) ∧ es.toList.map (fun e => (e.key, e.val)) = m

def fps (l : List HL) : List Nat := l.flatMap HL.fp

theorem fps_cons (h : HL) (l : List HL) : fps (h :: l) = h.fp ++ fps l := by simp [fps]
theorem fps_append (l r : List HL) : fps (l ++ r) = fps l ++ fps r := by simp [fps]
theorem mem_fps {l : List HL} {b : Nat} : b ∈ fps l ↔ ∃ h ∈ l, b ∈ h.fp := by simp [fps]

theorem vecHolds.lt {w : World} {A : Option Addr} {c E sz n : Nat} {xs : List Value} (hh : vecHolds w A c E sz n xs) : ∀ b ∈ vecBlk A c, b < w.heap.size := by
  intro b hb
  rcases hh.2 with ⟨h0, _⟩ | ⟨h0, ho⟩
  · subst h0
    cases A <;> simp [vecBlk] at hb
  · have := World.ownsRow.lt ho b
    cases A with
    | none => simp [vecBlk] at hb
    | some a =>
      cases c with
      | zero => omega
      | succ c => simp [vecBlk] at hb; subst hb; exact (this rfl).2

theorem vecHolds.of_blocks {w w' : World} {A : Option Addr} {c E sz n : Nat} {xs : List Value} (hh : vecHolds w A c E sz n xs) (hb : ∀ b ∈ vecBlk A c, w'.heap[b]? = w.heap[b]?) : vecHolds w' A c E sz n xs := by
  obtain ⟨h1, h2⟩ := hh
  refine ⟨h1, h2.imp id fun ⟨hc, hx, h2⟩ => ⟨hc, hx, ?_⟩⟩
  rcases h2 with h2 | ⟨g, cap, cur, hv, hg, hh, r⟩
  · exact .inl h2
  · refine .inr ⟨g, cap, cur, hv, hg, ?_, r⟩
    rw [hb g (by
      injection hv with e1 e2 e3
      subst e1; subst e3
      obtain ⟨c', rfl⟩ : ∃ m, c = m + 1 := ⟨c - 1, by omega⟩
      simp [vecBlk])]
    exact hh

theorem rowsHold.blk {w : World} {E2 : Nat} {vs : List Value} {ll : List (List Int)} (h : rowsHold w E2 vs ll) : ∀ b ∈ vs.flatMap vblk, ∃ (i : Nat) (l : List Int) (A : Option Addr) (c n : Nat), ll[i]? = some l ∧ vs[i]? = some (.slice A n c) ∧ vecHolds w A c E2 1 n (l.map (Value.int .i64)) ∧ b ∈ vecBlk A c := by
  intro b hb
  obtain ⟨v, hv, hb⟩ := List.mem_flatMap.1 hb
  obtain ⟨i, hi⟩ := List.getElem?_of_mem hv
  have hlt : i < ll.length := by rw [← h.1]; exact (List.getElem?_eq_some_iff.1 hi).1
  obtain ⟨A, c, n, h1, h2⟩ := h.2 i ll[i] (by simp [hlt])
  refine ⟨i, ll[i], A, c, n, by simp [hlt], h1, h2, ?_⟩
  rw [hi] at h1
  cases h1
  exact hb

theorem rowsHold.of_blocks {w w' : World} {E2 : Nat} {vs : List Value} {ll : List (List Int)} (h : rowsHold w E2 vs ll) (hb : ∀ b ∈ vs.flatMap vblk, w'.heap[b]? = w.heap[b]?) : rowsHold w' E2 vs ll := by
  refine ⟨h.1, fun i l hl => ?_⟩
  obtain ⟨A, c, n, h1, h2⟩ := h.2 i l hl
  refine ⟨A, c, n, h1, h2.of_blocks fun b hbb => hb b (List.mem_flatMap.2 ⟨_, List.mem_of_getElem? h1, hbb⟩)⟩

theorem HL.holds.lt {w : World} {h : HL} (hh : h.holds w) : ∀ b ∈ h.fp, b < w.heap.size := by
  intro b hb
  cases h with
  | blk b' E C =>
    simp only [HL.fp, List.mem_singleton] at hb
    subst hb
    simp only [HL.holds] at hh
    exact (Array.getElem?_eq_some_iff.1 hh).1
  | obj b' o =>
    simp only [HL.fp, List.mem_singleton] at hb
    subst hb
    simp only [HL.holds] at hh
    exact (Array.getElem?_eq_some_iff.1 hh).1
  | vec A c E sz n xs => exact vecHolds.lt hh b hb
  | vecs A c E E2 n vs ll =>
    simp only [HL.fp] at hb
    rcases List.mem_append.1 hb with hb | hb
    · exact vecHolds.lt hh.1 b hb
    · obtain ⟨i, l, A', c', n', _, _, h2, h3⟩ := hh.2.blk b hb
      exact h2.lt b h3
  | kv b' m =>
    simp only [HL.fp, List.mem_singleton] at hb
    subst hb
    obtain ⟨es, clock, h1, _⟩ := hh
    exact (Array.getElem?_eq_some_iff.1 h1).1

theorem HL.holds.of_blocks {w w' : World} {h : HL} (hh : h.holds w) (hb : ∀ b ∈ h.fp, w'.heap[b]? = w.heap[b]?) : h.holds w' := by
  cases h with
  | blk b E C =>
    simp only [HL.holds] at hh ⊢
    rw [hb b (by simp [HL.fp])]; exact hh
  | obj b o =>
    simp only [HL.holds] at hh ⊢
    rw [hb b (by simp [HL.fp])]; exact hh
  | vec A c E sz n xs => exact vecHolds.of_blocks hh hb
  | vecs A c E E2 n vs ll => exact ⟨vecHolds.of_blocks hh.1 fun b h => hb b (List.mem_append.2 (.inl h)), hh.2.of_blocks fun b h => hb b (List.mem_append.2 (.inr h))⟩
  | kv b m =>
    obtain ⟨es, clock, h1, h2⟩ := hh
    exact ⟨es, clock, by rw [hb b (by simp [HL.fp])]; exact h1, h2⟩

/-! ### the state -/

structure Ms (X M0 : List Nat) (w0 : World) (own : List HL) (φs : List (World → Prop)) (w : World) : Prop where
  mod : Mod M0 w0 w
  holds : ∀ h ∈ own, h.holds w
  nodup : (fps own).Nodup
  src : ∀ b ∈ fps own, b ∈ M0 ∨ w0.heap.size ≤ b
  xlt : ∀ b ∈ X, b < w0.heap.size ∧ b ∉ M0
  ros : ∀ φ ∈ φs, RO (X ++ fps own) w φ

/-- what a call may take for granted -/
structure Pre (X : List Nat) (w : World) (own : List HL) (φs : List (World → Prop)) : Prop where
  holds : ∀ h ∈ own, h.holds w
  nodup : (fps own).Nodup
  xlt : ∀ b ∈ X, b < w.heap.size ∧ b ∉ fps own
  ros : ∀ φ ∈ φs, RO (X ++ fps own) w φ

/-- what a call leaves: 'own' were its heaplets, own' are they now -/
structure Post (X M0 : List Nat) (w : World) (own' : List HL) (φs' : List (World → Prop)) (w' : World) : Prop where
  mod : Mod M0 w w'
  holds : ∀ h ∈ own', h.holds w'
  nodup : (fps own').Nodup
  src : ∀ b ∈ fps own', b ∈ M0 ∨ w.heap.size ≤ b
  ros : ∀ φ ∈ φs', RO (X ++ fps own') w' φ

section
variable {X M0 : List Nat} {w0 w : World} {own : List HL} {φs : List (World → Prop)}

theorem Ms.fps_lt (h : Ms X M0 w0 own φs w) : ∀ b ∈ fps own, b < w.heap.size := by
  intro b hb
  obtain ⟨x, hx, hb⟩ := mem_fps.1 hb
  exact (h.holds x hx).lt b hb

theorem Ms.subφ {φs' : List (World → Prop)} (h : Ms X M0 w0 own φs w) (hs : ∀ φ ∈ φs', φ ∈ φs) : Ms X M0 w0 own φs' w :=
  ⟨h.mod, h.holds, h.nodup, h.src, h.xlt, fun φ hφ => h.ros φ (hs φ hφ)⟩

/-- one more fact -/
theorem Ms.addφ {φ : World → Prop} (h : Ms X M0 w0 own φs w) (hφ : RO (X ++ fps own) w φ) : Ms X M0 w0 own (φ :: φs) w :=
  ⟨h.mod, h.holds, h.nodup, h.src, h.xlt, fun ψ hψ => by
    rcases List.mem_cons.1 hψ with rfl | hψ
    · exact hφ
    · exact h.ros ψ hψ⟩

/-- heaplets in another order, and some of them dropped -/
theorem Ms.perm {own' rest : List HL} (h : Ms X M0 w0 own φs w) (hp : own.Perm (own' ++ rest)) : Ms X M0 w0 own' φs w := by
  have hmem : ∀ x ∈ own', x ∈ own := fun x hx => hp.mem_iff.2 (List.mem_append.2 (.inl hx))
  have hf : ∀ b ∈ fps own', b ∈ fps own := fun b hb => by
    obtain ⟨x, hx, hb⟩ := mem_fps.1 hb
    exact mem_fps.2 ⟨x, hmem x hx, hb⟩
  refine ⟨h.mod, fun x hx => h.holds x (hmem x hx), ?_, fun b hb => h.src b (hf b hb), h.xlt, fun φ hφ => (h.ros φ hφ).sub fun b hb => ?_⟩
  · have : (fps (own' ++ rest)).Nodup := (List.Perm.flatMap_right HL.fp hp).nodup_iff.1 h.nodup
    rw [fps_append] at this
    exact (List.nodup_append.1 this).1
  · rcases List.mem_append.1 hb with h1 | h1
    · exact List.mem_append.2 (.inl h1)
    · exact List.mem_append.2 (.inr (hf b h1))

theorem Ms.drew (h : Ms X M0 w0 own φs w) : Ms X M0 w0 own φs w.drew :=
  ⟨h.mod.trans (Mod.drew w) (by simp), fun x hx => (h.holds x hx).of_blocks fun _ _ => rfl, h.nodup, h.src, h.xlt,
    fun φ hφ => (h.ros φ hφ).step (Mod.drew w) (by simp) fun b hb => .inl hb⟩

/-- a new block -/
theorem Ms.allocObj (h : Ms X M0 w0 own φs w) (o : Obj) (x : HL) (hx : x.holds (w.alloc o)) (hf : x.fp = [w.heap.size] ∨ x.fp = []) : Ms X M0 w0 (x :: own) φs (w.alloc o) := by
  have hf' : ∀ b ∈ x.fp, b = w.heap.size := by
    intro b hb
    rcases hf with hf | hf <;> rw [hf] at hb <;> simp at hb
    exact hb
  refine ⟨h.mod.trans (Mod.alloc w o) (by simp), ?_, ?_, ?_, h.xlt, ?_⟩
  · intro y hy
    rcases List.mem_cons.1 hy with rfl | hy
    · exact hx
    · exact (h.holds y hy).of_blocks fun b hb => Below.heap_alloc _ _ _ ((h.holds y hy).lt b hb)
  · rw [fps_cons]
    refine List.nodup_append.2 ⟨by rcases hf with hf | hf <;> rw [hf] <;> simp, h.nodup, ?_⟩
    intro b hb c hc e
    have := hf' b hb
    subst e
    exact absurd (h.fps_lt _ hc) (by omega)
  · intro b hb
    rw [fps_cons] at hb
    rcases List.mem_append.1 hb with hb | hb
    · rw [hf' b hb]
      exact .inr h.mod.size
    · exact h.src b hb
  · intro φ hφ
    refine (h.ros φ hφ).step (Mod.alloc w o) (by simp) fun b hb => ?_
    rcases List.mem_append.1 hb with hb | hb
    · exact .inl (List.mem_append.2 (.inl hb))
    · rw [fps_cons] at hb
      rcases List.mem_append.1 hb with hb | hb
      · rw [hf' b hb]
        exact .inr (Nat.le_refl _)
      · exact .inl (List.mem_append.2 (.inr hb))

/-- the first heaplet turns: only its own blocks and new ones are written -/
theorem Ms.turn {x x' : HL} {w' : World} (h : Ms X M0 w0 (x :: own) φs w) (hm : Mod x.fp w w') (hx : x'.holds w') (hnd : x'.fp.Nodup)
    (hs : ∀ b ∈ x'.fp, b ∈ x.fp ∨ w.heap.size ≤ b) : Ms X M0 w0 (x' :: own) φs w' := by
  have hnd0 := h.nodup
  rw [fps_cons] at hnd0
  obtain ⟨hn1, hn2, hn3⟩ := List.nodup_append.1 hnd0
  refine ⟨h.mod.trans hm fun b hb => h.src b (by rw [fps_cons]; exact List.mem_append.2 (.inl hb)), ?_, ?_, ?_, h.xlt, ?_⟩
  · intro y hy
    rcases List.mem_cons.1 hy with rfl | hy
    · exact hx
    · have hh := h.holds y (List.mem_cons.2 (.inr hy))
      refine hh.of_blocks fun b hb => hm.block b (hh.lt b hb) fun hb' => hn3 b hb' b (mem_fps.2 ⟨y, hy, hb⟩) rfl
  · rw [fps_cons]
    refine List.nodup_append.2 ⟨hnd, hn2, fun b hb c hc e => ?_⟩
    subst e
    rcases hs b hb with h1 | h1
    · exact hn3 b h1 b hc rfl
    · exact absurd (h.fps_lt b (by rw [fps_cons]; exact List.mem_append.2 (.inr hc))) (by omega)
  · intro b hb
    rw [fps_cons] at hb
    rcases List.mem_append.1 hb with hb | hb
    · rcases hs b hb with h1 | h1
      · exact h.src b (by rw [fps_cons]; exact List.mem_append.2 (.inl h1))
      · exact .inr (Nat.le_trans h.mod.size h1)
    · exact h.src b (by rw [fps_cons]; exact List.mem_append.2 (.inr hb))
  · intro φ hφ
    refine (h.ros φ hφ).step hm (fun b hb => List.mem_append.2 (.inr (by rw [fps_cons]; exact List.mem_append.2 (.inl hb)))) fun b hb => ?_
    rcases List.mem_append.1 hb with hb | hb
    · exact .inl (List.mem_append.2 (.inl hb))
    · rw [fps_cons] at hb
      rcases List.mem_append.1 hb with hb | hb
      · rcases hs b hb with h1 | h1
        · exact .inl (List.mem_append.2 (.inr (by rw [fps_cons]; exact List.mem_append.2 (.inl h1))))
        · exact .inr h1
      · exact .inl (List.mem_append.2 (.inr (by rw [fps_cons]; exact List.mem_append.2 (.inr hb))))

theorem perm_eraseIdx {α : Type} : ∀ (l : List α) (k : Nat) (h : k < l.length), l.Perm (l[k] :: l.eraseIdx k)
  | [], k, h => by simp at h
  | x :: l, 0, _ => .refl _
  | x :: l, k + 1, h => by
    have := perm_eraseIdx l k (by simpa using h)
    exact (List.Perm.cons x this).trans (.swap _ _ _)

theorem perm_set {α : Type} : ∀ (l : List α) (k : Nat) (y : α), k < l.length → (l.set k y).Perm (y :: l.eraseIdx k)
  | [], k, _, h => by simp at h
  | x :: l, 0, y, _ => .refl _
  | x :: l, k + 1, y, h => by
    have := perm_set l k y (by simpa using h)
    exact (List.Perm.cons x this).trans (.swap _ _ _)

theorem Ms.permute {own' : List HL} (h : Ms X M0 w0 own φs w) (hp : own.Perm own') : Ms X M0 w0 own' φs w :=
  h.perm (rest := []) (by simpa using hp)

/-- heaplet number k turns -/
theorem Ms.turnAt {x x' : HL} {w' : World} (h : Ms X M0 w0 own φs w) (k : Nat) (hk : own[k]? = some x) (hm : Mod x.fp w w') (hx : x'.holds w') (hnd : x'.fp.Nodup)
    (hs : ∀ b ∈ x'.fp, b ∈ x.fp ∨ w.heap.size ≤ b) : Ms X M0 w0 (own.set k x') φs w' := by
  obtain ⟨hl, rfl⟩ := List.getElem?_eq_some_iff.1 hk
  have h1 : Ms X M0 w0 (own[k] :: own.eraseIdx k) φs w := h.permute (perm_eraseIdx own k hl)
  exact (h1.turn hm hx hnd hs).permute (perm_set own k x' hl).symm

/-- what a callee may take: 'own' parted -/
theorem Ms.pre {passed rest : List HL} {φp : List (World → Prop)} (h : Ms X M0 w0 (passed ++ rest) φs w) (hφ : ∀ φ ∈ φp, RO (X ++ fps (passed ++ rest)) w φ) : Pre (X ++ fps rest) w passed φp := by
  have hnd := h.nodup
  rw [fps_append] at hnd
  obtain ⟨hn1, hn2, hn3⟩ := List.nodup_append.1 hnd
  refine ⟨fun x hx => h.holds x (List.mem_append.2 (.inl hx)), hn1, fun b hb => ?_, fun φ hp => (hφ φ hp).sub fun b hb => ?_⟩
  · rcases List.mem_append.1 hb with hb | hb
    · refine ⟨Nat.lt_of_lt_of_le (h.xlt b hb).1 h.mod.size, fun hp => ?_⟩
      rcases h.src b (by rw [fps_append]; exact List.mem_append.2 (.inl hp)) with h1 | h1
      · exact (h.xlt b hb).2 h1
      · have := (h.xlt b hb).1; omega
    · exact ⟨h.fps_lt b (by rw [fps_append]; exact List.mem_append.2 (.inr hb)), fun hp => hn3 b hp b hb rfl⟩
  · rw [fps_append]
    simp only [List.mem_append] at hb ⊢
    rcases hb with (h1 | h1) | h1
    · exact .inl h1
    · exact .inr (.inr h1)
    · exact .inr (.inl h1)

/-- behind a call -/
theorem Ms.back {passed rest own' : List HL} {φs' : List (World → Prop)} {w' : World} (h : Ms X M0 w0 (passed ++ rest) φs w)
    (hp : Post (X ++ fps rest) (fps passed) w own' φs' w') : Ms X M0 w0 (own' ++ rest) (φs' ++ φs) w' := by
  have hnd := h.nodup
  rw [fps_append] at hnd
  obtain ⟨hn1, hn2, hn3⟩ := List.nodup_append.1 hnd
  have hsrc : ∀ b ∈ fps passed, b ∈ M0 ∨ w0.heap.size ≤ b := fun b hb => h.src b (by rw [fps_append]; exact List.mem_append.2 (.inl hb))
  refine ⟨h.mod.trans hp.mod hsrc, ?_, ?_, ?_, h.xlt, ?_⟩
  · intro y hy
    rcases List.mem_append.1 hy with hy | hy
    · exact hp.holds y hy
    · have hh := h.holds y (List.mem_append.2 (.inr hy))
      exact hh.of_blocks fun b hb => hp.mod.block b (hh.lt b hb) fun hb' => hn3 b hb' b (mem_fps.2 ⟨y, hy, hb⟩) rfl
  · rw [fps_append]
    refine List.nodup_append.2 ⟨hp.nodup, hn2, fun b hb c hc e => ?_⟩
    subst e
    rcases hp.src b hb with h1 | h1
    · exact hn3 b h1 b hc rfl
    · exact absurd (h.fps_lt b (by rw [fps_append]; exact List.mem_append.2 (.inr hc))) (by omega)
  · intro b hb
    rw [fps_append] at hb
    rcases List.mem_append.1 hb with hb | hb
    · rcases hp.src b hb with h1 | h1
      · exact hsrc b h1
      · exact .inr (Nat.le_trans h.mod.size h1)
    · exact h.src b (by rw [fps_append]; exact List.mem_append.2 (.inr hb))
  · intro φ hφ
    rcases List.mem_append.1 hφ with hφ | hφ
    · refine (hp.ros φ hφ).sub fun b hb => ?_
      rw [fps_append] at hb
      simp only [List.mem_append] at hb ⊢
      rcases hb with h1 | h1 | h1
      · exact .inl (.inl h1)
      · exact .inr h1
      · exact .inl (.inr h1)
    · refine (h.ros φ hφ).step hp.mod (fun b hb => by rw [fps_append]; simp only [List.mem_append]; exact .inr (.inl hb)) fun b hb => ?_
      rw [fps_append] at hb ⊢
      simp only [List.mem_append] at hb ⊢
      rcases hb with h1 | h1 | h1
      · exact .inl (.inl h1)
      · rcases hp.src b h1 with h2 | h2
        · exact .inl (.inr (.inl h2))
        · exact .inr h2
      · exact .inl (.inr (.inr h1))

/-- at the end -/
theorem Ms.post {own' : List HL} {φs' : List (World → Prop)} (h : Ms X M0 w0 own' φs w) (hφ : ∀ φ ∈ φs', φ ∈ φs) : Post X M0 w0 own' φs' w :=
  ⟨h.mod, h.holds, h.nodup, h.src, fun φ hp => h.ros φ (hφ φ hp)⟩

end

/-- at the begin -/
theorem Pre.ms {X : List Nat} {w : World} {own : List HL} {φs : List (World → Prop)} (h : Pre X w own φs) : Ms X (fps own) w own φs w :=
  ⟨Mod.refl _ _, h.holds, h.nodup, fun _ hb => .inl hb, h.xlt, h.ros⟩

end Go.Proofs.Ytbgniopmmankdaa.K
