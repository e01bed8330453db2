/- What comes in, opened: a slice of int64s, a colouring. -/
import Derived.Test.YtbgniopmmankdaaPK1
import Derived.WalkKit
import Derived.ProofKit
import Derived.OpenShut
import Derived.ShutString
import Derived.ChangeOld
import Derived.Below
import Derived.Carry
namespace Go.Proofs.Ytbgniopmmankdaa.P
open Go Go.RowKit Go.Proofs.Ytbgniopmmankdaa.K Go.ChangeShapes Go.WideShapes
set_option linter.unusedVariables false
set_option linter.unusedSimpArgs false

theorem wf_i64 {n : Int} (h : (Lit.int .i64 n).wf = true) : I64 n := by
  unfold I64
  simp [Lit.wf, IntKind.min, IntKind.max, IntKind.bits, IntKind.signed] at h
  omega
theorem wf_u8 {n : Int} (h : (Lit.int .u8 n).wf = true) : 0 ≤ n ∧ n < 256 := by
  simp [Lit.wf, IntKind.min, IntKind.max, IntKind.bits, IntKind.signed] at h
  omega


theorem open_list {H : Type} {enc : TypeId × Value → H} {P : Program} {W : World} {base : Nat} {spare : Nat → Bool} {held : Bool} {t e : TypeId} {A : Option Addr} {len cap : Nat} {d : DataW H} {ps : List MemPlace}
    (ht : P.underlying t = some (.slice e)) (he : P.underlying e = some (.int .i64)) (hc : P.cellsOf e = 1) (h : DataW.Trod enc P W base spare held t (.slice A len cap) d ps) :
    ∃ l : List Int, IntsAt A cap len l W ∧ l.length = len ∧ Big l := by
  obtain ⟨fuel, hf⟩ := h
  rcases open_ints ht he hc hf with ⟨hcs, _⟩ | ⟨x, l, c, zs, hcs, _, hl, hm, hz, _, hcell, hwz⟩
  · simp [Value.cells] at hcs
    obtain ⟨rfl, rfl, rfl⟩ := hcs
    exact ⟨[], ⟨by simp [ints], Nat.le_refl _, .inl rfl⟩, rfl, fun n hn => by cases hn⟩
  · simp [Value.cells] at hcs
    obtain ⟨rfl, rfl, rfl⟩ := hcs
    have hzl : len ≤ zs.length := by rw [hz]; split <;> omega
    refine ⟨zs.take len, ⟨by simp [ints]; omega, hl, ?_⟩, by simp; omega, fun n hn => wf_i64 (hwz n (List.mem_of_mem_take hn))⟩
    by_cases h0 : len = 0
    · exact .inl h0
    · right
      have h1 := hcell 0 (by omega)
      obtain ⟨b, o, sp⟩ := x
      obtain rfl : sp = none := by
        cases sp with
        | none => rfl
        | some s =>
          simp only [World.cell?, Addr.add] at h1
          split at h1
          · simp at h1
          · cases h1
      refine ⟨b, o, rfl, fun i v hv => ?_⟩
      simp only [ints, List.getElem?_map] at hv
      by_cases hi : i < len
      · have h2 := hcell i (by omega)
        rw [List.getElem?_take_of_lt hi, List.getElem?_eq_getElem (by omega)] at hv
        simp only [Option.map_some, Option.some.injEq] at hv
        rw [List.getD_eq_getElem?_getD, List.getElem?_eq_getElem (by omega), Option.getD_some] at h2
        rw [← hv, ← h2]
        congr 1
        unfold Addr.add
        by_cases h3 : i = 0
        · subst h3; simp
        · simp [h3]
      · rw [List.getElem?_eq_none (by simp; omega)] at hv
        cases hv

def Big8 (l : List Int) : Prop := ∀ n ∈ l, 0 ≤ n ∧ n < 256
theorem open_list8 {H : Type} {enc : TypeId × Value → H} {P : Program} {W : World} {base : Nat} {spare : Nat → Bool} {held : Bool} {t e : TypeId} {A : Option Addr} {len cap : Nat} {d : DataW H} {ps : List MemPlace}
    (ht : P.underlying t = some (.slice e)) (he : P.underlying e = some (.int .u8)) (hc : P.cellsOf e = 1) (h : DataW.Trod enc P W base spare held t (.slice A len cap) d ps) :
    ∃ l : List Int, Bytes8At A cap len l W ∧ l.length = len ∧ Big8 l := by
  obtain ⟨fuel, hf⟩ := h
  rcases open_ints ht he hc hf with ⟨hcs, _⟩ | ⟨x, l, c, zs, hcs, _, hl, hm, hz, _, hcell, hwz⟩
  · simp [Value.cells] at hcs
    obtain ⟨rfl, rfl, rfl⟩ := hcs
    exact ⟨[], ⟨by simp [ints8], Nat.le_refl _, .inl rfl⟩, rfl, fun n hn => by cases hn⟩
  · simp [Value.cells] at hcs
    obtain ⟨rfl, rfl, rfl⟩ := hcs
    have hzl : len ≤ zs.length := by rw [hz]; split <;> omega
    refine ⟨zs.take len, ⟨by simp [ints8]; omega, hl, ?_⟩, by simp; omega, fun n hn => wf_u8 (hwz n (List.mem_of_mem_take hn))⟩
    by_cases h0 : len = 0
    · exact .inl h0
    · right
      have h1 := hcell 0 (by omega)
      obtain ⟨b, o, sp⟩ := x
      obtain rfl : sp = none := by
        cases sp with
        | none => rfl
        | some s =>
          simp only [World.cell?, Addr.add] at h1
          split at h1
          · simp at h1
          · cases h1
      refine ⟨b, o, rfl, fun i v hv => ?_⟩
      simp only [ints8, List.getElem?_map] at hv
      by_cases hi : i < len
      · have h2 := hcell i (by omega)
        rw [List.getElem?_take_of_lt hi, List.getElem?_eq_getElem (by omega)] at hv
        simp only [Option.map_some, Option.some.injEq] at hv
        rw [List.getD_eq_getElem?_getD, List.getElem?_eq_getElem (by omega), Option.getD_some] at h2
        rw [← hv, ← h2]
        congr 1
        unfold Addr.add
        by_cases h3 : i = 0
        · subst h3; simp
        · simp [h3]
      · rw [List.getElem?_eq_none (by simp; omega)] at hv
        cases hv

theorem open_col {H : Type} {enc : TypeId × Value → H} {P : Program} {W : World} {base : Nat} {spare : Nat → Bool} {held : Bool} {t ti ta e : TypeId} {fs : Array Field} {cs : Array Value} {d : DataW H} {ps : List MemPlace}
    (ht : P.underlying t = some (.struct fs)) (hfs : fs.toList.map (fun f => (f.type, f.offset)) = [(ti, 0), (ti, 1), (ta, 2)]) (hi : P.underlying ti = some (.int .i64)) (ha : P.underlying ta = some (.array 136 e))
    (he : P.underlying e = some (.int .u8)) (ct : P.cellsOf t = 138) (ci : P.cellsOf ti = 1) (ca : P.cellsOf ta = 136) (ce : P.cellsOf e = 1) (h : DataW.Trod enc P W base spare held t (.agg cs) d ps) :
    ∃ x : Col, cs = x.cells.toArray ∧ ByteC x := by
  obtain ⟨fuel, hf⟩ := h
  obtain ⟨xs, n, rfl, _, hl, hxl, hfx⟩ := DataW.trod_struct ht hf
  have hcs : (Value.agg cs).cells.toList = cs.toList := by simp [Value.cells]
  rw [hcs] at hl hfx
  obtain ⟨f0, f1, f2, hq⟩ : ∃ f0 f1 f2, fs.toList = [f0, f1, f2] := by
    have : fs.toList.length = 3 := by have := congrArg List.length hfs; simpa using this
    match hq : fs.toList, this with
    | [f0, f1, f2], _ => exact ⟨f0, f1, f2, rfl⟩
  rw [hq] at hfs
  simp only [List.map_cons, List.map_nil, List.cons.injEq, Prod.mk.injEq, and_true] at hfs
  obtain ⟨⟨t0, o0⟩, ⟨t1, o1⟩, t2, o2⟩ := hfs
  have g : ∀ (i : Nat), fs[i]? = [f0, f1, f2][i]? := fun i => by rw [← hq]; simp
  have l3 : xs.length = 3 := by
    have := congrArg List.length hq
    simp at this; omega
  have h0 := hfx 0 f0 (by rw [g]; rfl)
  have h1 := hfx 1 f1 (by rw [g]; rfl)
  have h2 := hfx 2 f2 (by rw [g]; rfl)
  rw [t0, o0, ci, List.getElem?_eq_getElem (by omega)] at h0
  rw [t1, o1, ci, List.getElem?_eq_getElem (by omega)] at h1
  rw [t2, o2, ca, List.getElem?_eq_getElem (by omega)] at h2
  obtain ⟨p, e0, _, _⟩ := DataW.trod_int hi h0
  obtain ⟨k, e1, _, _⟩ := DataW.trod_int hi h1
  obtain ⟨ys, m, rfl, _, hyl, hys, hy⟩ := DataW.trod_array ha h2
  have each : ∀ i, i < 136 → ∃ v, cs.toList[2 + i]? = some (.int .u8 v) ∧ 0 ≤ v ∧ v < 256 := by
    intro i hi
    have h3 := hy i hi
    rw [ce, List.getElem?_eq_getElem (by omega)] at h3
    obtain ⟨v, e3, _, hw⟩ := DataW.trod_int he h3
    refine ⟨v, ?_, wf_u8 hw⟩
    have := congrArg (fun l => l[0]?) e3
    simp only [List.getElem?_take, List.getElem?_drop] at this
    simp at this
    simpa using this.2
  refine ⟨⟨p, k, fun i => if h : i < 136 then (each i h).choose else 0⟩, ?_, fun i => ?_⟩
  · apply Array.toList_inj.mp
    show cs.toList = _
    apply List.ext_getElem?
    intro i
    have z0 := congrArg (fun l => l[0]?) e0
    have z1 := congrArg (fun l => l[0]?) e1
    simp at z0 z1
    match i with
    | 0 => simpa [Col.cells] using z0
    | 1 => simpa [Col.cells] using z1
    | i + 2 =>
      by_cases hi : i < 136
      · have := (each i hi).choose_spec.1
        rw [Nat.add_comm i 2, this]
        simp [Col.cells, bytesC, Nat.add_comm 2 i, hi]
      · rw [List.getElem?_eq_none (by omega), List.getElem?_eq_none (by simp [Col.length_cells]; omega)]
  · show 0 ≤ (if h : i < 136 then (each i h).choose else 0) ∧ (if h : i < 136 then (each i h).choose else 0) < 256
    by_cases hi : i < 136
    · rw [dif_pos hi]; exact (each i hi).choose_spec.2
    · rw [dif_neg hi]; omega

theorem ints_ro {w : World} {A : Option Addr} {c n : Nat} {l : List Int} (h : IntsAt A c n l w) : RO [] w (IntsAt A c n l) := RowAt.ro h fun _ _ _ hm => by cases hm
theorem bytes_ro {w : World} {A : Option Addr} {c n : Nat} {l : List Int} (h : Bytes8At A c n l w) : RO [] w (Bytes8At A c n l) := RowAt.ro h fun _ _ _ hm => by cases hm
theorem pre_of {w : World} {φs : List (World → Prop)} (h : ∀ φ ∈ φs, RO [] w φ) : Pre [] w [] φs :=
  { holds := fun _ hm => by cases hm
    nodup := List.Pairwise.nil
    xlt := fun b hb => by cases hb
    ros := fun φ hφ => h φ hφ }
end Go.Proofs.Ytbgniopmmankdaa.P
