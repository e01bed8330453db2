/- What each Go function computes, as a Lean function, and the proof that it does: written by a program of this session (wip/gen), part 6. -/
import Derived.Test.YtfhbamlpnicomaaGFnExactGreatestDouble5
namespace Go.Proofs.Ytfhbamlpnicomaa.G
open Go Go.RowKit Go.Proofs.Ytfhbamlpnicomaa.K
set_option linter.unusedVariables false
set_option linter.unusedSimpArgs false

/-! ### laws_markInt64S: function 18 (loop.example/g01362/laws.markInt64S) -/
def laws_markInt64S.l0 : Nat → List Int → Int → Int → Option (Int × List Int)
  | 0, _, _, _ => none
  | q1 + 1, ls0_1, xs0_2, xs0_3 => if xs0_3 < (ls0_1.length : Int) then ((getI ls0_1 xs0_3).bind fun t3 => laws_markInt64S.l0 q1 (ls0_1.set xs0_3.toNat xs0_2) (w64 (xs0_2 + 1)) (w64 (xs0_3 + 1))) else (some (xs0_2, ls0_1))
def laws_markInt64S.f (k : Nat) (a_ : List Int) (k_ : Int) : Option (Int × List Int) := laws_markInt64S.l0 k a_ k_ 0
set_option maxRecDepth 100000 in
set_option maxHeartbeats 1000000 in
theorem laws_markInt64S.calls (k : Nat) (X : List Nat) (w0 : World) (A : Option Addr) (c : Nat) (m : Nat) (a_ : List Int) (k_ : Int) (r : Int × List Int)
    (hp : Pre X w0 [.vec A c 2 1 m (ints a_)] []) (H : laws_markInt64S.f k a_ k_ = some r) :
    Calls Try.prog 18 [.slice A m c, .int .i64 k_].toArray w0 (Ret fun v w => v = .int .i64 r.1 ∧ Post X (fps [.vec A c 2 1 m (ints a_)]) w0 [.vec A c 2 1 m (ints r.2)] [] w) := by
  unfold laws_markInt64S.f at H
  refine enterM (n := 19) hp Try.func18 rfl rfl (Nat.le_of_ble_eq_true rfl) fun a w ht hm => ?_
  refine wp_seq ?_
  refine wpr ?_
  refine wpl rfl rfl ht (ev_assign ht rfl rfl) ?_
  intro a ht
  refine wpList_nil ?_
  refine then_normal ?_
  refine wp_seq ?_
  refine wp_seq ?_
  refine wpr ?_
  refine wpl rfl rfl ht (ev_assign ht rfl rfl) ?_
  intro a ht
  refine wpList_nil ?_
  refine then_normal ?_
  refine wp_block ?_
  refine wpLoop (fun q a w => ∃ (ls0_1 : List Int) (xs0_2 : Int) (xs0_3 : Int), laws_markInt64S.l0 q ls0_1 xs0_2 xs0_3 = some r ∧ q ≤ k ∧ Tm 19 [(0, .slice A m c), (4, .int .i64 0), (1, .int .i64 xs0_2), (5, .int .i64 xs0_3)] a ∧ Ms X (fps [.vec A c 2 1 m (ints a_)]) w0 [.vec A c 2 1 m (ints ls0_1)] [] w) (k0 := k) ⟨a_, k_, 0, H, Nat.le_refl _, ht.sub ⟨rfl, rfl, rfl, rfl, trivial⟩, (hm.pick [0] rfl (by decide)).pickφ [] rfl⟩ ?_
  clear H ht hm
  intro q1 a w hJ
  obtain ⟨ls0_1, xs0_2, xs0_3, H, hqq1, ht, hm⟩ := hJ
  cases q1 with
  | zero => cases H
  | succ q1 =>
  rw [laws_markInt64S.l0] at H
  refine wp_seq ?_
  refine wp_seq ?_
  refine wpr ?_
  refine wpl rfl rfl ht (ev_move ht rfl rfl) ?_
  intro a ht
  refine wpl rfl rfl ht (ev_move ht rfl rfl) ?_
  intro a ht
  refine wpl rfl rfl ht (ev_len_of ht rfl rfl und_25 (hm.vec_row 0 rfl)) ?_
  intro a ht
  refine wpl rfl rfl ht (ev_cmp ht rfl rfl rfl rfl) ?_
  intro a ht
  refine wpList_nil ?_
  refine then_normal ?_
  by_cases h2 : xs0_3 < (ls0_1.length : Int)
  · replace H := ite_yes h2 H
    refine wpc_yes ht rfl (decide_eq_true h2) ?_
    refine wp_skip ?_
    refine then_normal ?_
    refine wp_seq ?_
    refine wp_block ?_
    refine wp_seq ?_
    refine wpr ?_
    refine wpl rfl rfl ht (ev_move ht rfl rfl) ?_
    intro a ht
    refine wpl rfl rfl ht (ev_move ht rfl rfl) ?_
    intro a ht
    refine wpl rfl rfl ht (ev_move ht rfl rfl) ?_
    intro a ht
    obtain ⟨t3, et3, H⟩ := bind_get H
    refine wpl rfl rfl ht (ev_index_ints ht rfl rfl rfl so_25 (hm.vec_row 0 rfl) et3) ?_
    intro a ht
    refine wpl_store_int 0 rfl rfl ht hm rfl rfl rfl sz1_2 rfl et3 ?_
    intro a ht w hm
    refine wpList_nil ?_
    refine then_normal ?_
    refine wpr ?_
    refine wpl rfl rfl ht (ev_move ht rfl rfl) ?_
    intro a ht
    refine wpl rfl rfl ht (ev_arith ht rfl rfl rfl rfl) ?_
    intro a ht
    refine wpl rfl rfl ht (ev_assign ht rfl rfl) ?_
    intro a ht
    refine wpList_nil ?_
    refine blk_normal ?_
    refine then_normal ?_
    refine wpr ?_
    refine wpl rfl rfl ht (ev_move ht rfl rfl) ?_
    intro a ht
    refine wpl rfl rfl ht (ev_arith ht rfl rfl rfl rfl) ?_
    intro a ht
    refine wpl rfl rfl ht (ev_assign ht rfl rfl) ?_
    intro a ht
    refine wpList_nil ?_
    exact then_normal ⟨q1, by omega, (ls0_1.set xs0_3.toNat xs0_2), (w64 (xs0_2 + 1)), (w64 (xs0_3 + 1)), H, by omega, ht.sub ⟨rfl, rfl, rfl, rfl, trivial⟩, (hm.pick [0] rfl (by decide)).pickφ [] rfl⟩
  · replace H := ite_no h2 H
    refine wpc_no ht rfl (decide_eq_false h2) ?_
    refine wp_exit ?_
    refine then_exit ?_
    refine then_exit ?_
    refine blk_hit ?_
    refine then_normal ?_
    refine wp_seq ?_
    refine wpr ?_
    refine wpl rfl rfl ht (ev_move ht rfl rfl) ?_
    intro a ht
    refine wpl rfl rfl ht (ev_assign ht rfl rfl) ?_
    intro a ht
    refine wpList_nil ?_
    refine then_normal ?_
    refine wp_ret ?_
    have hres := ht.res (P := Try.prog) (w := w) (rs := [.tmp 4]) (vs := [.int .i64 xs0_2]) (.tmp rfl .nil)
    obtain rfl := Option.some.inj H
    exact leave ht rfl hres ⟨rfl, ((hm.pick [0] rfl (by decide)).pickφ [] rfl).post fun _ h => h⟩

/-! ### laws_heldInt64S: function 19 (loop.example/g01362/laws.heldInt64S) -/
def laws_heldInt64S.l0 : Nat → List Int → Int → Int → Option (Int)
  | 0, _, _, _ => none
  | q1 + 1, a_, xs0_1, xs0_2 => if xs0_2 < (a_.length : Int) then ((getI a_ xs0_2).bind fun t3 => if t3 ≠ xs0_1 then (some (-1)) else (laws_heldInt64S.l0 q1 a_ (w64 (xs0_1 + 1)) (w64 (xs0_2 + 1)))) else (some xs0_1)
def laws_heldInt64S.f (k : Nat) (a_ : List Int) (k_ : Int) : Option (Int) := laws_heldInt64S.l0 k a_ k_ 0
set_option maxRecDepth 100000 in
set_option maxHeartbeats 1000000 in
theorem laws_heldInt64S.calls (k : Nat) (X : List Nat) (w0 : World) (A : Option Addr) (c : Nat) (m : Nat) (a_ : List Int) (k_ : Int) (r : Int)
    (hp : Pre X w0 [] [IntsAt A c m a_]) (H : laws_heldInt64S.f k a_ k_ = some r) :
    Calls Try.prog 19 [.slice A m c, .int .i64 k_].toArray w0 (Ret fun v w => v = .int .i64 r ∧ Post X (fps []) w0 [] [] w) := by
  unfold laws_heldInt64S.f at H
  refine enterM (n := 21) hp Try.func19 rfl rfl (Nat.le_of_ble_eq_true rfl) fun a w ht hm => ?_
  refine wp_seq ?_
  refine wpr ?_
  refine wpl rfl rfl ht (ev_assign ht rfl rfl) ?_
  intro a ht
  refine wpList_nil ?_
  refine then_normal ?_
  refine wp_seq ?_
  refine wp_seq ?_
  refine wpr ?_
  refine wpl rfl rfl ht (ev_assign ht rfl rfl) ?_
  intro a ht
  refine wpList_nil ?_
  refine then_normal ?_
  refine wp_block ?_
  refine wpLoop (fun q a w => ∃ (xs0_1 : Int) (xs0_2 : Int), laws_heldInt64S.l0 q a_ xs0_1 xs0_2 = some r ∧ q ≤ k ∧ Tm 21 [(0, .slice A m c), (4, .int .i64 0), (1, .int .i64 xs0_1), (5, .int .i64 xs0_2)] a ∧ Ms X (fps []) w0 [] [IntsAt A c m a_] w) (k0 := k) ⟨k_, 0, H, Nat.le_refl _, ht.sub ⟨rfl, rfl, rfl, rfl, trivial⟩, (hm.pick [] rfl (by decide)).pickφ [0] rfl⟩ ?_
  clear H ht hm
  intro q1 a w hJ
  obtain ⟨xs0_1, xs0_2, H, hqq1, ht, hm⟩ := hJ
  cases q1 with
  | zero => cases H
  | succ q1 =>
  rw [laws_heldInt64S.l0] at H
  refine wp_seq ?_
  refine wp_seq ?_
  refine wpr ?_
  refine wpl rfl rfl ht (ev_move ht rfl rfl) ?_
  intro a ht
  refine wpl rfl rfl ht (ev_move ht rfl rfl) ?_
  intro a ht
  refine wpl rfl rfl ht (ev_len_of ht rfl rfl und_25 (hm.fact (φ := IntsAt A c m a_) 0 rfl)) ?_
  intro a ht
  refine wpl rfl rfl ht (ev_cmp ht rfl rfl rfl rfl) ?_
  intro a ht
  refine wpList_nil ?_
  refine then_normal ?_
  by_cases h2 : xs0_2 < (a_.length : Int)
  · replace H := ite_yes h2 H
    refine wpc_yes ht rfl (decide_eq_true h2) ?_
    refine wp_skip ?_
    refine then_normal ?_
    refine wp_seq ?_
    refine wp_block ?_
    refine wp_seq ?_
    refine wp_seq ?_
    refine wpr ?_
    refine wpl rfl rfl ht (ev_move ht rfl rfl) ?_
    intro a ht
    refine wpl rfl rfl ht (ev_move ht rfl rfl) ?_
    intro a ht
    obtain ⟨t3, et3, H⟩ := bind_get H
    refine wpl rfl rfl ht (ev_index_ints ht rfl rfl rfl so_25 (hm.fact (φ := IntsAt A c m a_) 0 rfl) et3) ?_
    intro a ht
    refine wpl rfl rfl ht (ev_load ht rfl rfl sc_2 (RowAt.cell (hm.fact (φ := IntsAt A c m a_) 0 rfl) (ints_get et3) rfl)) ?_
    intro a ht
    refine wpl rfl rfl ht (ev_move ht rfl rfl) ?_
    intro a ht
    refine wpl rfl rfl ht (ev_cmp ht rfl rfl rfl rfl) ?_
    intro a ht
    refine wpList_nil ?_
    refine then_normal ?_
    by_cases h4 : t3 ≠ xs0_1
    · replace H := ite_yes h4 H
      refine wpc_yes ht rfl (decide_eq_true h4) ?_
      refine wp_seq ?_
      refine wpr ?_
      refine wpl rfl rfl ht (ev_assign ht rfl rfl) ?_
      intro a ht
      refine wpList_nil ?_
      refine then_normal ?_
      refine wp_ret ?_
      refine then_ret ?_
      refine blk_ret ?_
      refine then_ret ?_
      refine then_ret ?_
      refine blk_ret ?_
      refine then_ret ?_
      have hres := ht.res (P := Try.prog) (w := w) (rs := [.tmp 4]) (vs := [.int .i64 (-1)]) (.tmp rfl .nil)
      obtain rfl := Option.some.inj H
      exact leave ht rfl hres ⟨rfl, ((hm.pick [] rfl (by decide)).pickφ [] rfl).post fun _ h => h⟩
    · replace H := ite_no h4 H
      refine wpc_no ht rfl (decide_eq_false h4) ?_
      refine wp_skip ?_
      refine then_normal ?_
      refine wpr ?_
      refine wpl rfl rfl ht (ev_move ht rfl rfl) ?_
      intro a ht
      refine wpl rfl rfl ht (ev_arith ht rfl rfl rfl rfl) ?_
      intro a ht
      refine wpl rfl rfl ht (ev_assign ht rfl rfl) ?_
      intro a ht
      refine wpList_nil ?_
      refine blk_normal ?_
      refine then_normal ?_
      refine wpr ?_
      refine wpl rfl rfl ht (ev_move ht rfl rfl) ?_
      intro a ht
      refine wpl rfl rfl ht (ev_arith ht rfl rfl rfl rfl) ?_
      intro a ht
      refine wpl rfl rfl ht (ev_assign ht rfl rfl) ?_
      intro a ht
      refine wpList_nil ?_
      exact then_normal ⟨q1, by omega, (w64 (xs0_1 + 1)), (w64 (xs0_2 + 1)), H, by omega, ht.sub ⟨rfl, rfl, rfl, rfl, trivial⟩, (hm.pick [] rfl (by decide)).pickφ [0] rfl⟩
  · replace H := ite_no h2 H
    refine wpc_no ht rfl (decide_eq_false h2) ?_
    refine wp_exit ?_
    refine then_exit ?_
    refine then_exit ?_
    refine blk_hit ?_
    refine then_normal ?_
    refine wp_seq ?_
    refine wpr ?_
    refine wpl rfl rfl ht (ev_move ht rfl rfl) ?_
    intro a ht
    refine wpl rfl rfl ht (ev_assign ht rfl rfl) ?_
    intro a ht
    refine wpList_nil ?_
    refine then_normal ?_
    refine wp_ret ?_
    have hres := ht.res (P := Try.prog) (w := w) (rs := [.tmp 4]) (vs := [.int .i64 xs0_1]) (.tmp rfl .nil)
    obtain rfl := Option.some.inj H
    exact leave ht rfl hres ⟨rfl, ((hm.pick [] rfl (by decide)).pickφ [] rfl).post fun _ h => h⟩

/-! ### laws_FnExactGreatestDouble: function 12 (loop.example/g01362/laws.FnExactGreatestDouble) -/
def laws_FnExactGreatestDouble.f (k : Nat) (aX : Col) (aC : Int) : Option (Bool) := (laws_toColouring.f k aX).bind fun t2 => (spec_GreatestDouble.f k t2 aC).bind fun t3 => (laws_toColouring.f k aX).bind fun t7 => (impl_GreatestDouble.f k t7 aC).bind fun t8 => (laws_eqInt64S.f k t8.1 t3.1).bind fun t12 => if t12 = true then (if t8.2.1 ≠ t3.2.1 then (some false) else (if t8.2.2 ≠ t3.2.2 then (some false) else ((laws_markInt64S.f k t8.1 1).bind fun t16 => (laws_heldInt64S.f k t16.2 1).bind fun t17 => if t17 < 0 then (some false) else (if t17 ≠ t16.1 then (some false) else ((laws_toColouring.f k aX).bind fun t20 => (impl_GreatestDouble.f k t20 aC).bind fun t21 => (laws_eqInt64S.f k t21.1 t3.1).bind fun t25 => if t25 = true then (if t21.2.1 ≠ t3.2.1 then (some false) else (if t21.2.2 ≠ t3.2.2 then (some false) else ((laws_heldInt64S.f k t16.2 1).bind fun t29 => if t29 < 0 then (some false) else (if t29 ≠ t16.1 then (some false) else (some true))))) else (some false)))))) else (some false)
set_option maxRecDepth 100000 in
set_option maxHeartbeats 1000000 in
theorem laws_FnExactGreatestDouble.calls (k : Nat) (X : List Nat) (w0 : World)  (aX : Col) (aC : Int) (r : Bool)
    (hp : Pre X w0 [] []) (H : laws_FnExactGreatestDouble.f k aX aC = some r) :
    Calls Try.prog 12 [.agg (Col.cells aX).toArray, .int .i64 aC].toArray w0 (Ret fun v w => v = .bool r ∧ Post X (fps []) w0 [] [] w) := by
  unfold laws_FnExactGreatestDouble.f at H
  refine enterM (n := 87) hp Try.func12 rfl rfl (Nat.le_of_ble_eq_true rfl) fun a w ht hm => ?_
  refine wp_seq ?_
  refine wpr ?_
  refine wpl_box rfl rfl ht hm rfl rfl rfl ?_
  intro b1 a ht w hm
  refine wpl rfl rfl ht (ev_assign ht rfl rfl) ?_
  intro a ht
  refine wpList_nil ?_
  refine then_normal ?_
  refine wp_seq ?_
  refine wpr ?_
  refine wpl rfl rfl ht (ev_load_agg ht rfl rfl (ag_24.trans (by first | rw [Col.length_cells] | rfl)) (hm.blk_all 0 rfl)) ?_
  intro a ht
  obtain ⟨t2, et2, H⟩ := bind_get H
  have hcall := laws_toColouring.calls k _ _ aX _ ((fun (hq : Ms _ _ _ ([] ++ [.blk b1 24 (Col.cells aX)]) _ _) => hq.lend (φp := []) (allRO_nil)) (hm.pick (own' := [] ++ [.blk b1 24 (Col.cells aX)]) [0] rfl (by decide))) et2
  refine wpl_call _ rfl rfl ht rfl rfl rfl rfl can_15 hcall ?_
  clear hcall
  rintro _ w ⟨rfl, hpost⟩ a ht
  replace hm := (hm.pick (own' := [] ++ [.blk b1 24 (Col.cells aX)]) [0] rfl (by decide)).backL hpost
  clear hpost
  refine wpl rfl rfl ht (ev_move ht rfl rfl) ?_
  intro a ht
  obtain ⟨t3, et3, H⟩ := bind_get H
  have hcall := spec_GreatestDouble.calls k _ _ t2 aC _ ((fun (hq : Ms _ _ _ ([] ++ [.blk b1 24 (Col.cells aX)]) _ _) => hq.lend (φp := []) (allRO_nil)) (hm.pick (own' := [] ++ [.blk b1 24 (Col.cells aX)]) [0] rfl (by decide))) et3
  refine wpl_call _ rfl rfl ht rfl rfl rfl rfl can_38 hcall ?_
  clear hcall
  rintro _ w ⟨A4, c5, m6, rfl, hpost⟩ a ht
  replace hm := (hm.pick (own' := [] ++ [.blk b1 24 (Col.cells aX)]) [0] rfl (by decide)).backL hpost
  clear hpost
  refine wpl rfl rfl ht (ev_move ht rfl rfl) ?_
  intro a ht
  refine wpl rfl rfl ht (ev_extract ht rfl rfl rfl) ?_
  intro a ht
  refine wpl rfl rfl ht (ev_extract ht rfl rfl rfl) ?_
  intro a ht
  refine wpl rfl rfl ht (ev_extract ht rfl rfl rfl) ?_
  intro a ht
  refine wpl rfl rfl ht (ev_assign ht rfl rfl) ?_
  intro a ht
  refine wpl rfl rfl ht (ev_assign ht rfl rfl) ?_
  intro a ht
  refine wpl rfl rfl ht (ev_assign ht rfl rfl) ?_
  intro a ht
  refine wpList_nil ?_
  refine then_normal ?_
  refine wp_seq ?_
  refine wpr ?_
  refine wpl rfl rfl ht (ev_load_agg ht rfl rfl (ag_24.trans (by first | rw [Col.length_cells] | rfl)) (hm.blk_all 1 rfl)) ?_
  intro a ht
  obtain ⟨t7, et7, H⟩ := bind_get H
  have hcall := laws_toColouring.calls k _ _ aX _ ((fun (hq : Ms _ _ _ ([] ++ [.vec A4 c5 2 1 m6 (ints t3.1), .blk b1 24 (Col.cells aX)]) _ _) => hq.lend (φp := []) (allRO_nil)) (hm.pick (own' := [] ++ [.vec A4 c5 2 1 m6 (ints t3.1), .blk b1 24 (Col.cells aX)]) [0, 1] rfl (by decide))) et7
  refine wpl_call _ rfl rfl ht rfl rfl rfl rfl can_15 hcall ?_
  clear hcall
  rintro _ w ⟨rfl, hpost⟩ a ht
  replace hm := (hm.pick (own' := [] ++ [.vec A4 c5 2 1 m6 (ints t3.1), .blk b1 24 (Col.cells aX)]) [0, 1] rfl (by decide)).backL hpost
  clear hpost
  refine wpl rfl rfl ht (ev_move ht rfl rfl) ?_
  intro a ht
  obtain ⟨t8, et8, H⟩ := bind_get H
  have hcall := impl_GreatestDouble.calls k _ _ t7 aC _ ((hm.pick (own' := [] ++ [.vec A4 c5 2 1 m6 (ints t3.1), .blk b1 24 (Col.cells aX)]) [0, 1] rfl (by decide)).give (passed := []) (rest := [.vec A4 c5 2 1 m6 (ints t3.1), .blk b1 24 (Col.cells aX)]) (φp := []) [] rfl) et8
  refine wpl_call _ rfl rfl ht rfl rfl rfl rfl can_39 hcall ?_
  clear hcall
  rintro _ w ⟨A9, c10, m11, rfl, hpost⟩ a ht
  replace hm := (hm.pick (own' := [] ++ [.vec A4 c5 2 1 m6 (ints t3.1), .blk b1 24 (Col.cells aX)]) [0, 1] rfl (by decide)).back hpost
  clear hpost
  refine wpl rfl rfl ht (ev_move ht rfl rfl) ?_
  intro a ht
  refine wpl rfl rfl ht (ev_extract ht rfl rfl rfl) ?_
  intro a ht
  refine wpl rfl rfl ht (ev_extract ht rfl rfl rfl) ?_
  intro a ht
  refine wpl rfl rfl ht (ev_extract ht rfl rfl rfl) ?_
  intro a ht
  refine wpl rfl rfl ht (ev_assign ht rfl rfl) ?_
  intro a ht
  refine wpl rfl rfl ht (ev_assign ht rfl rfl) ?_
  intro a ht
  refine wpl rfl rfl ht (ev_assign ht rfl rfl) ?_
  intro a ht
  refine wpList_nil ?_
  refine then_normal ?_
  refine wp_seq ?_
  refine wp_seq ?_
  refine wpr ?_
  refine wpl rfl rfl ht (ev_move ht rfl rfl) ?_
  intro a ht
  refine wpl rfl rfl ht (ev_move ht rfl rfl) ?_
  intro a ht
  obtain ⟨t12, et12, H⟩ := bind_get H
  have hcall := laws_eqInt64S.calls k _ _ A9 c10 m11 A4 c5 m6 t8.1 t3.1 _ ((fun (hq : Ms _ _ _ ([] ++ [.vec A9 c10 2 1 m11 (ints t8.1), .vec A4 c5 2 1 m6 (ints t3.1), .blk b1 24 (Col.cells aX)]) _ _) => hq.lend (φp := [IntsAt A9 c10 m11 t8.1, IntsAt A4 c5 m6 t3.1]) (allRO_cons (hq.lendVec 0 rfl) (allRO_cons (hq.lendVec 1 rfl) (allRO_nil)))) (hm.pick (own' := [] ++ [.vec A9 c10 2 1 m11 (ints t8.1), .vec A4 c5 2 1 m6 (ints t3.1), .blk b1 24 (Col.cells aX)]) [0, 1, 2] rfl (by decide))) et12
  refine wpl_call _ rfl rfl ht rfl rfl rfl rfl can_17 hcall ?_
  clear hcall
  rintro _ w ⟨rfl, hpost⟩ a ht
  replace hm := (hm.pick (own' := [] ++ [.vec A9 c10 2 1 m11 (ints t8.1), .vec A4 c5 2 1 m6 (ints t3.1), .blk b1 24 (Col.cells aX)]) [0, 1, 2] rfl (by decide)).backL hpost
  clear hpost
  refine wpl rfl rfl ht (ev_not ht rfl rfl) ?_
  intro a ht
  refine wpl rfl rfl ht (ev_move ht rfl rfl) ?_
  intro a ht
  by_cases h13 : t12 = true
  · replace H := ite_yes h13 H
    refine wpl_yes rfl ht rfl ((not_t h13)) ?_
    refine wpl rfl rfl ht (ev_move ht rfl rfl) ?_
    intro a ht
    refine wpl_yes rfl ht rfl ((not_t h13)) ?_
    refine wpl rfl rfl ht (ev_move ht rfl rfl) ?_
    intro a ht
    refine wpl_yes rfl ht rfl ((not_t h13)) ?_
    refine wpl rfl rfl ht (ev_cmp ht rfl rfl rfl rfl) ?_
    intro a ht
    refine wpl rfl rfl ht (ev_pick_no ht rfl rfl (not_t h13) rfl) ?_
    intro a ht
    refine wpl rfl rfl ht (ev_move ht rfl rfl) ?_
    intro a ht
    by_cases h14 : t8.2.1 ≠ t3.2.1
    · replace H := ite_yes h14 H
      refine wpl_no rfl rfl ht rfl (by rw [(decide_eq_true h14)]; decide) ?_
      intro a ht
      refine wpl_no rfl rfl ht rfl (by rw [(decide_eq_true h14)]; decide) ?_
      intro a ht
      refine wpl_no rfl rfl ht rfl (by rw [(decide_eq_true h14)]; decide) ?_
      intro a ht
      refine wpl rfl rfl ht (ev_pick_yes ht rfl rfl (decide_eq_true h14) rfl) ?_
      intro a ht
      refine wpList_nil ?_
      refine then_normal ?_
      refine wpc_yes ht rfl rfl ?_
      refine wp_seq ?_
      refine wpr ?_
      refine wpl rfl rfl ht (ev_assign ht rfl rfl) ?_
      intro a ht
      refine wpList_nil ?_
      refine then_normal ?_
      refine wp_ret ?_
      refine then_ret ?_
      have hres := ht.res (P := Try.prog) (w := w) (rs := [.tmp 4]) (vs := [.bool false]) (.tmp rfl .nil)
      obtain rfl := Option.some.inj H
      exact leave ht rfl hres ⟨rfl, ((hm.pick [] rfl (by decide)).pickφ [] rfl).post fun _ h => h⟩
    · replace H := ite_no h14 H
      refine wpl_yes rfl ht rfl ((decide_eq_false h14)) ?_
      refine wpl rfl rfl ht (ev_move ht rfl rfl) ?_
      intro a ht
      refine wpl_yes rfl ht rfl ((decide_eq_false h14)) ?_
      refine wpl rfl rfl ht (ev_move ht rfl rfl) ?_
      intro a ht
      refine wpl_yes rfl ht rfl ((decide_eq_false h14)) ?_
      refine wpl rfl rfl ht (ev_cmp ht rfl rfl rfl rfl) ?_
      intro a ht
      refine wpl rfl rfl ht (ev_pick_no ht rfl rfl (decide_eq_false h14) rfl) ?_
      intro a ht
      refine wpList_nil ?_
      refine then_normal ?_
      by_cases h15 : t8.2.2 ≠ t3.2.2
      · replace H := ite_yes h15 H
        refine wpc_yes ht rfl (decide_eq_true h15) ?_
        refine wp_seq ?_
        refine wpr ?_
        refine wpl rfl rfl ht (ev_assign ht rfl rfl) ?_
        intro a ht
        refine wpList_nil ?_
        refine then_normal ?_
        refine wp_ret ?_
        refine then_ret ?_
        have hres := ht.res (P := Try.prog) (w := w) (rs := [.tmp 4]) (vs := [.bool false]) (.tmp rfl .nil)
        obtain rfl := Option.some.inj H
        exact leave ht rfl hres ⟨rfl, ((hm.pick [] rfl (by decide)).pickφ [] rfl).post fun _ h => h⟩
      · replace H := ite_no h15 H
        refine wpc_no ht rfl (decide_eq_false h15) ?_
        refine wp_skip ?_
        refine then_normal ?_
        refine wp_seq ?_
        refine wpr ?_
        refine wpl rfl rfl ht (ev_assign ht rfl rfl) ?_
        intro a ht
        refine wpList_nil ?_
        refine then_normal ?_
        refine wp_seq ?_
        refine wpr ?_
        refine wpl rfl rfl ht (ev_move ht rfl rfl) ?_
        intro a ht
        refine wpl rfl rfl ht (ev_move ht rfl rfl) ?_
        intro a ht
        obtain ⟨t16, et16, H⟩ := bind_get H
        have hcall := laws_markInt64S.calls k _ _ A9 c10 m11 t8.1 1 _ ((fun (hq : Ms _ _ _ ([.vec A9 c10 2 1 m11 (ints t8.1)] ++ [.vec A4 c5 2 1 m6 (ints t3.1), .blk b1 24 (Col.cells aX)]) _ _) => hq.lend (φp := []) (allRO_nil)) (hm.pick (own' := [.vec A9 c10 2 1 m11 (ints t8.1)] ++ [.vec A4 c5 2 1 m6 (ints t3.1), .blk b1 24 (Col.cells aX)]) [0, 1, 2] rfl (by decide))) et16
        refine wpl_call _ rfl rfl ht rfl rfl rfl rfl can_18 hcall ?_
        clear hcall
        rintro _ w ⟨rfl, hpost⟩ a ht
        replace hm := (hm.pick (own' := [.vec A9 c10 2 1 m11 (ints t8.1)] ++ [.vec A4 c5 2 1 m6 (ints t3.1), .blk b1 24 (Col.cells aX)]) [0, 1, 2] rfl (by decide)).backL hpost
        clear hpost
        refine wpl rfl rfl ht (ev_assign ht rfl rfl) ?_
        intro a ht
        refine wpList_nil ?_
        refine then_normal ?_
        refine wp_seq ?_
        refine wpr ?_
        refine wpl rfl rfl ht (ev_assign ht rfl rfl) ?_
        intro a ht
        refine wpList_nil ?_
        refine then_normal ?_
        refine wp_seq ?_
        refine wpr ?_
        refine wpl rfl rfl ht (ev_move ht rfl rfl) ?_
        intro a ht
        refine wpl rfl rfl ht (ev_move ht rfl rfl) ?_
        intro a ht
        obtain ⟨t17, et17, H⟩ := bind_get H
        have hcall := laws_heldInt64S.calls k _ _ A9 c10 m11 t16.2 1 _ ((fun (hq : Ms _ _ _ ([] ++ [.vec A9 c10 2 1 m11 (ints t16.2), .vec A4 c5 2 1 m6 (ints t3.1), .blk b1 24 (Col.cells aX)]) _ _) => hq.lend (φp := [IntsAt A9 c10 m11 t16.2]) (allRO_cons (hq.lendVec 0 rfl) (allRO_nil))) (hm.pick (own' := [] ++ [.vec A9 c10 2 1 m11 (ints t16.2), .vec A4 c5 2 1 m6 (ints t3.1), .blk b1 24 (Col.cells aX)]) [0, 1, 2] rfl (by decide))) et17
        refine wpl_call _ rfl rfl ht rfl rfl rfl rfl can_19 hcall ?_
        clear hcall
        rintro _ w ⟨rfl, hpost⟩ a ht
        replace hm := (hm.pick (own' := [] ++ [.vec A9 c10 2 1 m11 (ints t16.2), .vec A4 c5 2 1 m6 (ints t3.1), .blk b1 24 (Col.cells aX)]) [0, 1, 2] rfl (by decide)).backL hpost
        clear hpost
        refine wpl rfl rfl ht (ev_assign ht rfl rfl) ?_
        intro a ht
        refine wpList_nil ?_
        refine then_normal ?_
        refine wp_seq ?_
        refine wp_seq ?_
        refine wpr ?_
        refine wpl rfl rfl ht (ev_move ht rfl rfl) ?_
        intro a ht
        refine wpl rfl rfl ht (ev_cmp ht rfl rfl rfl rfl) ?_
        intro a ht
        refine wpList_nil ?_
        refine then_normal ?_
        by_cases h18 : t17 < 0
        · replace H := ite_yes h18 H
          refine wpc_yes ht rfl (decide_eq_true h18) ?_
          refine wp_seq ?_
          refine wpr ?_
          refine wpl rfl rfl ht (ev_assign ht rfl rfl) ?_
          intro a ht
          refine wpList_nil ?_
          refine then_normal ?_
          refine wp_ret ?_
          refine then_ret ?_
          have hres := ht.res (P := Try.prog) (w := w) (rs := [.tmp 4]) (vs := [.bool false]) (.tmp rfl .nil)
          obtain rfl := Option.some.inj H
          exact leave ht rfl hres ⟨rfl, ((hm.pick [] rfl (by decide)).pickφ [] rfl).post fun _ h => h⟩
        · replace H := ite_no h18 H
          refine wpc_no ht rfl (decide_eq_false h18) ?_
          refine wp_skip ?_
          refine then_normal ?_
          refine wp_seq ?_
          refine wp_seq ?_
          refine wpr ?_
          refine wpl rfl rfl ht (ev_move ht rfl rfl) ?_
          intro a ht
          refine wpl rfl rfl ht (ev_move ht rfl rfl) ?_
          intro a ht
          refine wpl rfl rfl ht (ev_cmp ht rfl rfl rfl rfl) ?_
          intro a ht
          refine wpList_nil ?_
          refine then_normal ?_
          by_cases h19 : t17 ≠ t16.1
          · replace H := ite_yes h19 H
            refine wpc_yes ht rfl (decide_eq_true h19) ?_
            refine wp_seq ?_
            refine wpr ?_
            refine wpl rfl rfl ht (ev_assign ht rfl rfl) ?_
            intro a ht
            refine wpList_nil ?_
            refine then_normal ?_
            refine wp_ret ?_
            refine then_ret ?_
            have hres := ht.res (P := Try.prog) (w := w) (rs := [.tmp 4]) (vs := [.bool false]) (.tmp rfl .nil)
            obtain rfl := Option.some.inj H
            exact leave ht rfl hres ⟨rfl, ((hm.pick [] rfl (by decide)).pickφ [] rfl).post fun _ h => h⟩
          · replace H := ite_no h19 H
            refine wpc_no ht rfl (decide_eq_false h19) ?_
            refine wp_skip ?_
            refine then_normal ?_
            refine wp_seq ?_
            refine wpr ?_
            refine wpl rfl rfl ht (ev_load_agg ht rfl rfl (ag_24.trans (by first | rw [Col.length_cells] | rfl)) (hm.blk_all 2 rfl)) ?_
            intro a ht
            obtain ⟨t20, et20, H⟩ := bind_get H
            have hcall := laws_toColouring.calls k _ _ aX _ ((fun (hq : Ms _ _ _ ([] ++ [.vec A9 c10 2 1 m11 (ints t16.2), .vec A4 c5 2 1 m6 (ints t3.1), .blk b1 24 (Col.cells aX)]) _ _) => hq.lend (φp := []) (allRO_nil)) (hm.pick (own' := [] ++ [.vec A9 c10 2 1 m11 (ints t16.2), .vec A4 c5 2 1 m6 (ints t3.1), .blk b1 24 (Col.cells aX)]) [0, 1, 2] rfl (by decide))) et20
            refine wpl_call _ rfl rfl ht rfl rfl rfl rfl can_15 hcall ?_
            clear hcall
            rintro _ w ⟨rfl, hpost⟩ a ht
            replace hm := (hm.pick (own' := [] ++ [.vec A9 c10 2 1 m11 (ints t16.2), .vec A4 c5 2 1 m6 (ints t3.1), .blk b1 24 (Col.cells aX)]) [0, 1, 2] rfl (by decide)).backL hpost
            clear hpost
            refine wpl rfl rfl ht (ev_move ht rfl rfl) ?_
            intro a ht
            obtain ⟨t21, et21, H⟩ := bind_get H
            have hcall := impl_GreatestDouble.calls k _ _ t20 aC _ ((hm.pick (own' := [] ++ [.vec A9 c10 2 1 m11 (ints t16.2), .vec A4 c5 2 1 m6 (ints t3.1), .blk b1 24 (Col.cells aX)]) [0, 1, 2] rfl (by decide)).give (passed := []) (rest := [.vec A9 c10 2 1 m11 (ints t16.2), .vec A4 c5 2 1 m6 (ints t3.1), .blk b1 24 (Col.cells aX)]) (φp := []) [] rfl) et21
            refine wpl_call _ rfl rfl ht rfl rfl rfl rfl can_39 hcall ?_
            clear hcall
            rintro _ w ⟨A22, c23, m24, rfl, hpost⟩ a ht
            replace hm := (hm.pick (own' := [] ++ [.vec A9 c10 2 1 m11 (ints t16.2), .vec A4 c5 2 1 m6 (ints t3.1), .blk b1 24 (Col.cells aX)]) [0, 1, 2] rfl (by decide)).back hpost
            clear hpost
            refine wpl rfl rfl ht (ev_move ht rfl rfl) ?_
            intro a ht
            refine wpl rfl rfl ht (ev_extract ht rfl rfl rfl) ?_
            intro a ht
            refine wpl rfl rfl ht (ev_extract ht rfl rfl rfl) ?_
            intro a ht
            refine wpl rfl rfl ht (ev_extract ht rfl rfl rfl) ?_
            intro a ht
            refine wpl rfl rfl ht (ev_assign ht rfl rfl) ?_
            intro a ht
            refine wpl rfl rfl ht (ev_assign ht rfl rfl) ?_
            intro a ht
            refine wpl rfl rfl ht (ev_assign ht rfl rfl) ?_
            intro a ht
            refine wpList_nil ?_
            refine then_normal ?_
            refine wp_seq ?_
            refine wp_seq ?_
            refine wpr ?_
            refine wpl rfl rfl ht (ev_move ht rfl rfl) ?_
            intro a ht
            refine wpl rfl rfl ht (ev_move ht rfl rfl) ?_
            intro a ht
            obtain ⟨t25, et25, H⟩ := bind_get H
            have hcall := laws_eqInt64S.calls k _ _ A22 c23 m24 A4 c5 m6 t21.1 t3.1 _ ((fun (hq : Ms _ _ _ ([] ++ [.vec A22 c23 2 1 m24 (ints t21.1), .vec A9 c10 2 1 m11 (ints t16.2), .vec A4 c5 2 1 m6 (ints t3.1), .blk b1 24 (Col.cells aX)]) _ _) => hq.lend (φp := [IntsAt A22 c23 m24 t21.1, IntsAt A4 c5 m6 t3.1]) (allRO_cons (hq.lendVec 0 rfl) (allRO_cons (hq.lendVec 2 rfl) (allRO_nil)))) (hm.pick (own' := [] ++ [.vec A22 c23 2 1 m24 (ints t21.1), .vec A9 c10 2 1 m11 (ints t16.2), .vec A4 c5 2 1 m6 (ints t3.1), .blk b1 24 (Col.cells aX)]) [0, 1, 2, 3] rfl (by decide))) et25
            refine wpl_call _ rfl rfl ht rfl rfl rfl rfl can_17 hcall ?_
            clear hcall
            rintro _ w ⟨rfl, hpost⟩ a ht
            replace hm := (hm.pick (own' := [] ++ [.vec A22 c23 2 1 m24 (ints t21.1), .vec A9 c10 2 1 m11 (ints t16.2), .vec A4 c5 2 1 m6 (ints t3.1), .blk b1 24 (Col.cells aX)]) [0, 1, 2, 3] rfl (by decide)).backL hpost
            clear hpost
            refine wpl rfl rfl ht (ev_not ht rfl rfl) ?_
            intro a ht
            refine wpl rfl rfl ht (ev_move ht rfl rfl) ?_
            intro a ht
            by_cases h26 : t25 = true
            · replace H := ite_yes h26 H
              refine wpl_yes rfl ht rfl ((not_t h26)) ?_
              refine wpl rfl rfl ht (ev_move ht rfl rfl) ?_
              intro a ht
              refine wpl_yes rfl ht rfl ((not_t h26)) ?_
              refine wpl rfl rfl ht (ev_move ht rfl rfl) ?_
              intro a ht
              refine wpl_yes rfl ht rfl ((not_t h26)) ?_
              refine wpl rfl rfl ht (ev_cmp ht rfl rfl rfl rfl) ?_
              intro a ht
              refine wpl rfl rfl ht (ev_pick_no ht rfl rfl (not_t h26) rfl) ?_
              intro a ht
              refine wpl rfl rfl ht (ev_move ht rfl rfl) ?_
              intro a ht
              by_cases h27 : t21.2.1 ≠ t3.2.1
              · replace H := ite_yes h27 H
                refine wpl_no rfl rfl ht rfl (by rw [(decide_eq_true h27)]; decide) ?_
                intro a ht
                refine wpl_no rfl rfl ht rfl (by rw [(decide_eq_true h27)]; decide) ?_
                intro a ht
                refine wpl_no rfl rfl ht rfl (by rw [(decide_eq_true h27)]; decide) ?_
                intro a ht
                refine wpl rfl rfl ht (ev_pick_yes ht rfl rfl (decide_eq_true h27) rfl) ?_
                intro a ht
                refine wpList_nil ?_
                refine then_normal ?_
                refine wpc_yes ht rfl rfl ?_
                refine wp_seq ?_
                refine wpr ?_
                refine wpl rfl rfl ht (ev_assign ht rfl rfl) ?_
                intro a ht
                refine wpList_nil ?_
                refine then_normal ?_
                refine wp_ret ?_
                refine then_ret ?_
                have hres := ht.res (P := Try.prog) (w := w) (rs := [.tmp 4]) (vs := [.bool false]) (.tmp rfl .nil)
                obtain rfl := Option.some.inj H
                exact leave ht rfl hres ⟨rfl, ((hm.pick [] rfl (by decide)).pickφ [] rfl).post fun _ h => h⟩
              · replace H := ite_no h27 H
                refine wpl_yes rfl ht rfl ((decide_eq_false h27)) ?_
                refine wpl rfl rfl ht (ev_move ht rfl rfl) ?_
                intro a ht
                refine wpl_yes rfl ht rfl ((decide_eq_false h27)) ?_
                refine wpl rfl rfl ht (ev_move ht rfl rfl) ?_
                intro a ht
                refine wpl_yes rfl ht rfl ((decide_eq_false h27)) ?_
                refine wpl rfl rfl ht (ev_cmp ht rfl rfl rfl rfl) ?_
                intro a ht
                refine wpl rfl rfl ht (ev_pick_no ht rfl rfl (decide_eq_false h27) rfl) ?_
                intro a ht
                refine wpList_nil ?_
                refine then_normal ?_
                by_cases h28 : t21.2.2 ≠ t3.2.2
                · replace H := ite_yes h28 H
                  refine wpc_yes ht rfl (decide_eq_true h28) ?_
                  refine wp_seq ?_
                  refine wpr ?_
                  refine wpl rfl rfl ht (ev_assign ht rfl rfl) ?_
                  intro a ht
                  refine wpList_nil ?_
                  refine then_normal ?_
                  refine wp_ret ?_
                  refine then_ret ?_
                  have hres := ht.res (P := Try.prog) (w := w) (rs := [.tmp 4]) (vs := [.bool false]) (.tmp rfl .nil)
                  obtain rfl := Option.some.inj H
                  exact leave ht rfl hres ⟨rfl, ((hm.pick [] rfl (by decide)).pickφ [] rfl).post fun _ h => h⟩
                · replace H := ite_no h28 H
                  refine wpc_no ht rfl (decide_eq_false h28) ?_
                  refine wp_skip ?_
                  refine then_normal ?_
                  refine wp_seq ?_
                  refine wpr ?_
                  refine wpl rfl rfl ht (ev_assign ht rfl rfl) ?_
                  intro a ht
                  refine wpList_nil ?_
                  refine then_normal ?_
                  refine wp_seq ?_
                  refine wpr ?_
                  refine wpl rfl rfl ht (ev_move ht rfl rfl) ?_
                  intro a ht
                  refine wpl rfl rfl ht (ev_move ht rfl rfl) ?_
                  intro a ht
                  obtain ⟨t29, et29, H⟩ := bind_get H
                  have hcall := laws_heldInt64S.calls k _ _ A9 c10 m11 t16.2 1 _ ((fun (hq : Ms _ _ _ ([] ++ [.vec A22 c23 2 1 m24 (ints t21.1), .vec A9 c10 2 1 m11 (ints t16.2), .vec A4 c5 2 1 m6 (ints t3.1), .blk b1 24 (Col.cells aX)]) _ _) => hq.lend (φp := [IntsAt A9 c10 m11 t16.2]) (allRO_cons (hq.lendVec 1 rfl) (allRO_nil))) (hm.pick (own' := [] ++ [.vec A22 c23 2 1 m24 (ints t21.1), .vec A9 c10 2 1 m11 (ints t16.2), .vec A4 c5 2 1 m6 (ints t3.1), .blk b1 24 (Col.cells aX)]) [0, 1, 2, 3] rfl (by decide))) et29
                  refine wpl_call _ rfl rfl ht rfl rfl rfl rfl can_19 hcall ?_
                  clear hcall
                  rintro _ w ⟨rfl, hpost⟩ a ht
                  replace hm := (hm.pick (own' := [] ++ [.vec A22 c23 2 1 m24 (ints t21.1), .vec A9 c10 2 1 m11 (ints t16.2), .vec A4 c5 2 1 m6 (ints t3.1), .blk b1 24 (Col.cells aX)]) [0, 1, 2, 3] rfl (by decide)).backL hpost
                  clear hpost
                  refine wpl rfl rfl ht (ev_assign ht rfl rfl) ?_
                  intro a ht
                  refine wpList_nil ?_
                  refine then_normal ?_
                  refine wp_seq ?_
                  refine wp_seq ?_
                  refine wpr ?_
                  refine wpl rfl rfl ht (ev_move ht rfl rfl) ?_
                  intro a ht
                  refine wpl rfl rfl ht (ev_cmp ht rfl rfl rfl rfl) ?_
                  intro a ht
                  refine wpList_nil ?_
                  refine then_normal ?_
                  by_cases h30 : t29 < 0
                  · replace H := ite_yes h30 H
                    refine wpc_yes ht rfl (decide_eq_true h30) ?_
                    refine wp_seq ?_
                    refine wpr ?_
                    refine wpl rfl rfl ht (ev_assign ht rfl rfl) ?_
                    intro a ht
                    refine wpList_nil ?_
                    refine then_normal ?_
                    refine wp_ret ?_
                    refine then_ret ?_
                    have hres := ht.res (P := Try.prog) (w := w) (rs := [.tmp 4]) (vs := [.bool false]) (.tmp rfl .nil)
                    obtain rfl := Option.some.inj H
                    exact leave ht rfl hres ⟨rfl, ((hm.pick [] rfl (by decide)).pickφ [] rfl).post fun _ h => h⟩
                  · replace H := ite_no h30 H
                    refine wpc_no ht rfl (decide_eq_false h30) ?_
                    refine wp_skip ?_
                    refine then_normal ?_
                    refine wp_seq ?_
                    refine wp_seq ?_
                    refine wpr ?_
                    refine wpl rfl rfl ht (ev_move ht rfl rfl) ?_
                    intro a ht
                    refine wpl rfl rfl ht (ev_move ht rfl rfl) ?_
                    intro a ht
                    refine wpl rfl rfl ht (ev_cmp ht rfl rfl rfl rfl) ?_
                    intro a ht
                    refine wpList_nil ?_
                    refine then_normal ?_
                    by_cases h31 : t29 ≠ t16.1
                    · replace H := ite_yes h31 H
                      refine wpc_yes ht rfl (decide_eq_true h31) ?_
                      refine wp_seq ?_
                      refine wpr ?_
                      refine wpl rfl rfl ht (ev_assign ht rfl rfl) ?_
                      intro a ht
                      refine wpList_nil ?_
                      refine then_normal ?_
                      refine wp_ret ?_
                      refine then_ret ?_
                      have hres := ht.res (P := Try.prog) (w := w) (rs := [.tmp 4]) (vs := [.bool false]) (.tmp rfl .nil)
                      obtain rfl := Option.some.inj H
                      exact leave ht rfl hres ⟨rfl, ((hm.pick [] rfl (by decide)).pickφ [] rfl).post fun _ h => h⟩
                    · replace H := ite_no h31 H
                      refine wpc_no ht rfl (decide_eq_false h31) ?_
                      refine wp_skip ?_
                      refine then_normal ?_
                      refine wp_seq ?_
                      refine wpr ?_
                      refine wpl rfl rfl ht (ev_assign ht rfl rfl) ?_
                      intro a ht
                      refine wpList_nil ?_
                      refine then_normal ?_
                      refine wp_ret ?_
                      have hres := ht.res (P := Try.prog) (w := w) (rs := [.tmp 4]) (vs := [.bool true]) (.tmp rfl .nil)
                      obtain rfl := Option.some.inj H
                      exact leave ht rfl hres ⟨rfl, ((hm.pick [] rfl (by decide)).pickφ [] rfl).post fun _ h => h⟩
            · replace H := ite_no h26 H
              refine wpl_no rfl rfl ht rfl (by rw [(not_f (Bool.eq_false_iff.mpr h26))]; decide) ?_
              intro a ht
              refine wpl_no rfl rfl ht rfl (by rw [(not_f (Bool.eq_false_iff.mpr h26))]; decide) ?_
              intro a ht
              refine wpl_no rfl rfl ht rfl (by rw [(not_f (Bool.eq_false_iff.mpr h26))]; decide) ?_
              intro a ht
              refine wpl rfl rfl ht (ev_pick_yes ht rfl rfl (not_f (Bool.eq_false_iff.mpr h26)) rfl) ?_
              intro a ht
              refine wpl rfl rfl ht (ev_move ht rfl rfl) ?_
              intro a ht
              refine wpl_no rfl rfl ht rfl (by decide) ?_
              intro a ht
              refine wpl_no rfl rfl ht rfl (by decide) ?_
              intro a ht
              refine wpl_no rfl rfl ht rfl (by decide) ?_
              intro a ht
              refine wpl rfl rfl ht (ev_pick_yes ht rfl rfl rfl rfl) ?_
              intro a ht
              refine wpList_nil ?_
              refine then_normal ?_
              refine wpc_yes ht rfl rfl ?_
              refine wp_seq ?_
              refine wpr ?_
              refine wpl rfl rfl ht (ev_assign ht rfl rfl) ?_
              intro a ht
              refine wpList_nil ?_
              refine then_normal ?_
              refine wp_ret ?_
              refine then_ret ?_
              have hres := ht.res (P := Try.prog) (w := w) (rs := [.tmp 4]) (vs := [.bool false]) (.tmp rfl .nil)
              obtain rfl := Option.some.inj H
              exact leave ht rfl hres ⟨rfl, ((hm.pick [] rfl (by decide)).pickφ [] rfl).post fun _ h => h⟩
  · replace H := ite_no h13 H
    refine wpl_no rfl rfl ht rfl (by rw [(not_f (Bool.eq_false_iff.mpr h13))]; decide) ?_
    intro a ht
    refine wpl_no rfl rfl ht rfl (by rw [(not_f (Bool.eq_false_iff.mpr h13))]; decide) ?_
    intro a ht
    refine wpl_no rfl rfl ht rfl (by rw [(not_f (Bool.eq_false_iff.mpr h13))]; decide) ?_
    intro a ht
    refine wpl rfl rfl ht (ev_pick_yes ht rfl rfl (not_f (Bool.eq_false_iff.mpr h13)) rfl) ?_
    intro a ht
    refine wpl rfl rfl ht (ev_move ht rfl rfl) ?_
    intro a ht
    refine wpl_no rfl rfl ht rfl (by decide) ?_
    intro a ht
    refine wpl_no rfl rfl ht rfl (by decide) ?_
    intro a ht
    refine wpl_no rfl rfl ht rfl (by decide) ?_
    intro a ht
    refine wpl rfl rfl ht (ev_pick_yes ht rfl rfl rfl rfl) ?_
    intro a ht
    refine wpList_nil ?_
    refine then_normal ?_
    refine wpc_yes ht rfl rfl ?_
    refine wp_seq ?_
    refine wpr ?_
    refine wpl rfl rfl ht (ev_assign ht rfl rfl) ?_
    intro a ht
    refine wpList_nil ?_
    refine then_normal ?_
    refine wp_ret ?_
    refine then_ret ?_
    have hres := ht.res (P := Try.prog) (w := w) (rs := [.tmp 4]) (vs := [.bool false]) (.tmp rfl .nil)
    obtain rfl := Option.some.inj H
    exact leave ht rfl hres ⟨rfl, ((hm.pick [] rfl (by decide)).pickφ [] rfl).post fun _ h => h⟩

end Go.Proofs.Ytfhbamlpnicomaa.G
