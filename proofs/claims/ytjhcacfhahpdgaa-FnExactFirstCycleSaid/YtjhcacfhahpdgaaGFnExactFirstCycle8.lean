/- What each Go function computes, as a Lean function, and the proof that it does: written by a program of this session (wip/gen), part 8. -/
import Derived.Test.YtjhcacfhahpdgaaGFnExactFirstCycle7
namespace Go.Proofs.Ytjhcacfhahpdgaa.G
open Go Go.RowKit Go.Proofs.Ytjhcacfhahpdgaa.K
set_option linter.unusedVariables false
set_option linter.unusedSimpArgs false

/-! ### laws_FnExactFirstCycle: function 6 (loop.example/g01362/laws.FnExactFirstCycle) -/
def laws_FnExactFirstCycle.f (k : Nat) (aX : Col) (aC : Int) (aM : Int) : Option (Bool) := (laws_toColouring.f k aX).bind fun t2 => (spec_FirstCycle.f k t2 aC aM).bind fun t3 => (laws_toColouring.f k aX).bind fun t7 => (impl_FirstCycle.f k t7 aC aM).bind fun t8 => (laws_eqInt64S.f k t8.1 t3.1).bind fun t12 => if t12 = true then (if t8.2 ≠ t3.2 then (some false) else ((laws_markInt64S.f k t8.1 1).bind fun t15 => (laws_heldInt64S.f k t15.2 1).bind fun t16 => if t16 < 0 then (some false) else (if t16 ≠ t15.1 then (some false) else ((laws_toColouring.f k aX).bind fun t19 => (impl_FirstCycle.f k t19 aC aM).bind fun t20 => (laws_eqInt64S.f k t20.1 t3.1).bind fun t24 => if t24 = true then (if t20.2 ≠ t3.2 then (some false) else ((laws_heldInt64S.f k t15.2 1).bind fun t27 => if t27 < 0 then (some false) else (if t27 ≠ t15.1 then (some false) else (some true)))) else (some false))))) else (some false)
set_option maxRecDepth 100000 in
set_option maxHeartbeats 1000000 in
theorem laws_FnExactFirstCycle.calls (k : Nat) (X : List Nat) (w0 : World)  (aX : Col) (aC : Int) (aM : Int) (r : Bool)
    (hp : Pre X w0 [] []) (H : laws_FnExactFirstCycle.f k aX aC aM = some r) :
    Calls Try.prog 6 [.agg (Col.cells aX).toArray, .int .i64 aC, .int .i64 aM].toArray w0 (Ret fun v w => v = .bool r ∧ Post X (fps []) w0 [] [] w) := by
  unfold laws_FnExactFirstCycle.f at H
  refine enterM (n := 76) hp Try.func6 rfl rfl (Nat.le_of_ble_eq_true rfl) fun a w ht hm => ?_
  refine wp_seq ?_
  refine wpr ?_
  refine wpl_box rfl rfl ht hm rfl rfl rfl ?_
  intro b1 a ht w hm
  refine wpl rfl rfl ht (ev_assign ht rfl rfl) ?_
  intro a ht
  refine wpList_nil ?_
  refine then_normal ?_
  refine wp_seq ?_
  refine wpr ?_
  refine wpl rfl rfl ht (ev_load_agg ht rfl rfl (ag_24.trans (by first | rw [Col.length_cells] | rfl)) (hm.blk_all 0 rfl)) ?_
  intro a ht
  obtain ⟨t2, et2, H⟩ := bind_get H
  have hcall := laws_toColouring.calls k _ _ aX _ ((fun (hq : Ms _ _ _ ([] ++ [.blk b1 24 (Col.cells aX)]) _ _) => hq.lend (φp := []) (allRO_nil)) (hm.pick (own' := [] ++ [.blk b1 24 (Col.cells aX)]) [0] rfl (by decide))) et2
  refine wpl_call _ rfl rfl ht rfl rfl rfl rfl can_8 hcall ?_
  clear hcall
  rintro _ w ⟨rfl, hpost⟩ a ht
  replace hm := (hm.pick (own' := [] ++ [.blk b1 24 (Col.cells aX)]) [0] rfl (by decide)).backL hpost
  clear hpost
  refine wpl rfl rfl ht (ev_move ht rfl rfl) ?_
  intro a ht
  refine wpl rfl rfl ht (ev_move ht rfl rfl) ?_
  intro a ht
  obtain ⟨t3, et3, H⟩ := bind_get H
  have hcall := spec_FirstCycle.calls k _ _ t2 aC aM _ ((hm.pick (own' := [] ++ [.blk b1 24 (Col.cells aX)]) [0] rfl (by decide)).give (passed := []) (rest := [.blk b1 24 (Col.cells aX)]) (φp := []) [] rfl) et3
  refine wpl_call _ rfl rfl ht rfl rfl rfl rfl can_20 hcall ?_
  clear hcall
  rintro _ w ⟨A4, c5, m6, rfl, hpost⟩ a ht
  replace hm := (hm.pick (own' := [] ++ [.blk b1 24 (Col.cells aX)]) [0] rfl (by decide)).back hpost
  clear hpost
  refine wpl rfl rfl ht (ev_move ht rfl rfl) ?_
  intro a ht
  refine wpl rfl rfl ht (ev_extract ht rfl rfl rfl) ?_
  intro a ht
  refine wpl rfl rfl ht (ev_extract ht rfl rfl rfl) ?_
  intro a ht
  refine wpl rfl rfl ht (ev_assign ht rfl rfl) ?_
  intro a ht
  refine wpl rfl rfl ht (ev_assign ht rfl rfl) ?_
  intro a ht
  refine wpList_nil ?_
  refine then_normal ?_
  refine wp_seq ?_
  refine wpr ?_
  refine wpl rfl rfl ht (ev_load_agg ht rfl rfl (ag_24.trans (by first | rw [Col.length_cells] | rfl)) (hm.blk_all 0 rfl)) ?_
  intro a ht
  obtain ⟨t7, et7, H⟩ := bind_get H
  have hcall := laws_toColouring.calls k _ _ aX _ ((fun (hq : Ms _ _ _ ([] ++ [.blk b1 24 (Col.cells aX)]) _ _) => hq.lend (φp := []) (allRO_nil)) (hm.pick (own' := [] ++ [.blk b1 24 (Col.cells aX)]) [0] rfl (by decide))) et7
  refine wpl_call _ rfl rfl ht rfl rfl rfl rfl can_8 hcall ?_
  clear hcall
  rintro _ w ⟨rfl, hpost⟩ a ht
  replace hm := (hm.pick (own' := [] ++ [.blk b1 24 (Col.cells aX)]) [0] rfl (by decide)).backL hpost
  clear hpost
  refine wpl rfl rfl ht (ev_move ht rfl rfl) ?_
  intro a ht
  refine wpl rfl rfl ht (ev_move ht rfl rfl) ?_
  intro a ht
  obtain ⟨t8, et8, H⟩ := bind_get H
  have hcall := impl_FirstCycle.calls k _ _ t7 aC aM _ ((hm.pick (own' := [] ++ [.blk b1 24 (Col.cells aX)]) [0] rfl (by decide)).give (passed := []) (rest := [.blk b1 24 (Col.cells aX)]) (φp := []) [] rfl) et8
  refine wpl_call _ rfl rfl ht rfl rfl rfl rfl can_21 hcall ?_
  clear hcall
  rintro _ w ⟨A9, c10, m11, rfl, hpost⟩ a ht
  replace hm := (hm.pick (own' := [] ++ [.blk b1 24 (Col.cells aX)]) [0] rfl (by decide)).back hpost
  clear hpost
  refine wpl rfl rfl ht (ev_move ht rfl rfl) ?_
  intro a ht
  refine wpl rfl rfl ht (ev_extract ht rfl rfl rfl) ?_
  intro a ht
  refine wpl rfl rfl ht (ev_extract ht rfl rfl rfl) ?_
  intro a ht
  refine wpl rfl rfl ht (ev_assign ht rfl rfl) ?_
  intro a ht
  refine wpl rfl rfl ht (ev_assign ht rfl rfl) ?_
  intro a ht
  refine wpList_nil ?_
  refine then_normal ?_
  refine wp_seq ?_
  refine wp_seq ?_
  refine wpr ?_
  refine wpl rfl rfl ht (ev_move ht rfl rfl) ?_
  intro a ht
  refine wpl rfl rfl ht (ev_move ht rfl rfl) ?_
  intro a ht
  obtain ⟨t12, et12, H⟩ := bind_get H
  have hcall := laws_eqInt64S.calls k _ _ A9 c10 m11 A4 c5 m6 t8.1 t3.1 _ ((fun (hq : Ms _ _ _ ([] ++ [.vec A9 c10 2 1 m11 (ints t8.1), .blk b1 24 (Col.cells aX)]) _ _) => hq.lend (φp := [IntsAt A9 c10 m11 t8.1, IntsAt A4 c5 m6 t3.1]) (allRO_cons (hq.lendVec 0 rfl) (allRO_cons (hq.lendFact 1 rfl) (allRO_nil)))) (hm.pick (own' := [] ++ [.vec A9 c10 2 1 m11 (ints t8.1), .blk b1 24 (Col.cells aX)]) [0, 1] rfl (by decide))) et12
  refine wpl_call _ rfl rfl ht rfl rfl rfl rfl can_10 hcall ?_
  clear hcall
  rintro _ w ⟨rfl, hpost⟩ a ht
  replace hm := (hm.pick (own' := [] ++ [.vec A9 c10 2 1 m11 (ints t8.1), .blk b1 24 (Col.cells aX)]) [0, 1] rfl (by decide)).backL hpost
  clear hpost
  refine wpl rfl rfl ht (ev_not ht rfl rfl) ?_
  intro a ht
  refine wpl rfl rfl ht (ev_move ht rfl rfl) ?_
  intro a ht
  by_cases h13 : t12 = true
  · replace H := ite_yes h13 H
    refine wpl_yes rfl ht rfl ((not_t h13)) ?_
    refine wpl rfl rfl ht (ev_move ht rfl rfl) ?_
    intro a ht
    refine wpl_yes rfl ht rfl ((not_t h13)) ?_
    refine wpl rfl rfl ht (ev_move ht rfl rfl) ?_
    intro a ht
    refine wpl_yes rfl ht rfl ((not_t h13)) ?_
    refine wpl rfl rfl ht (ev_cmp ht rfl rfl rfl rfl) ?_
    intro a ht
    refine wpl rfl rfl ht (ev_pick_no ht rfl rfl (not_t h13) rfl) ?_
    intro a ht
    refine wpList_nil ?_
    refine then_normal ?_
    by_cases h14 : t8.2 ≠ t3.2
    · replace H := ite_yes h14 H
      refine wpc_yes ht rfl (decide_eq_true h14) ?_
      refine wp_seq ?_
      refine wpr ?_
      refine wpl rfl rfl ht (ev_assign ht rfl rfl) ?_
      intro a ht
      refine wpList_nil ?_
      refine then_normal ?_
      refine wp_ret ?_
      refine then_ret ?_
      have hres := ht.res (P := Try.prog) (w := w) (rs := [.tmp 6]) (vs := [.bool false]) (.tmp rfl .nil)
      obtain rfl := Option.some.inj H
      exact leave ht rfl hres ⟨rfl, ((hm.pick [] rfl (by decide)).pickφ [] rfl).post fun _ h => h⟩
    · replace H := ite_no h14 H
      refine wpc_no ht rfl (decide_eq_false h14) ?_
      refine wp_skip ?_
      refine then_normal ?_
      refine wp_seq ?_
      refine wpr ?_
      refine wpl rfl rfl ht (ev_assign ht rfl rfl) ?_
      intro a ht
      refine wpList_nil ?_
      refine then_normal ?_
      refine wp_seq ?_
      refine wpr ?_
      refine wpl rfl rfl ht (ev_move ht rfl rfl) ?_
      intro a ht
      refine wpl rfl rfl ht (ev_move ht rfl rfl) ?_
      intro a ht
      obtain ⟨t15, et15, H⟩ := bind_get H
      have hcall := laws_markInt64S.calls k _ _ A9 c10 m11 t8.1 1 _ ((fun (hq : Ms _ _ _ ([.vec A9 c10 2 1 m11 (ints t8.1)] ++ [.blk b1 24 (Col.cells aX)]) _ _) => hq.lend (φp := []) (allRO_nil)) (hm.pick (own' := [.vec A9 c10 2 1 m11 (ints t8.1)] ++ [.blk b1 24 (Col.cells aX)]) [0, 1] rfl (by decide))) et15
      refine wpl_call _ rfl rfl ht rfl rfl rfl rfl can_11 hcall ?_
      clear hcall
      rintro _ w ⟨rfl, hpost⟩ a ht
      replace hm := (hm.pick (own' := [.vec A9 c10 2 1 m11 (ints t8.1)] ++ [.blk b1 24 (Col.cells aX)]) [0, 1] rfl (by decide)).backL hpost
      clear hpost
      refine wpl rfl rfl ht (ev_assign ht rfl rfl) ?_
      intro a ht
      refine wpList_nil ?_
      refine then_normal ?_
      refine wp_seq ?_
      refine wpr ?_
      refine wpl rfl rfl ht (ev_assign ht rfl rfl) ?_
      intro a ht
      refine wpList_nil ?_
      refine then_normal ?_
      refine wp_seq ?_
      refine wpr ?_
      refine wpl rfl rfl ht (ev_move ht rfl rfl) ?_
      intro a ht
      refine wpl rfl rfl ht (ev_move ht rfl rfl) ?_
      intro a ht
      obtain ⟨t16, et16, H⟩ := bind_get H
      have hcall := laws_heldInt64S.calls k _ _ A9 c10 m11 t15.2 1 _ ((fun (hq : Ms _ _ _ ([] ++ [.vec A9 c10 2 1 m11 (ints t15.2), .blk b1 24 (Col.cells aX)]) _ _) => hq.lend (φp := [IntsAt A9 c10 m11 t15.2]) (allRO_cons (hq.lendVec 0 rfl) (allRO_nil))) (hm.pick (own' := [] ++ [.vec A9 c10 2 1 m11 (ints t15.2), .blk b1 24 (Col.cells aX)]) [0, 1] rfl (by decide))) et16
      refine wpl_call _ rfl rfl ht rfl rfl rfl rfl can_12 hcall ?_
      clear hcall
      rintro _ w ⟨rfl, hpost⟩ a ht
      replace hm := (hm.pick (own' := [] ++ [.vec A9 c10 2 1 m11 (ints t15.2), .blk b1 24 (Col.cells aX)]) [0, 1] rfl (by decide)).backL hpost
      clear hpost
      refine wpl rfl rfl ht (ev_assign ht rfl rfl) ?_
      intro a ht
      refine wpList_nil ?_
      refine then_normal ?_
      refine wp_seq ?_
      refine wp_seq ?_
      refine wpr ?_
      refine wpl rfl rfl ht (ev_move ht rfl rfl) ?_
      intro a ht
      refine wpl rfl rfl ht (ev_cmp ht rfl rfl rfl rfl) ?_
      intro a ht
      refine wpList_nil ?_
      refine then_normal ?_
      by_cases h17 : t16 < 0
      · replace H := ite_yes h17 H
        refine wpc_yes ht rfl (decide_eq_true h17) ?_
        refine wp_seq ?_
        refine wpr ?_
        refine wpl rfl rfl ht (ev_assign ht rfl rfl) ?_
        intro a ht
        refine wpList_nil ?_
        refine then_normal ?_
        refine wp_ret ?_
        refine then_ret ?_
        have hres := ht.res (P := Try.prog) (w := w) (rs := [.tmp 6]) (vs := [.bool false]) (.tmp rfl .nil)
        obtain rfl := Option.some.inj H
        exact leave ht rfl hres ⟨rfl, ((hm.pick [] rfl (by decide)).pickφ [] rfl).post fun _ h => h⟩
      · replace H := ite_no h17 H
        refine wpc_no ht rfl (decide_eq_false h17) ?_
        refine wp_skip ?_
        refine then_normal ?_
        refine wp_seq ?_
        refine wp_seq ?_
        refine wpr ?_
        refine wpl rfl rfl ht (ev_move ht rfl rfl) ?_
        intro a ht
        refine wpl rfl rfl ht (ev_move ht rfl rfl) ?_
        intro a ht
        refine wpl rfl rfl ht (ev_cmp ht rfl rfl rfl rfl) ?_
        intro a ht
        refine wpList_nil ?_
        refine then_normal ?_
        by_cases h18 : t16 ≠ t15.1
        · replace H := ite_yes h18 H
          refine wpc_yes ht rfl (decide_eq_true h18) ?_
          refine wp_seq ?_
          refine wpr ?_
          refine wpl rfl rfl ht (ev_assign ht rfl rfl) ?_
          intro a ht
          refine wpList_nil ?_
          refine then_normal ?_
          refine wp_ret ?_
          refine then_ret ?_
          have hres := ht.res (P := Try.prog) (w := w) (rs := [.tmp 6]) (vs := [.bool false]) (.tmp rfl .nil)
          obtain rfl := Option.some.inj H
          exact leave ht rfl hres ⟨rfl, ((hm.pick [] rfl (by decide)).pickφ [] rfl).post fun _ h => h⟩
        · replace H := ite_no h18 H
          refine wpc_no ht rfl (decide_eq_false h18) ?_
          refine wp_skip ?_
          refine then_normal ?_
          refine wp_seq ?_
          refine wpr ?_
          refine wpl rfl rfl ht (ev_load_agg ht rfl rfl (ag_24.trans (by first | rw [Col.length_cells] | rfl)) (hm.blk_all 1 rfl)) ?_
          intro a ht
          obtain ⟨t19, et19, H⟩ := bind_get H
          have hcall := laws_toColouring.calls k _ _ aX _ ((fun (hq : Ms _ _ _ ([] ++ [.vec A9 c10 2 1 m11 (ints t15.2), .blk b1 24 (Col.cells aX)]) _ _) => hq.lend (φp := []) (allRO_nil)) (hm.pick (own' := [] ++ [.vec A9 c10 2 1 m11 (ints t15.2), .blk b1 24 (Col.cells aX)]) [0, 1] rfl (by decide))) et19
          refine wpl_call _ rfl rfl ht rfl rfl rfl rfl can_8 hcall ?_
          clear hcall
          rintro _ w ⟨rfl, hpost⟩ a ht
          replace hm := (hm.pick (own' := [] ++ [.vec A9 c10 2 1 m11 (ints t15.2), .blk b1 24 (Col.cells aX)]) [0, 1] rfl (by decide)).backL hpost
          clear hpost
          refine wpl rfl rfl ht (ev_move ht rfl rfl) ?_
          intro a ht
          refine wpl rfl rfl ht (ev_move ht rfl rfl) ?_
          intro a ht
          obtain ⟨t20, et20, H⟩ := bind_get H
          have hcall := impl_FirstCycle.calls k _ _ t19 aC aM _ ((hm.pick (own' := [] ++ [.vec A9 c10 2 1 m11 (ints t15.2), .blk b1 24 (Col.cells aX)]) [0, 1] rfl (by decide)).give (passed := []) (rest := [.vec A9 c10 2 1 m11 (ints t15.2), .blk b1 24 (Col.cells aX)]) (φp := []) [] rfl) et20
          refine wpl_call _ rfl rfl ht rfl rfl rfl rfl can_21 hcall ?_
          clear hcall
          rintro _ w ⟨A21, c22, m23, rfl, hpost⟩ a ht
          replace hm := (hm.pick (own' := [] ++ [.vec A9 c10 2 1 m11 (ints t15.2), .blk b1 24 (Col.cells aX)]) [0, 1] rfl (by decide)).back hpost
          clear hpost
          refine wpl rfl rfl ht (ev_move ht rfl rfl) ?_
          intro a ht
          refine wpl rfl rfl ht (ev_extract ht rfl rfl rfl) ?_
          intro a ht
          refine wpl rfl rfl ht (ev_extract ht rfl rfl rfl) ?_
          intro a ht
          refine wpl rfl rfl ht (ev_assign ht rfl rfl) ?_
          intro a ht
          refine wpl rfl rfl ht (ev_assign ht rfl rfl) ?_
          intro a ht
          refine wpList_nil ?_
          refine then_normal ?_
          refine wp_seq ?_
          refine wp_seq ?_
          refine wpr ?_
          refine wpl rfl rfl ht (ev_move ht rfl rfl) ?_
          intro a ht
          refine wpl rfl rfl ht (ev_move ht rfl rfl) ?_
          intro a ht
          obtain ⟨t24, et24, H⟩ := bind_get H
          have hcall := laws_eqInt64S.calls k _ _ A21 c22 m23 A4 c5 m6 t20.1 t3.1 _ ((fun (hq : Ms _ _ _ ([] ++ [.vec A21 c22 2 1 m23 (ints t20.1), .vec A9 c10 2 1 m11 (ints t15.2), .blk b1 24 (Col.cells aX)]) _ _) => hq.lend (φp := [IntsAt A21 c22 m23 t20.1, IntsAt A4 c5 m6 t3.1]) (allRO_cons (hq.lendVec 0 rfl) (allRO_cons (hq.lendFact 2 rfl) (allRO_nil)))) (hm.pick (own' := [] ++ [.vec A21 c22 2 1 m23 (ints t20.1), .vec A9 c10 2 1 m11 (ints t15.2), .blk b1 24 (Col.cells aX)]) [0, 1, 2] rfl (by decide))) et24
          refine wpl_call _ rfl rfl ht rfl rfl rfl rfl can_10 hcall ?_
          clear hcall
          rintro _ w ⟨rfl, hpost⟩ a ht
          replace hm := (hm.pick (own' := [] ++ [.vec A21 c22 2 1 m23 (ints t20.1), .vec A9 c10 2 1 m11 (ints t15.2), .blk b1 24 (Col.cells aX)]) [0, 1, 2] rfl (by decide)).backL hpost
          clear hpost
          refine wpl rfl rfl ht (ev_not ht rfl rfl) ?_
          intro a ht
          refine wpl rfl rfl ht (ev_move ht rfl rfl) ?_
          intro a ht
          by_cases h25 : t24 = true
          · replace H := ite_yes h25 H
            refine wpl_yes rfl ht rfl ((not_t h25)) ?_
            refine wpl rfl rfl ht (ev_move ht rfl rfl) ?_
            intro a ht
            refine wpl_yes rfl ht rfl ((not_t h25)) ?_
            refine wpl rfl rfl ht (ev_move ht rfl rfl) ?_
            intro a ht
            refine wpl_yes rfl ht rfl ((not_t h25)) ?_
            refine wpl rfl rfl ht (ev_cmp ht rfl rfl rfl rfl) ?_
            intro a ht
            refine wpl rfl rfl ht (ev_pick_no ht rfl rfl (not_t h25) rfl) ?_
            intro a ht
            refine wpList_nil ?_
            refine then_normal ?_
            by_cases h26 : t20.2 ≠ t3.2
            · replace H := ite_yes h26 H
              refine wpc_yes ht rfl (decide_eq_true h26) ?_
              refine wp_seq ?_
              refine wpr ?_
              refine wpl rfl rfl ht (ev_assign ht rfl rfl) ?_
              intro a ht
              refine wpList_nil ?_
              refine then_normal ?_
              refine wp_ret ?_
              refine then_ret ?_
              have hres := ht.res (P := Try.prog) (w := w) (rs := [.tmp 6]) (vs := [.bool false]) (.tmp rfl .nil)
              obtain rfl := Option.some.inj H
              exact leave ht rfl hres ⟨rfl, ((hm.pick [] rfl (by decide)).pickφ [] rfl).post fun _ h => h⟩
            · replace H := ite_no h26 H
              refine wpc_no ht rfl (decide_eq_false h26) ?_
              refine wp_skip ?_
              refine then_normal ?_
              refine wp_seq ?_
              refine wpr ?_
              refine wpl rfl rfl ht (ev_assign ht rfl rfl) ?_
              intro a ht
              refine wpList_nil ?_
              refine then_normal ?_
              refine wp_seq ?_
              refine wpr ?_
              refine wpl rfl rfl ht (ev_move ht rfl rfl) ?_
              intro a ht
              refine wpl rfl rfl ht (ev_move ht rfl rfl) ?_
              intro a ht
              obtain ⟨t27, et27, H⟩ := bind_get H
              have hcall := laws_heldInt64S.calls k _ _ A9 c10 m11 t15.2 1 _ ((fun (hq : Ms _ _ _ ([] ++ [.vec A21 c22 2 1 m23 (ints t20.1), .vec A9 c10 2 1 m11 (ints t15.2), .blk b1 24 (Col.cells aX)]) _ _) => hq.lend (φp := [IntsAt A9 c10 m11 t15.2]) (allRO_cons (hq.lendVec 1 rfl) (allRO_nil))) (hm.pick (own' := [] ++ [.vec A21 c22 2 1 m23 (ints t20.1), .vec A9 c10 2 1 m11 (ints t15.2), .blk b1 24 (Col.cells aX)]) [0, 1, 2] rfl (by decide))) et27
              refine wpl_call _ rfl rfl ht rfl rfl rfl rfl can_12 hcall ?_
              clear hcall
              rintro _ w ⟨rfl, hpost⟩ a ht
              replace hm := (hm.pick (own' := [] ++ [.vec A21 c22 2 1 m23 (ints t20.1), .vec A9 c10 2 1 m11 (ints t15.2), .blk b1 24 (Col.cells aX)]) [0, 1, 2] rfl (by decide)).backL hpost
              clear hpost
              refine wpl rfl rfl ht (ev_assign ht rfl rfl) ?_
              intro a ht
              refine wpList_nil ?_
              refine then_normal ?_
              refine wp_seq ?_
              refine wp_seq ?_
              refine wpr ?_
              refine wpl rfl rfl ht (ev_move ht rfl rfl) ?_
              intro a ht
              refine wpl rfl rfl ht (ev_cmp ht rfl rfl rfl rfl) ?_
              intro a ht
              refine wpList_nil ?_
              refine then_normal ?_
              by_cases h28 : t27 < 0
              · replace H := ite_yes h28 H
                refine wpc_yes ht rfl (decide_eq_true h28) ?_
                refine wp_seq ?_
                refine wpr ?_
                refine wpl rfl rfl ht (ev_assign ht rfl rfl) ?_
                intro a ht
                refine wpList_nil ?_
                refine then_normal ?_
                refine wp_ret ?_
                refine then_ret ?_
                have hres := ht.res (P := Try.prog) (w := w) (rs := [.tmp 6]) (vs := [.bool false]) (.tmp rfl .nil)
                obtain rfl := Option.some.inj H
                exact leave ht rfl hres ⟨rfl, ((hm.pick [] rfl (by decide)).pickφ [] rfl).post fun _ h => h⟩
              · replace H := ite_no h28 H
                refine wpc_no ht rfl (decide_eq_false h28) ?_
                refine wp_skip ?_
                refine then_normal ?_
                refine wp_seq ?_
                refine wp_seq ?_
                refine wpr ?_
                refine wpl rfl rfl ht (ev_move ht rfl rfl) ?_
                intro a ht
                refine wpl rfl rfl ht (ev_move ht rfl rfl) ?_
                intro a ht
                refine wpl rfl rfl ht (ev_cmp ht rfl rfl rfl rfl) ?_
                intro a ht
                refine wpList_nil ?_
                refine then_normal ?_
                by_cases h29 : t27 ≠ t15.1
                · replace H := ite_yes h29 H
                  refine wpc_yes ht rfl (decide_eq_true h29) ?_
                  refine wp_seq ?_
                  refine wpr ?_
                  refine wpl rfl rfl ht (ev_assign ht rfl rfl) ?_
                  intro a ht
                  refine wpList_nil ?_
                  refine then_normal ?_
                  refine wp_ret ?_
                  refine then_ret ?_
                  have hres := ht.res (P := Try.prog) (w := w) (rs := [.tmp 6]) (vs := [.bool false]) (.tmp rfl .nil)
                  obtain rfl := Option.some.inj H
                  exact leave ht rfl hres ⟨rfl, ((hm.pick [] rfl (by decide)).pickφ [] rfl).post fun _ h => h⟩
                · replace H := ite_no h29 H
                  refine wpc_no ht rfl (decide_eq_false h29) ?_
                  refine wp_skip ?_
                  refine then_normal ?_
                  refine wp_seq ?_
                  refine wpr ?_
                  refine wpl rfl rfl ht (ev_assign ht rfl rfl) ?_
                  intro a ht
                  refine wpList_nil ?_
                  refine then_normal ?_
                  refine wp_ret ?_
                  have hres := ht.res (P := Try.prog) (w := w) (rs := [.tmp 6]) (vs := [.bool true]) (.tmp rfl .nil)
                  obtain rfl := Option.some.inj H
                  exact leave ht rfl hres ⟨rfl, ((hm.pick [] rfl (by decide)).pickφ [] rfl).post fun _ h => h⟩
          · replace H := ite_no h25 H
            refine wpl_no rfl rfl ht rfl (by rw [(not_f (Bool.eq_false_iff.mpr h25))]; decide) ?_
            intro a ht
            refine wpl_no rfl rfl ht rfl (by rw [(not_f (Bool.eq_false_iff.mpr h25))]; decide) ?_
            intro a ht
            refine wpl_no rfl rfl ht rfl (by rw [(not_f (Bool.eq_false_iff.mpr h25))]; decide) ?_
            intro a ht
            refine wpl rfl rfl ht (ev_pick_yes ht rfl rfl (not_f (Bool.eq_false_iff.mpr h25)) rfl) ?_
            intro a ht
            refine wpList_nil ?_
            refine then_normal ?_
            refine wpc_yes ht rfl rfl ?_
            refine wp_seq ?_
            refine wpr ?_
            refine wpl rfl rfl ht (ev_assign ht rfl rfl) ?_
            intro a ht
            refine wpList_nil ?_
            refine then_normal ?_
            refine wp_ret ?_
            refine then_ret ?_
            have hres := ht.res (P := Try.prog) (w := w) (rs := [.tmp 6]) (vs := [.bool false]) (.tmp rfl .nil)
            obtain rfl := Option.some.inj H
            exact leave ht rfl hres ⟨rfl, ((hm.pick [] rfl (by decide)).pickφ [] rfl).post fun _ h => h⟩
  · replace H := ite_no h13 H
    refine wpl_no rfl rfl ht rfl (by rw [(not_f (Bool.eq_false_iff.mpr h13))]; decide) ?_
    intro a ht
    refine wpl_no rfl rfl ht rfl (by rw [(not_f (Bool.eq_false_iff.mpr h13))]; decide) ?_
    intro a ht
    refine wpl_no rfl rfl ht rfl (by rw [(not_f (Bool.eq_false_iff.mpr h13))]; decide) ?_
    intro a ht
    refine wpl rfl rfl ht (ev_pick_yes ht rfl rfl (not_f (Bool.eq_false_iff.mpr h13)) rfl) ?_
    intro a ht
    refine wpList_nil ?_
    refine then_normal ?_
    refine wpc_yes ht rfl rfl ?_
    refine wp_seq ?_
    refine wpr ?_
    refine wpl rfl rfl ht (ev_assign ht rfl rfl) ?_
    intro a ht
    refine wpList_nil ?_
    refine then_normal ?_
    refine wp_ret ?_
    refine then_ret ?_
    have hres := ht.res (P := Try.prog) (w := w) (rs := [.tmp 6]) (vs := [.bool false]) (.tmp rfl .nil)
    obtain rfl := Option.some.inj H
    exact leave ht rfl hres ⟨rfl, ((hm.pick [] rfl (by decide)).pickφ [] rfl).post fun _ h => h⟩

end Go.Proofs.Ytjhcacfhahpdgaa.G
