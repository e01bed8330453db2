/- What each Go function computes, as a Lean function, and the proof that it does: written by a program of this session (wip/gen), part 10. -/
import Derived.Test.YtocjhmeekecdiaaGFnExactExtensionsByDegree9
namespace Go.Proofs.Ytocjhmeekecdiaa.G
open Go Go.RowKit Go.Proofs.Ytocjhmeekecdiaa.K
set_option linter.unusedVariables false
set_option linter.unusedSimpArgs false

/-! ### laws_FnExactExtensionsByDegree: function 8 (loop.example/g01362/laws.FnExactExtensionsByDegree) -/
def laws_FnExactExtensionsByDegree.f (k : Nat) (aX : Col) (aSizes : List Int) : Option (Bool) := if (aSizes.length : Int) > 1048576 then (some true) else ((laws_toColouring.f k aX).bind fun t3 => (laws_toInt64S.f k aSizes).bind fun t4 => (spec_ExtensionsByDegree.f k t3 t4).bind fun t8 => (laws_toInt64S.f k aSizes).bind fun t12 => (laws_toColouring.f k aX).bind fun t16 => (impl_ExtensionsByDegree.f k t16 t12).bind fun t17 => (laws_eqInt64S.f k t17.1 t8.1).bind fun t21 => if t21 = true then (if t17.2 ≠ t8.2 then (some false) else ((laws_toInt64S.f k aSizes).bind fun t24 => (laws_eqInt64S.f k t12 t24).bind fun t28 => if t28 = true then ((laws_markInt64S.f k t12 1).bind fun t30 => if t30.1 < 0 then (some false) else ((laws_eqInt64S.f k t17.1 t8.1).bind fun t32 => if t32 = true then ((laws_markInt64S.f k t17.1 1).bind fun t34 => (laws_heldInt64S.f k t34.2 1).bind fun t35 => if t35 < 0 then (some false) else (if t35 ≠ t34.1 then (some false) else ((laws_toColouring.f k aX).bind fun t38 => (laws_toInt64S.f k aSizes).bind fun t39 => (impl_ExtensionsByDegree.f k t38 t39).bind fun t43 => (laws_eqInt64S.f k t43.1 t8.1).bind fun t47 => if t47 = true then (if t43.2 ≠ t8.2 then (some false) else ((laws_heldInt64S.f k t34.2 1).bind fun t50 => if t50 < 0 then (some false) else (if t50 ≠ t34.1 then (some false) else (some true)))) else (some false)))) else (some false))) else (some false))) else (some false))
set_option maxRecDepth 100000 in
set_option maxHeartbeats 1000000 in
theorem laws_FnExactExtensionsByDegree.calls (k : Nat) (X : List Nat) (w0 : World) (A : Option Addr) (c : Nat) (m : Nat) (aX : Col) (aSizes : List Int) (r : Bool)
    (hp : Pre X w0 [] [IntsAt A c m aSizes]) (H : laws_FnExactExtensionsByDegree.f k aX aSizes = some r) :
    Calls Try.prog 8 [.agg (Col.cells aX).toArray, .slice A m c].toArray w0 (Ret fun v w => v = .bool r ∧ Post X (fps []) w0 [] [] w) := by
  unfold laws_FnExactExtensionsByDegree.f at H
  refine enterM (n := 101) hp Try.func8 rfl rfl (Nat.le_of_ble_eq_true rfl) fun a w ht hm => ?_
  refine wp_seq ?_
  refine wpr ?_
  refine wpl_box rfl rfl ht hm rfl rfl rfl ?_
  intro b1 a ht w hm
  refine wpl rfl rfl ht (ev_assign ht rfl rfl) ?_
  intro a ht
  refine wpList_nil ?_
  refine then_normal ?_
  refine wp_seq ?_
  refine wp_seq ?_
  refine wpr ?_
  refine wpl rfl rfl ht (ev_move ht rfl rfl) ?_
  intro a ht
  refine wpl rfl rfl ht (ev_len_of ht rfl rfl und_25 (hm.fact (φ := IntsAt A c m aSizes) 0 rfl)) ?_
  intro a ht
  refine wpl rfl rfl ht (ev_cmp ht rfl rfl rfl rfl) ?_
  intro a ht
  refine wpList_nil ?_
  refine then_normal ?_
  by_cases h2 : (aSizes.length : Int) > 1048576
  · replace H := ite_yes h2 H
    refine wpc_yes ht rfl (decide_eq_true h2) ?_
    refine wp_seq ?_
    refine wpr ?_
    refine wpl rfl rfl ht (ev_assign ht rfl rfl) ?_
    intro a ht
    refine wpList_nil ?_
    refine then_normal ?_
    refine wp_ret ?_
    refine then_ret ?_
    have hres := ht.res (P := Try.prog) (w := w) (rs := [.tmp 4]) (vs := [.bool true]) (.tmp rfl .nil)
    obtain rfl := Option.some.inj H
    exact leave ht rfl hres ⟨rfl, ((hm.pick [] rfl (by decide)).pickφ [] rfl).post fun _ h => h⟩
  · replace H := ite_no h2 H
    refine wpc_no ht rfl (decide_eq_false h2) ?_
    refine wp_skip ?_
    refine then_normal ?_
    refine wp_seq ?_
    refine wpr ?_
    refine wpl rfl rfl ht (ev_load_agg ht rfl rfl (ag_24.trans (by first | rw [Col.length_cells] | rfl)) (hm.blk_all 0 rfl)) ?_
    intro a ht
    obtain ⟨t3, et3, H⟩ := bind_get H
    have hcall := laws_toColouring.calls k _ _ aX _ ((fun (hq : Ms _ _ _ ([] ++ [.blk b1 24 (Col.cells aX)]) _ _) => hq.lend (φp := []) (allRO_nil)) (hm.pick (own' := [] ++ [.blk b1 24 (Col.cells aX)]) [0] rfl (by decide))) et3
    refine wpl_call _ rfl rfl ht rfl rfl rfl rfl can_10 hcall ?_
    clear hcall
    rintro _ w ⟨rfl, hpost⟩ a ht
    replace hm := (hm.pick (own' := [] ++ [.blk b1 24 (Col.cells aX)]) [0] rfl (by decide)).backL hpost
    clear hpost
    refine wpl rfl rfl ht (ev_move ht rfl rfl) ?_
    intro a ht
    obtain ⟨t4, et4, H⟩ := bind_get H
    have hcall := laws_toInt64S.calls k _ _ A c m aSizes _ ((fun (hq : Ms _ _ _ ([] ++ [.blk b1 24 (Col.cells aX)]) _ _) => hq.lend (φp := [IntsAt A c m aSizes]) (allRO_cons (hq.lendFact 0 rfl) (allRO_nil))) (hm.pick (own' := [] ++ [.blk b1 24 (Col.cells aX)]) [0] rfl (by decide))) et4
    refine wpl_call _ rfl rfl ht rfl rfl rfl rfl can_11 hcall ?_
    clear hcall
    rintro _ w ⟨A5, c6, m7, rfl, hpost⟩ a ht
    replace hm := (hm.pick (own' := [] ++ [.blk b1 24 (Col.cells aX)]) [0] rfl (by decide)).backL hpost
    clear hpost
    obtain ⟨t8, et8, H⟩ := bind_get H
    have hcall := spec_ExtensionsByDegree.calls k _ _ A5 c6 m7 t3 t4 _ ((fun (hq : Ms _ _ _ ([] ++ [.vec A5 c6 2 1 m7 (ints t4), .blk b1 24 (Col.cells aX)]) _ _) => hq.lend (φp := [IntsAt A5 c6 m7 t4]) (allRO_cons (hq.lendVec 0 rfl) (allRO_nil))) (hm.pick (own' := [] ++ [.vec A5 c6 2 1 m7 (ints t4), .blk b1 24 (Col.cells aX)]) [0, 1] rfl (by decide))) et8
    refine wpl_call _ rfl rfl ht rfl rfl rfl rfl can_27 hcall ?_
    clear hcall
    rintro _ w ⟨A9, c10, m11, rfl, hpost⟩ a ht
    replace hm := (hm.pick (own' := [] ++ [.vec A5 c6 2 1 m7 (ints t4), .blk b1 24 (Col.cells aX)]) [0, 1] rfl (by decide)).backL hpost
    clear hpost
    refine wpl rfl rfl ht (ev_move ht rfl rfl) ?_
    intro a ht
    refine wpl rfl rfl ht (ev_extract ht rfl rfl rfl) ?_
    intro a ht
    refine wpl rfl rfl ht (ev_extract ht rfl rfl rfl) ?_
    intro a ht
    refine wpl rfl rfl ht (ev_assign ht rfl rfl) ?_
    intro a ht
    refine wpl rfl rfl ht (ev_assign ht rfl rfl) ?_
    intro a ht
    refine wpList_nil ?_
    refine then_normal ?_
    refine wp_seq ?_
    refine wpr ?_
    refine wpl rfl rfl ht (ev_move ht rfl rfl) ?_
    intro a ht
    obtain ⟨t12, et12, H⟩ := bind_get H
    have hcall := laws_toInt64S.calls k _ _ A c m aSizes _ ((fun (hq : Ms _ _ _ ([] ++ [.vec A9 c10 2 1 m11 (ints t8.1), .vec A5 c6 2 1 m7 (ints t4), .blk b1 24 (Col.cells aX)]) _ _) => hq.lend (φp := [IntsAt A c m aSizes]) (allRO_cons (hq.lendFact 0 rfl) (allRO_nil))) (hm.pick (own' := [] ++ [.vec A9 c10 2 1 m11 (ints t8.1), .vec A5 c6 2 1 m7 (ints t4), .blk b1 24 (Col.cells aX)]) [0, 1, 2] rfl (by decide))) et12
    refine wpl_call _ rfl rfl ht rfl rfl rfl rfl can_11 hcall ?_
    clear hcall
    rintro _ w ⟨A13, c14, m15, rfl, hpost⟩ a ht
    replace hm := (hm.pick (own' := [] ++ [.vec A9 c10 2 1 m11 (ints t8.1), .vec A5 c6 2 1 m7 (ints t4), .blk b1 24 (Col.cells aX)]) [0, 1, 2] rfl (by decide)).backL hpost
    clear hpost
    refine wpl rfl rfl ht (ev_assign ht rfl rfl) ?_
    intro a ht
    refine wpList_nil ?_
    refine then_normal ?_
    refine wp_seq ?_
    refine wpr ?_
    refine wpl rfl rfl ht (ev_load_agg ht rfl rfl (ag_24.trans (by first | rw [Col.length_cells] | rfl)) (hm.blk_all 3 rfl)) ?_
    intro a ht
    obtain ⟨t16, et16, H⟩ := bind_get H
    have hcall := laws_toColouring.calls k _ _ aX _ ((fun (hq : Ms _ _ _ ([] ++ [.vec A13 c14 2 1 m15 (ints t12), .vec A9 c10 2 1 m11 (ints t8.1), .vec A5 c6 2 1 m7 (ints t4), .blk b1 24 (Col.cells aX)]) _ _) => hq.lend (φp := []) (allRO_nil)) (hm.pick (own' := [] ++ [.vec A13 c14 2 1 m15 (ints t12), .vec A9 c10 2 1 m11 (ints t8.1), .vec A5 c6 2 1 m7 (ints t4), .blk b1 24 (Col.cells aX)]) [0, 1, 2, 3] rfl (by decide))) et16
    refine wpl_call _ rfl rfl ht rfl rfl rfl rfl can_10 hcall ?_
    clear hcall
    rintro _ w ⟨rfl, hpost⟩ a ht
    replace hm := (hm.pick (own' := [] ++ [.vec A13 c14 2 1 m15 (ints t12), .vec A9 c10 2 1 m11 (ints t8.1), .vec A5 c6 2 1 m7 (ints t4), .blk b1 24 (Col.cells aX)]) [0, 1, 2, 3] rfl (by decide)).backL hpost
    clear hpost
    refine wpl rfl rfl ht (ev_move ht rfl rfl) ?_
    intro a ht
    obtain ⟨t17, et17, H⟩ := bind_get H
    have hcall := impl_ExtensionsByDegree.calls k _ _ A13 c14 m15 t16 t12 _ ((fun (hq : Ms _ _ _ ([] ++ [.vec A13 c14 2 1 m15 (ints t12), .vec A9 c10 2 1 m11 (ints t8.1), .vec A5 c6 2 1 m7 (ints t4), .blk b1 24 (Col.cells aX)]) _ _) => hq.lend (φp := [IntsAt A13 c14 m15 t12]) (allRO_cons (hq.lendVec 0 rfl) (allRO_nil))) (hm.pick (own' := [] ++ [.vec A13 c14 2 1 m15 (ints t12), .vec A9 c10 2 1 m11 (ints t8.1), .vec A5 c6 2 1 m7 (ints t4), .blk b1 24 (Col.cells aX)]) [0, 1, 2, 3] rfl (by decide))) et17
    refine wpl_call _ rfl rfl ht rfl rfl rfl rfl can_28 hcall ?_
    clear hcall
    rintro _ w ⟨A18, c19, m20, rfl, hpost⟩ a ht
    replace hm := (hm.pick (own' := [] ++ [.vec A13 c14 2 1 m15 (ints t12), .vec A9 c10 2 1 m11 (ints t8.1), .vec A5 c6 2 1 m7 (ints t4), .blk b1 24 (Col.cells aX)]) [0, 1, 2, 3] rfl (by decide)).backL hpost
    clear hpost
    refine wpl rfl rfl ht (ev_move ht rfl rfl) ?_
    intro a ht
    refine wpl rfl rfl ht (ev_extract ht rfl rfl rfl) ?_
    intro a ht
    refine wpl rfl rfl ht (ev_extract ht rfl rfl rfl) ?_
    intro a ht
    refine wpl rfl rfl ht (ev_assign ht rfl rfl) ?_
    intro a ht
    refine wpl rfl rfl ht (ev_assign ht rfl rfl) ?_
    intro a ht
    refine wpList_nil ?_
    refine then_normal ?_
    refine wp_seq ?_
    refine wp_seq ?_
    refine wpr ?_
    refine wpl rfl rfl ht (ev_move ht rfl rfl) ?_
    intro a ht
    refine wpl rfl rfl ht (ev_move ht rfl rfl) ?_
    intro a ht
    obtain ⟨t21, et21, H⟩ := bind_get H
    have hcall := laws_eqInt64S.calls k _ _ A18 c19 m20 A9 c10 m11 t17.1 t8.1 _ ((fun (hq : Ms _ _ _ ([] ++ [.vec A18 c19 2 1 m20 (ints t17.1), .vec A13 c14 2 1 m15 (ints t12), .vec A9 c10 2 1 m11 (ints t8.1), .vec A5 c6 2 1 m7 (ints t4), .blk b1 24 (Col.cells aX)]) _ _) => hq.lend (φp := [IntsAt A18 c19 m20 t17.1, IntsAt A9 c10 m11 t8.1]) (allRO_cons (hq.lendVec 0 rfl) (allRO_cons (hq.lendVec 2 rfl) (allRO_nil)))) (hm.pick (own' := [] ++ [.vec A18 c19 2 1 m20 (ints t17.1), .vec A13 c14 2 1 m15 (ints t12), .vec A9 c10 2 1 m11 (ints t8.1), .vec A5 c6 2 1 m7 (ints t4), .blk b1 24 (Col.cells aX)]) [0, 1, 2, 3, 4] rfl (by decide))) et21
    refine wpl_call _ rfl rfl ht rfl rfl rfl rfl can_13 hcall ?_
    clear hcall
    rintro _ w ⟨rfl, hpost⟩ a ht
    replace hm := (hm.pick (own' := [] ++ [.vec A18 c19 2 1 m20 (ints t17.1), .vec A13 c14 2 1 m15 (ints t12), .vec A9 c10 2 1 m11 (ints t8.1), .vec A5 c6 2 1 m7 (ints t4), .blk b1 24 (Col.cells aX)]) [0, 1, 2, 3, 4] rfl (by decide)).backL hpost
    clear hpost
    refine wpl rfl rfl ht (ev_not ht rfl rfl) ?_
    intro a ht
    refine wpl rfl rfl ht (ev_move ht rfl rfl) ?_
    intro a ht
    by_cases h22 : t21 = true
    · replace H := ite_yes h22 H
      refine wpl_yes rfl ht rfl ((not_t h22)) ?_
      refine wpl rfl rfl ht (ev_move ht rfl rfl) ?_
      intro a ht
      refine wpl_yes rfl ht rfl ((not_t h22)) ?_
      refine wpl rfl rfl ht (ev_move ht rfl rfl) ?_
      intro a ht
      refine wpl_yes rfl ht rfl ((not_t h22)) ?_
      refine wpl rfl rfl ht (ev_cmp ht rfl rfl rfl rfl) ?_
      intro a ht
      refine wpl rfl rfl ht (ev_pick_no ht rfl rfl (not_t h22) rfl) ?_
      intro a ht
      refine wpList_nil ?_
      refine then_normal ?_
      by_cases h23 : t17.2 ≠ t8.2
      · replace H := ite_yes h23 H
        refine wpc_yes ht rfl (decide_eq_true h23) ?_
        refine wp_seq ?_
        refine wpr ?_
        refine wpl rfl rfl ht (ev_assign ht rfl rfl) ?_
        intro a ht
        refine wpList_nil ?_
        refine then_normal ?_
        refine wp_ret ?_
        refine then_ret ?_
        have hres := ht.res (P := Try.prog) (w := w) (rs := [.tmp 4]) (vs := [.bool false]) (.tmp rfl .nil)
        obtain rfl := Option.some.inj H
        exact leave ht rfl hres ⟨rfl, ((hm.pick [] rfl (by decide)).pickφ [] rfl).post fun _ h => h⟩
      · replace H := ite_no h23 H
        refine wpc_no ht rfl (decide_eq_false h23) ?_
        refine wp_skip ?_
        refine then_normal ?_
        refine wp_seq ?_
        refine wp_seq ?_
        refine wpr ?_
        refine wpl rfl rfl ht (ev_move ht rfl rfl) ?_
        intro a ht
        refine wpl rfl rfl ht (ev_move ht rfl rfl) ?_
        intro a ht
        obtain ⟨t24, et24, H⟩ := bind_get H
        have hcall := laws_toInt64S.calls k _ _ A c m aSizes _ ((fun (hq : Ms _ _ _ ([] ++ [.vec A18 c19 2 1 m20 (ints t17.1), .vec A13 c14 2 1 m15 (ints t12), .vec A9 c10 2 1 m11 (ints t8.1), .vec A5 c6 2 1 m7 (ints t4), .blk b1 24 (Col.cells aX)]) _ _) => hq.lend (φp := [IntsAt A c m aSizes]) (allRO_cons (hq.lendFact 0 rfl) (allRO_nil))) (hm.pick (own' := [] ++ [.vec A18 c19 2 1 m20 (ints t17.1), .vec A13 c14 2 1 m15 (ints t12), .vec A9 c10 2 1 m11 (ints t8.1), .vec A5 c6 2 1 m7 (ints t4), .blk b1 24 (Col.cells aX)]) [0, 1, 2, 3, 4] rfl (by decide))) et24
        refine wpl_call _ rfl rfl ht rfl rfl rfl rfl can_11 hcall ?_
        clear hcall
        rintro _ w ⟨A25, c26, m27, rfl, hpost⟩ a ht
        replace hm := (hm.pick (own' := [] ++ [.vec A18 c19 2 1 m20 (ints t17.1), .vec A13 c14 2 1 m15 (ints t12), .vec A9 c10 2 1 m11 (ints t8.1), .vec A5 c6 2 1 m7 (ints t4), .blk b1 24 (Col.cells aX)]) [0, 1, 2, 3, 4] rfl (by decide)).backL hpost
        clear hpost
        obtain ⟨t28, et28, H⟩ := bind_get H
        have hcall := laws_eqInt64S.calls k _ _ A13 c14 m15 A25 c26 m27 t12 t24 _ ((fun (hq : Ms _ _ _ ([] ++ [.vec A25 c26 2 1 m27 (ints t24), .vec A18 c19 2 1 m20 (ints t17.1), .vec A13 c14 2 1 m15 (ints t12), .vec A9 c10 2 1 m11 (ints t8.1), .vec A5 c6 2 1 m7 (ints t4), .blk b1 24 (Col.cells aX)]) _ _) => hq.lend (φp := [IntsAt A13 c14 m15 t12, IntsAt A25 c26 m27 t24]) (allRO_cons (hq.lendVec 2 rfl) (allRO_cons (hq.lendVec 0 rfl) (allRO_nil)))) (hm.pick (own' := [] ++ [.vec A25 c26 2 1 m27 (ints t24), .vec A18 c19 2 1 m20 (ints t17.1), .vec A13 c14 2 1 m15 (ints t12), .vec A9 c10 2 1 m11 (ints t8.1), .vec A5 c6 2 1 m7 (ints t4), .blk b1 24 (Col.cells aX)]) [0, 1, 2, 3, 4, 5] rfl (by decide))) et28
        refine wpl_call _ rfl rfl ht rfl rfl rfl rfl can_13 hcall ?_
        clear hcall
        rintro _ w ⟨rfl, hpost⟩ a ht
        replace hm := (hm.pick (own' := [] ++ [.vec A25 c26 2 1 m27 (ints t24), .vec A18 c19 2 1 m20 (ints t17.1), .vec A13 c14 2 1 m15 (ints t12), .vec A9 c10 2 1 m11 (ints t8.1), .vec A5 c6 2 1 m7 (ints t4), .blk b1 24 (Col.cells aX)]) [0, 1, 2, 3, 4, 5] rfl (by decide)).backL hpost
        clear hpost
        refine wpl rfl rfl ht (ev_not ht rfl rfl) ?_
        intro a ht
        refine wpList_nil ?_
        refine then_normal ?_
        by_cases h29 : t28 = true
        · replace H := ite_yes h29 H
          refine wpc_no ht rfl (not_t h29) ?_
          refine wp_skip ?_
          refine then_normal ?_
          refine wp_seq ?_
          refine wpr ?_
          refine wpl rfl rfl ht (ev_assign ht rfl rfl) ?_
          intro a ht
          refine wpList_nil ?_
          refine then_normal ?_
          refine wp_seq ?_
          refine wpr ?_
          refine wpl rfl rfl ht (ev_move ht rfl rfl) ?_
          intro a ht
          refine wpl rfl rfl ht (ev_move ht rfl rfl) ?_
          intro a ht
          obtain ⟨t30, et30, H⟩ := bind_get H
          have hcall := laws_markInt64S.calls k _ _ A13 c14 m15 t12 1 _ ((fun (hq : Ms _ _ _ ([.vec A13 c14 2 1 m15 (ints t12)] ++ [.vec A25 c26 2 1 m27 (ints t24), .vec A18 c19 2 1 m20 (ints t17.1), .vec A9 c10 2 1 m11 (ints t8.1), .vec A5 c6 2 1 m7 (ints t4), .blk b1 24 (Col.cells aX)]) _ _) => hq.lend (φp := []) (allRO_nil)) (hm.pick (own' := [.vec A13 c14 2 1 m15 (ints t12)] ++ [.vec A25 c26 2 1 m27 (ints t24), .vec A18 c19 2 1 m20 (ints t17.1), .vec A9 c10 2 1 m11 (ints t8.1), .vec A5 c6 2 1 m7 (ints t4), .blk b1 24 (Col.cells aX)]) [2, 0, 1, 3, 4, 5] rfl (by decide))) et30
          refine wpl_call _ rfl rfl ht rfl rfl rfl rfl can_14 hcall ?_
          clear hcall
          rintro _ w ⟨rfl, hpost⟩ a ht
          replace hm := (hm.pick (own' := [.vec A13 c14 2 1 m15 (ints t12)] ++ [.vec A25 c26 2 1 m27 (ints t24), .vec A18 c19 2 1 m20 (ints t17.1), .vec A9 c10 2 1 m11 (ints t8.1), .vec A5 c6 2 1 m7 (ints t4), .blk b1 24 (Col.cells aX)]) [2, 0, 1, 3, 4, 5] rfl (by decide)).backL hpost
          clear hpost
          refine wpl rfl rfl ht (ev_assign ht rfl rfl) ?_
          intro a ht
          refine wpList_nil ?_
          refine then_normal ?_
          refine wp_seq ?_
          refine wp_seq ?_
          refine wpr ?_
          refine wpl rfl rfl ht (ev_move ht rfl rfl) ?_
          intro a ht
          refine wpl rfl rfl ht (ev_cmp ht rfl rfl rfl rfl) ?_
          intro a ht
          refine wpl rfl rfl ht (ev_move ht rfl rfl) ?_
          intro a ht
          by_cases h31 : t30.1 < 0
          · replace H := ite_yes h31 H
            refine wpl_no rfl rfl ht rfl (by rw [(decide_eq_true h31)]; decide) ?_
            intro a ht
            refine wpl_no rfl rfl ht rfl (by rw [(decide_eq_true h31)]; decide) ?_
            intro a ht
            refine wpl_no rfl rfl ht rfl (by rw [(decide_eq_true h31)]; decide) ?_
            intro a ht
            refine wpl_no rfl rfl ht rfl (by rw [(decide_eq_true h31)]; decide) ?_
            intro a ht
            refine wpl rfl rfl ht (ev_pick_yes ht rfl rfl (decide_eq_true h31) rfl) ?_
            intro a ht
            refine wpl rfl rfl ht (ev_move ht rfl rfl) ?_
            intro a ht
            refine wpl_no rfl rfl ht rfl (by decide) ?_
            intro a ht
            refine wpl_no rfl rfl ht rfl (by decide) ?_
            intro a ht
            refine wpl_no rfl rfl ht rfl (by decide) ?_
            intro a ht
            refine wpl rfl rfl ht (ev_pick_yes ht rfl rfl rfl rfl) ?_
            intro a ht
            refine wpList_nil ?_
            refine then_normal ?_
            refine wpc_yes ht rfl rfl ?_
            refine wp_seq ?_
            refine wpr ?_
            refine wpl rfl rfl ht (ev_assign ht rfl rfl) ?_
            intro a ht
            refine wpList_nil ?_
            refine then_normal ?_
            refine wp_ret ?_
            refine then_ret ?_
            have hres := ht.res (P := Try.prog) (w := w) (rs := [.tmp 4]) (vs := [.bool false]) (.tmp rfl .nil)
            obtain rfl := Option.some.inj H
            exact leave ht rfl hres ⟨rfl, ((hm.pick [] rfl (by decide)).pickφ [] rfl).post fun _ h => h⟩
          · replace H := ite_no h31 H
            refine wpl_yes rfl ht rfl ((decide_eq_false h31)) ?_
            refine wpl rfl rfl ht (ev_move ht rfl rfl) ?_
            intro a ht
            refine wpl_yes rfl ht rfl ((decide_eq_false h31)) ?_
            refine wpl rfl rfl ht (ev_move ht rfl rfl) ?_
            intro a ht
            refine wpl_yes rfl ht rfl ((decide_eq_false h31)) ?_
            obtain ⟨t32, et32, H⟩ := bind_get H
            have hcall := laws_eqInt64S.calls k _ _ A18 c19 m20 A9 c10 m11 t17.1 t8.1 _ ((fun (hq : Ms _ _ _ ([] ++ [.vec A13 c14 2 1 m15 (ints t30.2), .vec A25 c26 2 1 m27 (ints t24), .vec A18 c19 2 1 m20 (ints t17.1), .vec A9 c10 2 1 m11 (ints t8.1), .vec A5 c6 2 1 m7 (ints t4), .blk b1 24 (Col.cells aX)]) _ _) => hq.lend (φp := [IntsAt A18 c19 m20 t17.1, IntsAt A9 c10 m11 t8.1]) (allRO_cons (hq.lendVec 2 rfl) (allRO_cons (hq.lendVec 3 rfl) (allRO_nil)))) (hm.pick (own' := [] ++ [.vec A13 c14 2 1 m15 (ints t30.2), .vec A25 c26 2 1 m27 (ints t24), .vec A18 c19 2 1 m20 (ints t17.1), .vec A9 c10 2 1 m11 (ints t8.1), .vec A5 c6 2 1 m7 (ints t4), .blk b1 24 (Col.cells aX)]) [0, 1, 2, 3, 4, 5] rfl (by decide))) et32
            refine wpl_call _ rfl rfl ht rfl rfl rfl rfl can_13 hcall ?_
            clear hcall
            rintro _ w ⟨rfl, hpost⟩ a ht
            replace hm := (hm.pick (own' := [] ++ [.vec A13 c14 2 1 m15 (ints t30.2), .vec A25 c26 2 1 m27 (ints t24), .vec A18 c19 2 1 m20 (ints t17.1), .vec A9 c10 2 1 m11 (ints t8.1), .vec A5 c6 2 1 m7 (ints t4), .blk b1 24 (Col.cells aX)]) [0, 1, 2, 3, 4, 5] rfl (by decide)).backL hpost
            clear hpost
            refine wpl_yes rfl ht rfl ((decide_eq_false h31)) ?_
            refine wpl rfl rfl ht (ev_not ht rfl rfl) ?_
            intro a ht
            refine wpl rfl rfl ht (ev_pick_no ht rfl rfl (decide_eq_false h31) rfl) ?_
            intro a ht
            refine wpl rfl rfl ht (ev_move ht rfl rfl) ?_
            intro a ht
            by_cases h33 : t32 = true
            · replace H := ite_yes h33 H
              refine wpl_yes rfl ht rfl ((not_t h33)) ?_
              refine wpl rfl rfl ht (ev_move ht rfl rfl) ?_
              intro a ht
              refine wpl_yes rfl ht rfl ((not_t h33)) ?_
              refine wpl rfl rfl ht (ev_move ht rfl rfl) ?_
              intro a ht
              refine wpl_yes rfl ht rfl ((not_t h33)) ?_
              refine wpl rfl rfl ht (ev_cmp ht rfl rfl rfl rfl) ?_
              intro a ht
              refine wpl rfl rfl ht (ev_pick_no ht rfl rfl (not_t h33) rfl) ?_
              intro a ht
              refine wpList_nil ?_
              refine then_normal ?_
              refine wpc_no ht rfl (decide_eq_false h23) ?_
              refine wp_skip ?_
              refine then_normal ?_
              refine wp_seq ?_
              refine wpr ?_
              refine wpl rfl rfl ht (ev_assign ht rfl rfl) ?_
              intro a ht
              refine wpList_nil ?_
              refine then_normal ?_
              refine wp_seq ?_
              refine wpr ?_
              refine wpl rfl rfl ht (ev_move ht rfl rfl) ?_
              intro a ht
              refine wpl rfl rfl ht (ev_move ht rfl rfl) ?_
              intro a ht
              obtain ⟨t34, et34, H⟩ := bind_get H
              have hcall := laws_markInt64S.calls k _ _ A18 c19 m20 t17.1 1 _ ((fun (hq : Ms _ _ _ ([.vec A18 c19 2 1 m20 (ints t17.1)] ++ [.vec A13 c14 2 1 m15 (ints t30.2), .vec A25 c26 2 1 m27 (ints t24), .vec A9 c10 2 1 m11 (ints t8.1), .vec A5 c6 2 1 m7 (ints t4), .blk b1 24 (Col.cells aX)]) _ _) => hq.lend (φp := []) (allRO_nil)) (hm.pick (own' := [.vec A18 c19 2 1 m20 (ints t17.1)] ++ [.vec A13 c14 2 1 m15 (ints t30.2), .vec A25 c26 2 1 m27 (ints t24), .vec A9 c10 2 1 m11 (ints t8.1), .vec A5 c6 2 1 m7 (ints t4), .blk b1 24 (Col.cells aX)]) [2, 0, 1, 3, 4, 5] rfl (by decide))) et34
              refine wpl_call _ rfl rfl ht rfl rfl rfl rfl can_14 hcall ?_
              clear hcall
              rintro _ w ⟨rfl, hpost⟩ a ht
              replace hm := (hm.pick (own' := [.vec A18 c19 2 1 m20 (ints t17.1)] ++ [.vec A13 c14 2 1 m15 (ints t30.2), .vec A25 c26 2 1 m27 (ints t24), .vec A9 c10 2 1 m11 (ints t8.1), .vec A5 c6 2 1 m7 (ints t4), .blk b1 24 (Col.cells aX)]) [2, 0, 1, 3, 4, 5] rfl (by decide)).backL hpost
              clear hpost
              refine wpl rfl rfl ht (ev_assign ht rfl rfl) ?_
              intro a ht
              refine wpList_nil ?_
              refine then_normal ?_
              refine wp_seq ?_
              refine wpr ?_
              refine wpl rfl rfl ht (ev_assign ht rfl rfl) ?_
              intro a ht
              refine wpList_nil ?_
              refine then_normal ?_
              refine wp_seq ?_
              refine wpr ?_
              refine wpl rfl rfl ht (ev_move ht rfl rfl) ?_
              intro a ht
              refine wpl rfl rfl ht (ev_move ht rfl rfl) ?_
              intro a ht
              obtain ⟨t35, et35, H⟩ := bind_get H
              have hcall := laws_heldInt64S.calls k _ _ A18 c19 m20 t34.2 1 _ ((fun (hq : Ms _ _ _ ([] ++ [.vec A18 c19 2 1 m20 (ints t34.2), .vec A13 c14 2 1 m15 (ints t30.2), .vec A25 c26 2 1 m27 (ints t24), .vec A9 c10 2 1 m11 (ints t8.1), .vec A5 c6 2 1 m7 (ints t4), .blk b1 24 (Col.cells aX)]) _ _) => hq.lend (φp := [IntsAt A18 c19 m20 t34.2]) (allRO_cons (hq.lendVec 0 rfl) (allRO_nil))) (hm.pick (own' := [] ++ [.vec A18 c19 2 1 m20 (ints t34.2), .vec A13 c14 2 1 m15 (ints t30.2), .vec A25 c26 2 1 m27 (ints t24), .vec A9 c10 2 1 m11 (ints t8.1), .vec A5 c6 2 1 m7 (ints t4), .blk b1 24 (Col.cells aX)]) [0, 1, 2, 3, 4, 5] rfl (by decide))) et35
              refine wpl_call _ rfl rfl ht rfl rfl rfl rfl can_15 hcall ?_
              clear hcall
              rintro _ w ⟨rfl, hpost⟩ a ht
              replace hm := (hm.pick (own' := [] ++ [.vec A18 c19 2 1 m20 (ints t34.2), .vec A13 c14 2 1 m15 (ints t30.2), .vec A25 c26 2 1 m27 (ints t24), .vec A9 c10 2 1 m11 (ints t8.1), .vec A5 c6 2 1 m7 (ints t4), .blk b1 24 (Col.cells aX)]) [0, 1, 2, 3, 4, 5] rfl (by decide)).backL hpost
              clear hpost
              refine wpl rfl rfl ht (ev_assign ht rfl rfl) ?_
              intro a ht
              refine wpList_nil ?_
              refine then_normal ?_
              refine wp_seq ?_
              refine wp_seq ?_
              refine wpr ?_
              refine wpl rfl rfl ht (ev_move ht rfl rfl) ?_
              intro a ht
              refine wpl rfl rfl ht (ev_cmp ht rfl rfl rfl rfl) ?_
              intro a ht
              refine wpList_nil ?_
              refine then_normal ?_
              by_cases h36 : t35 < 0
              · replace H := ite_yes h36 H
                refine wpc_yes ht rfl (decide_eq_true h36) ?_
                refine wp_seq ?_
                refine wpr ?_
                refine wpl rfl rfl ht (ev_assign ht rfl rfl) ?_
                intro a ht
                refine wpList_nil ?_
                refine then_normal ?_
                refine wp_ret ?_
                refine then_ret ?_
                have hres := ht.res (P := Try.prog) (w := w) (rs := [.tmp 4]) (vs := [.bool false]) (.tmp rfl .nil)
                obtain rfl := Option.some.inj H
                exact leave ht rfl hres ⟨rfl, ((hm.pick [] rfl (by decide)).pickφ [] rfl).post fun _ h => h⟩
              · replace H := ite_no h36 H
                refine wpc_no ht rfl (decide_eq_false h36) ?_
                refine wp_skip ?_
                refine then_normal ?_
                refine wp_seq ?_
                refine wp_seq ?_
                refine wpr ?_
                refine wpl rfl rfl ht (ev_move ht rfl rfl) ?_
                intro a ht
                refine wpl rfl rfl ht (ev_move ht rfl rfl) ?_
                intro a ht
                refine wpl rfl rfl ht (ev_cmp ht rfl rfl rfl rfl) ?_
                intro a ht
                refine wpList_nil ?_
                refine then_normal ?_
                by_cases h37 : t35 ≠ t34.1
                · replace H := ite_yes h37 H
                  refine wpc_yes ht rfl (decide_eq_true h37) ?_
                  refine wp_seq ?_
                  refine wpr ?_
                  refine wpl rfl rfl ht (ev_assign ht rfl rfl) ?_
                  intro a ht
                  refine wpList_nil ?_
                  refine then_normal ?_
                  refine wp_ret ?_
                  refine then_ret ?_
                  have hres := ht.res (P := Try.prog) (w := w) (rs := [.tmp 4]) (vs := [.bool false]) (.tmp rfl .nil)
                  obtain rfl := Option.some.inj H
                  exact leave ht rfl hres ⟨rfl, ((hm.pick [] rfl (by decide)).pickφ [] rfl).post fun _ h => h⟩
                · replace H := ite_no h37 H
                  refine wpc_no ht rfl (decide_eq_false h37) ?_
                  refine wp_skip ?_
                  refine then_normal ?_
                  refine wp_seq ?_
                  refine wpr ?_
                  refine wpl rfl rfl ht (ev_load_agg ht rfl rfl (ag_24.trans (by first | rw [Col.length_cells] | rfl)) (hm.blk_all 5 rfl)) ?_
                  intro a ht
                  obtain ⟨t38, et38, H⟩ := bind_get H
                  have hcall := laws_toColouring.calls k _ _ aX _ ((fun (hq : Ms _ _ _ ([] ++ [.vec A18 c19 2 1 m20 (ints t34.2), .vec A13 c14 2 1 m15 (ints t30.2), .vec A25 c26 2 1 m27 (ints t24), .vec A9 c10 2 1 m11 (ints t8.1), .vec A5 c6 2 1 m7 (ints t4), .blk b1 24 (Col.cells aX)]) _ _) => hq.lend (φp := []) (allRO_nil)) (hm.pick (own' := [] ++ [.vec A18 c19 2 1 m20 (ints t34.2), .vec A13 c14 2 1 m15 (ints t30.2), .vec A25 c26 2 1 m27 (ints t24), .vec A9 c10 2 1 m11 (ints t8.1), .vec A5 c6 2 1 m7 (ints t4), .blk b1 24 (Col.cells aX)]) [0, 1, 2, 3, 4, 5] rfl (by decide))) et38
                  refine wpl_call _ rfl rfl ht rfl rfl rfl rfl can_10 hcall ?_
                  clear hcall
                  rintro _ w ⟨rfl, hpost⟩ a ht
                  replace hm := (hm.pick (own' := [] ++ [.vec A18 c19 2 1 m20 (ints t34.2), .vec A13 c14 2 1 m15 (ints t30.2), .vec A25 c26 2 1 m27 (ints t24), .vec A9 c10 2 1 m11 (ints t8.1), .vec A5 c6 2 1 m7 (ints t4), .blk b1 24 (Col.cells aX)]) [0, 1, 2, 3, 4, 5] rfl (by decide)).backL hpost
                  clear hpost
                  refine wpl rfl rfl ht (ev_move ht rfl rfl) ?_
                  intro a ht
                  obtain ⟨t39, et39, H⟩ := bind_get H
                  have hcall := laws_toInt64S.calls k _ _ A c m aSizes _ ((fun (hq : Ms _ _ _ ([] ++ [.vec A18 c19 2 1 m20 (ints t34.2), .vec A13 c14 2 1 m15 (ints t30.2), .vec A25 c26 2 1 m27 (ints t24), .vec A9 c10 2 1 m11 (ints t8.1), .vec A5 c6 2 1 m7 (ints t4), .blk b1 24 (Col.cells aX)]) _ _) => hq.lend (φp := [IntsAt A c m aSizes]) (allRO_cons (hq.lendFact 0 rfl) (allRO_nil))) (hm.pick (own' := [] ++ [.vec A18 c19 2 1 m20 (ints t34.2), .vec A13 c14 2 1 m15 (ints t30.2), .vec A25 c26 2 1 m27 (ints t24), .vec A9 c10 2 1 m11 (ints t8.1), .vec A5 c6 2 1 m7 (ints t4), .blk b1 24 (Col.cells aX)]) [0, 1, 2, 3, 4, 5] rfl (by decide))) et39
                  refine wpl_call _ rfl rfl ht rfl rfl rfl rfl can_11 hcall ?_
                  clear hcall
                  rintro _ w ⟨A40, c41, m42, rfl, hpost⟩ a ht
                  replace hm := (hm.pick (own' := [] ++ [.vec A18 c19 2 1 m20 (ints t34.2), .vec A13 c14 2 1 m15 (ints t30.2), .vec A25 c26 2 1 m27 (ints t24), .vec A9 c10 2 1 m11 (ints t8.1), .vec A5 c6 2 1 m7 (ints t4), .blk b1 24 (Col.cells aX)]) [0, 1, 2, 3, 4, 5] rfl (by decide)).backL hpost
                  clear hpost
                  obtain ⟨t43, et43, H⟩ := bind_get H
                  have hcall := impl_ExtensionsByDegree.calls k _ _ A40 c41 m42 t38 t39 _ ((fun (hq : Ms _ _ _ ([] ++ [.vec A40 c41 2 1 m42 (ints t39), .vec A18 c19 2 1 m20 (ints t34.2), .vec A13 c14 2 1 m15 (ints t30.2), .vec A25 c26 2 1 m27 (ints t24), .vec A9 c10 2 1 m11 (ints t8.1), .vec A5 c6 2 1 m7 (ints t4), .blk b1 24 (Col.cells aX)]) _ _) => hq.lend (φp := [IntsAt A40 c41 m42 t39]) (allRO_cons (hq.lendVec 0 rfl) (allRO_nil))) (hm.pick (own' := [] ++ [.vec A40 c41 2 1 m42 (ints t39), .vec A18 c19 2 1 m20 (ints t34.2), .vec A13 c14 2 1 m15 (ints t30.2), .vec A25 c26 2 1 m27 (ints t24), .vec A9 c10 2 1 m11 (ints t8.1), .vec A5 c6 2 1 m7 (ints t4), .blk b1 24 (Col.cells aX)]) [0, 1, 2, 3, 4, 5, 6] rfl (by decide))) et43
                  refine wpl_call _ rfl rfl ht rfl rfl rfl rfl can_28 hcall ?_
                  clear hcall
                  rintro _ w ⟨A44, c45, m46, rfl, hpost⟩ a ht
                  replace hm := (hm.pick (own' := [] ++ [.vec A40 c41 2 1 m42 (ints t39), .vec A18 c19 2 1 m20 (ints t34.2), .vec A13 c14 2 1 m15 (ints t30.2), .vec A25 c26 2 1 m27 (ints t24), .vec A9 c10 2 1 m11 (ints t8.1), .vec A5 c6 2 1 m7 (ints t4), .blk b1 24 (Col.cells aX)]) [0, 1, 2, 3, 4, 5, 6] rfl (by decide)).backL hpost
                  clear hpost
                  refine wpl rfl rfl ht (ev_move ht rfl rfl) ?_
                  intro a ht
                  refine wpl rfl rfl ht (ev_extract ht rfl rfl rfl) ?_
                  intro a ht
                  refine wpl rfl rfl ht (ev_extract ht rfl rfl rfl) ?_
                  intro a ht
                  refine wpl rfl rfl ht (ev_assign ht rfl rfl) ?_
                  intro a ht
                  refine wpl rfl rfl ht (ev_assign ht rfl rfl) ?_
                  intro a ht
                  refine wpList_nil ?_
                  refine then_normal ?_
                  refine wp_seq ?_
                  refine wp_seq ?_
                  refine wpr ?_
                  refine wpl rfl rfl ht (ev_move ht rfl rfl) ?_
                  intro a ht
                  refine wpl rfl rfl ht (ev_move ht rfl rfl) ?_
                  intro a ht
                  obtain ⟨t47, et47, H⟩ := bind_get H
                  have hcall := laws_eqInt64S.calls k _ _ A44 c45 m46 A9 c10 m11 t43.1 t8.1 _ ((fun (hq : Ms _ _ _ ([] ++ [.vec A44 c45 2 1 m46 (ints t43.1), .vec A40 c41 2 1 m42 (ints t39), .vec A18 c19 2 1 m20 (ints t34.2), .vec A13 c14 2 1 m15 (ints t30.2), .vec A25 c26 2 1 m27 (ints t24), .vec A9 c10 2 1 m11 (ints t8.1), .vec A5 c6 2 1 m7 (ints t4), .blk b1 24 (Col.cells aX)]) _ _) => hq.lend (φp := [IntsAt A44 c45 m46 t43.1, IntsAt A9 c10 m11 t8.1]) (allRO_cons (hq.lendVec 0 rfl) (allRO_cons (hq.lendVec 5 rfl) (allRO_nil)))) (hm.pick (own' := [] ++ [.vec A44 c45 2 1 m46 (ints t43.1), .vec A40 c41 2 1 m42 (ints t39), .vec A18 c19 2 1 m20 (ints t34.2), .vec A13 c14 2 1 m15 (ints t30.2), .vec A25 c26 2 1 m27 (ints t24), .vec A9 c10 2 1 m11 (ints t8.1), .vec A5 c6 2 1 m7 (ints t4), .blk b1 24 (Col.cells aX)]) [0, 1, 2, 3, 4, 5, 6, 7] rfl (by decide))) et47
                  refine wpl_call _ rfl rfl ht rfl rfl rfl rfl can_13 hcall ?_
                  clear hcall
                  rintro _ w ⟨rfl, hpost⟩ a ht
                  replace hm := (hm.pick (own' := [] ++ [.vec A44 c45 2 1 m46 (ints t43.1), .vec A40 c41 2 1 m42 (ints t39), .vec A18 c19 2 1 m20 (ints t34.2), .vec A13 c14 2 1 m15 (ints t30.2), .vec A25 c26 2 1 m27 (ints t24), .vec A9 c10 2 1 m11 (ints t8.1), .vec A5 c6 2 1 m7 (ints t4), .blk b1 24 (Col.cells aX)]) [0, 1, 2, 3, 4, 5, 6, 7] rfl (by decide)).backL hpost
                  clear hpost
                  refine wpl rfl rfl ht (ev_not ht rfl rfl) ?_
                  intro a ht
                  refine wpl rfl rfl ht (ev_move ht rfl rfl) ?_
                  intro a ht
                  by_cases h48 : t47 = true
                  · replace H := ite_yes h48 H
                    refine wpl_yes rfl ht rfl ((not_t h48)) ?_
                    refine wpl rfl rfl ht (ev_move ht rfl rfl) ?_
                    intro a ht
                    refine wpl_yes rfl ht rfl ((not_t h48)) ?_
                    refine wpl rfl rfl ht (ev_move ht rfl rfl) ?_
                    intro a ht
                    refine wpl_yes rfl ht rfl ((not_t h48)) ?_
                    refine wpl rfl rfl ht (ev_cmp ht rfl rfl rfl rfl) ?_
                    intro a ht
                    refine wpl rfl rfl ht (ev_pick_no ht rfl rfl (not_t h48) rfl) ?_
                    intro a ht
                    refine wpList_nil ?_
                    refine then_normal ?_
                    by_cases h49 : t43.2 ≠ t8.2
                    · replace H := ite_yes h49 H
                      refine wpc_yes ht rfl (decide_eq_true h49) ?_
                      refine wp_seq ?_
                      refine wpr ?_
                      refine wpl rfl rfl ht (ev_assign ht rfl rfl) ?_
                      intro a ht
                      refine wpList_nil ?_
                      refine then_normal ?_
                      refine wp_ret ?_
                      refine then_ret ?_
                      have hres := ht.res (P := Try.prog) (w := w) (rs := [.tmp 4]) (vs := [.bool false]) (.tmp rfl .nil)
                      obtain rfl := Option.some.inj H
                      exact leave ht rfl hres ⟨rfl, ((hm.pick [] rfl (by decide)).pickφ [] rfl).post fun _ h => h⟩
                    · replace H := ite_no h49 H
                      refine wpc_no ht rfl (decide_eq_false h49) ?_
                      refine wp_skip ?_
                      refine then_normal ?_
                      refine wp_seq ?_
                      refine wpr ?_
                      refine wpl rfl rfl ht (ev_assign ht rfl rfl) ?_
                      intro a ht
                      refine wpList_nil ?_
                      refine then_normal ?_
                      refine wp_seq ?_
                      refine wpr ?_
                      refine wpl rfl rfl ht (ev_move ht rfl rfl) ?_
                      intro a ht
                      refine wpl rfl rfl ht (ev_move ht rfl rfl) ?_
                      intro a ht
                      obtain ⟨t50, et50, H⟩ := bind_get H
                      have hcall := laws_heldInt64S.calls k _ _ A18 c19 m20 t34.2 1 _ ((fun (hq : Ms _ _ _ ([] ++ [.vec A44 c45 2 1 m46 (ints t43.1), .vec A40 c41 2 1 m42 (ints t39), .vec A18 c19 2 1 m20 (ints t34.2), .vec A13 c14 2 1 m15 (ints t30.2), .vec A25 c26 2 1 m27 (ints t24), .vec A9 c10 2 1 m11 (ints t8.1), .vec A5 c6 2 1 m7 (ints t4), .blk b1 24 (Col.cells aX)]) _ _) => hq.lend (φp := [IntsAt A18 c19 m20 t34.2]) (allRO_cons (hq.lendVec 2 rfl) (allRO_nil))) (hm.pick (own' := [] ++ [.vec A44 c45 2 1 m46 (ints t43.1), .vec A40 c41 2 1 m42 (ints t39), .vec A18 c19 2 1 m20 (ints t34.2), .vec A13 c14 2 1 m15 (ints t30.2), .vec A25 c26 2 1 m27 (ints t24), .vec A9 c10 2 1 m11 (ints t8.1), .vec A5 c6 2 1 m7 (ints t4), .blk b1 24 (Col.cells aX)]) [0, 1, 2, 3, 4, 5, 6, 7] rfl (by decide))) et50
                      refine wpl_call _ rfl rfl ht rfl rfl rfl rfl can_15 hcall ?_
                      clear hcall
                      rintro _ w ⟨rfl, hpost⟩ a ht
                      replace hm := (hm.pick (own' := [] ++ [.vec A44 c45 2 1 m46 (ints t43.1), .vec A40 c41 2 1 m42 (ints t39), .vec A18 c19 2 1 m20 (ints t34.2), .vec A13 c14 2 1 m15 (ints t30.2), .vec A25 c26 2 1 m27 (ints t24), .vec A9 c10 2 1 m11 (ints t8.1), .vec A5 c6 2 1 m7 (ints t4), .blk b1 24 (Col.cells aX)]) [0, 1, 2, 3, 4, 5, 6, 7] rfl (by decide)).backL hpost
                      clear hpost
                      refine wpl rfl rfl ht (ev_assign ht rfl rfl) ?_
                      intro a ht
                      refine wpList_nil ?_
                      refine then_normal ?_
                      refine wp_seq ?_
                      refine wp_seq ?_
                      refine wpr ?_
                      refine wpl rfl rfl ht (ev_move ht rfl rfl) ?_
                      intro a ht
                      refine wpl rfl rfl ht (ev_cmp ht rfl rfl rfl rfl) ?_
                      intro a ht
                      refine wpList_nil ?_
                      refine then_normal ?_
                      by_cases h51 : t50 < 0
                      · replace H := ite_yes h51 H
                        refine wpc_yes ht rfl (decide_eq_true h51) ?_
                        refine wp_seq ?_
                        refine wpr ?_
                        refine wpl rfl rfl ht (ev_assign ht rfl rfl) ?_
                        intro a ht
                        refine wpList_nil ?_
                        refine then_normal ?_
                        refine wp_ret ?_
                        refine then_ret ?_
                        have hres := ht.res (P := Try.prog) (w := w) (rs := [.tmp 4]) (vs := [.bool false]) (.tmp rfl .nil)
                        obtain rfl := Option.some.inj H
                        exact leave ht rfl hres ⟨rfl, ((hm.pick [] rfl (by decide)).pickφ [] rfl).post fun _ h => h⟩
                      · replace H := ite_no h51 H
                        refine wpc_no ht rfl (decide_eq_false h51) ?_
                        refine wp_skip ?_
                        refine then_normal ?_
                        refine wp_seq ?_
                        refine wp_seq ?_
                        refine wpr ?_
                        refine wpl rfl rfl ht (ev_move ht rfl rfl) ?_
                        intro a ht
                        refine wpl rfl rfl ht (ev_move ht rfl rfl) ?_
                        intro a ht
                        refine wpl rfl rfl ht (ev_cmp ht rfl rfl rfl rfl) ?_
                        intro a ht
                        refine wpList_nil ?_
                        refine then_normal ?_
                        by_cases h52 : t50 ≠ t34.1
                        · replace H := ite_yes h52 H
                          refine wpc_yes ht rfl (decide_eq_true h52) ?_
                          refine wp_seq ?_
                          refine wpr ?_
                          refine wpl rfl rfl ht (ev_assign ht rfl rfl) ?_
                          intro a ht
                          refine wpList_nil ?_
                          refine then_normal ?_
                          refine wp_ret ?_
                          refine then_ret ?_
                          have hres := ht.res (P := Try.prog) (w := w) (rs := [.tmp 4]) (vs := [.bool false]) (.tmp rfl .nil)
                          obtain rfl := Option.some.inj H
                          exact leave ht rfl hres ⟨rfl, ((hm.pick [] rfl (by decide)).pickφ [] rfl).post fun _ h => h⟩
                        · replace H := ite_no h52 H
                          refine wpc_no ht rfl (decide_eq_false h52) ?_
                          refine wp_skip ?_
                          refine then_normal ?_
                          refine wp_seq ?_
                          refine wpr ?_
                          refine wpl rfl rfl ht (ev_assign ht rfl rfl) ?_
                          intro a ht
                          refine wpList_nil ?_
                          refine then_normal ?_
                          refine wp_ret ?_
                          have hres := ht.res (P := Try.prog) (w := w) (rs := [.tmp 4]) (vs := [.bool true]) (.tmp rfl .nil)
                          obtain rfl := Option.some.inj H
                          exact leave ht rfl hres ⟨rfl, ((hm.pick [] rfl (by decide)).pickφ [] rfl).post fun _ h => h⟩
                  · replace H := ite_no h48 H
                    refine wpl_no rfl rfl ht rfl (by rw [(not_f (Bool.eq_false_iff.mpr h48))]; decide) ?_
                    intro a ht
                    refine wpl_no rfl rfl ht rfl (by rw [(not_f (Bool.eq_false_iff.mpr h48))]; decide) ?_
                    intro a ht
                    refine wpl_no rfl rfl ht rfl (by rw [(not_f (Bool.eq_false_iff.mpr h48))]; decide) ?_
                    intro a ht
                    refine wpl rfl rfl ht (ev_pick_yes ht rfl rfl (not_f (Bool.eq_false_iff.mpr h48)) rfl) ?_
                    intro a ht
                    refine wpList_nil ?_
                    refine then_normal ?_
                    refine wpc_yes ht rfl rfl ?_
                    refine wp_seq ?_
                    refine wpr ?_
                    refine wpl rfl rfl ht (ev_assign ht rfl rfl) ?_
                    intro a ht
                    refine wpList_nil ?_
                    refine then_normal ?_
                    refine wp_ret ?_
                    refine then_ret ?_
                    have hres := ht.res (P := Try.prog) (w := w) (rs := [.tmp 4]) (vs := [.bool false]) (.tmp rfl .nil)
                    obtain rfl := Option.some.inj H
                    exact leave ht rfl hres ⟨rfl, ((hm.pick [] rfl (by decide)).pickφ [] rfl).post fun _ h => h⟩
            · replace H := ite_no h33 H
              refine wpl_no rfl rfl ht rfl (by rw [(not_f (Bool.eq_false_iff.mpr h33))]; decide) ?_
              intro a ht
              refine wpl_no rfl rfl ht rfl (by rw [(not_f (Bool.eq_false_iff.mpr h33))]; decide) ?_
              intro a ht
              refine wpl_no rfl rfl ht rfl (by rw [(not_f (Bool.eq_false_iff.mpr h33))]; decide) ?_
              intro a ht
              refine wpl rfl rfl ht (ev_pick_yes ht rfl rfl (not_f (Bool.eq_false_iff.mpr h33)) rfl) ?_
              intro a ht
              refine wpList_nil ?_
              refine then_normal ?_
              refine wpc_yes ht rfl rfl ?_
              refine wp_seq ?_
              refine wpr ?_
              refine wpl rfl rfl ht (ev_assign ht rfl rfl) ?_
              intro a ht
              refine wpList_nil ?_
              refine then_normal ?_
              refine wp_ret ?_
              refine then_ret ?_
              have hres := ht.res (P := Try.prog) (w := w) (rs := [.tmp 4]) (vs := [.bool false]) (.tmp rfl .nil)
              obtain rfl := Option.some.inj H
              exact leave ht rfl hres ⟨rfl, ((hm.pick [] rfl (by decide)).pickφ [] rfl).post fun _ h => h⟩
        · replace H := ite_no h29 H
          refine wpc_yes ht rfl (not_f (Bool.eq_false_iff.mpr h29)) ?_
          refine wp_seq ?_
          refine wpr ?_
          refine wpl rfl rfl ht (ev_assign ht rfl rfl) ?_
          intro a ht
          refine wpList_nil ?_
          refine then_normal ?_
          refine wp_ret ?_
          refine then_ret ?_
          have hres := ht.res (P := Try.prog) (w := w) (rs := [.tmp 4]) (vs := [.bool false]) (.tmp rfl .nil)
          obtain rfl := Option.some.inj H
          exact leave ht rfl hres ⟨rfl, ((hm.pick [] rfl (by decide)).pickφ [] rfl).post fun _ h => h⟩
    · replace H := ite_no h22 H
      refine wpl_no rfl rfl ht rfl (by rw [(not_f (Bool.eq_false_iff.mpr h22))]; decide) ?_
      intro a ht
      refine wpl_no rfl rfl ht rfl (by rw [(not_f (Bool.eq_false_iff.mpr h22))]; decide) ?_
      intro a ht
      refine wpl_no rfl rfl ht rfl (by rw [(not_f (Bool.eq_false_iff.mpr h22))]; decide) ?_
      intro a ht
      refine wpl rfl rfl ht (ev_pick_yes ht rfl rfl (not_f (Bool.eq_false_iff.mpr h22)) rfl) ?_
      intro a ht
      refine wpList_nil ?_
      refine then_normal ?_
      refine wpc_yes ht rfl rfl ?_
      refine wp_seq ?_
      refine wpr ?_
      refine wpl rfl rfl ht (ev_assign ht rfl rfl) ?_
      intro a ht
      refine wpList_nil ?_
      refine then_normal ?_
      refine wp_ret ?_
      refine then_ret ?_
      have hres := ht.res (P := Try.prog) (w := w) (rs := [.tmp 4]) (vs := [.bool false]) (.tmp rfl .nil)
      obtain rfl := Option.some.inj H
      exact leave ht rfl hres ⟨rfl, ((hm.pick [] rfl (by decide)).pickφ [] rfl).post fun _ h => h⟩

end Go.Proofs.Ytocjhmeekecdiaa.G
