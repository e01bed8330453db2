/- What each Go function computes, as a Lean function, and the proof that it does: written by a program of this session (wip/gen), part 8. -/
import Derived.Test.YtdpamdedomkomaaGFnExactFirstOfSizes7
namespace Go.Proofs.Ytdpamdedomkomaa.G
open Go Go.RowKit Go.Proofs.Ytdpamdedomkomaa.K
set_option linter.unusedVariables false
set_option linter.unusedSimpArgs false

/-! ### laws_FnExactFirstOfSizes: function 10 (loop.example/g01362/laws.FnExactFirstOfSizes) -/
def laws_FnExactFirstOfSizes.f (k : Nat) (aX : Col) (aSizes : List Int) : Option (Bool) := if (aSizes.length : Int) > 1048576 then (some true) else ((laws_toColouring.f k aX).bind fun t3 => (laws_toInt64S.f k aSizes).bind fun t4 => (spec_FirstOfSizes.f k t3 t4).bind fun t8 => (laws_toInt64S.f k aSizes).bind fun t12 => (laws_toColouring.f k aX).bind fun t16 => (impl_FirstOfSizes.f k t16 t12).bind fun t17 => if t17.1 ≠ t8.1 then (some false) else ((laws_eqInt64S.f k t17.2.1 t8.2.1).bind fun t22 => if t22 = true then (if t17.2.2 ≠ t8.2.2 then (some false) else ((laws_toInt64S.f k aSizes).bind fun t25 => (laws_eqInt64S.f k t12 t25).bind fun t29 => if t29 = true then ((laws_markInt64S.f k t12 1).bind fun t31 => if t31.1 < 0 then (some false) else ((laws_eqInt64S.f k t17.2.1 t8.2.1).bind fun t33 => if t33 = true then ((laws_markInt64S.f k t17.2.1 1).bind fun t35 => (laws_heldInt64S.f k t35.2 1).bind fun t36 => if t36 < 0 then (some false) else (if t36 ≠ t35.1 then (some false) else ((laws_toColouring.f k aX).bind fun t39 => (laws_toInt64S.f k aSizes).bind fun t40 => (impl_FirstOfSizes.f k t39 t40).bind fun t44 => if t44.1 ≠ t8.1 then (some false) else ((laws_eqInt64S.f k t44.2.1 t8.2.1).bind fun t49 => if t49 = true then (if t44.2.2 ≠ t8.2.2 then (some false) else ((laws_heldInt64S.f k t35.2 1).bind fun t52 => if t52 < 0 then (some false) else (if t52 ≠ t35.1 then (some false) else (some true)))) else (some false))))) else (some false))) else (some false))) else (some false)))
set_option maxRecDepth 100000 in
set_option maxHeartbeats 1000000 in
theorem laws_FnExactFirstOfSizes.calls (k : Nat) (X : List Nat) (w0 : World) (A : Option Addr) (c : Nat) (m : Nat) (aX : Col) (aSizes : List Int) (r : Bool)
    (hp : Pre X w0 [] [IntsAt A c m aSizes]) (H : laws_FnExactFirstOfSizes.f k aX aSizes = some r) :
    Calls Try.prog 10 [.agg (Col.cells aX).toArray, .slice A m c].toArray w0 (Ret fun v w => v = .bool r ∧ Post X (fps []) w0 [] [] w) := by
  unfold laws_FnExactFirstOfSizes.f at H
  refine enterM (n := 122) hp Try.func10 rfl rfl (Nat.le_of_ble_eq_true rfl) fun a w ht hm => ?_
  refine wp_seq ?_
  refine wpr ?_
  refine wpl_box rfl rfl ht hm rfl rfl rfl ?_
  intro b1 a ht w hm
  refine wpl rfl rfl ht (ev_assign ht rfl rfl) ?_
  intro a ht
  refine wpList_nil ?_
  refine then_normal ?_
  refine wp_seq ?_
  refine wp_seq ?_
  refine wpr ?_
  refine wpl rfl rfl ht (ev_move ht rfl rfl) ?_
  intro a ht
  refine wpl rfl rfl ht (ev_len_of ht rfl rfl und_25 (hm.fact (φ := IntsAt A c m aSizes) 0 rfl)) ?_
  intro a ht
  refine wpl rfl rfl ht (ev_cmp ht rfl rfl rfl rfl) ?_
  intro a ht
  refine wpList_nil ?_
  refine then_normal ?_
  by_cases h2 : (aSizes.length : Int) > 1048576
  · replace H := ite_yes h2 H
    refine wpc_yes ht rfl (decide_eq_true h2) ?_
    refine wp_seq ?_
    refine wpr ?_
    refine wpl rfl rfl ht (ev_assign ht rfl rfl) ?_
    intro a ht
    refine wpList_nil ?_
    refine then_normal ?_
    refine wp_ret ?_
    refine then_ret ?_
    have hres := ht.res (P := Try.prog) (w := w) (rs := [.tmp 4]) (vs := [.bool true]) (.tmp rfl .nil)
    obtain rfl := Option.some.inj H
    exact leave ht rfl hres ⟨rfl, ((hm.pick [] rfl (by decide)).pickφ [] rfl).post fun _ h => h⟩
  · replace H := ite_no h2 H
    refine wpc_no ht rfl (decide_eq_false h2) ?_
    refine wp_skip ?_
    refine then_normal ?_
    refine wp_seq ?_
    refine wpr ?_
    refine wpl rfl rfl ht (ev_load_agg ht rfl rfl (ag_24.trans (by first | rw [Col.length_cells] | rfl)) (hm.blk_all 0 rfl)) ?_
    intro a ht
    obtain ⟨t3, et3, H⟩ := bind_get H
    have hcall := laws_toColouring.calls k _ _ aX _ ((fun (hq : Ms _ _ _ ([] ++ [.blk b1 24 (Col.cells aX)]) _ _) => hq.lend (φp := []) (allRO_nil)) (hm.pick (own' := [] ++ [.blk b1 24 (Col.cells aX)]) [0] rfl (by decide))) et3
    refine wpl_call _ rfl rfl ht rfl rfl rfl rfl can_16 hcall ?_
    clear hcall
    rintro _ w ⟨rfl, hpost⟩ a ht
    replace hm := (hm.pick (own' := [] ++ [.blk b1 24 (Col.cells aX)]) [0] rfl (by decide)).backL hpost
    clear hpost
    refine wpl rfl rfl ht (ev_move ht rfl rfl) ?_
    intro a ht
    obtain ⟨t4, et4, H⟩ := bind_get H
    have hcall := laws_toInt64S.calls k _ _ A c m aSizes _ ((fun (hq : Ms _ _ _ ([] ++ [.blk b1 24 (Col.cells aX)]) _ _) => hq.lend (φp := [IntsAt A c m aSizes]) (allRO_cons (hq.lendFact 0 rfl) (allRO_nil))) (hm.pick (own' := [] ++ [.blk b1 24 (Col.cells aX)]) [0] rfl (by decide))) et4
    refine wpl_call _ rfl rfl ht rfl rfl rfl rfl can_17 hcall ?_
    clear hcall
    rintro _ w ⟨A5, c6, m7, rfl, hpost⟩ a ht
    replace hm := (hm.pick (own' := [] ++ [.blk b1 24 (Col.cells aX)]) [0] rfl (by decide)).backL hpost
    clear hpost
    replace hm : Ms _ _ _ _ (IntsAt A5 c6 m7 t4 :: _) w := hm.shutVec 0 rfl
    obtain ⟨t8, et8, H⟩ := bind_get H
    have hcall := spec_FirstOfSizes.calls k _ _ A5 c6 m7 t3 t4 _ ((hm.pick (own' := [] ++ [.blk b1 24 (Col.cells aX)]) [0] rfl (by decide)).give (passed := []) (rest := [.blk b1 24 (Col.cells aX)]) (φp := [IntsAt A5 c6 m7 t4]) [0] rfl) et8
    refine wpl_call _ rfl rfl ht rfl rfl rfl rfl can_34 hcall ?_
    clear hcall
    rintro _ w ⟨A9, c10, m11, rfl, hpost⟩ a ht
    replace hm := (hm.pick (own' := [] ++ [.blk b1 24 (Col.cells aX)]) [0] rfl (by decide)).back hpost
    clear hpost
    refine wpl rfl rfl ht (ev_move ht rfl rfl) ?_
    intro a ht
    refine wpl rfl rfl ht (ev_extract ht rfl rfl rfl) ?_
    intro a ht
    refine wpl rfl rfl ht (ev_extract ht rfl rfl rfl) ?_
    intro a ht
    refine wpl rfl rfl ht (ev_extract ht rfl rfl rfl) ?_
    intro a ht
    refine wpl rfl rfl ht (ev_assign ht rfl rfl) ?_
    intro a ht
    refine wpl rfl rfl ht (ev_assign ht rfl rfl) ?_
    intro a ht
    refine wpl rfl rfl ht (ev_assign ht rfl rfl) ?_
    intro a ht
    refine wpList_nil ?_
    refine then_normal ?_
    refine wp_seq ?_
    refine wpr ?_
    refine wpl rfl rfl ht (ev_move ht rfl rfl) ?_
    intro a ht
    obtain ⟨t12, et12, H⟩ := bind_get H
    have hcall := laws_toInt64S.calls k _ _ A c m aSizes _ ((fun (hq : Ms _ _ _ ([] ++ [.blk b1 24 (Col.cells aX)]) _ _) => hq.lend (φp := [IntsAt A c m aSizes]) (allRO_cons (hq.lendFact 2 rfl) (allRO_nil))) (hm.pick (own' := [] ++ [.blk b1 24 (Col.cells aX)]) [0] rfl (by decide))) et12
    refine wpl_call _ rfl rfl ht rfl rfl rfl rfl can_17 hcall ?_
    clear hcall
    rintro _ w ⟨A13, c14, m15, rfl, hpost⟩ a ht
    replace hm := (hm.pick (own' := [] ++ [.blk b1 24 (Col.cells aX)]) [0] rfl (by decide)).backL hpost
    clear hpost
    refine wpl rfl rfl ht (ev_assign ht rfl rfl) ?_
    intro a ht
    refine wpList_nil ?_
    refine then_normal ?_
    refine wp_seq ?_
    refine wpr ?_
    refine wpl rfl rfl ht (ev_load_agg ht rfl rfl (ag_24.trans (by first | rw [Col.length_cells] | rfl)) (hm.blk_all 1 rfl)) ?_
    intro a ht
    obtain ⟨t16, et16, H⟩ := bind_get H
    have hcall := laws_toColouring.calls k _ _ aX _ ((fun (hq : Ms _ _ _ ([] ++ [.vec A13 c14 2 1 m15 (ints t12), .blk b1 24 (Col.cells aX)]) _ _) => hq.lend (φp := []) (allRO_nil)) (hm.pick (own' := [] ++ [.vec A13 c14 2 1 m15 (ints t12), .blk b1 24 (Col.cells aX)]) [0, 1] rfl (by decide))) et16
    refine wpl_call _ rfl rfl ht rfl rfl rfl rfl can_16 hcall ?_
    clear hcall
    rintro _ w ⟨rfl, hpost⟩ a ht
    replace hm := (hm.pick (own' := [] ++ [.vec A13 c14 2 1 m15 (ints t12), .blk b1 24 (Col.cells aX)]) [0, 1] rfl (by decide)).backL hpost
    clear hpost
    refine wpl rfl rfl ht (ev_move ht rfl rfl) ?_
    intro a ht
    obtain ⟨t17, et17, H⟩ := bind_get H
    have hcall := impl_FirstOfSizes.calls k _ _ A13 c14 m15 t16 t12 _ ((fun (hq : Ms _ _ _ ([] ++ [.vec A13 c14 2 1 m15 (ints t12), .blk b1 24 (Col.cells aX)]) _ _) => hq.lend (φp := [IntsAt A13 c14 m15 t12]) (allRO_cons (hq.lendVec 0 rfl) (allRO_nil))) (hm.pick (own' := [] ++ [.vec A13 c14 2 1 m15 (ints t12), .blk b1 24 (Col.cells aX)]) [0, 1] rfl (by decide))) et17
    refine wpl_call _ rfl rfl ht rfl rfl rfl rfl can_35 hcall ?_
    clear hcall
    rintro _ w ⟨A18, c19, m20, rfl, hpost⟩ a ht
    replace hm := (hm.pick (own' := [] ++ [.vec A13 c14 2 1 m15 (ints t12), .blk b1 24 (Col.cells aX)]) [0, 1] rfl (by decide)).backL hpost
    clear hpost
    refine wpl rfl rfl ht (ev_move ht rfl rfl) ?_
    intro a ht
    refine wpl rfl rfl ht (ev_extract ht rfl rfl rfl) ?_
    intro a ht
    refine wpl rfl rfl ht (ev_extract ht rfl rfl rfl) ?_
    intro a ht
    refine wpl rfl rfl ht (ev_extract ht rfl rfl rfl) ?_
    intro a ht
    refine wpl rfl rfl ht (ev_assign ht rfl rfl) ?_
    intro a ht
    refine wpl rfl rfl ht (ev_assign ht rfl rfl) ?_
    intro a ht
    refine wpl rfl rfl ht (ev_assign ht rfl rfl) ?_
    intro a ht
    refine wpList_nil ?_
    refine then_normal ?_
    refine wp_seq ?_
    refine wp_seq ?_
    refine wpr ?_
    refine wpl rfl rfl ht (ev_move ht rfl rfl) ?_
    intro a ht
    refine wpl rfl rfl ht (ev_move ht rfl rfl) ?_
    intro a ht
    refine wpl rfl rfl ht (ev_cmp ht rfl rfl rfl rfl) ?_
    intro a ht
    refine wpl rfl rfl ht (ev_move ht rfl rfl) ?_
    intro a ht
    by_cases h21 : t17.1 ≠ t8.1
    · replace H := ite_yes h21 H
      refine wpl_no rfl rfl ht rfl (by rw [(decide_eq_true h21)]; decide) ?_
      intro a ht
      refine wpl_no rfl rfl ht rfl (by rw [(decide_eq_true h21)]; decide) ?_
      intro a ht
      refine wpl_no rfl rfl ht rfl (by rw [(decide_eq_true h21)]; decide) ?_
      intro a ht
      refine wpl_no rfl rfl ht rfl (by rw [(decide_eq_true h21)]; decide) ?_
      intro a ht
      refine wpl rfl rfl ht (ev_pick_yes ht rfl rfl (decide_eq_true h21) rfl) ?_
      intro a ht
      refine wpl rfl rfl ht (ev_move ht rfl rfl) ?_
      intro a ht
      refine wpl_no rfl rfl ht rfl (by decide) ?_
      intro a ht
      refine wpl_no rfl rfl ht rfl (by decide) ?_
      intro a ht
      refine wpl_no rfl rfl ht rfl (by decide) ?_
      intro a ht
      refine wpl rfl rfl ht (ev_pick_yes ht rfl rfl rfl rfl) ?_
      intro a ht
      refine wpList_nil ?_
      refine then_normal ?_
      refine wpc_yes ht rfl rfl ?_
      refine wp_seq ?_
      refine wpr ?_
      refine wpl rfl rfl ht (ev_assign ht rfl rfl) ?_
      intro a ht
      refine wpList_nil ?_
      refine then_normal ?_
      refine wp_ret ?_
      refine then_ret ?_
      have hres := ht.res (P := Try.prog) (w := w) (rs := [.tmp 4]) (vs := [.bool false]) (.tmp rfl .nil)
      obtain rfl := Option.some.inj H
      exact leave ht rfl hres ⟨rfl, ((hm.pick [] rfl (by decide)).pickφ [] rfl).post fun _ h => h⟩
    · replace H := ite_no h21 H
      refine wpl_yes rfl ht rfl ((decide_eq_false h21)) ?_
      refine wpl rfl rfl ht (ev_move ht rfl rfl) ?_
      intro a ht
      refine wpl_yes rfl ht rfl ((decide_eq_false h21)) ?_
      refine wpl rfl rfl ht (ev_move ht rfl rfl) ?_
      intro a ht
      refine wpl_yes rfl ht rfl ((decide_eq_false h21)) ?_
      obtain ⟨t22, et22, H⟩ := bind_get H
      have hcall := laws_eqInt64S.calls k _ _ A18 c19 m20 A9 c10 m11 t17.2.1 t8.2.1 _ ((fun (hq : Ms _ _ _ ([] ++ [.vec A18 c19 2 1 m20 (ints t17.2.1), .vec A13 c14 2 1 m15 (ints t12), .blk b1 24 (Col.cells aX)]) _ _) => hq.lend (φp := [IntsAt A18 c19 m20 t17.2.1, IntsAt A9 c10 m11 t8.2.1]) (allRO_cons (hq.lendVec 0 rfl) (allRO_cons (hq.lendFact 0 rfl) (allRO_nil)))) (hm.pick (own' := [] ++ [.vec A18 c19 2 1 m20 (ints t17.2.1), .vec A13 c14 2 1 m15 (ints t12), .blk b1 24 (Col.cells aX)]) [0, 1, 2] rfl (by decide))) et22
      refine wpl_call _ rfl rfl ht rfl rfl rfl rfl can_19 hcall ?_
      clear hcall
      rintro _ w ⟨rfl, hpost⟩ a ht
      replace hm := (hm.pick (own' := [] ++ [.vec A18 c19 2 1 m20 (ints t17.2.1), .vec A13 c14 2 1 m15 (ints t12), .blk b1 24 (Col.cells aX)]) [0, 1, 2] rfl (by decide)).backL hpost
      clear hpost
      refine wpl_yes rfl ht rfl ((decide_eq_false h21)) ?_
      refine wpl rfl rfl ht (ev_not ht rfl rfl) ?_
      intro a ht
      refine wpl rfl rfl ht (ev_pick_no ht rfl rfl (decide_eq_false h21) rfl) ?_
      intro a ht
      refine wpl rfl rfl ht (ev_move ht rfl rfl) ?_
      intro a ht
      by_cases h23 : t22 = true
      · replace H := ite_yes h23 H
        refine wpl_yes rfl ht rfl ((not_t h23)) ?_
        refine wpl rfl rfl ht (ev_move ht rfl rfl) ?_
        intro a ht
        refine wpl_yes rfl ht rfl ((not_t h23)) ?_
        refine wpl rfl rfl ht (ev_move ht rfl rfl) ?_
        intro a ht
        refine wpl_yes rfl ht rfl ((not_t h23)) ?_
        refine wpl rfl rfl ht (ev_cmp ht rfl rfl rfl rfl) ?_
        intro a ht
        refine wpl rfl rfl ht (ev_pick_no ht rfl rfl (not_t h23) rfl) ?_
        intro a ht
        refine wpList_nil ?_
        refine then_normal ?_
        by_cases h24 : t17.2.2 ≠ t8.2.2
        · replace H := ite_yes h24 H
          refine wpc_yes ht rfl (decide_eq_true h24) ?_
          refine wp_seq ?_
          refine wpr ?_
          refine wpl rfl rfl ht (ev_assign ht rfl rfl) ?_
          intro a ht
          refine wpList_nil ?_
          refine then_normal ?_
          refine wp_ret ?_
          refine then_ret ?_
          have hres := ht.res (P := Try.prog) (w := w) (rs := [.tmp 4]) (vs := [.bool false]) (.tmp rfl .nil)
          obtain rfl := Option.some.inj H
          exact leave ht rfl hres ⟨rfl, ((hm.pick [] rfl (by decide)).pickφ [] rfl).post fun _ h => h⟩
        · replace H := ite_no h24 H
          refine wpc_no ht rfl (decide_eq_false h24) ?_
          refine wp_skip ?_
          refine then_normal ?_
          refine wp_seq ?_
          refine wp_seq ?_
          refine wpr ?_
          refine wpl rfl rfl ht (ev_move ht rfl rfl) ?_
          intro a ht
          refine wpl rfl rfl ht (ev_move ht rfl rfl) ?_
          intro a ht
          obtain ⟨t25, et25, H⟩ := bind_get H
          have hcall := laws_toInt64S.calls k _ _ A c m aSizes _ ((fun (hq : Ms _ _ _ ([] ++ [.vec A18 c19 2 1 m20 (ints t17.2.1), .vec A13 c14 2 1 m15 (ints t12), .blk b1 24 (Col.cells aX)]) _ _) => hq.lend (φp := [IntsAt A c m aSizes]) (allRO_cons (hq.lendFact 2 rfl) (allRO_nil))) (hm.pick (own' := [] ++ [.vec A18 c19 2 1 m20 (ints t17.2.1), .vec A13 c14 2 1 m15 (ints t12), .blk b1 24 (Col.cells aX)]) [0, 1, 2] rfl (by decide))) et25
          refine wpl_call _ rfl rfl ht rfl rfl rfl rfl can_17 hcall ?_
          clear hcall
          rintro _ w ⟨A26, c27, m28, rfl, hpost⟩ a ht
          replace hm := (hm.pick (own' := [] ++ [.vec A18 c19 2 1 m20 (ints t17.2.1), .vec A13 c14 2 1 m15 (ints t12), .blk b1 24 (Col.cells aX)]) [0, 1, 2] rfl (by decide)).backL hpost
          clear hpost
          obtain ⟨t29, et29, H⟩ := bind_get H
          have hcall := laws_eqInt64S.calls k _ _ A13 c14 m15 A26 c27 m28 t12 t25 _ ((fun (hq : Ms _ _ _ ([] ++ [.vec A26 c27 2 1 m28 (ints t25), .vec A18 c19 2 1 m20 (ints t17.2.1), .vec A13 c14 2 1 m15 (ints t12), .blk b1 24 (Col.cells aX)]) _ _) => hq.lend (φp := [IntsAt A13 c14 m15 t12, IntsAt A26 c27 m28 t25]) (allRO_cons (hq.lendVec 2 rfl) (allRO_cons (hq.lendVec 0 rfl) (allRO_nil)))) (hm.pick (own' := [] ++ [.vec A26 c27 2 1 m28 (ints t25), .vec A18 c19 2 1 m20 (ints t17.2.1), .vec A13 c14 2 1 m15 (ints t12), .blk b1 24 (Col.cells aX)]) [0, 1, 2, 3] rfl (by decide))) et29
          refine wpl_call _ rfl rfl ht rfl rfl rfl rfl can_19 hcall ?_
          clear hcall
          rintro _ w ⟨rfl, hpost⟩ a ht
          replace hm := (hm.pick (own' := [] ++ [.vec A26 c27 2 1 m28 (ints t25), .vec A18 c19 2 1 m20 (ints t17.2.1), .vec A13 c14 2 1 m15 (ints t12), .blk b1 24 (Col.cells aX)]) [0, 1, 2, 3] rfl (by decide)).backL hpost
          clear hpost
          refine wpl rfl rfl ht (ev_not ht rfl rfl) ?_
          intro a ht
          refine wpList_nil ?_
          refine then_normal ?_
          by_cases h30 : t29 = true
          · replace H := ite_yes h30 H
            refine wpc_no ht rfl (not_t h30) ?_
            refine wp_skip ?_
            refine then_normal ?_
            refine wp_seq ?_
            refine wpr ?_
            refine wpl rfl rfl ht (ev_assign ht rfl rfl) ?_
            intro a ht
            refine wpList_nil ?_
            refine then_normal ?_
            refine wp_seq ?_
            refine wpr ?_
            refine wpl rfl rfl ht (ev_move ht rfl rfl) ?_
            intro a ht
            refine wpl rfl rfl ht (ev_move ht rfl rfl) ?_
            intro a ht
            obtain ⟨t31, et31, H⟩ := bind_get H
            have hcall := laws_markInt64S.calls k _ _ A13 c14 m15 t12 1 _ ((fun (hq : Ms _ _ _ ([.vec A13 c14 2 1 m15 (ints t12)] ++ [.vec A26 c27 2 1 m28 (ints t25), .vec A18 c19 2 1 m20 (ints t17.2.1), .blk b1 24 (Col.cells aX)]) _ _) => hq.lend (φp := []) (allRO_nil)) (hm.pick (own' := [.vec A13 c14 2 1 m15 (ints t12)] ++ [.vec A26 c27 2 1 m28 (ints t25), .vec A18 c19 2 1 m20 (ints t17.2.1), .blk b1 24 (Col.cells aX)]) [2, 0, 1, 3] rfl (by decide))) et31
            refine wpl_call _ rfl rfl ht rfl rfl rfl rfl can_26 hcall ?_
            clear hcall
            rintro _ w ⟨rfl, hpost⟩ a ht
            replace hm := (hm.pick (own' := [.vec A13 c14 2 1 m15 (ints t12)] ++ [.vec A26 c27 2 1 m28 (ints t25), .vec A18 c19 2 1 m20 (ints t17.2.1), .blk b1 24 (Col.cells aX)]) [2, 0, 1, 3] rfl (by decide)).backL hpost
            clear hpost
            refine wpl rfl rfl ht (ev_assign ht rfl rfl) ?_
            intro a ht
            refine wpList_nil ?_
            refine then_normal ?_
            refine wp_seq ?_
            refine wp_seq ?_
            refine wpr ?_
            refine wpl rfl rfl ht (ev_move ht rfl rfl) ?_
            intro a ht
            refine wpl rfl rfl ht (ev_cmp ht rfl rfl rfl rfl) ?_
            intro a ht
            refine wpl rfl rfl ht (ev_move ht rfl rfl) ?_
            intro a ht
            by_cases h32 : t31.1 < 0
            · replace H := ite_yes h32 H
              refine wpl_no rfl rfl ht rfl (by rw [(decide_eq_true h32)]; decide) ?_
              intro a ht
              refine wpl_no rfl rfl ht rfl (by rw [(decide_eq_true h32)]; decide) ?_
              intro a ht
              refine wpl_no rfl rfl ht rfl (by rw [(decide_eq_true h32)]; decide) ?_
              intro a ht
              refine wpl rfl rfl ht (ev_pick_yes ht rfl rfl (decide_eq_true h32) rfl) ?_
              intro a ht
              refine wpl rfl rfl ht (ev_move ht rfl rfl) ?_
              intro a ht
              refine wpl_no rfl rfl ht rfl (by decide) ?_
              intro a ht
              refine wpl_no rfl rfl ht rfl (by decide) ?_
              intro a ht
              refine wpl_no rfl rfl ht rfl (by decide) ?_
              intro a ht
              refine wpl_no rfl rfl ht rfl (by decide) ?_
              intro a ht
              refine wpl rfl rfl ht (ev_pick_yes ht rfl rfl rfl rfl) ?_
              intro a ht
              refine wpl rfl rfl ht (ev_move ht rfl rfl) ?_
              intro a ht
              refine wpl_no rfl rfl ht rfl (by decide) ?_
              intro a ht
              refine wpl_no rfl rfl ht rfl (by decide) ?_
              intro a ht
              refine wpl_no rfl rfl ht rfl (by decide) ?_
              intro a ht
              refine wpl rfl rfl ht (ev_pick_yes ht rfl rfl rfl rfl) ?_
              intro a ht
              refine wpList_nil ?_
              refine then_normal ?_
              refine wpc_yes ht rfl rfl ?_
              refine wp_seq ?_
              refine wpr ?_
              refine wpl rfl rfl ht (ev_assign ht rfl rfl) ?_
              intro a ht
              refine wpList_nil ?_
              refine then_normal ?_
              refine wp_ret ?_
              refine then_ret ?_
              have hres := ht.res (P := Try.prog) (w := w) (rs := [.tmp 4]) (vs := [.bool false]) (.tmp rfl .nil)
              obtain rfl := Option.some.inj H
              exact leave ht rfl hres ⟨rfl, ((hm.pick [] rfl (by decide)).pickφ [] rfl).post fun _ h => h⟩
            · replace H := ite_no h32 H
              refine wpl_yes rfl ht rfl ((decide_eq_false h32)) ?_
              refine wpl rfl rfl ht (ev_move ht rfl rfl) ?_
              intro a ht
              refine wpl_yes rfl ht rfl ((decide_eq_false h32)) ?_
              refine wpl rfl rfl ht (ev_move ht rfl rfl) ?_
              intro a ht
              refine wpl_yes rfl ht rfl ((decide_eq_false h32)) ?_
              refine wpl rfl rfl ht (ev_cmp ht rfl rfl rfl rfl) ?_
              intro a ht
              refine wpl rfl rfl ht (ev_pick_no ht rfl rfl (decide_eq_false h32) rfl) ?_
              intro a ht
              refine wpl rfl rfl ht (ev_move ht rfl rfl) ?_
              intro a ht
              refine wpl_yes rfl ht rfl ((decide_eq_false h21)) ?_
              refine wpl rfl rfl ht (ev_move ht rfl rfl) ?_
              intro a ht
              refine wpl_yes rfl ht rfl ((decide_eq_false h21)) ?_
              refine wpl rfl rfl ht (ev_move ht rfl rfl) ?_
              intro a ht
              refine wpl_yes rfl ht rfl ((decide_eq_false h21)) ?_
              obtain ⟨t33, et33, H⟩ := bind_get H
              have hcall := laws_eqInt64S.calls k _ _ A18 c19 m20 A9 c10 m11 t17.2.1 t8.2.1 _ ((fun (hq : Ms _ _ _ ([] ++ [.vec A13 c14 2 1 m15 (ints t31.2), .vec A26 c27 2 1 m28 (ints t25), .vec A18 c19 2 1 m20 (ints t17.2.1), .blk b1 24 (Col.cells aX)]) _ _) => hq.lend (φp := [IntsAt A18 c19 m20 t17.2.1, IntsAt A9 c10 m11 t8.2.1]) (allRO_cons (hq.lendVec 2 rfl) (allRO_cons (hq.lendFact 0 rfl) (allRO_nil)))) (hm.pick (own' := [] ++ [.vec A13 c14 2 1 m15 (ints t31.2), .vec A26 c27 2 1 m28 (ints t25), .vec A18 c19 2 1 m20 (ints t17.2.1), .blk b1 24 (Col.cells aX)]) [0, 1, 2, 3] rfl (by decide))) et33
              refine wpl_call _ rfl rfl ht rfl rfl rfl rfl can_19 hcall ?_
              clear hcall
              rintro _ w ⟨rfl, hpost⟩ a ht
              replace hm := (hm.pick (own' := [] ++ [.vec A13 c14 2 1 m15 (ints t31.2), .vec A26 c27 2 1 m28 (ints t25), .vec A18 c19 2 1 m20 (ints t17.2.1), .blk b1 24 (Col.cells aX)]) [0, 1, 2, 3] rfl (by decide)).backL hpost
              clear hpost
              refine wpl_yes rfl ht rfl ((decide_eq_false h21)) ?_
              refine wpl rfl rfl ht (ev_not ht rfl rfl) ?_
              intro a ht
              refine wpl rfl rfl ht (ev_pick_no ht rfl rfl (decide_eq_false h21) rfl) ?_
              intro a ht
              refine wpl rfl rfl ht (ev_move ht rfl rfl) ?_
              intro a ht
              by_cases h34 : t33 = true
              · replace H := ite_yes h34 H
                refine wpl_yes rfl ht rfl ((not_t h34)) ?_
                refine wpl rfl rfl ht (ev_move ht rfl rfl) ?_
                intro a ht
                refine wpl_yes rfl ht rfl ((not_t h34)) ?_
                refine wpl rfl rfl ht (ev_move ht rfl rfl) ?_
                intro a ht
                refine wpl_yes rfl ht rfl ((not_t h34)) ?_
                refine wpl rfl rfl ht (ev_cmp ht rfl rfl rfl rfl) ?_
                intro a ht
                refine wpl rfl rfl ht (ev_pick_no ht rfl rfl (not_t h34) rfl) ?_
                intro a ht
                refine wpList_nil ?_
                refine then_normal ?_
                refine wpc_no ht rfl (decide_eq_false h24) ?_
                refine wp_skip ?_
                refine then_normal ?_
                refine wp_seq ?_
                refine wpr ?_
                refine wpl rfl rfl ht (ev_assign ht rfl rfl) ?_
                intro a ht
                refine wpList_nil ?_
                refine then_normal ?_
                refine wp_seq ?_
                refine wpr ?_
                refine wpl rfl rfl ht (ev_move ht rfl rfl) ?_
                intro a ht
                refine wpl rfl rfl ht (ev_move ht rfl rfl) ?_
                intro a ht
                obtain ⟨t35, et35, H⟩ := bind_get H
                have hcall := laws_markInt64S.calls k _ _ A18 c19 m20 t17.2.1 1 _ ((fun (hq : Ms _ _ _ ([.vec A18 c19 2 1 m20 (ints t17.2.1)] ++ [.vec A13 c14 2 1 m15 (ints t31.2), .vec A26 c27 2 1 m28 (ints t25), .blk b1 24 (Col.cells aX)]) _ _) => hq.lend (φp := []) (allRO_nil)) (hm.pick (own' := [.vec A18 c19 2 1 m20 (ints t17.2.1)] ++ [.vec A13 c14 2 1 m15 (ints t31.2), .vec A26 c27 2 1 m28 (ints t25), .blk b1 24 (Col.cells aX)]) [2, 0, 1, 3] rfl (by decide))) et35
                refine wpl_call _ rfl rfl ht rfl rfl rfl rfl can_26 hcall ?_
                clear hcall
                rintro _ w ⟨rfl, hpost⟩ a ht
                replace hm := (hm.pick (own' := [.vec A18 c19 2 1 m20 (ints t17.2.1)] ++ [.vec A13 c14 2 1 m15 (ints t31.2), .vec A26 c27 2 1 m28 (ints t25), .blk b1 24 (Col.cells aX)]) [2, 0, 1, 3] rfl (by decide)).backL hpost
                clear hpost
                refine wpl rfl rfl ht (ev_assign ht rfl rfl) ?_
                intro a ht
                refine wpList_nil ?_
                refine then_normal ?_
                refine wp_seq ?_
                refine wpr ?_
                refine wpl rfl rfl ht (ev_assign ht rfl rfl) ?_
                intro a ht
                refine wpList_nil ?_
                refine then_normal ?_
                refine wp_seq ?_
                refine wpr ?_
                refine wpl rfl rfl ht (ev_move ht rfl rfl) ?_
                intro a ht
                refine wpl rfl rfl ht (ev_move ht rfl rfl) ?_
                intro a ht
                obtain ⟨t36, et36, H⟩ := bind_get H
                have hcall := laws_heldInt64S.calls k _ _ A18 c19 m20 t35.2 1 _ ((fun (hq : Ms _ _ _ ([] ++ [.vec A18 c19 2 1 m20 (ints t35.2), .vec A13 c14 2 1 m15 (ints t31.2), .vec A26 c27 2 1 m28 (ints t25), .blk b1 24 (Col.cells aX)]) _ _) => hq.lend (φp := [IntsAt A18 c19 m20 t35.2]) (allRO_cons (hq.lendVec 0 rfl) (allRO_nil))) (hm.pick (own' := [] ++ [.vec A18 c19 2 1 m20 (ints t35.2), .vec A13 c14 2 1 m15 (ints t31.2), .vec A26 c27 2 1 m28 (ints t25), .blk b1 24 (Col.cells aX)]) [0, 1, 2, 3] rfl (by decide))) et36
                refine wpl_call _ rfl rfl ht rfl rfl rfl rfl can_27 hcall ?_
                clear hcall
                rintro _ w ⟨rfl, hpost⟩ a ht
                replace hm := (hm.pick (own' := [] ++ [.vec A18 c19 2 1 m20 (ints t35.2), .vec A13 c14 2 1 m15 (ints t31.2), .vec A26 c27 2 1 m28 (ints t25), .blk b1 24 (Col.cells aX)]) [0, 1, 2, 3] rfl (by decide)).backL hpost
                clear hpost
                refine wpl rfl rfl ht (ev_assign ht rfl rfl) ?_
                intro a ht
                refine wpList_nil ?_
                refine then_normal ?_
                refine wp_seq ?_
                refine wp_seq ?_
                refine wpr ?_
                refine wpl rfl rfl ht (ev_move ht rfl rfl) ?_
                intro a ht
                refine wpl rfl rfl ht (ev_cmp ht rfl rfl rfl rfl) ?_
                intro a ht
                refine wpList_nil ?_
                refine then_normal ?_
                by_cases h37 : t36 < 0
                · replace H := ite_yes h37 H
                  refine wpc_yes ht rfl (decide_eq_true h37) ?_
                  refine wp_seq ?_
                  refine wpr ?_
                  refine wpl rfl rfl ht (ev_assign ht rfl rfl) ?_
                  intro a ht
                  refine wpList_nil ?_
                  refine then_normal ?_
                  refine wp_ret ?_
                  refine then_ret ?_
                  have hres := ht.res (P := Try.prog) (w := w) (rs := [.tmp 4]) (vs := [.bool false]) (.tmp rfl .nil)
                  obtain rfl := Option.some.inj H
                  exact leave ht rfl hres ⟨rfl, ((hm.pick [] rfl (by decide)).pickφ [] rfl).post fun _ h => h⟩
                · replace H := ite_no h37 H
                  refine wpc_no ht rfl (decide_eq_false h37) ?_
                  refine wp_skip ?_
                  refine then_normal ?_
                  refine wp_seq ?_
                  refine wp_seq ?_
                  refine wpr ?_
                  refine wpl rfl rfl ht (ev_move ht rfl rfl) ?_
                  intro a ht
                  refine wpl rfl rfl ht (ev_move ht rfl rfl) ?_
                  intro a ht
                  refine wpl rfl rfl ht (ev_cmp ht rfl rfl rfl rfl) ?_
                  intro a ht
                  refine wpList_nil ?_
                  refine then_normal ?_
                  by_cases h38 : t36 ≠ t35.1
                  · replace H := ite_yes h38 H
                    refine wpc_yes ht rfl (decide_eq_true h38) ?_
                    refine wp_seq ?_
                    refine wpr ?_
                    refine wpl rfl rfl ht (ev_assign ht rfl rfl) ?_
                    intro a ht
                    refine wpList_nil ?_
                    refine then_normal ?_
                    refine wp_ret ?_
                    refine then_ret ?_
                    have hres := ht.res (P := Try.prog) (w := w) (rs := [.tmp 4]) (vs := [.bool false]) (.tmp rfl .nil)
                    obtain rfl := Option.some.inj H
                    exact leave ht rfl hres ⟨rfl, ((hm.pick [] rfl (by decide)).pickφ [] rfl).post fun _ h => h⟩
                  · replace H := ite_no h38 H
                    refine wpc_no ht rfl (decide_eq_false h38) ?_
                    refine wp_skip ?_
                    refine then_normal ?_
                    refine wp_seq ?_
                    refine wpr ?_
                    refine wpl rfl rfl ht (ev_load_agg ht rfl rfl (ag_24.trans (by first | rw [Col.length_cells] | rfl)) (hm.blk_all 3 rfl)) ?_
                    intro a ht
                    obtain ⟨t39, et39, H⟩ := bind_get H
                    have hcall := laws_toColouring.calls k _ _ aX _ ((fun (hq : Ms _ _ _ ([] ++ [.vec A18 c19 2 1 m20 (ints t35.2), .vec A13 c14 2 1 m15 (ints t31.2), .vec A26 c27 2 1 m28 (ints t25), .blk b1 24 (Col.cells aX)]) _ _) => hq.lend (φp := []) (allRO_nil)) (hm.pick (own' := [] ++ [.vec A18 c19 2 1 m20 (ints t35.2), .vec A13 c14 2 1 m15 (ints t31.2), .vec A26 c27 2 1 m28 (ints t25), .blk b1 24 (Col.cells aX)]) [0, 1, 2, 3] rfl (by decide))) et39
                    refine wpl_call _ rfl rfl ht rfl rfl rfl rfl can_16 hcall ?_
                    clear hcall
                    rintro _ w ⟨rfl, hpost⟩ a ht
                    replace hm := (hm.pick (own' := [] ++ [.vec A18 c19 2 1 m20 (ints t35.2), .vec A13 c14 2 1 m15 (ints t31.2), .vec A26 c27 2 1 m28 (ints t25), .blk b1 24 (Col.cells aX)]) [0, 1, 2, 3] rfl (by decide)).backL hpost
                    clear hpost
                    refine wpl rfl rfl ht (ev_move ht rfl rfl) ?_
                    intro a ht
                    obtain ⟨t40, et40, H⟩ := bind_get H
                    have hcall := laws_toInt64S.calls k _ _ A c m aSizes _ ((fun (hq : Ms _ _ _ ([] ++ [.vec A18 c19 2 1 m20 (ints t35.2), .vec A13 c14 2 1 m15 (ints t31.2), .vec A26 c27 2 1 m28 (ints t25), .blk b1 24 (Col.cells aX)]) _ _) => hq.lend (φp := [IntsAt A c m aSizes]) (allRO_cons (hq.lendFact 2 rfl) (allRO_nil))) (hm.pick (own' := [] ++ [.vec A18 c19 2 1 m20 (ints t35.2), .vec A13 c14 2 1 m15 (ints t31.2), .vec A26 c27 2 1 m28 (ints t25), .blk b1 24 (Col.cells aX)]) [0, 1, 2, 3] rfl (by decide))) et40
                    refine wpl_call _ rfl rfl ht rfl rfl rfl rfl can_17 hcall ?_
                    clear hcall
                    rintro _ w ⟨A41, c42, m43, rfl, hpost⟩ a ht
                    replace hm := (hm.pick (own' := [] ++ [.vec A18 c19 2 1 m20 (ints t35.2), .vec A13 c14 2 1 m15 (ints t31.2), .vec A26 c27 2 1 m28 (ints t25), .blk b1 24 (Col.cells aX)]) [0, 1, 2, 3] rfl (by decide)).backL hpost
                    clear hpost
                    obtain ⟨t44, et44, H⟩ := bind_get H
                    have hcall := impl_FirstOfSizes.calls k _ _ A41 c42 m43 t39 t40 _ ((fun (hq : Ms _ _ _ ([] ++ [.vec A41 c42 2 1 m43 (ints t40), .vec A18 c19 2 1 m20 (ints t35.2), .vec A13 c14 2 1 m15 (ints t31.2), .vec A26 c27 2 1 m28 (ints t25), .blk b1 24 (Col.cells aX)]) _ _) => hq.lend (φp := [IntsAt A41 c42 m43 t40]) (allRO_cons (hq.lendVec 0 rfl) (allRO_nil))) (hm.pick (own' := [] ++ [.vec A41 c42 2 1 m43 (ints t40), .vec A18 c19 2 1 m20 (ints t35.2), .vec A13 c14 2 1 m15 (ints t31.2), .vec A26 c27 2 1 m28 (ints t25), .blk b1 24 (Col.cells aX)]) [0, 1, 2, 3, 4] rfl (by decide))) et44
                    refine wpl_call _ rfl rfl ht rfl rfl rfl rfl can_35 hcall ?_
                    clear hcall
                    rintro _ w ⟨A45, c46, m47, rfl, hpost⟩ a ht
                    replace hm := (hm.pick (own' := [] ++ [.vec A41 c42 2 1 m43 (ints t40), .vec A18 c19 2 1 m20 (ints t35.2), .vec A13 c14 2 1 m15 (ints t31.2), .vec A26 c27 2 1 m28 (ints t25), .blk b1 24 (Col.cells aX)]) [0, 1, 2, 3, 4] rfl (by decide)).backL hpost
                    clear hpost
                    refine wpl rfl rfl ht (ev_move ht rfl rfl) ?_
                    intro a ht
                    refine wpl rfl rfl ht (ev_extract ht rfl rfl rfl) ?_
                    intro a ht
                    refine wpl rfl rfl ht (ev_extract ht rfl rfl rfl) ?_
                    intro a ht
                    refine wpl rfl rfl ht (ev_extract ht rfl rfl rfl) ?_
                    intro a ht
                    refine wpl rfl rfl ht (ev_assign ht rfl rfl) ?_
                    intro a ht
                    refine wpl rfl rfl ht (ev_assign ht rfl rfl) ?_
                    intro a ht
                    refine wpl rfl rfl ht (ev_assign ht rfl rfl) ?_
                    intro a ht
                    refine wpList_nil ?_
                    refine then_normal ?_
                    refine wp_seq ?_
                    refine wp_seq ?_
                    refine wpr ?_
                    refine wpl rfl rfl ht (ev_move ht rfl rfl) ?_
                    intro a ht
                    refine wpl rfl rfl ht (ev_move ht rfl rfl) ?_
                    intro a ht
                    refine wpl rfl rfl ht (ev_cmp ht rfl rfl rfl rfl) ?_
                    intro a ht
                    refine wpl rfl rfl ht (ev_move ht rfl rfl) ?_
                    intro a ht
                    by_cases h48 : t44.1 ≠ t8.1
                    · replace H := ite_yes h48 H
                      refine wpl_no rfl rfl ht rfl (by rw [(decide_eq_true h48)]; decide) ?_
                      intro a ht
                      refine wpl_no rfl rfl ht rfl (by rw [(decide_eq_true h48)]; decide) ?_
                      intro a ht
                      refine wpl_no rfl rfl ht rfl (by rw [(decide_eq_true h48)]; decide) ?_
                      intro a ht
                      refine wpl_no rfl rfl ht rfl (by rw [(decide_eq_true h48)]; decide) ?_
                      intro a ht
                      refine wpl rfl rfl ht (ev_pick_yes ht rfl rfl (decide_eq_true h48) rfl) ?_
                      intro a ht
                      refine wpl rfl rfl ht (ev_move ht rfl rfl) ?_
                      intro a ht
                      refine wpl_no rfl rfl ht rfl (by decide) ?_
                      intro a ht
                      refine wpl_no rfl rfl ht rfl (by decide) ?_
                      intro a ht
                      refine wpl_no rfl rfl ht rfl (by decide) ?_
                      intro a ht
                      refine wpl rfl rfl ht (ev_pick_yes ht rfl rfl rfl rfl) ?_
                      intro a ht
                      refine wpList_nil ?_
                      refine then_normal ?_
                      refine wpc_yes ht rfl rfl ?_
                      refine wp_seq ?_
                      refine wpr ?_
                      refine wpl rfl rfl ht (ev_assign ht rfl rfl) ?_
                      intro a ht
                      refine wpList_nil ?_
                      refine then_normal ?_
                      refine wp_ret ?_
                      refine then_ret ?_
                      have hres := ht.res (P := Try.prog) (w := w) (rs := [.tmp 4]) (vs := [.bool false]) (.tmp rfl .nil)
                      obtain rfl := Option.some.inj H
                      exact leave ht rfl hres ⟨rfl, ((hm.pick [] rfl (by decide)).pickφ [] rfl).post fun _ h => h⟩
                    · replace H := ite_no h48 H
                      refine wpl_yes rfl ht rfl ((decide_eq_false h48)) ?_
                      refine wpl rfl rfl ht (ev_move ht rfl rfl) ?_
                      intro a ht
                      refine wpl_yes rfl ht rfl ((decide_eq_false h48)) ?_
                      refine wpl rfl rfl ht (ev_move ht rfl rfl) ?_
                      intro a ht
                      refine wpl_yes rfl ht rfl ((decide_eq_false h48)) ?_
                      obtain ⟨t49, et49, H⟩ := bind_get H
                      have hcall := laws_eqInt64S.calls k _ _ A45 c46 m47 A9 c10 m11 t44.2.1 t8.2.1 _ ((fun (hq : Ms _ _ _ ([] ++ [.vec A45 c46 2 1 m47 (ints t44.2.1), .vec A41 c42 2 1 m43 (ints t40), .vec A18 c19 2 1 m20 (ints t35.2), .vec A13 c14 2 1 m15 (ints t31.2), .vec A26 c27 2 1 m28 (ints t25), .blk b1 24 (Col.cells aX)]) _ _) => hq.lend (φp := [IntsAt A45 c46 m47 t44.2.1, IntsAt A9 c10 m11 t8.2.1]) (allRO_cons (hq.lendVec 0 rfl) (allRO_cons (hq.lendFact 0 rfl) (allRO_nil)))) (hm.pick (own' := [] ++ [.vec A45 c46 2 1 m47 (ints t44.2.1), .vec A41 c42 2 1 m43 (ints t40), .vec A18 c19 2 1 m20 (ints t35.2), .vec A13 c14 2 1 m15 (ints t31.2), .vec A26 c27 2 1 m28 (ints t25), .blk b1 24 (Col.cells aX)]) [0, 1, 2, 3, 4, 5] rfl (by decide))) et49
                      refine wpl_call _ rfl rfl ht rfl rfl rfl rfl can_19 hcall ?_
                      clear hcall
                      rintro _ w ⟨rfl, hpost⟩ a ht
                      replace hm := (hm.pick (own' := [] ++ [.vec A45 c46 2 1 m47 (ints t44.2.1), .vec A41 c42 2 1 m43 (ints t40), .vec A18 c19 2 1 m20 (ints t35.2), .vec A13 c14 2 1 m15 (ints t31.2), .vec A26 c27 2 1 m28 (ints t25), .blk b1 24 (Col.cells aX)]) [0, 1, 2, 3, 4, 5] rfl (by decide)).backL hpost
                      clear hpost
                      refine wpl_yes rfl ht rfl ((decide_eq_false h48)) ?_
                      refine wpl rfl rfl ht (ev_not ht rfl rfl) ?_
                      intro a ht
                      refine wpl rfl rfl ht (ev_pick_no ht rfl rfl (decide_eq_false h48) rfl) ?_
                      intro a ht
                      refine wpl rfl rfl ht (ev_move ht rfl rfl) ?_
                      intro a ht
                      by_cases h50 : t49 = true
                      · replace H := ite_yes h50 H
                        refine wpl_yes rfl ht rfl ((not_t h50)) ?_
                        refine wpl rfl rfl ht (ev_move ht rfl rfl) ?_
                        intro a ht
                        refine wpl_yes rfl ht rfl ((not_t h50)) ?_
                        refine wpl rfl rfl ht (ev_move ht rfl rfl) ?_
                        intro a ht
                        refine wpl_yes rfl ht rfl ((not_t h50)) ?_
                        refine wpl rfl rfl ht (ev_cmp ht rfl rfl rfl rfl) ?_
                        intro a ht
                        refine wpl rfl rfl ht (ev_pick_no ht rfl rfl (not_t h50) rfl) ?_
                        intro a ht
                        refine wpList_nil ?_
                        refine then_normal ?_
                        by_cases h51 : t44.2.2 ≠ t8.2.2
                        · replace H := ite_yes h51 H
                          refine wpc_yes ht rfl (decide_eq_true h51) ?_
                          refine wp_seq ?_
                          refine wpr ?_
                          refine wpl rfl rfl ht (ev_assign ht rfl rfl) ?_
                          intro a ht
                          refine wpList_nil ?_
                          refine then_normal ?_
                          refine wp_ret ?_
                          refine then_ret ?_
                          have hres := ht.res (P := Try.prog) (w := w) (rs := [.tmp 4]) (vs := [.bool false]) (.tmp rfl .nil)
                          obtain rfl := Option.some.inj H
                          exact leave ht rfl hres ⟨rfl, ((hm.pick [] rfl (by decide)).pickφ [] rfl).post fun _ h => h⟩
                        · replace H := ite_no h51 H
                          refine wpc_no ht rfl (decide_eq_false h51) ?_
                          refine wp_skip ?_
                          refine then_normal ?_
                          refine wp_seq ?_
                          refine wpr ?_
                          refine wpl rfl rfl ht (ev_assign ht rfl rfl) ?_
                          intro a ht
                          refine wpList_nil ?_
                          refine then_normal ?_
                          refine wp_seq ?_
                          refine wpr ?_
                          refine wpl rfl rfl ht (ev_move ht rfl rfl) ?_
                          intro a ht
                          refine wpl rfl rfl ht (ev_move ht rfl rfl) ?_
                          intro a ht
                          obtain ⟨t52, et52, H⟩ := bind_get H
                          have hcall := laws_heldInt64S.calls k _ _ A18 c19 m20 t35.2 1 _ ((fun (hq : Ms _ _ _ ([] ++ [.vec A45 c46 2 1 m47 (ints t44.2.1), .vec A41 c42 2 1 m43 (ints t40), .vec A18 c19 2 1 m20 (ints t35.2), .vec A13 c14 2 1 m15 (ints t31.2), .vec A26 c27 2 1 m28 (ints t25), .blk b1 24 (Col.cells aX)]) _ _) => hq.lend (φp := [IntsAt A18 c19 m20 t35.2]) (allRO_cons (hq.lendVec 2 rfl) (allRO_nil))) (hm.pick (own' := [] ++ [.vec A45 c46 2 1 m47 (ints t44.2.1), .vec A41 c42 2 1 m43 (ints t40), .vec A18 c19 2 1 m20 (ints t35.2), .vec A13 c14 2 1 m15 (ints t31.2), .vec A26 c27 2 1 m28 (ints t25), .blk b1 24 (Col.cells aX)]) [0, 1, 2, 3, 4, 5] rfl (by decide))) et52
                          refine wpl_call _ rfl rfl ht rfl rfl rfl rfl can_27 hcall ?_
                          clear hcall
                          rintro _ w ⟨rfl, hpost⟩ a ht
                          replace hm := (hm.pick (own' := [] ++ [.vec A45 c46 2 1 m47 (ints t44.2.1), .vec A41 c42 2 1 m43 (ints t40), .vec A18 c19 2 1 m20 (ints t35.2), .vec A13 c14 2 1 m15 (ints t31.2), .vec A26 c27 2 1 m28 (ints t25), .blk b1 24 (Col.cells aX)]) [0, 1, 2, 3, 4, 5] rfl (by decide)).backL hpost
                          clear hpost
                          refine wpl rfl rfl ht (ev_assign ht rfl rfl) ?_
                          intro a ht
                          refine wpList_nil ?_
                          refine then_normal ?_
                          refine wp_seq ?_
                          refine wp_seq ?_
                          refine wpr ?_
                          refine wpl rfl rfl ht (ev_move ht rfl rfl) ?_
                          intro a ht
                          refine wpl rfl rfl ht (ev_cmp ht rfl rfl rfl rfl) ?_
                          intro a ht
                          refine wpList_nil ?_
                          refine then_normal ?_
                          by_cases h53 : t52 < 0
                          · replace H := ite_yes h53 H
                            refine wpc_yes ht rfl (decide_eq_true h53) ?_
                            refine wp_seq ?_
                            refine wpr ?_
                            refine wpl rfl rfl ht (ev_assign ht rfl rfl) ?_
                            intro a ht
                            refine wpList_nil ?_
                            refine then_normal ?_
                            refine wp_ret ?_
                            refine then_ret ?_
                            have hres := ht.res (P := Try.prog) (w := w) (rs := [.tmp 4]) (vs := [.bool false]) (.tmp rfl .nil)
                            obtain rfl := Option.some.inj H
                            exact leave ht rfl hres ⟨rfl, ((hm.pick [] rfl (by decide)).pickφ [] rfl).post fun _ h => h⟩
                          · replace H := ite_no h53 H
                            refine wpc_no ht rfl (decide_eq_false h53) ?_
                            refine wp_skip ?_
                            refine then_normal ?_
                            refine wp_seq ?_
                            refine wp_seq ?_
                            refine wpr ?_
                            refine wpl rfl rfl ht (ev_move ht rfl rfl) ?_
                            intro a ht
                            refine wpl rfl rfl ht (ev_move ht rfl rfl) ?_
                            intro a ht
                            refine wpl rfl rfl ht (ev_cmp ht rfl rfl rfl rfl) ?_
                            intro a ht
                            refine wpList_nil ?_
                            refine then_normal ?_
                            by_cases h54 : t52 ≠ t35.1
                            · replace H := ite_yes h54 H
                              refine wpc_yes ht rfl (decide_eq_true h54) ?_
                              refine wp_seq ?_
                              refine wpr ?_
                              refine wpl rfl rfl ht (ev_assign ht rfl rfl) ?_
                              intro a ht
                              refine wpList_nil ?_
                              refine then_normal ?_
                              refine wp_ret ?_
                              refine then_ret ?_
                              have hres := ht.res (P := Try.prog) (w := w) (rs := [.tmp 4]) (vs := [.bool false]) (.tmp rfl .nil)
                              obtain rfl := Option.some.inj H
                              exact leave ht rfl hres ⟨rfl, ((hm.pick [] rfl (by decide)).pickφ [] rfl).post fun _ h => h⟩
                            · replace H := ite_no h54 H
                              refine wpc_no ht rfl (decide_eq_false h54) ?_
                              refine wp_skip ?_
                              refine then_normal ?_
                              refine wp_seq ?_
                              refine wpr ?_
                              refine wpl rfl rfl ht (ev_assign ht rfl rfl) ?_
                              intro a ht
                              refine wpList_nil ?_
                              refine then_normal ?_
                              refine wp_ret ?_
                              have hres := ht.res (P := Try.prog) (w := w) (rs := [.tmp 4]) (vs := [.bool true]) (.tmp rfl .nil)
                              obtain rfl := Option.some.inj H
                              exact leave ht rfl hres ⟨rfl, ((hm.pick [] rfl (by decide)).pickφ [] rfl).post fun _ h => h⟩
                      · replace H := ite_no h50 H
                        refine wpl_no rfl rfl ht rfl (by rw [(not_f (Bool.eq_false_iff.mpr h50))]; decide) ?_
                        intro a ht
                        refine wpl_no rfl rfl ht rfl (by rw [(not_f (Bool.eq_false_iff.mpr h50))]; decide) ?_
                        intro a ht
                        refine wpl_no rfl rfl ht rfl (by rw [(not_f (Bool.eq_false_iff.mpr h50))]; decide) ?_
                        intro a ht
                        refine wpl rfl rfl ht (ev_pick_yes ht rfl rfl (not_f (Bool.eq_false_iff.mpr h50)) rfl) ?_
                        intro a ht
                        refine wpList_nil ?_
                        refine then_normal ?_
                        refine wpc_yes ht rfl rfl ?_
                        refine wp_seq ?_
                        refine wpr ?_
                        refine wpl rfl rfl ht (ev_assign ht rfl rfl) ?_
                        intro a ht
                        refine wpList_nil ?_
                        refine then_normal ?_
                        refine wp_ret ?_
                        refine then_ret ?_
                        have hres := ht.res (P := Try.prog) (w := w) (rs := [.tmp 4]) (vs := [.bool false]) (.tmp rfl .nil)
                        obtain rfl := Option.some.inj H
                        exact leave ht rfl hres ⟨rfl, ((hm.pick [] rfl (by decide)).pickφ [] rfl).post fun _ h => h⟩
              · replace H := ite_no h34 H
                refine wpl_no rfl rfl ht rfl (by rw [(not_f (Bool.eq_false_iff.mpr h34))]; decide) ?_
                intro a ht
                refine wpl_no rfl rfl ht rfl (by rw [(not_f (Bool.eq_false_iff.mpr h34))]; decide) ?_
                intro a ht
                refine wpl_no rfl rfl ht rfl (by rw [(not_f (Bool.eq_false_iff.mpr h34))]; decide) ?_
                intro a ht
                refine wpl rfl rfl ht (ev_pick_yes ht rfl rfl (not_f (Bool.eq_false_iff.mpr h34)) rfl) ?_
                intro a ht
                refine wpList_nil ?_
                refine then_normal ?_
                refine wpc_yes ht rfl rfl ?_
                refine wp_seq ?_
                refine wpr ?_
                refine wpl rfl rfl ht (ev_assign ht rfl rfl) ?_
                intro a ht
                refine wpList_nil ?_
                refine then_normal ?_
                refine wp_ret ?_
                refine then_ret ?_
                have hres := ht.res (P := Try.prog) (w := w) (rs := [.tmp 4]) (vs := [.bool false]) (.tmp rfl .nil)
                obtain rfl := Option.some.inj H
                exact leave ht rfl hres ⟨rfl, ((hm.pick [] rfl (by decide)).pickφ [] rfl).post fun _ h => h⟩
          · replace H := ite_no h30 H
            refine wpc_yes ht rfl (not_f (Bool.eq_false_iff.mpr h30)) ?_
            refine wp_seq ?_
            refine wpr ?_
            refine wpl rfl rfl ht (ev_assign ht rfl rfl) ?_
            intro a ht
            refine wpList_nil ?_
            refine then_normal ?_
            refine wp_ret ?_
            refine then_ret ?_
            have hres := ht.res (P := Try.prog) (w := w) (rs := [.tmp 4]) (vs := [.bool false]) (.tmp rfl .nil)
            obtain rfl := Option.some.inj H
            exact leave ht rfl hres ⟨rfl, ((hm.pick [] rfl (by decide)).pickφ [] rfl).post fun _ h => h⟩
      · replace H := ite_no h23 H
        refine wpl_no rfl rfl ht rfl (by rw [(not_f (Bool.eq_false_iff.mpr h23))]; decide) ?_
        intro a ht
        refine wpl_no rfl rfl ht rfl (by rw [(not_f (Bool.eq_false_iff.mpr h23))]; decide) ?_
        intro a ht
        refine wpl_no rfl rfl ht rfl (by rw [(not_f (Bool.eq_false_iff.mpr h23))]; decide) ?_
        intro a ht
        refine wpl rfl rfl ht (ev_pick_yes ht rfl rfl (not_f (Bool.eq_false_iff.mpr h23)) rfl) ?_
        intro a ht
        refine wpList_nil ?_
        refine then_normal ?_
        refine wpc_yes ht rfl rfl ?_
        refine wp_seq ?_
        refine wpr ?_
        refine wpl rfl rfl ht (ev_assign ht rfl rfl) ?_
        intro a ht
        refine wpList_nil ?_
        refine then_normal ?_
        refine wp_ret ?_
        refine then_ret ?_
        have hres := ht.res (P := Try.prog) (w := w) (rs := [.tmp 4]) (vs := [.bool false]) (.tmp rfl .nil)
        obtain rfl := Option.some.inj H
        exact leave ht rfl hres ⟨rfl, ((hm.pick [] rfl (by decide)).pickφ [] rfl).post fun _ h => h⟩

end Go.Proofs.Ytdpamdedomkomaa.G
