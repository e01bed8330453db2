/- What each Go function computes, as a Lean function, and the proof that it does: written by a program of this session (wip/gen), part 10. -/
import Derived.Test.YtocjhmeekecdiaaGFnExactFreeChanges9
namespace Go.Proofs.Ytocjhmeekecdiaa.G
open Go Go.RowKit Go.Proofs.Ytocjhmeekecdiaa.K
set_option linter.unusedVariables false
set_option linter.unusedSimpArgs false

/-! ### laws_FnExactFreeChanges: function 6 (loop.example/g01362/laws.FnExactFreeChanges) -/
def laws_FnExactFreeChanges.f (k : Nat) (aX : Col) (aSizes : List Int) : Option (Bool) := if (aSizes.length : Int) > 1048576 then (some true) else ((laws_toColouring.f k aX).bind fun t3 => (laws_toInt64S.f k aSizes).bind fun t4 => (spec_FreeChanges.f k t3 t4).bind fun t8 => (laws_toInt64S.f k aSizes).bind fun t13 => (laws_toColouring.f k aX).bind fun t17 => (impl_FreeChanges.f k t17 t13).bind fun t18 => (laws_eqInt64SS.f k t18.1 t8.1).bind fun t23 => if t23 = true then (if t18.2 ≠ t8.2 then (some false) else ((laws_toInt64S.f k aSizes).bind fun t26 => (laws_eqInt64S.f k t13 t26).bind fun t30 => if t30 = true then ((laws_markInt64S.f k t13 1).bind fun t32 => if t32.1 < 0 then (some false) else ((laws_eqInt64SS.f k t18.1 t8.1).bind fun t34 => if t34 = true then ((laws_markInt64SS.f k t18.1 1).bind fun t36 => (laws_heldInt64SS.f k t36.2 1).bind fun t37 => if t37 < 0 then (some false) else (if t37 ≠ t36.1 then (some false) else ((laws_toColouring.f k aX).bind fun t40 => (laws_toInt64S.f k aSizes).bind fun t41 => (impl_FreeChanges.f k t40 t41).bind fun t45 => (laws_eqInt64SS.f k t45.1 t8.1).bind fun t50 => if t50 = true then (if t45.2 ≠ t8.2 then (some false) else ((laws_heldInt64SS.f k t36.2 1).bind fun t53 => if t53 < 0 then (some false) else (if t53 ≠ t36.1 then (some false) else (some true)))) else (some false)))) else (some false))) else (some false))) else (some false))
set_option maxRecDepth 100000 in
set_option maxHeartbeats 1000000 in
theorem laws_FnExactFreeChanges.calls (k : Nat) (X : List Nat) (w0 : World) (A : Option Addr) (c : Nat) (m : Nat) (aX : Col) (aSizes : List Int) (r : Bool)
    (hp : Pre X w0 [] [IntsAt A c m aSizes]) (H : laws_FnExactFreeChanges.f k aX aSizes = some r) :
    Calls Try.prog 6 [.agg (Col.cells aX).toArray, .slice A m c].toArray w0 (Ret fun v w => v = .bool r ∧ Post X (fps []) w0 [] [] w) := by
  unfold laws_FnExactFreeChanges.f at H
  refine enterM (n := 101) hp Try.func6 rfl rfl (Nat.le_of_ble_eq_true rfl) fun a w ht hm => ?_
  refine wp_seq ?_
  refine wpr ?_
  refine wpl_box rfl rfl ht hm rfl rfl rfl ?_
  intro b1 a ht w hm
  refine wpl rfl rfl ht (ev_assign ht rfl rfl) ?_
  intro a ht
  refine wpList_nil ?_
  refine then_normal ?_
  refine wp_seq ?_
  refine wp_seq ?_
  refine wpr ?_
  refine wpl rfl rfl ht (ev_move ht rfl rfl) ?_
  intro a ht
  refine wpl rfl rfl ht (ev_len_of ht rfl rfl und_25 (hm.fact (φ := IntsAt A c m aSizes) 0 rfl)) ?_
  intro a ht
  refine wpl rfl rfl ht (ev_cmp ht rfl rfl rfl rfl) ?_
  intro a ht
  refine wpList_nil ?_
  refine then_normal ?_
  by_cases h2 : (aSizes.length : Int) > 1048576
  · replace H := ite_yes h2 H
    refine wpc_yes ht rfl (decide_eq_true h2) ?_
    refine wp_seq ?_
    refine wpr ?_
    refine wpl rfl rfl ht (ev_assign ht rfl rfl) ?_
    intro a ht
    refine wpList_nil ?_
    refine then_normal ?_
    refine wp_ret ?_
    refine then_ret ?_
    have hres := ht.res (P := Try.prog) (w := w) (rs := [.tmp 4]) (vs := [.bool true]) (.tmp rfl .nil)
    obtain rfl := Option.some.inj H
    exact leave ht rfl hres ⟨rfl, ((hm.pick [] rfl (by decide)).pickφ [] rfl).post fun _ h => h⟩
  · replace H := ite_no h2 H
    refine wpc_no ht rfl (decide_eq_false h2) ?_
    refine wp_skip ?_
    refine then_normal ?_
    refine wp_seq ?_
    refine wpr ?_
    refine wpl rfl rfl ht (ev_load_agg ht rfl rfl (ag_24.trans (by first | rw [Col.length_cells] | rfl)) (hm.blk_all 0 rfl)) ?_
    intro a ht
    obtain ⟨t3, et3, H⟩ := bind_get H
    have hcall := laws_toColouring.calls k _ _ aX _ ((fun (hq : Ms _ _ _ ([] ++ [.blk b1 24 (Col.cells aX)]) _ _) => hq.lend (φp := []) (allRO_nil)) (hm.pick (own' := [] ++ [.blk b1 24 (Col.cells aX)]) [0] rfl (by decide))) et3
    refine wpl_call _ rfl rfl ht rfl rfl rfl rfl can_10 hcall ?_
    clear hcall
    rintro _ w ⟨rfl, hpost⟩ a ht
    replace hm := (hm.pick (own' := [] ++ [.blk b1 24 (Col.cells aX)]) [0] rfl (by decide)).backL hpost
    clear hpost
    refine wpl rfl rfl ht (ev_move ht rfl rfl) ?_
    intro a ht
    obtain ⟨t4, et4, H⟩ := bind_get H
    have hcall := laws_toInt64S.calls k _ _ A c m aSizes _ ((fun (hq : Ms _ _ _ ([] ++ [.blk b1 24 (Col.cells aX)]) _ _) => hq.lend (φp := [IntsAt A c m aSizes]) (allRO_cons (hq.lendFact 0 rfl) (allRO_nil))) (hm.pick (own' := [] ++ [.blk b1 24 (Col.cells aX)]) [0] rfl (by decide))) et4
    refine wpl_call _ rfl rfl ht rfl rfl rfl rfl can_11 hcall ?_
    clear hcall
    rintro _ w ⟨A5, c6, m7, rfl, hpost⟩ a ht
    replace hm := (hm.pick (own' := [] ++ [.blk b1 24 (Col.cells aX)]) [0] rfl (by decide)).backL hpost
    clear hpost
    replace hm : Ms _ _ _ _ (IntsAt A5 c6 m7 t4 :: _) w := hm.shutVec 0 rfl
    obtain ⟨t8, et8, H⟩ := bind_get H
    have hcall := spec_FreeChanges.calls k _ _ A5 c6 m7 t3 t4 _ ((hm.pick (own' := [] ++ [.blk b1 24 (Col.cells aX)]) [0] rfl (by decide)).give (passed := []) (rest := [.blk b1 24 (Col.cells aX)]) (φp := [IntsAt A5 c6 m7 t4]) [0] rfl) et8
    refine wpl_call _ rfl rfl ht rfl rfl rfl rfl can_20 hcall ?_
    clear hcall
    rintro _ w ⟨A9, c10, m11, vs12, rfl, hpost⟩ a ht
    replace hm := (hm.pick (own' := [] ++ [.blk b1 24 (Col.cells aX)]) [0] rfl (by decide)).back hpost
    clear hpost
    refine wpl rfl rfl ht (ev_move ht rfl rfl) ?_
    intro a ht
    refine wpl rfl rfl ht (ev_extract ht rfl rfl rfl) ?_
    intro a ht
    refine wpl rfl rfl ht (ev_extract ht rfl rfl rfl) ?_
    intro a ht
    refine wpl rfl rfl ht (ev_assign ht rfl rfl) ?_
    intro a ht
    refine wpl rfl rfl ht (ev_assign ht rfl rfl) ?_
    intro a ht
    refine wpList_nil ?_
    refine then_normal ?_
    refine wp_seq ?_
    refine wpr ?_
    refine wpl rfl rfl ht (ev_move ht rfl rfl) ?_
    intro a ht
    obtain ⟨t13, et13, H⟩ := bind_get H
    have hcall := laws_toInt64S.calls k _ _ A c m aSizes _ ((fun (hq : Ms _ _ _ ([] ++ [.vec A9 c10 25 1 m11 vs12, .blk b1 24 (Col.cells aX)]) _ _) => hq.lend (φp := [IntsAt A c m aSizes]) (allRO_cons (hq.lendFact 2 rfl) (allRO_nil))) (hm.pick (own' := [] ++ [.vec A9 c10 25 1 m11 vs12, .blk b1 24 (Col.cells aX)]) [0, 1] rfl (by decide))) et13
    refine wpl_call _ rfl rfl ht rfl rfl rfl rfl can_11 hcall ?_
    clear hcall
    rintro _ w ⟨A14, c15, m16, rfl, hpost⟩ a ht
    replace hm := (hm.pick (own' := [] ++ [.vec A9 c10 25 1 m11 vs12, .blk b1 24 (Col.cells aX)]) [0, 1] rfl (by decide)).backL hpost
    clear hpost
    refine wpl rfl rfl ht (ev_assign ht rfl rfl) ?_
    intro a ht
    refine wpList_nil ?_
    refine then_normal ?_
    refine wp_seq ?_
    refine wpr ?_
    refine wpl rfl rfl ht (ev_load_agg ht rfl rfl (ag_24.trans (by first | rw [Col.length_cells] | rfl)) (hm.blk_all 2 rfl)) ?_
    intro a ht
    obtain ⟨t17, et17, H⟩ := bind_get H
    have hcall := laws_toColouring.calls k _ _ aX _ ((fun (hq : Ms _ _ _ ([] ++ [.vec A14 c15 2 1 m16 (ints t13), .vec A9 c10 25 1 m11 vs12, .blk b1 24 (Col.cells aX)]) _ _) => hq.lend (φp := []) (allRO_nil)) (hm.pick (own' := [] ++ [.vec A14 c15 2 1 m16 (ints t13), .vec A9 c10 25 1 m11 vs12, .blk b1 24 (Col.cells aX)]) [0, 1, 2] rfl (by decide))) et17
    refine wpl_call _ rfl rfl ht rfl rfl rfl rfl can_10 hcall ?_
    clear hcall
    rintro _ w ⟨rfl, hpost⟩ a ht
    replace hm := (hm.pick (own' := [] ++ [.vec A14 c15 2 1 m16 (ints t13), .vec A9 c10 25 1 m11 vs12, .blk b1 24 (Col.cells aX)]) [0, 1, 2] rfl (by decide)).backL hpost
    clear hpost
    refine wpl rfl rfl ht (ev_move ht rfl rfl) ?_
    intro a ht
    obtain ⟨t18, et18, H⟩ := bind_get H
    have hcall := impl_FreeChanges.calls k _ _ A14 c15 m16 t17 t13 _ ((fun (hq : Ms _ _ _ ([] ++ [.vec A14 c15 2 1 m16 (ints t13), .vec A9 c10 25 1 m11 vs12, .blk b1 24 (Col.cells aX)]) _ _) => hq.lend (φp := [IntsAt A14 c15 m16 t13]) (allRO_cons (hq.lendVec 0 rfl) (allRO_nil))) (hm.pick (own' := [] ++ [.vec A14 c15 2 1 m16 (ints t13), .vec A9 c10 25 1 m11 vs12, .blk b1 24 (Col.cells aX)]) [0, 1, 2] rfl (by decide))) et18
    refine wpl_call _ rfl rfl ht rfl rfl rfl rfl can_21 hcall ?_
    clear hcall
    rintro _ w ⟨A19, c20, m21, vs22, rfl, hpost⟩ a ht
    replace hm := (hm.pick (own' := [] ++ [.vec A14 c15 2 1 m16 (ints t13), .vec A9 c10 25 1 m11 vs12, .blk b1 24 (Col.cells aX)]) [0, 1, 2] rfl (by decide)).backL hpost
    clear hpost
    refine wpl rfl rfl ht (ev_move ht rfl rfl) ?_
    intro a ht
    refine wpl rfl rfl ht (ev_extract ht rfl rfl rfl) ?_
    intro a ht
    refine wpl rfl rfl ht (ev_extract ht rfl rfl rfl) ?_
    intro a ht
    refine wpl rfl rfl ht (ev_assign ht rfl rfl) ?_
    intro a ht
    refine wpl rfl rfl ht (ev_assign ht rfl rfl) ?_
    intro a ht
    refine wpList_nil ?_
    refine then_normal ?_
    refine wp_seq ?_
    refine wp_seq ?_
    refine wpr ?_
    refine wpl rfl rfl ht (ev_move ht rfl rfl) ?_
    intro a ht
    refine wpl rfl rfl ht (ev_move ht rfl rfl) ?_
    intro a ht
    obtain ⟨t23, et23, H⟩ := bind_get H
    have hcall := laws_eqInt64SS.calls k _ _ A19 c20 m21 vs22 A9 c10 m11 vs12 t18.1 t8.1 _ ((fun (hq : Ms _ _ _ ([] ++ [.vecs A19 c20 25 2 m21 vs22 t18.1, .vec A14 c15 2 1 m16 (ints t13), .vec A9 c10 25 1 m11 vs12, .blk b1 24 (Col.cells aX)]) _ _) => hq.lend (φp := [RowsAt A19 c20 m21 vs22 t18.1, RowsAt A9 c10 m11 vs12 t8.1]) (allRO_cons (hq.lendVecs 0 rfl) (allRO_cons (hq.lendRows 2 0 rfl rfl) (allRO_nil)))) (hm.pick (own' := [] ++ [.vecs A19 c20 25 2 m21 vs22 t18.1, .vec A14 c15 2 1 m16 (ints t13), .vec A9 c10 25 1 m11 vs12, .blk b1 24 (Col.cells aX)]) [0, 1, 2, 3] rfl (by decide))) et23
    refine wpl_call _ rfl rfl ht rfl rfl rfl rfl can_22 hcall ?_
    clear hcall
    rintro _ w ⟨rfl, hpost⟩ a ht
    replace hm := (hm.pick (own' := [] ++ [.vecs A19 c20 25 2 m21 vs22 t18.1, .vec A14 c15 2 1 m16 (ints t13), .vec A9 c10 25 1 m11 vs12, .blk b1 24 (Col.cells aX)]) [0, 1, 2, 3] rfl (by decide)).backL hpost
    clear hpost
    refine wpl rfl rfl ht (ev_not ht rfl rfl) ?_
    intro a ht
    refine wpl rfl rfl ht (ev_move ht rfl rfl) ?_
    intro a ht
    by_cases h24 : t23 = true
    · replace H := ite_yes h24 H
      refine wpl_yes rfl ht rfl ((not_t h24)) ?_
      refine wpl rfl rfl ht (ev_move ht rfl rfl) ?_
      intro a ht
      refine wpl_yes rfl ht rfl ((not_t h24)) ?_
      refine wpl rfl rfl ht (ev_move ht rfl rfl) ?_
      intro a ht
      refine wpl_yes rfl ht rfl ((not_t h24)) ?_
      refine wpl rfl rfl ht (ev_cmp ht rfl rfl rfl rfl) ?_
      intro a ht
      refine wpl rfl rfl ht (ev_pick_no ht rfl rfl (not_t h24) rfl) ?_
      intro a ht
      refine wpList_nil ?_
      refine then_normal ?_
      by_cases h25 : t18.2 ≠ t8.2
      · replace H := ite_yes h25 H
        refine wpc_yes ht rfl (decide_eq_true h25) ?_
        refine wp_seq ?_
        refine wpr ?_
        refine wpl rfl rfl ht (ev_assign ht rfl rfl) ?_
        intro a ht
        refine wpList_nil ?_
        refine then_normal ?_
        refine wp_ret ?_
        refine then_ret ?_
        have hres := ht.res (P := Try.prog) (w := w) (rs := [.tmp 4]) (vs := [.bool false]) (.tmp rfl .nil)
        obtain rfl := Option.some.inj H
        exact leave ht rfl hres ⟨rfl, ((hm.pick [] rfl (by decide)).pickφ [] rfl).post fun _ h => h⟩
      · replace H := ite_no h25 H
        refine wpc_no ht rfl (decide_eq_false h25) ?_
        refine wp_skip ?_
        refine then_normal ?_
        refine wp_seq ?_
        refine wp_seq ?_
        refine wpr ?_
        refine wpl rfl rfl ht (ev_move ht rfl rfl) ?_
        intro a ht
        refine wpl rfl rfl ht (ev_move ht rfl rfl) ?_
        intro a ht
        obtain ⟨t26, et26, H⟩ := bind_get H
        have hcall := laws_toInt64S.calls k _ _ A c m aSizes _ ((fun (hq : Ms _ _ _ ([] ++ [.vecs A19 c20 25 2 m21 vs22 t18.1, .vec A14 c15 2 1 m16 (ints t13), .vec A9 c10 25 1 m11 vs12, .blk b1 24 (Col.cells aX)]) _ _) => hq.lend (φp := [IntsAt A c m aSizes]) (allRO_cons (hq.lendFact 2 rfl) (allRO_nil))) (hm.pick (own' := [] ++ [.vecs A19 c20 25 2 m21 vs22 t18.1, .vec A14 c15 2 1 m16 (ints t13), .vec A9 c10 25 1 m11 vs12, .blk b1 24 (Col.cells aX)]) [0, 1, 2, 3] rfl (by decide))) et26
        refine wpl_call _ rfl rfl ht rfl rfl rfl rfl can_11 hcall ?_
        clear hcall
        rintro _ w ⟨A27, c28, m29, rfl, hpost⟩ a ht
        replace hm := (hm.pick (own' := [] ++ [.vecs A19 c20 25 2 m21 vs22 t18.1, .vec A14 c15 2 1 m16 (ints t13), .vec A9 c10 25 1 m11 vs12, .blk b1 24 (Col.cells aX)]) [0, 1, 2, 3] rfl (by decide)).backL hpost
        clear hpost
        obtain ⟨t30, et30, H⟩ := bind_get H
        have hcall := laws_eqInt64S.calls k _ _ A14 c15 m16 A27 c28 m29 t13 t26 _ ((fun (hq : Ms _ _ _ ([] ++ [.vec A27 c28 2 1 m29 (ints t26), .vecs A19 c20 25 2 m21 vs22 t18.1, .vec A14 c15 2 1 m16 (ints t13), .vec A9 c10 25 1 m11 vs12, .blk b1 24 (Col.cells aX)]) _ _) => hq.lend (φp := [IntsAt A14 c15 m16 t13, IntsAt A27 c28 m29 t26]) (allRO_cons (hq.lendVec 2 rfl) (allRO_cons (hq.lendVec 0 rfl) (allRO_nil)))) (hm.pick (own' := [] ++ [.vec A27 c28 2 1 m29 (ints t26), .vecs A19 c20 25 2 m21 vs22 t18.1, .vec A14 c15 2 1 m16 (ints t13), .vec A9 c10 25 1 m11 vs12, .blk b1 24 (Col.cells aX)]) [0, 1, 2, 3, 4] rfl (by decide))) et30
        refine wpl_call _ rfl rfl ht rfl rfl rfl rfl can_13 hcall ?_
        clear hcall
        rintro _ w ⟨rfl, hpost⟩ a ht
        replace hm := (hm.pick (own' := [] ++ [.vec A27 c28 2 1 m29 (ints t26), .vecs A19 c20 25 2 m21 vs22 t18.1, .vec A14 c15 2 1 m16 (ints t13), .vec A9 c10 25 1 m11 vs12, .blk b1 24 (Col.cells aX)]) [0, 1, 2, 3, 4] rfl (by decide)).backL hpost
        clear hpost
        refine wpl rfl rfl ht (ev_not ht rfl rfl) ?_
        intro a ht
        refine wpList_nil ?_
        refine then_normal ?_
        by_cases h31 : t30 = true
        · replace H := ite_yes h31 H
          refine wpc_no ht rfl (not_t h31) ?_
          refine wp_skip ?_
          refine then_normal ?_
          refine wp_seq ?_
          refine wpr ?_
          refine wpl rfl rfl ht (ev_assign ht rfl rfl) ?_
          intro a ht
          refine wpList_nil ?_
          refine then_normal ?_
          refine wp_seq ?_
          refine wpr ?_
          refine wpl rfl rfl ht (ev_move ht rfl rfl) ?_
          intro a ht
          refine wpl rfl rfl ht (ev_move ht rfl rfl) ?_
          intro a ht
          obtain ⟨t32, et32, H⟩ := bind_get H
          have hcall := laws_markInt64S.calls k _ _ A14 c15 m16 t13 1 _ ((fun (hq : Ms _ _ _ ([.vec A14 c15 2 1 m16 (ints t13)] ++ [.vec A27 c28 2 1 m29 (ints t26), .vecs A19 c20 25 2 m21 vs22 t18.1, .vec A9 c10 25 1 m11 vs12, .blk b1 24 (Col.cells aX)]) _ _) => hq.lend (φp := []) (allRO_nil)) (hm.pick (own' := [.vec A14 c15 2 1 m16 (ints t13)] ++ [.vec A27 c28 2 1 m29 (ints t26), .vecs A19 c20 25 2 m21 vs22 t18.1, .vec A9 c10 25 1 m11 vs12, .blk b1 24 (Col.cells aX)]) [2, 0, 1, 3, 4] rfl (by decide))) et32
          refine wpl_call _ rfl rfl ht rfl rfl rfl rfl can_14 hcall ?_
          clear hcall
          rintro _ w ⟨rfl, hpost⟩ a ht
          replace hm := (hm.pick (own' := [.vec A14 c15 2 1 m16 (ints t13)] ++ [.vec A27 c28 2 1 m29 (ints t26), .vecs A19 c20 25 2 m21 vs22 t18.1, .vec A9 c10 25 1 m11 vs12, .blk b1 24 (Col.cells aX)]) [2, 0, 1, 3, 4] rfl (by decide)).backL hpost
          clear hpost
          refine wpl rfl rfl ht (ev_assign ht rfl rfl) ?_
          intro a ht
          refine wpList_nil ?_
          refine then_normal ?_
          refine wp_seq ?_
          refine wp_seq ?_
          refine wpr ?_
          refine wpl rfl rfl ht (ev_move ht rfl rfl) ?_
          intro a ht
          refine wpl rfl rfl ht (ev_cmp ht rfl rfl rfl rfl) ?_
          intro a ht
          refine wpl rfl rfl ht (ev_move ht rfl rfl) ?_
          intro a ht
          by_cases h33 : t32.1 < 0
          · replace H := ite_yes h33 H
            refine wpl_no rfl rfl ht rfl (by rw [(decide_eq_true h33)]; decide) ?_
            intro a ht
            refine wpl_no rfl rfl ht rfl (by rw [(decide_eq_true h33)]; decide) ?_
            intro a ht
            refine wpl_no rfl rfl ht rfl (by rw [(decide_eq_true h33)]; decide) ?_
            intro a ht
            refine wpl_no rfl rfl ht rfl (by rw [(decide_eq_true h33)]; decide) ?_
            intro a ht
            refine wpl rfl rfl ht (ev_pick_yes ht rfl rfl (decide_eq_true h33) rfl) ?_
            intro a ht
            refine wpl rfl rfl ht (ev_move ht rfl rfl) ?_
            intro a ht
            refine wpl_no rfl rfl ht rfl (by decide) ?_
            intro a ht
            refine wpl_no rfl rfl ht rfl (by decide) ?_
            intro a ht
            refine wpl_no rfl rfl ht rfl (by decide) ?_
            intro a ht
            refine wpl rfl rfl ht (ev_pick_yes ht rfl rfl rfl rfl) ?_
            intro a ht
            refine wpList_nil ?_
            refine then_normal ?_
            refine wpc_yes ht rfl rfl ?_
            refine wp_seq ?_
            refine wpr ?_
            refine wpl rfl rfl ht (ev_assign ht rfl rfl) ?_
            intro a ht
            refine wpList_nil ?_
            refine then_normal ?_
            refine wp_ret ?_
            refine then_ret ?_
            have hres := ht.res (P := Try.prog) (w := w) (rs := [.tmp 4]) (vs := [.bool false]) (.tmp rfl .nil)
            obtain rfl := Option.some.inj H
            exact leave ht rfl hres ⟨rfl, ((hm.pick [] rfl (by decide)).pickφ [] rfl).post fun _ h => h⟩
          · replace H := ite_no h33 H
            refine wpl_yes rfl ht rfl ((decide_eq_false h33)) ?_
            refine wpl rfl rfl ht (ev_move ht rfl rfl) ?_
            intro a ht
            refine wpl_yes rfl ht rfl ((decide_eq_false h33)) ?_
            refine wpl rfl rfl ht (ev_move ht rfl rfl) ?_
            intro a ht
            refine wpl_yes rfl ht rfl ((decide_eq_false h33)) ?_
            obtain ⟨t34, et34, H⟩ := bind_get H
            have hcall := laws_eqInt64SS.calls k _ _ A19 c20 m21 vs22 A9 c10 m11 vs12 t18.1 t8.1 _ ((fun (hq : Ms _ _ _ ([] ++ [.vec A14 c15 2 1 m16 (ints t32.2), .vec A27 c28 2 1 m29 (ints t26), .vecs A19 c20 25 2 m21 vs22 t18.1, .vec A9 c10 25 1 m11 vs12, .blk b1 24 (Col.cells aX)]) _ _) => hq.lend (φp := [RowsAt A19 c20 m21 vs22 t18.1, RowsAt A9 c10 m11 vs12 t8.1]) (allRO_cons (hq.lendVecs 2 rfl) (allRO_cons (hq.lendRows 3 0 rfl rfl) (allRO_nil)))) (hm.pick (own' := [] ++ [.vec A14 c15 2 1 m16 (ints t32.2), .vec A27 c28 2 1 m29 (ints t26), .vecs A19 c20 25 2 m21 vs22 t18.1, .vec A9 c10 25 1 m11 vs12, .blk b1 24 (Col.cells aX)]) [0, 1, 2, 3, 4] rfl (by decide))) et34
            refine wpl_call _ rfl rfl ht rfl rfl rfl rfl can_22 hcall ?_
            clear hcall
            rintro _ w ⟨rfl, hpost⟩ a ht
            replace hm := (hm.pick (own' := [] ++ [.vec A14 c15 2 1 m16 (ints t32.2), .vec A27 c28 2 1 m29 (ints t26), .vecs A19 c20 25 2 m21 vs22 t18.1, .vec A9 c10 25 1 m11 vs12, .blk b1 24 (Col.cells aX)]) [0, 1, 2, 3, 4] rfl (by decide)).backL hpost
            clear hpost
            refine wpl_yes rfl ht rfl ((decide_eq_false h33)) ?_
            refine wpl rfl rfl ht (ev_not ht rfl rfl) ?_
            intro a ht
            refine wpl rfl rfl ht (ev_pick_no ht rfl rfl (decide_eq_false h33) rfl) ?_
            intro a ht
            refine wpl rfl rfl ht (ev_move ht rfl rfl) ?_
            intro a ht
            by_cases h35 : t34 = true
            · replace H := ite_yes h35 H
              refine wpl_yes rfl ht rfl ((not_t h35)) ?_
              refine wpl rfl rfl ht (ev_move ht rfl rfl) ?_
              intro a ht
              refine wpl_yes rfl ht rfl ((not_t h35)) ?_
              refine wpl rfl rfl ht (ev_move ht rfl rfl) ?_
              intro a ht
              refine wpl_yes rfl ht rfl ((not_t h35)) ?_
              refine wpl rfl rfl ht (ev_cmp ht rfl rfl rfl rfl) ?_
              intro a ht
              refine wpl rfl rfl ht (ev_pick_no ht rfl rfl (not_t h35) rfl) ?_
              intro a ht
              refine wpList_nil ?_
              refine then_normal ?_
              refine wpc_no ht rfl (decide_eq_false h25) ?_
              refine wp_skip ?_
              refine then_normal ?_
              refine wp_seq ?_
              refine wpr ?_
              refine wpl rfl rfl ht (ev_assign ht rfl rfl) ?_
              intro a ht
              refine wpList_nil ?_
              refine then_normal ?_
              refine wp_seq ?_
              refine wpr ?_
              refine wpl rfl rfl ht (ev_move ht rfl rfl) ?_
              intro a ht
              refine wpl rfl rfl ht (ev_move ht rfl rfl) ?_
              intro a ht
              obtain ⟨t36, et36, H⟩ := bind_get H
              have hcall := laws_markInt64SS.calls k _ _ A19 c20 m21 vs22 t18.1 1 _ ((fun (hq : Ms _ _ _ ([.vecs A19 c20 25 2 m21 vs22 t18.1] ++ [.vec A14 c15 2 1 m16 (ints t32.2), .vec A27 c28 2 1 m29 (ints t26), .vec A9 c10 25 1 m11 vs12, .blk b1 24 (Col.cells aX)]) _ _) => hq.lend (φp := []) (allRO_nil)) (hm.pick (own' := [.vecs A19 c20 25 2 m21 vs22 t18.1] ++ [.vec A14 c15 2 1 m16 (ints t32.2), .vec A27 c28 2 1 m29 (ints t26), .vec A9 c10 25 1 m11 vs12, .blk b1 24 (Col.cells aX)]) [2, 0, 1, 3, 4] rfl (by decide))) et36
              refine wpl_call _ rfl rfl ht rfl rfl rfl rfl can_23 hcall ?_
              clear hcall
              rintro _ w ⟨rfl, hpost⟩ a ht
              replace hm := (hm.pick (own' := [.vecs A19 c20 25 2 m21 vs22 t18.1] ++ [.vec A14 c15 2 1 m16 (ints t32.2), .vec A27 c28 2 1 m29 (ints t26), .vec A9 c10 25 1 m11 vs12, .blk b1 24 (Col.cells aX)]) [2, 0, 1, 3, 4] rfl (by decide)).backL hpost
              clear hpost
              refine wpl rfl rfl ht (ev_assign ht rfl rfl) ?_
              intro a ht
              refine wpList_nil ?_
              refine then_normal ?_
              refine wp_seq ?_
              refine wpr ?_
              refine wpl rfl rfl ht (ev_assign ht rfl rfl) ?_
              intro a ht
              refine wpList_nil ?_
              refine then_normal ?_
              refine wp_seq ?_
              refine wpr ?_
              refine wpl rfl rfl ht (ev_move ht rfl rfl) ?_
              intro a ht
              refine wpl rfl rfl ht (ev_move ht rfl rfl) ?_
              intro a ht
              obtain ⟨t37, et37, H⟩ := bind_get H
              have hcall := laws_heldInt64SS.calls k _ _ A19 c20 m21 vs22 t36.2 1 _ ((fun (hq : Ms _ _ _ ([] ++ [.vecs A19 c20 25 2 m21 vs22 t36.2, .vec A14 c15 2 1 m16 (ints t32.2), .vec A27 c28 2 1 m29 (ints t26), .vec A9 c10 25 1 m11 vs12, .blk b1 24 (Col.cells aX)]) _ _) => hq.lend (φp := [RowsAt A19 c20 m21 vs22 t36.2]) (allRO_cons (hq.lendVecs 0 rfl) (allRO_nil))) (hm.pick (own' := [] ++ [.vecs A19 c20 25 2 m21 vs22 t36.2, .vec A14 c15 2 1 m16 (ints t32.2), .vec A27 c28 2 1 m29 (ints t26), .vec A9 c10 25 1 m11 vs12, .blk b1 24 (Col.cells aX)]) [0, 1, 2, 3, 4] rfl (by decide))) et37
              refine wpl_call _ rfl rfl ht rfl rfl rfl rfl can_24 hcall ?_
              clear hcall
              rintro _ w ⟨rfl, hpost⟩ a ht
              replace hm := (hm.pick (own' := [] ++ [.vecs A19 c20 25 2 m21 vs22 t36.2, .vec A14 c15 2 1 m16 (ints t32.2), .vec A27 c28 2 1 m29 (ints t26), .vec A9 c10 25 1 m11 vs12, .blk b1 24 (Col.cells aX)]) [0, 1, 2, 3, 4] rfl (by decide)).backL hpost
              clear hpost
              refine wpl rfl rfl ht (ev_assign ht rfl rfl) ?_
              intro a ht
              refine wpList_nil ?_
              refine then_normal ?_
              refine wp_seq ?_
              refine wp_seq ?_
              refine wpr ?_
              refine wpl rfl rfl ht (ev_move ht rfl rfl) ?_
              intro a ht
              refine wpl rfl rfl ht (ev_cmp ht rfl rfl rfl rfl) ?_
              intro a ht
              refine wpList_nil ?_
              refine then_normal ?_
              by_cases h38 : t37 < 0
              · replace H := ite_yes h38 H
                refine wpc_yes ht rfl (decide_eq_true h38) ?_
                refine wp_seq ?_
                refine wpr ?_
                refine wpl rfl rfl ht (ev_assign ht rfl rfl) ?_
                intro a ht
                refine wpList_nil ?_
                refine then_normal ?_
                refine wp_ret ?_
                refine then_ret ?_
                have hres := ht.res (P := Try.prog) (w := w) (rs := [.tmp 4]) (vs := [.bool false]) (.tmp rfl .nil)
                obtain rfl := Option.some.inj H
                exact leave ht rfl hres ⟨rfl, ((hm.pick [] rfl (by decide)).pickφ [] rfl).post fun _ h => h⟩
              · replace H := ite_no h38 H
                refine wpc_no ht rfl (decide_eq_false h38) ?_
                refine wp_skip ?_
                refine then_normal ?_
                refine wp_seq ?_
                refine wp_seq ?_
                refine wpr ?_
                refine wpl rfl rfl ht (ev_move ht rfl rfl) ?_
                intro a ht
                refine wpl rfl rfl ht (ev_move ht rfl rfl) ?_
                intro a ht
                refine wpl rfl rfl ht (ev_cmp ht rfl rfl rfl rfl) ?_
                intro a ht
                refine wpList_nil ?_
                refine then_normal ?_
                by_cases h39 : t37 ≠ t36.1
                · replace H := ite_yes h39 H
                  refine wpc_yes ht rfl (decide_eq_true h39) ?_
                  refine wp_seq ?_
                  refine wpr ?_
                  refine wpl rfl rfl ht (ev_assign ht rfl rfl) ?_
                  intro a ht
                  refine wpList_nil ?_
                  refine then_normal ?_
                  refine wp_ret ?_
                  refine then_ret ?_
                  have hres := ht.res (P := Try.prog) (w := w) (rs := [.tmp 4]) (vs := [.bool false]) (.tmp rfl .nil)
                  obtain rfl := Option.some.inj H
                  exact leave ht rfl hres ⟨rfl, ((hm.pick [] rfl (by decide)).pickφ [] rfl).post fun _ h => h⟩
                · replace H := ite_no h39 H
                  refine wpc_no ht rfl (decide_eq_false h39) ?_
                  refine wp_skip ?_
                  refine then_normal ?_
                  refine wp_seq ?_
                  refine wpr ?_
                  refine wpl rfl rfl ht (ev_load_agg ht rfl rfl (ag_24.trans (by first | rw [Col.length_cells] | rfl)) (hm.blk_all 4 rfl)) ?_
                  intro a ht
                  obtain ⟨t40, et40, H⟩ := bind_get H
                  have hcall := laws_toColouring.calls k _ _ aX _ ((fun (hq : Ms _ _ _ ([] ++ [.vecs A19 c20 25 2 m21 vs22 t36.2, .vec A14 c15 2 1 m16 (ints t32.2), .vec A27 c28 2 1 m29 (ints t26), .vec A9 c10 25 1 m11 vs12, .blk b1 24 (Col.cells aX)]) _ _) => hq.lend (φp := []) (allRO_nil)) (hm.pick (own' := [] ++ [.vecs A19 c20 25 2 m21 vs22 t36.2, .vec A14 c15 2 1 m16 (ints t32.2), .vec A27 c28 2 1 m29 (ints t26), .vec A9 c10 25 1 m11 vs12, .blk b1 24 (Col.cells aX)]) [0, 1, 2, 3, 4] rfl (by decide))) et40
                  refine wpl_call _ rfl rfl ht rfl rfl rfl rfl can_10 hcall ?_
                  clear hcall
                  rintro _ w ⟨rfl, hpost⟩ a ht
                  replace hm := (hm.pick (own' := [] ++ [.vecs A19 c20 25 2 m21 vs22 t36.2, .vec A14 c15 2 1 m16 (ints t32.2), .vec A27 c28 2 1 m29 (ints t26), .vec A9 c10 25 1 m11 vs12, .blk b1 24 (Col.cells aX)]) [0, 1, 2, 3, 4] rfl (by decide)).backL hpost
                  clear hpost
                  refine wpl rfl rfl ht (ev_move ht rfl rfl) ?_
                  intro a ht
                  obtain ⟨t41, et41, H⟩ := bind_get H
                  have hcall := laws_toInt64S.calls k _ _ A c m aSizes _ ((fun (hq : Ms _ _ _ ([] ++ [.vecs A19 c20 25 2 m21 vs22 t36.2, .vec A14 c15 2 1 m16 (ints t32.2), .vec A27 c28 2 1 m29 (ints t26), .vec A9 c10 25 1 m11 vs12, .blk b1 24 (Col.cells aX)]) _ _) => hq.lend (φp := [IntsAt A c m aSizes]) (allRO_cons (hq.lendFact 2 rfl) (allRO_nil))) (hm.pick (own' := [] ++ [.vecs A19 c20 25 2 m21 vs22 t36.2, .vec A14 c15 2 1 m16 (ints t32.2), .vec A27 c28 2 1 m29 (ints t26), .vec A9 c10 25 1 m11 vs12, .blk b1 24 (Col.cells aX)]) [0, 1, 2, 3, 4] rfl (by decide))) et41
                  refine wpl_call _ rfl rfl ht rfl rfl rfl rfl can_11 hcall ?_
                  clear hcall
                  rintro _ w ⟨A42, c43, m44, rfl, hpost⟩ a ht
                  replace hm := (hm.pick (own' := [] ++ [.vecs A19 c20 25 2 m21 vs22 t36.2, .vec A14 c15 2 1 m16 (ints t32.2), .vec A27 c28 2 1 m29 (ints t26), .vec A9 c10 25 1 m11 vs12, .blk b1 24 (Col.cells aX)]) [0, 1, 2, 3, 4] rfl (by decide)).backL hpost
                  clear hpost
                  obtain ⟨t45, et45, H⟩ := bind_get H
                  have hcall := impl_FreeChanges.calls k _ _ A42 c43 m44 t40 t41 _ ((fun (hq : Ms _ _ _ ([] ++ [.vec A42 c43 2 1 m44 (ints t41), .vecs A19 c20 25 2 m21 vs22 t36.2, .vec A14 c15 2 1 m16 (ints t32.2), .vec A27 c28 2 1 m29 (ints t26), .vec A9 c10 25 1 m11 vs12, .blk b1 24 (Col.cells aX)]) _ _) => hq.lend (φp := [IntsAt A42 c43 m44 t41]) (allRO_cons (hq.lendVec 0 rfl) (allRO_nil))) (hm.pick (own' := [] ++ [.vec A42 c43 2 1 m44 (ints t41), .vecs A19 c20 25 2 m21 vs22 t36.2, .vec A14 c15 2 1 m16 (ints t32.2), .vec A27 c28 2 1 m29 (ints t26), .vec A9 c10 25 1 m11 vs12, .blk b1 24 (Col.cells aX)]) [0, 1, 2, 3, 4, 5] rfl (by decide))) et45
                  refine wpl_call _ rfl rfl ht rfl rfl rfl rfl can_21 hcall ?_
                  clear hcall
                  rintro _ w ⟨A46, c47, m48, vs49, rfl, hpost⟩ a ht
                  replace hm := (hm.pick (own' := [] ++ [.vec A42 c43 2 1 m44 (ints t41), .vecs A19 c20 25 2 m21 vs22 t36.2, .vec A14 c15 2 1 m16 (ints t32.2), .vec A27 c28 2 1 m29 (ints t26), .vec A9 c10 25 1 m11 vs12, .blk b1 24 (Col.cells aX)]) [0, 1, 2, 3, 4, 5] rfl (by decide)).backL hpost
                  clear hpost
                  refine wpl rfl rfl ht (ev_move ht rfl rfl) ?_
                  intro a ht
                  refine wpl rfl rfl ht (ev_extract ht rfl rfl rfl) ?_
                  intro a ht
                  refine wpl rfl rfl ht (ev_extract ht rfl rfl rfl) ?_
                  intro a ht
                  refine wpl rfl rfl ht (ev_assign ht rfl rfl) ?_
                  intro a ht
                  refine wpl rfl rfl ht (ev_assign ht rfl rfl) ?_
                  intro a ht
                  refine wpList_nil ?_
                  refine then_normal ?_
                  refine wp_seq ?_
                  refine wp_seq ?_
                  refine wpr ?_
                  refine wpl rfl rfl ht (ev_move ht rfl rfl) ?_
                  intro a ht
                  refine wpl rfl rfl ht (ev_move ht rfl rfl) ?_
                  intro a ht
                  obtain ⟨t50, et50, H⟩ := bind_get H
                  have hcall := laws_eqInt64SS.calls k _ _ A46 c47 m48 vs49 A9 c10 m11 vs12 t45.1 t8.1 _ ((fun (hq : Ms _ _ _ ([] ++ [.vecs A46 c47 25 2 m48 vs49 t45.1, .vec A42 c43 2 1 m44 (ints t41), .vecs A19 c20 25 2 m21 vs22 t36.2, .vec A14 c15 2 1 m16 (ints t32.2), .vec A27 c28 2 1 m29 (ints t26), .vec A9 c10 25 1 m11 vs12, .blk b1 24 (Col.cells aX)]) _ _) => hq.lend (φp := [RowsAt A46 c47 m48 vs49 t45.1, RowsAt A9 c10 m11 vs12 t8.1]) (allRO_cons (hq.lendVecs 0 rfl) (allRO_cons (hq.lendRows 5 0 rfl rfl) (allRO_nil)))) (hm.pick (own' := [] ++ [.vecs A46 c47 25 2 m48 vs49 t45.1, .vec A42 c43 2 1 m44 (ints t41), .vecs A19 c20 25 2 m21 vs22 t36.2, .vec A14 c15 2 1 m16 (ints t32.2), .vec A27 c28 2 1 m29 (ints t26), .vec A9 c10 25 1 m11 vs12, .blk b1 24 (Col.cells aX)]) [0, 1, 2, 3, 4, 5, 6] rfl (by decide))) et50
                  refine wpl_call _ rfl rfl ht rfl rfl rfl rfl can_22 hcall ?_
                  clear hcall
                  rintro _ w ⟨rfl, hpost⟩ a ht
                  replace hm := (hm.pick (own' := [] ++ [.vecs A46 c47 25 2 m48 vs49 t45.1, .vec A42 c43 2 1 m44 (ints t41), .vecs A19 c20 25 2 m21 vs22 t36.2, .vec A14 c15 2 1 m16 (ints t32.2), .vec A27 c28 2 1 m29 (ints t26), .vec A9 c10 25 1 m11 vs12, .blk b1 24 (Col.cells aX)]) [0, 1, 2, 3, 4, 5, 6] rfl (by decide)).backL hpost
                  clear hpost
                  refine wpl rfl rfl ht (ev_not ht rfl rfl) ?_
                  intro a ht
                  refine wpl rfl rfl ht (ev_move ht rfl rfl) ?_
                  intro a ht
                  by_cases h51 : t50 = true
                  · replace H := ite_yes h51 H
                    refine wpl_yes rfl ht rfl ((not_t h51)) ?_
                    refine wpl rfl rfl ht (ev_move ht rfl rfl) ?_
                    intro a ht
                    refine wpl_yes rfl ht rfl ((not_t h51)) ?_
                    refine wpl rfl rfl ht (ev_move ht rfl rfl) ?_
                    intro a ht
                    refine wpl_yes rfl ht rfl ((not_t h51)) ?_
                    refine wpl rfl rfl ht (ev_cmp ht rfl rfl rfl rfl) ?_
                    intro a ht
                    refine wpl rfl rfl ht (ev_pick_no ht rfl rfl (not_t h51) rfl) ?_
                    intro a ht
                    refine wpList_nil ?_
                    refine then_normal ?_
                    by_cases h52 : t45.2 ≠ t8.2
                    · replace H := ite_yes h52 H
                      refine wpc_yes ht rfl (decide_eq_true h52) ?_
                      refine wp_seq ?_
                      refine wpr ?_
                      refine wpl rfl rfl ht (ev_assign ht rfl rfl) ?_
                      intro a ht
                      refine wpList_nil ?_
                      refine then_normal ?_
                      refine wp_ret ?_
                      refine then_ret ?_
                      have hres := ht.res (P := Try.prog) (w := w) (rs := [.tmp 4]) (vs := [.bool false]) (.tmp rfl .nil)
                      obtain rfl := Option.some.inj H
                      exact leave ht rfl hres ⟨rfl, ((hm.pick [] rfl (by decide)).pickφ [] rfl).post fun _ h => h⟩
                    · replace H := ite_no h52 H
                      refine wpc_no ht rfl (decide_eq_false h52) ?_
                      refine wp_skip ?_
                      refine then_normal ?_
                      refine wp_seq ?_
                      refine wpr ?_
                      refine wpl rfl rfl ht (ev_assign ht rfl rfl) ?_
                      intro a ht
                      refine wpList_nil ?_
                      refine then_normal ?_
                      refine wp_seq ?_
                      refine wpr ?_
                      refine wpl rfl rfl ht (ev_move ht rfl rfl) ?_
                      intro a ht
                      refine wpl rfl rfl ht (ev_move ht rfl rfl) ?_
                      intro a ht
                      obtain ⟨t53, et53, H⟩ := bind_get H
                      have hcall := laws_heldInt64SS.calls k _ _ A19 c20 m21 vs22 t36.2 1 _ ((fun (hq : Ms _ _ _ ([] ++ [.vecs A46 c47 25 2 m48 vs49 t45.1, .vec A42 c43 2 1 m44 (ints t41), .vecs A19 c20 25 2 m21 vs22 t36.2, .vec A14 c15 2 1 m16 (ints t32.2), .vec A27 c28 2 1 m29 (ints t26), .vec A9 c10 25 1 m11 vs12, .blk b1 24 (Col.cells aX)]) _ _) => hq.lend (φp := [RowsAt A19 c20 m21 vs22 t36.2]) (allRO_cons (hq.lendVecs 2 rfl) (allRO_nil))) (hm.pick (own' := [] ++ [.vecs A46 c47 25 2 m48 vs49 t45.1, .vec A42 c43 2 1 m44 (ints t41), .vecs A19 c20 25 2 m21 vs22 t36.2, .vec A14 c15 2 1 m16 (ints t32.2), .vec A27 c28 2 1 m29 (ints t26), .vec A9 c10 25 1 m11 vs12, .blk b1 24 (Col.cells aX)]) [0, 1, 2, 3, 4, 5, 6] rfl (by decide))) et53
                      refine wpl_call _ rfl rfl ht rfl rfl rfl rfl can_24 hcall ?_
                      clear hcall
                      rintro _ w ⟨rfl, hpost⟩ a ht
                      replace hm := (hm.pick (own' := [] ++ [.vecs A46 c47 25 2 m48 vs49 t45.1, .vec A42 c43 2 1 m44 (ints t41), .vecs A19 c20 25 2 m21 vs22 t36.2, .vec A14 c15 2 1 m16 (ints t32.2), .vec A27 c28 2 1 m29 (ints t26), .vec A9 c10 25 1 m11 vs12, .blk b1 24 (Col.cells aX)]) [0, 1, 2, 3, 4, 5, 6] rfl (by decide)).backL hpost
                      clear hpost
                      refine wpl rfl rfl ht (ev_assign ht rfl rfl) ?_
                      intro a ht
                      refine wpList_nil ?_
                      refine then_normal ?_
                      refine wp_seq ?_
                      refine wp_seq ?_
                      refine wpr ?_
                      refine wpl rfl rfl ht (ev_move ht rfl rfl) ?_
                      intro a ht
                      refine wpl rfl rfl ht (ev_cmp ht rfl rfl rfl rfl) ?_
                      intro a ht
                      refine wpList_nil ?_
                      refine then_normal ?_
                      by_cases h54 : t53 < 0
                      · replace H := ite_yes h54 H
                        refine wpc_yes ht rfl (decide_eq_true h54) ?_
                        refine wp_seq ?_
                        refine wpr ?_
                        refine wpl rfl rfl ht (ev_assign ht rfl rfl) ?_
                        intro a ht
                        refine wpList_nil ?_
                        refine then_normal ?_
                        refine wp_ret ?_
                        refine then_ret ?_
                        have hres := ht.res (P := Try.prog) (w := w) (rs := [.tmp 4]) (vs := [.bool false]) (.tmp rfl .nil)
                        obtain rfl := Option.some.inj H
                        exact leave ht rfl hres ⟨rfl, ((hm.pick [] rfl (by decide)).pickφ [] rfl).post fun _ h => h⟩
                      · replace H := ite_no h54 H
                        refine wpc_no ht rfl (decide_eq_false h54) ?_
                        refine wp_skip ?_
                        refine then_normal ?_
                        refine wp_seq ?_
                        refine wp_seq ?_
                        refine wpr ?_
                        refine wpl rfl rfl ht (ev_move ht rfl rfl) ?_
                        intro a ht
                        refine wpl rfl rfl ht (ev_move ht rfl rfl) ?_
                        intro a ht
                        refine wpl rfl rfl ht (ev_cmp ht rfl rfl rfl rfl) ?_
                        intro a ht
                        refine wpList_nil ?_
                        refine then_normal ?_
                        by_cases h55 : t53 ≠ t36.1
                        · replace H := ite_yes h55 H
                          refine wpc_yes ht rfl (decide_eq_true h55) ?_
                          refine wp_seq ?_
                          refine wpr ?_
                          refine wpl rfl rfl ht (ev_assign ht rfl rfl) ?_
                          intro a ht
                          refine wpList_nil ?_
                          refine then_normal ?_
                          refine wp_ret ?_
                          refine then_ret ?_
                          have hres := ht.res (P := Try.prog) (w := w) (rs := [.tmp 4]) (vs := [.bool false]) (.tmp rfl .nil)
                          obtain rfl := Option.some.inj H
                          exact leave ht rfl hres ⟨rfl, ((hm.pick [] rfl (by decide)).pickφ [] rfl).post fun _ h => h⟩
                        · replace H := ite_no h55 H
                          refine wpc_no ht rfl (decide_eq_false h55) ?_
                          refine wp_skip ?_
                          refine then_normal ?_
                          refine wp_seq ?_
                          refine wpr ?_
                          refine wpl rfl rfl ht (ev_assign ht rfl rfl) ?_
                          intro a ht
                          refine wpList_nil ?_
                          refine then_normal ?_
                          refine wp_ret ?_
                          have hres := ht.res (P := Try.prog) (w := w) (rs := [.tmp 4]) (vs := [.bool true]) (.tmp rfl .nil)
                          obtain rfl := Option.some.inj H
                          exact leave ht rfl hres ⟨rfl, ((hm.pick [] rfl (by decide)).pickφ [] rfl).post fun _ h => h⟩
                  · replace H := ite_no h51 H
                    refine wpl_no rfl rfl ht rfl (by rw [(not_f (Bool.eq_false_iff.mpr h51))]; decide) ?_
                    intro a ht
                    refine wpl_no rfl rfl ht rfl (by rw [(not_f (Bool.eq_false_iff.mpr h51))]; decide) ?_
                    intro a ht
                    refine wpl_no rfl rfl ht rfl (by rw [(not_f (Bool.eq_false_iff.mpr h51))]; decide) ?_
                    intro a ht
                    refine wpl rfl rfl ht (ev_pick_yes ht rfl rfl (not_f (Bool.eq_false_iff.mpr h51)) rfl) ?_
                    intro a ht
                    refine wpList_nil ?_
                    refine then_normal ?_
                    refine wpc_yes ht rfl rfl ?_
                    refine wp_seq ?_
                    refine wpr ?_
                    refine wpl rfl rfl ht (ev_assign ht rfl rfl) ?_
                    intro a ht
                    refine wpList_nil ?_
                    refine then_normal ?_
                    refine wp_ret ?_
                    refine then_ret ?_
                    have hres := ht.res (P := Try.prog) (w := w) (rs := [.tmp 4]) (vs := [.bool false]) (.tmp rfl .nil)
                    obtain rfl := Option.some.inj H
                    exact leave ht rfl hres ⟨rfl, ((hm.pick [] rfl (by decide)).pickφ [] rfl).post fun _ h => h⟩
            · replace H := ite_no h35 H
              refine wpl_no rfl rfl ht rfl (by rw [(not_f (Bool.eq_false_iff.mpr h35))]; decide) ?_
              intro a ht
              refine wpl_no rfl rfl ht rfl (by rw [(not_f (Bool.eq_false_iff.mpr h35))]; decide) ?_
              intro a ht
              refine wpl_no rfl rfl ht rfl (by rw [(not_f (Bool.eq_false_iff.mpr h35))]; decide) ?_
              intro a ht
              refine wpl rfl rfl ht (ev_pick_yes ht rfl rfl (not_f (Bool.eq_false_iff.mpr h35)) rfl) ?_
              intro a ht
              refine wpList_nil ?_
              refine then_normal ?_
              refine wpc_yes ht rfl rfl ?_
              refine wp_seq ?_
              refine wpr ?_
              refine wpl rfl rfl ht (ev_assign ht rfl rfl) ?_
              intro a ht
              refine wpList_nil ?_
              refine then_normal ?_
              refine wp_ret ?_
              refine then_ret ?_
              have hres := ht.res (P := Try.prog) (w := w) (rs := [.tmp 4]) (vs := [.bool false]) (.tmp rfl .nil)
              obtain rfl := Option.some.inj H
              exact leave ht rfl hres ⟨rfl, ((hm.pick [] rfl (by decide)).pickφ [] rfl).post fun _ h => h⟩
        · replace H := ite_no h31 H
          refine wpc_yes ht rfl (not_f (Bool.eq_false_iff.mpr h31)) ?_
          refine wp_seq ?_
          refine wpr ?_
          refine wpl rfl rfl ht (ev_assign ht rfl rfl) ?_
          intro a ht
          refine wpList_nil ?_
          refine then_normal ?_
          refine wp_ret ?_
          refine then_ret ?_
          have hres := ht.res (P := Try.prog) (w := w) (rs := [.tmp 4]) (vs := [.bool false]) (.tmp rfl .nil)
          obtain rfl := Option.some.inj H
          exact leave ht rfl hres ⟨rfl, ((hm.pick [] rfl (by decide)).pickφ [] rfl).post fun _ h => h⟩
    · replace H := ite_no h24 H
      refine wpl_no rfl rfl ht rfl (by rw [(not_f (Bool.eq_false_iff.mpr h24))]; decide) ?_
      intro a ht
      refine wpl_no rfl rfl ht rfl (by rw [(not_f (Bool.eq_false_iff.mpr h24))]; decide) ?_
      intro a ht
      refine wpl_no rfl rfl ht rfl (by rw [(not_f (Bool.eq_false_iff.mpr h24))]; decide) ?_
      intro a ht
      refine wpl rfl rfl ht (ev_pick_yes ht rfl rfl (not_f (Bool.eq_false_iff.mpr h24)) rfl) ?_
      intro a ht
      refine wpList_nil ?_
      refine then_normal ?_
      refine wpc_yes ht rfl rfl ?_
      refine wp_seq ?_
      refine wpr ?_
      refine wpl rfl rfl ht (ev_assign ht rfl rfl) ?_
      intro a ht
      refine wpList_nil ?_
      refine then_normal ?_
      refine wp_ret ?_
      refine then_ret ?_
      have hres := ht.res (P := Try.prog) (w := w) (rs := [.tmp 4]) (vs := [.bool false]) (.tmp rfl .nil)
      obtain rfl := Option.some.inj H
      exact leave ht rfl hres ⟨rfl, ((hm.pick [] rfl (by decide)).pickφ [] rfl).post fun _ h => h⟩

end Go.Proofs.Ytocjhmeekecdiaa.G
