/- What each Go function computes, as a Lean function, and the proof that it does: written by a program of this session (wip/gen), part 10. -/
import Derived.Test.YtkceneefhbdifaaGFnCircularCounts9
namespace Go.Proofs.Ytkceneefhbdifaa.G
open Go Go.RowKit Go.Proofs.Ytkceneefhbdifaa.K
set_option linter.unusedVariables false
set_option linter.unusedSimpArgs false

/-! ### laws_FnCircularCounts: function 3 (loop.example/g01362/laws.FnCircularCounts) -/
def laws_FnCircularCounts.f (k : Nat) (code : List Int) : Option (Bool) := (laws_big.f code).bind fun t1 => if t1 = true then (some true) else ((spec_DrawFirstCircular.f k code).bind fun t3 => (impl_FirstCircular.f k t3.1 t3.2).bind fun t7 => (spec_FirstCircular.f k t3.1 t3.2).bind fun t9 => (impl_CountCircular.f k t3.1 t3.2).bind fun t11 => (spec_CountCircular.f k t3.1 t3.2).bind fun t12 => if t7.2 ≠ t9.2 then (some false) else (if Col.same t7.1 t9.1 = true then (if t11.2 ≠ t12.2 then (some false) else (if t11.1 ≠ t12.1 then (some false) else (if t11.2 = 0 then (if ((decide (t11.1 > 0)) != (decide (t7.2 = 0))) = true then (some false) else (if t7.2 = 0 then ((impl_AvoidsSizes.f k t7.1 t3.2).bind fun t20 => (impl_ListOfCircular.f k t7.1).bind fun t21 => if t20.2 ≠ 0 then (some false) else (if t21.2 ≠ 0 then (some false) else (if t20.1 = true then (if (t21.1.length : Int) ≠ (w64 (Int.tdiv t3.1 2)) then (some false) else ((spec_DrawGreatestCircular.f k code).bind fun t29 => (impl_GreatestCircular.f k t29).bind fun t33 => (spec_GreatestCircular.f k t29).bind fun t34 => if t33.2 ≠ t34.2 then (some false) else (if t33.1 ≠ t34.1 then (some false) else (if t33.2 = 0 then ((impl_FirstCircular.f k t33.1 t29).bind fun t38 => (impl_AvoidsSizes.f k t38.1 t29).bind fun t40 => if t38.2 ≠ 0 then (some false) else (if t40.2 ≠ 0 then (some false) else (if t40.1 = true then (if t33.1 < 13 then ((impl_CountCircular.f k (w64 (t33.1 + 1)) t29).bind fun t45 => if t45.2 ≠ 0 then (some false) else (if t45.1 ≠ 0 then (some false) else (some true))) else (some true)) else (some false)))) else (some true))))) else (some false)))) else ((spec_DrawGreatestCircular.f k code).bind fun t48 => (impl_GreatestCircular.f k t48).bind fun t52 => (spec_GreatestCircular.f k t48).bind fun t53 => if t52.2 ≠ t53.2 then (some false) else (if t52.1 ≠ t53.1 then (some false) else (if t52.2 = 0 then ((impl_FirstCircular.f k t52.1 t48).bind fun t57 => (impl_AvoidsSizes.f k t57.1 t48).bind fun t59 => if t57.2 ≠ 0 then (some false) else (if t59.2 ≠ 0 then (some false) else (if t59.1 = true then (if t52.1 < 13 then ((impl_CountCircular.f k (w64 (t52.1 + 1)) t48).bind fun t64 => if t64.2 ≠ 0 then (some false) else (if t64.1 ≠ 0 then (some false) else (some true))) else (some true)) else (some false)))) else (some true)))))) else (if t7.2 = 0 then ((impl_AvoidsSizes.f k t7.1 t3.2).bind fun t68 => (impl_ListOfCircular.f k t7.1).bind fun t69 => if t68.2 ≠ 0 then (some false) else (if t69.2 ≠ 0 then (some false) else (if t68.1 = true then (if (t69.1.length : Int) ≠ (w64 (Int.tdiv t3.1 2)) then (some false) else ((spec_DrawGreatestCircular.f k code).bind fun t77 => (impl_GreatestCircular.f k t77).bind fun t81 => (spec_GreatestCircular.f k t77).bind fun t82 => if t81.2 ≠ t82.2 then (some false) else (if t81.1 ≠ t82.1 then (some false) else (if t81.2 = 0 then ((impl_FirstCircular.f k t81.1 t77).bind fun t86 => (impl_AvoidsSizes.f k t86.1 t77).bind fun t88 => if t86.2 ≠ 0 then (some false) else (if t88.2 ≠ 0 then (some false) else (if t88.1 = true then (if t81.1 < 13 then ((impl_CountCircular.f k (w64 (t81.1 + 1)) t77).bind fun t93 => if t93.2 ≠ 0 then (some false) else (if t93.1 ≠ 0 then (some false) else (some true))) else (some true)) else (some false)))) else (some true))))) else (some false)))) else ((spec_DrawGreatestCircular.f k code).bind fun t96 => (impl_GreatestCircular.f k t96).bind fun t100 => (spec_GreatestCircular.f k t96).bind fun t101 => if t100.2 ≠ t101.2 then (some false) else (if t100.1 ≠ t101.1 then (some false) else (if t100.2 = 0 then ((impl_FirstCircular.f k t100.1 t96).bind fun t105 => (impl_AvoidsSizes.f k t105.1 t96).bind fun t107 => if t105.2 ≠ 0 then (some false) else (if t107.2 ≠ 0 then (some false) else (if t107.1 = true then (if t100.1 < 13 then ((impl_CountCircular.f k (w64 (t100.1 + 1)) t96).bind fun t112 => if t112.2 ≠ 0 then (some false) else (if t112.1 ≠ 0 then (some false) else (some true))) else (some true)) else (some false)))) else (some true)))))))) else (some false)))
set_option maxRecDepth 100000 in
set_option maxHeartbeats 20000000 in
theorem laws_FnCircularCounts.calls (k : Nat) (X : List Nat) (w0 : World) (A : Option Addr) (c : Nat) (m : Nat) (code : List Int) (r : Bool)
    (hp : Pre X w0 [] [Bytes8At A c m code]) (H : laws_FnCircularCounts.f k code = some r) :
    Calls Try.prog 3 [.slice A m c].toArray w0 (Ret fun v w => v = .bool r ∧ Post X (fps []) w0 [] [] w) := by
  unfold laws_FnCircularCounts.f at H
  refine enterM (n := 177) hp Try.func3 rfl rfl (Nat.le_of_ble_eq_true rfl) fun a w ht hm => ?_
  refine wp_seq ?_
  refine wpr ?_
  refine wpl rfl rfl ht (ev_assign ht rfl rfl) ?_
  intro a ht
  refine wpList_nil ?_
  refine then_normal ?_
  refine wp_seq ?_
  refine wp_seq ?_
  refine wpr ?_
  refine wpl rfl rfl ht (ev_move ht rfl rfl) ?_
  intro a ht
  obtain ⟨t1, et1, H⟩ := bind_get H
  have hcall := laws_big.calls _ _ A c m code _ ((fun (hq : Ms _ _ _ ([] ++ []) _ _) => hq.lend (φp := [Bytes8At A c m code]) (allRO_cons (hq.lendFact 0 rfl) (allRO_nil))) (hm.pick (own' := [] ++ []) [] rfl (by decide))) et1
  refine wpl_call _ rfl rfl ht rfl rfl rfl rfl can_4 hcall ?_
  clear hcall
  rintro _ w ⟨rfl, hpost⟩ a ht
  replace hm := (hm.pick (own' := [] ++ []) [] rfl (by decide)).backL hpost
  clear hpost
  refine wpList_nil ?_
  refine then_normal ?_
  by_cases h2 : t1 = true
  · replace H := ite_yes h2 H
    refine wpc_yes ht rfl h2 ?_
    refine wp_seq ?_
    refine wpr ?_
    refine wpl rfl rfl ht (ev_assign ht rfl rfl) ?_
    intro a ht
    refine wpList_nil ?_
    refine then_normal ?_
    refine wp_ret ?_
    refine then_ret ?_
    have hres := ht.res (P := Try.prog) (w := w) (rs := [.tmp 2]) (vs := [.bool true]) (.tmp rfl .nil)
    obtain rfl := Option.some.inj H
    exact leave ht rfl hres ⟨rfl, ((hm.pick [] rfl (by decide)).pickφ [] rfl).post fun _ h => h⟩
  · replace H := ite_no h2 H
    refine wpc_no ht rfl (Bool.eq_false_iff.mpr h2) ?_
    refine wp_skip ?_
    refine then_normal ?_
    refine wp_seq ?_
    refine wpr ?_
    refine wpl rfl rfl ht (ev_move ht rfl rfl) ?_
    intro a ht
    obtain ⟨t3, et3, H⟩ := bind_get H
    have hcall := spec_DrawFirstCircular.calls k _ _ A c m code _ ((fun (hq : Ms _ _ _ ([] ++ []) _ _) => hq.lend (φp := [Bytes8At A c m code]) (allRO_cons (hq.lendFact 0 rfl) (allRO_nil))) (hm.pick (own' := [] ++ []) [] rfl (by decide))) et3
    refine wpl_call _ rfl rfl ht rfl rfl rfl rfl can_5 hcall ?_
    clear hcall
    rintro _ w ⟨A4, c5, m6, rfl, hpost⟩ a ht
    replace hm := (hm.pick (own' := [] ++ []) [] rfl (by decide)).backL hpost
    clear hpost
    refine wpl rfl rfl ht (ev_move ht rfl rfl) ?_
    intro a ht
    refine wpl rfl rfl ht (ev_extract ht rfl rfl rfl) ?_
    intro a ht
    refine wpl rfl rfl ht (ev_extract ht rfl rfl rfl) ?_
    intro a ht
    refine wpl rfl rfl ht (ev_assign ht rfl rfl) ?_
    intro a ht
    refine wpl rfl rfl ht (ev_assign ht rfl rfl) ?_
    intro a ht
    refine wpList_nil ?_
    refine then_normal ?_
    refine wp_seq ?_
    refine wpr ?_
    refine wpl rfl rfl ht (ev_move ht rfl rfl) ?_
    intro a ht
    refine wpl rfl rfl ht (ev_move ht rfl rfl) ?_
    intro a ht
    obtain ⟨t7, et7, H⟩ := bind_get H
    have hcall := impl_FirstCircular.calls k _ _ A4 c5 m6 t3.1 t3.2 _ ((fun (hq : Ms _ _ _ ([] ++ [.vec A4 c5 2 1 m6 (ints t3.2)]) _ _) => hq.lend (φp := [IntsAt A4 c5 m6 t3.2]) (allRO_cons (hq.lendVec 0 rfl) (allRO_nil))) (hm.pick (own' := [] ++ [.vec A4 c5 2 1 m6 (ints t3.2)]) [0] rfl (by decide))) et7
    refine wpl_call _ rfl rfl ht rfl rfl rfl rfl can_6 hcall ?_
    clear hcall
    rintro _ w ⟨rfl, hpost⟩ a ht
    replace hm := (hm.pick (own' := [] ++ [.vec A4 c5 2 1 m6 (ints t3.2)]) [0] rfl (by decide)).backL hpost
    clear hpost
    refine wpl rfl rfl ht (ev_move ht rfl rfl) ?_
    intro a ht
    refine wpl rfl rfl ht (ev_extract ht rfl rfl rfl) ?_
    intro a ht
    refine wpl rfl rfl ht (ev_extract ht rfl rfl rfl) ?_
    intro a ht
    refine wpl_alloc rfl rfl ht hm rfl zo_29 ?_
    intro b8 a ht w hm
    refine wpl_store_whole 0 rfl rfl ht hm rfl rfl rfl (szn_29.trans (by first | rw [Col.length_cells] | rfl)) rfl (by simp only [Col.length_cells]) (Col.cells_one _) ?_
    intro a ht w hm
    refine wpl rfl rfl ht (ev_assign ht rfl rfl) ?_
    intro a ht
    refine wpList_nil ?_
    refine then_normal ?_
    refine wp_seq ?_
    refine wpr ?_
    refine wpl rfl rfl ht (ev_move ht rfl rfl) ?_
    intro a ht
    refine wpl rfl rfl ht (ev_move ht rfl rfl) ?_
    intro a ht
    obtain ⟨t9, et9, H⟩ := bind_get H
    have hcall := spec_FirstCircular.calls k _ _ A4 c5 m6 t3.1 t3.2 _ ((fun (hq : Ms _ _ _ ([] ++ [.blk b8 29 (Col.cells t7.1), .vec A4 c5 2 1 m6 (ints t3.2)]) _ _) => hq.lend (φp := [IntsAt A4 c5 m6 t3.2]) (allRO_cons (hq.lendVec 1 rfl) (allRO_nil))) (hm.pick (own' := [] ++ [.blk b8 29 (Col.cells t7.1), .vec A4 c5 2 1 m6 (ints t3.2)]) [0, 1] rfl (by decide))) et9
    refine wpl_call _ rfl rfl ht rfl rfl rfl rfl can_7 hcall ?_
    clear hcall
    rintro _ w ⟨rfl, hpost⟩ a ht
    replace hm := (hm.pick (own' := [] ++ [.blk b8 29 (Col.cells t7.1), .vec A4 c5 2 1 m6 (ints t3.2)]) [0, 1] rfl (by decide)).backL hpost
    clear hpost
    refine wpl rfl rfl ht (ev_move ht rfl rfl) ?_
    intro a ht
    refine wpl rfl rfl ht (ev_extract ht rfl rfl rfl) ?_
    intro a ht
    refine wpl rfl rfl ht (ev_extract ht rfl rfl rfl) ?_
    intro a ht
    refine wpl_alloc rfl rfl ht hm rfl zo_29 ?_
    intro b10 a ht w hm
    refine wpl_store_whole 0 rfl rfl ht hm rfl rfl rfl (szn_29.trans (by first | rw [Col.length_cells] | rfl)) rfl (by simp only [Col.length_cells]) (Col.cells_one _) ?_
    intro a ht w hm
    refine wpl rfl rfl ht (ev_assign ht rfl rfl) ?_
    intro a ht
    refine wpList_nil ?_
    refine then_normal ?_
    refine wp_seq ?_
    refine wpr ?_
    refine wpl rfl rfl ht (ev_move ht rfl rfl) ?_
    intro a ht
    refine wpl rfl rfl ht (ev_move ht rfl rfl) ?_
    intro a ht
    obtain ⟨t11, et11, H⟩ := bind_get H
    have hcall := impl_CountCircular.calls k _ _ A4 c5 m6 t3.1 t3.2 _ ((fun (hq : Ms _ _ _ ([] ++ [.blk b10 29 (Col.cells t9.1), .blk b8 29 (Col.cells t7.1), .vec A4 c5 2 1 m6 (ints t3.2)]) _ _) => hq.lend (φp := [IntsAt A4 c5 m6 t3.2]) (allRO_cons (hq.lendVec 2 rfl) (allRO_nil))) (hm.pick (own' := [] ++ [.blk b10 29 (Col.cells t9.1), .blk b8 29 (Col.cells t7.1), .vec A4 c5 2 1 m6 (ints t3.2)]) [0, 1, 2] rfl (by decide))) et11
    refine wpl_call _ rfl rfl ht rfl rfl rfl rfl can_8 hcall ?_
    clear hcall
    rintro _ w ⟨rfl, hpost⟩ a ht
    replace hm := (hm.pick (own' := [] ++ [.blk b10 29 (Col.cells t9.1), .blk b8 29 (Col.cells t7.1), .vec A4 c5 2 1 m6 (ints t3.2)]) [0, 1, 2] rfl (by decide)).backL hpost
    clear hpost
    refine wpl rfl rfl ht (ev_move ht rfl rfl) ?_
    intro a ht
    refine wpl rfl rfl ht (ev_extract ht rfl rfl rfl) ?_
    intro a ht
    refine wpl rfl rfl ht (ev_extract ht rfl rfl rfl) ?_
    intro a ht
    refine wpl rfl rfl ht (ev_assign ht rfl rfl) ?_
    intro a ht
    refine wpl rfl rfl ht (ev_assign ht rfl rfl) ?_
    intro a ht
    refine wpList_nil ?_
    refine then_normal ?_
    refine wp_seq ?_
    refine wpr ?_
    refine wpl rfl rfl ht (ev_move ht rfl rfl) ?_
    intro a ht
    refine wpl rfl rfl ht (ev_move ht rfl rfl) ?_
    intro a ht
    obtain ⟨t12, et12, H⟩ := bind_get H
    have hcall := spec_CountCircular.calls k _ _ A4 c5 m6 t3.1 t3.2 _ ((fun (hq : Ms _ _ _ ([] ++ [.blk b10 29 (Col.cells t9.1), .blk b8 29 (Col.cells t7.1), .vec A4 c5 2 1 m6 (ints t3.2)]) _ _) => hq.lend (φp := [IntsAt A4 c5 m6 t3.2]) (allRO_cons (hq.lendVec 2 rfl) (allRO_nil))) (hm.pick (own' := [] ++ [.blk b10 29 (Col.cells t9.1), .blk b8 29 (Col.cells t7.1), .vec A4 c5 2 1 m6 (ints t3.2)]) [0, 1, 2] rfl (by decide))) et12
    refine wpl_call _ rfl rfl ht rfl rfl rfl rfl can_9 hcall ?_
    clear hcall
    rintro _ w ⟨rfl, hpost⟩ a ht
    replace hm := (hm.pick (own' := [] ++ [.blk b10 29 (Col.cells t9.1), .blk b8 29 (Col.cells t7.1), .vec A4 c5 2 1 m6 (ints t3.2)]) [0, 1, 2] rfl (by decide)).backL hpost
    clear hpost
    refine wpl rfl rfl ht (ev_move ht rfl rfl) ?_
    intro a ht
    refine wpl rfl rfl ht (ev_extract ht rfl rfl rfl) ?_
    intro a ht
    refine wpl rfl rfl ht (ev_extract ht rfl rfl rfl) ?_
    intro a ht
    refine wpl rfl rfl ht (ev_assign ht rfl rfl) ?_
    intro a ht
    refine wpl rfl rfl ht (ev_assign ht rfl rfl) ?_
    intro a ht
    refine wpList_nil ?_
    refine then_normal ?_
    refine wp_seq ?_
    refine wp_seq ?_
    refine wpr ?_
    refine wpl rfl rfl ht (ev_move ht rfl rfl) ?_
    intro a ht
    refine wpl rfl rfl ht (ev_move ht rfl rfl) ?_
    intro a ht
    refine wpl rfl rfl ht (ev_cmp ht rfl rfl rfl rfl) ?_
    intro a ht
    refine wpl rfl rfl ht (ev_move ht rfl rfl) ?_
    intro a ht
    by_cases h13 : t7.2 ≠ t9.2
    · replace H := ite_yes h13 H
      refine wpl_no rfl rfl ht rfl (by rw [(decide_eq_true h13)]; decide) ?_
      intro a ht
      refine wpl_no rfl rfl ht rfl (by rw [(decide_eq_true h13)]; decide) ?_
      intro a ht
      refine wpl_no rfl rfl ht rfl (by rw [(decide_eq_true h13)]; decide) ?_
      intro a ht
      refine wpl rfl rfl ht (ev_pick_yes ht rfl rfl (decide_eq_true h13) rfl) ?_
      intro a ht
      refine wpl rfl rfl ht (ev_move ht rfl rfl) ?_
      intro a ht
      refine wpl_no rfl rfl ht rfl (by decide) ?_
      intro a ht
      refine wpl_no rfl rfl ht rfl (by decide) ?_
      intro a ht
      refine wpl_no rfl rfl ht rfl (by decide) ?_
      intro a ht
      refine wpl rfl rfl ht (ev_pick_yes ht rfl rfl rfl rfl) ?_
      intro a ht
      refine wpl rfl rfl ht (ev_move ht rfl rfl) ?_
      intro a ht
      refine wpl_no rfl rfl ht rfl (by decide) ?_
      intro a ht
      refine wpl_no rfl rfl ht rfl (by decide) ?_
      intro a ht
      refine wpl_no rfl rfl ht rfl (by decide) ?_
      intro a ht
      refine wpl rfl rfl ht (ev_pick_yes ht rfl rfl rfl rfl) ?_
      intro a ht
      refine wpl rfl rfl ht (ev_move ht rfl rfl) ?_
      intro a ht
      refine wpl_no rfl rfl ht rfl (by decide) ?_
      intro a ht
      refine wpl_no rfl rfl ht rfl (by decide) ?_
      intro a ht
      refine wpl_no rfl rfl ht rfl (by decide) ?_
      intro a ht
      refine wpl_none rfl rfl ht rfl ?_
      intro a ht
      refine wpl_none rfl rfl ht rfl ?_
      intro a ht
      refine wpl_none rfl rfl ht rfl ?_
      intro a ht
      refine wpl_none rfl rfl ht rfl ?_
      intro a ht
      refine wpl_none rfl rfl ht rfl ?_
      intro a ht
      refine wpl_no rfl rfl ht rfl (by decide) ?_
      intro a ht
      refine wpl rfl rfl ht (ev_pick_yes ht rfl rfl rfl rfl) ?_
      intro a ht
      refine wpList_nil ?_
      refine then_normal ?_
      refine wpc_yes ht rfl rfl ?_
      refine wp_seq ?_
      refine wpr ?_
      refine wpl rfl rfl ht (ev_assign ht rfl rfl) ?_
      intro a ht
      refine wpList_nil ?_
      refine then_normal ?_
      refine wp_ret ?_
      refine then_ret ?_
      have hres := ht.res (P := Try.prog) (w := w) (rs := [.tmp 2]) (vs := [.bool false]) (.tmp rfl .nil)
      obtain rfl := Option.some.inj H
      exact leave ht rfl hres ⟨rfl, ((hm.pick [] rfl (by decide)).pickφ [] rfl).post fun _ h => h⟩
    · replace H := ite_no h13 H
      refine wpl_yes rfl ht rfl ((decide_eq_false h13)) ?_
      refine wpl rfl rfl ht (ev_load_agg ht rfl rfl (ag_29.trans (by first | rw [Col.length_cells] | rfl)) (hm.blk_all 1 rfl)) ?_
      intro a ht
      refine wpl_yes rfl ht rfl ((decide_eq_false h13)) ?_
      refine wpl rfl rfl ht (ev_load_agg ht rfl rfl (ag_29.trans (by first | rw [Col.length_cells] | rfl)) (hm.blk_all 0 rfl)) ?_
      intro a ht
      refine wpl_yes rfl ht rfl ((decide_eq_false h13)) ?_
      refine wpl rfl rfl ht (ev_ne_col ht rfl rfl rfl ct_29) ?_
      intro a ht
      refine wpl rfl rfl ht (ev_pick_no ht rfl rfl (decide_eq_false h13) rfl) ?_
      intro a ht
      refine wpl rfl rfl ht (ev_move ht rfl rfl) ?_
      intro a ht
      by_cases h14 : Col.same t7.1 t9.1 = true
      · replace H := ite_yes h14 H
        refine wpl_yes rfl ht rfl ((not_t h14)) ?_
        refine wpl rfl rfl ht (ev_move ht rfl rfl) ?_
        intro a ht
        refine wpl_yes rfl ht rfl ((not_t h14)) ?_
        refine wpl rfl rfl ht (ev_move ht rfl rfl) ?_
        intro a ht
        refine wpl_yes rfl ht rfl ((not_t h14)) ?_
        refine wpl rfl rfl ht (ev_cmp ht rfl rfl rfl rfl) ?_
        intro a ht
        refine wpl rfl rfl ht (ev_pick_no ht rfl rfl (not_t h14) rfl) ?_
        intro a ht
        refine wpl rfl rfl ht (ev_move ht rfl rfl) ?_
        intro a ht
        by_cases h15 : t11.2 ≠ t12.2
        · replace H := ite_yes h15 H
          refine wpl_no rfl rfl ht rfl (by rw [(decide_eq_true h15)]; decide) ?_
          intro a ht
          refine wpl_no rfl rfl ht rfl (by rw [(decide_eq_true h15)]; decide) ?_
          intro a ht
          refine wpl_no rfl rfl ht rfl (by rw [(decide_eq_true h15)]; decide) ?_
          intro a ht
          refine wpl rfl rfl ht (ev_pick_yes ht rfl rfl (decide_eq_true h15) rfl) ?_
          intro a ht
          refine wpl rfl rfl ht (ev_move ht rfl rfl) ?_
          intro a ht
          refine wpl_no rfl rfl ht rfl (by decide) ?_
          intro a ht
          refine wpl_no rfl rfl ht rfl (by decide) ?_
          intro a ht
          refine wpl_no rfl rfl ht rfl (by decide) ?_
          intro a ht
          refine wpl_none rfl rfl ht rfl ?_
          intro a ht
          refine wpl_none rfl rfl ht rfl ?_
          intro a ht
          refine wpl_none rfl rfl ht rfl ?_
          intro a ht
          refine wpl_none rfl rfl ht rfl ?_
          intro a ht
          refine wpl_none rfl rfl ht rfl ?_
          intro a ht
          refine wpl_no rfl rfl ht rfl (by decide) ?_
          intro a ht
          refine wpl rfl rfl ht (ev_pick_yes ht rfl rfl rfl rfl) ?_
          intro a ht
          refine wpList_nil ?_
          refine then_normal ?_
          refine wpc_yes ht rfl rfl ?_
          refine wp_seq ?_
          refine wpr ?_
          refine wpl rfl rfl ht (ev_assign ht rfl rfl) ?_
          intro a ht
          refine wpList_nil ?_
          refine then_normal ?_
          refine wp_ret ?_
          refine then_ret ?_
          have hres := ht.res (P := Try.prog) (w := w) (rs := [.tmp 2]) (vs := [.bool false]) (.tmp rfl .nil)
          obtain rfl := Option.some.inj H
          exact leave ht rfl hres ⟨rfl, ((hm.pick [] rfl (by decide)).pickφ [] rfl).post fun _ h => h⟩
        · replace H := ite_no h15 H
          refine wpl_yes rfl ht rfl ((decide_eq_false h15)) ?_
          refine wpl rfl rfl ht (ev_move ht rfl rfl) ?_
          intro a ht
          refine wpl_yes rfl ht rfl ((decide_eq_false h15)) ?_
          refine wpl rfl rfl ht (ev_move ht rfl rfl) ?_
          intro a ht
          refine wpl_yes rfl ht rfl ((decide_eq_false h15)) ?_
          refine wpl rfl rfl ht (ev_cmp ht rfl rfl rfl rfl) ?_
          intro a ht
          refine wpl rfl rfl ht (ev_pick_no ht rfl rfl (decide_eq_false h15) rfl) ?_
          intro a ht
          refine wpl rfl rfl ht (ev_move ht rfl rfl) ?_
          intro a ht
          by_cases h16 : t11.1 ≠ t12.1
          · replace H := ite_yes h16 H
            refine wpl_no rfl rfl ht rfl (by rw [(decide_eq_true h16)]; decide) ?_
            intro a ht
            refine wpl_no rfl rfl ht rfl (by rw [(decide_eq_true h16)]; decide) ?_
            intro a ht
            refine wpl_no rfl rfl ht rfl (by rw [(decide_eq_true h16)]; decide) ?_
            intro a ht
            refine wpl_none rfl rfl ht rfl ?_
            intro a ht
            refine wpl_none rfl rfl ht rfl ?_
            intro a ht
            refine wpl_none rfl rfl ht rfl ?_
            intro a ht
            refine wpl_none rfl rfl ht rfl ?_
            intro a ht
            refine wpl_none rfl rfl ht rfl ?_
            intro a ht
            refine wpl_no rfl rfl ht rfl (by rw [(decide_eq_true h16)]; decide) ?_
            intro a ht
            refine wpl rfl rfl ht (ev_pick_yes ht rfl rfl (decide_eq_true h16) rfl) ?_
            intro a ht
            refine wpList_nil ?_
            refine then_normal ?_
            refine wpc_yes ht rfl rfl ?_
            refine wp_seq ?_
            refine wpr ?_
            refine wpl rfl rfl ht (ev_assign ht rfl rfl) ?_
            intro a ht
            refine wpList_nil ?_
            refine then_normal ?_
            refine wp_ret ?_
            refine then_ret ?_
            have hres := ht.res (P := Try.prog) (w := w) (rs := [.tmp 2]) (vs := [.bool false]) (.tmp rfl .nil)
            obtain rfl := Option.some.inj H
            exact leave ht rfl hres ⟨rfl, ((hm.pick [] rfl (by decide)).pickφ [] rfl).post fun _ h => h⟩
          · replace H := ite_no h16 H
            refine wpl_yes rfl ht rfl ((decide_eq_false h16)) ?_
            refine wpl rfl rfl ht (ev_move ht rfl rfl) ?_
            intro a ht
            refine wpl_yes rfl ht rfl ((decide_eq_false h16)) ?_
            refine wpl rfl rfl ht (ev_cmp ht rfl rfl rfl rfl) ?_
            intro a ht
            refine wpl_yes rfl ht rfl ((decide_eq_false h16)) ?_
            refine wpl rfl rfl ht (ev_move ht rfl rfl) ?_
            intro a ht
            by_cases h17 : t11.2 = 0
            · replace H := ite_yes h17 H
              refine wpl_yes rfl ht rfl ((decide_eq_true h17)) ?_
              refine wpl rfl rfl ht (ev_move ht rfl rfl) ?_
              intro a ht
              refine wpl_yes rfl ht rfl ((decide_eq_true h17)) ?_
              refine wpl rfl rfl ht (ev_cmp ht rfl rfl rfl rfl) ?_
              intro a ht
              refine wpl_yes rfl ht rfl ((decide_eq_true h17)) ?_
              refine wpl rfl rfl ht (ev_move ht rfl rfl) ?_
              intro a ht
              refine wpl_yes rfl ht rfl ((decide_eq_true h17)) ?_
              refine wpl rfl rfl ht (ev_cmp ht rfl rfl rfl rfl) ?_
              intro a ht
              refine wpl_yes rfl ht rfl ((decide_eq_true h17)) ?_
              refine wpl rfl rfl ht (ev_ne_bool ht rfl rfl rfl und_4) ?_
              intro a ht
              refine wpl_yes rfl ht rfl ((decide_eq_false h16)) ?_
              refine wpl rfl rfl ht (ev_pick_yes ht rfl rfl (decide_eq_true h17) rfl) ?_
              intro a ht
              refine wpl rfl rfl ht (ev_pick_no ht rfl rfl (decide_eq_false h16) rfl) ?_
              intro a ht
              refine wpList_nil ?_
              refine then_normal ?_
              by_cases h18 : ((decide (t11.1 > 0)) != (decide (t7.2 = 0))) = true
              · replace H := ite_yes h18 H
                refine wpc_yes ht rfl h18 ?_
                refine wp_seq ?_
                refine wpr ?_
                refine wpl rfl rfl ht (ev_assign ht rfl rfl) ?_
                intro a ht
                refine wpList_nil ?_
                refine then_normal ?_
                refine wp_ret ?_
                refine then_ret ?_
                have hres := ht.res (P := Try.prog) (w := w) (rs := [.tmp 2]) (vs := [.bool false]) (.tmp rfl .nil)
                obtain rfl := Option.some.inj H
                exact leave ht rfl hres ⟨rfl, ((hm.pick [] rfl (by decide)).pickφ [] rfl).post fun _ h => h⟩
              · replace H := ite_no h18 H
                refine wpc_no ht rfl (Bool.eq_false_iff.mpr h18) ?_
                refine wp_skip ?_
                refine then_normal ?_
                refine wp_seq ?_
                refine wp_seq ?_
                refine wpr ?_
                refine wpl rfl rfl ht (ev_move ht rfl rfl) ?_
                intro a ht
                refine wpl rfl rfl ht (ev_cmp ht rfl rfl rfl rfl) ?_
                intro a ht
                refine wpList_nil ?_
                refine then_normal ?_
                by_cases h19 : t7.2 = 0
                · replace H := ite_yes h19 H
                  refine wpc_yes ht rfl (decide_eq_true h19) ?_
                  refine wp_seq ?_
                  refine wpr ?_
                  refine wpl rfl rfl ht (ev_load_agg ht rfl rfl (ag_29.trans (by first | rw [Col.length_cells] | rfl)) (hm.blk_all 1 rfl)) ?_
                  intro a ht
                  refine wpl rfl rfl ht (ev_move ht rfl rfl) ?_
                  intro a ht
                  obtain ⟨t20, et20, H⟩ := bind_get H
                  have hcall := impl_AvoidsSizes.calls k _ _ A4 c5 m6 t7.1 t3.2 _ ((fun (hq : Ms _ _ _ ([] ++ [.blk b10 29 (Col.cells t9.1), .blk b8 29 (Col.cells t7.1), .vec A4 c5 2 1 m6 (ints t3.2)]) _ _) => hq.lend (φp := [IntsAt A4 c5 m6 t3.2]) (allRO_cons (hq.lendVec 2 rfl) (allRO_nil))) (hm.pick (own' := [] ++ [.blk b10 29 (Col.cells t9.1), .blk b8 29 (Col.cells t7.1), .vec A4 c5 2 1 m6 (ints t3.2)]) [0, 1, 2] rfl (by decide))) et20
                  refine wpl_call _ rfl rfl ht rfl rfl rfl rfl can_10 hcall ?_
                  clear hcall
                  rintro _ w ⟨rfl, hpost⟩ a ht
                  replace hm := (hm.pick (own' := [] ++ [.blk b10 29 (Col.cells t9.1), .blk b8 29 (Col.cells t7.1), .vec A4 c5 2 1 m6 (ints t3.2)]) [0, 1, 2] rfl (by decide)).backL hpost
                  clear hpost
                  refine wpl rfl rfl ht (ev_move ht rfl rfl) ?_
                  intro a ht
                  refine wpl rfl rfl ht (ev_extract ht rfl rfl rfl) ?_
                  intro a ht
                  refine wpl rfl rfl ht (ev_extract ht rfl rfl rfl) ?_
                  intro a ht
                  refine wpl rfl rfl ht (ev_assign ht rfl rfl) ?_
                  intro a ht
                  refine wpl rfl rfl ht (ev_assign ht rfl rfl) ?_
                  intro a ht
                  refine wpList_nil ?_
                  refine then_normal ?_
                  refine wp_seq ?_
                  refine wpr ?_
                  refine wpl rfl rfl ht (ev_load_agg ht rfl rfl (ag_29.trans (by first | rw [Col.length_cells] | rfl)) (hm.blk_all 1 rfl)) ?_
                  intro a ht
                  obtain ⟨t21, et21, H⟩ := bind_get H
                  have hcall := impl_ListOfCircular.calls k _ _ t7.1 _ ((fun (hq : Ms _ _ _ ([] ++ [.blk b10 29 (Col.cells t9.1), .blk b8 29 (Col.cells t7.1), .vec A4 c5 2 1 m6 (ints t3.2)]) _ _) => hq.lend (φp := []) (allRO_nil)) (hm.pick (own' := [] ++ [.blk b10 29 (Col.cells t9.1), .blk b8 29 (Col.cells t7.1), .vec A4 c5 2 1 m6 (ints t3.2)]) [0, 1, 2] rfl (by decide))) et21
                  refine wpl_call _ rfl rfl ht rfl rfl rfl rfl can_11 hcall ?_
                  clear hcall
                  rintro _ w ⟨A22, c23, m24, rfl, hpost⟩ a ht
                  replace hm := (hm.pick (own' := [] ++ [.blk b10 29 (Col.cells t9.1), .blk b8 29 (Col.cells t7.1), .vec A4 c5 2 1 m6 (ints t3.2)]) [0, 1, 2] rfl (by decide)).backL hpost
                  clear hpost
                  refine wpl rfl rfl ht (ev_move ht rfl rfl) ?_
                  intro a ht
                  refine wpl rfl rfl ht (ev_extract ht rfl rfl rfl) ?_
                  intro a ht
                  refine wpl rfl rfl ht (ev_extract ht rfl rfl rfl) ?_
                  intro a ht
                  refine wpl rfl rfl ht (ev_assign ht rfl rfl) ?_
                  intro a ht
                  refine wpl rfl rfl ht (ev_assign ht rfl rfl) ?_
                  intro a ht
                  refine wpList_nil ?_
                  refine then_normal ?_
                  refine wp_seq ?_
                  refine wpr ?_
                  refine wpl rfl rfl ht (ev_move ht rfl rfl) ?_
                  intro a ht
                  refine wpl rfl rfl ht (ev_cmp ht rfl rfl rfl rfl) ?_
                  intro a ht
                  refine wpl rfl rfl ht (ev_move ht rfl rfl) ?_
                  intro a ht
                  by_cases h25 : t20.2 ≠ 0
                  · replace H := ite_yes h25 H
                    refine wpl_no rfl rfl ht rfl (by rw [(decide_eq_true h25)]; decide) ?_
                    intro a ht
                    refine wpl_no rfl rfl ht rfl (by rw [(decide_eq_true h25)]; decide) ?_
                    intro a ht
                    refine wpl rfl rfl ht (ev_pick_yes ht rfl rfl (decide_eq_true h25) rfl) ?_
                    intro a ht
                    refine wpl rfl rfl ht (ev_move ht rfl rfl) ?_
                    intro a ht
                    refine wpl_no rfl rfl ht rfl (by decide) ?_
                    intro a ht
                    refine wpl_no rfl rfl ht rfl (by decide) ?_
                    intro a ht
                    refine wpl rfl rfl ht (ev_pick_yes ht rfl rfl rfl rfl) ?_
                    intro a ht
                    refine wpl rfl rfl ht (ev_move ht rfl rfl) ?_
                    intro a ht
                    refine wpl_no rfl rfl ht rfl (by decide) ?_
                    intro a ht
                    refine wpl_no rfl rfl ht rfl (by decide) ?_
                    intro a ht
                    refine wpl_no rfl rfl ht rfl (by decide) ?_
                    intro a ht
                    refine wpl_no rfl rfl ht rfl (by decide) ?_
                    intro a ht
                    refine wpl_no rfl rfl ht rfl (by decide) ?_
                    intro a ht
                    refine wpl rfl rfl ht (ev_pick_yes ht rfl rfl rfl rfl) ?_
                    intro a ht
                    refine wpList_nil ?_
                    refine then_normal ?_
                    refine wpc_yes ht rfl rfl ?_
                    refine wp_seq ?_
                    refine wpr ?_
                    refine wpl rfl rfl ht (ev_assign ht rfl rfl) ?_
                    intro a ht
                    refine wpList_nil ?_
                    refine then_normal ?_
                    refine wp_ret ?_
                    refine then_ret ?_
                    have hres := ht.res (P := Try.prog) (w := w) (rs := [.tmp 2]) (vs := [.bool false]) (.tmp rfl .nil)
                    obtain rfl := Option.some.inj H
                    exact leave ht rfl hres ⟨rfl, ((hm.pick [] rfl (by decide)).pickφ [] rfl).post fun _ h => h⟩
                  · replace H := ite_no h25 H
                    refine wpl_yes rfl ht rfl ((decide_eq_false h25)) ?_
                    refine wpl rfl rfl ht (ev_move ht rfl rfl) ?_
                    intro a ht
                    refine wpl_yes rfl ht rfl ((decide_eq_false h25)) ?_
                    refine wpl rfl rfl ht (ev_cmp ht rfl rfl rfl rfl) ?_
                    intro a ht
                    refine wpl rfl rfl ht (ev_pick_no ht rfl rfl (decide_eq_false h25) rfl) ?_
                    intro a ht
                    refine wpl rfl rfl ht (ev_move ht rfl rfl) ?_
                    intro a ht
                    by_cases h26 : t21.2 ≠ 0
                    · replace H := ite_yes h26 H
                      refine wpl_no rfl rfl ht rfl (by rw [(decide_eq_true h26)]; decide) ?_
                      intro a ht
                      refine wpl_no rfl rfl ht rfl (by rw [(decide_eq_true h26)]; decide) ?_
                      intro a ht
                      refine wpl rfl rfl ht (ev_pick_yes ht rfl rfl (decide_eq_true h26) rfl) ?_
                      intro a ht
                      refine wpl rfl rfl ht (ev_move ht rfl rfl) ?_
                      intro a ht
                      refine wpl_no rfl rfl ht rfl (by decide) ?_
                      intro a ht
                      refine wpl_no rfl rfl ht rfl (by decide) ?_
                      intro a ht
                      refine wpl_no rfl rfl ht rfl (by decide) ?_
                      intro a ht
                      refine wpl_no rfl rfl ht rfl (by decide) ?_
                      intro a ht
                      refine wpl_no rfl rfl ht rfl (by decide) ?_
                      intro a ht
                      refine wpl rfl rfl ht (ev_pick_yes ht rfl rfl rfl rfl) ?_
                      intro a ht
                      refine wpList_nil ?_
                      refine then_normal ?_
                      refine wpc_yes ht rfl rfl ?_
                      refine wp_seq ?_
                      refine wpr ?_
                      refine wpl rfl rfl ht (ev_assign ht rfl rfl) ?_
                      intro a ht
                      refine wpList_nil ?_
                      refine then_normal ?_
                      refine wp_ret ?_
                      refine then_ret ?_
                      have hres := ht.res (P := Try.prog) (w := w) (rs := [.tmp 2]) (vs := [.bool false]) (.tmp rfl .nil)
                      obtain rfl := Option.some.inj H
                      exact leave ht rfl hres ⟨rfl, ((hm.pick [] rfl (by decide)).pickφ [] rfl).post fun _ h => h⟩
                    · replace H := ite_no h26 H
                      refine wpl_yes rfl ht rfl ((decide_eq_false h26)) ?_
                      refine wpl rfl rfl ht (ev_move ht rfl rfl) ?_
                      intro a ht
                      refine wpl_yes rfl ht rfl ((decide_eq_false h26)) ?_
                      refine wpl rfl rfl ht (ev_not ht rfl rfl) ?_
                      intro a ht
                      refine wpl rfl rfl ht (ev_pick_no ht rfl rfl (decide_eq_false h26) rfl) ?_
                      intro a ht
                      refine wpl rfl rfl ht (ev_move ht rfl rfl) ?_
                      intro a ht
                      by_cases h27 : t20.1 = true
                      · replace H := ite_yes h27 H
                        refine wpl_yes rfl ht rfl ((not_t h27)) ?_
                        refine wpl rfl rfl ht (ev_move ht rfl rfl) ?_
                        intro a ht
                        refine wpl_yes rfl ht rfl ((not_t h27)) ?_
                        refine wpl rfl rfl ht (ev_len_of ht rfl rfl und_24 (hm.vec_row 0 rfl)) ?_
                        intro a ht
                        refine wpl_yes rfl ht rfl ((not_t h27)) ?_
                        refine wpl rfl rfl ht (ev_move ht rfl rfl) ?_
                        intro a ht
                        refine wpl_yes rfl ht rfl ((not_t h27)) ?_
                        refine wpl rfl rfl ht (ev_quo ht rfl rfl rfl (by decide)) ?_
                        intro a ht
                        refine wpl_yes rfl ht rfl ((not_t h27)) ?_
                        refine wpl rfl rfl ht (ev_cmp ht rfl rfl rfl rfl) ?_
                        intro a ht
                        refine wpl rfl rfl ht (ev_pick_no ht rfl rfl (not_t h27) rfl) ?_
                        intro a ht
                        refine wpList_nil ?_
                        refine then_normal ?_
                        by_cases h28 : (t21.1.length : Int) ≠ (w64 (Int.tdiv t3.1 2))
                        · replace H := ite_yes h28 H
                          refine wpc_yes ht rfl (decide_eq_true h28) ?_
                          refine wp_seq ?_
                          refine wpr ?_
                          refine wpl rfl rfl ht (ev_assign ht rfl rfl) ?_
                          intro a ht
                          refine wpList_nil ?_
                          refine then_normal ?_
                          refine wp_ret ?_
                          refine then_ret ?_
                          have hres := ht.res (P := Try.prog) (w := w) (rs := [.tmp 2]) (vs := [.bool false]) (.tmp rfl .nil)
                          obtain rfl := Option.some.inj H
                          exact leave ht rfl hres ⟨rfl, ((hm.pick [] rfl (by decide)).pickφ [] rfl).post fun _ h => h⟩
                        · replace H := ite_no h28 H
                          refine wpc_no ht rfl (decide_eq_false h28) ?_
                          refine wp_skip ?_
                          refine then_normal ?_
                          refine wp_seq ?_
                          refine wpr ?_
                          refine wpl rfl rfl ht (ev_move ht rfl rfl) ?_
                          intro a ht
                          obtain ⟨t29, et29, H⟩ := bind_get H
                          have hcall := spec_DrawGreatestCircular.calls k _ _ A c m code _ ((fun (hq : Ms _ _ _ ([] ++ [.vec A22 c23 2 1 m24 (ints t21.1), .blk b10 29 (Col.cells t9.1), .blk b8 29 (Col.cells t7.1), .vec A4 c5 2 1 m6 (ints t3.2)]) _ _) => hq.lend (φp := [Bytes8At A c m code]) (allRO_cons (hq.lendFact 0 rfl) (allRO_nil))) (hm.pick (own' := [] ++ [.vec A22 c23 2 1 m24 (ints t21.1), .blk b10 29 (Col.cells t9.1), .blk b8 29 (Col.cells t7.1), .vec A4 c5 2 1 m6 (ints t3.2)]) [0, 1, 2, 3] rfl (by decide))) et29
                          refine wpl_call _ rfl rfl ht rfl rfl rfl rfl can_12 hcall ?_
                          clear hcall
                          rintro _ w ⟨A30, c31, m32, rfl, hpost⟩ a ht
                          replace hm := (hm.pick (own' := [] ++ [.vec A22 c23 2 1 m24 (ints t21.1), .blk b10 29 (Col.cells t9.1), .blk b8 29 (Col.cells t7.1), .vec A4 c5 2 1 m6 (ints t3.2)]) [0, 1, 2, 3] rfl (by decide)).backL hpost
                          clear hpost
                          refine wpl rfl rfl ht (ev_assign ht rfl rfl) ?_
                          intro a ht
                          refine wpList_nil ?_
                          refine then_normal ?_
                          refine wp_seq ?_
                          refine wpr ?_
                          refine wpl rfl rfl ht (ev_move ht rfl rfl) ?_
                          intro a ht
                          obtain ⟨t33, et33, H⟩ := bind_get H
                          have hcall := impl_GreatestCircular.calls k _ _ A30 c31 m32 t29 _ ((fun (hq : Ms _ _ _ ([] ++ [.vec A30 c31 2 1 m32 (ints t29), .vec A22 c23 2 1 m24 (ints t21.1), .blk b10 29 (Col.cells t9.1), .blk b8 29 (Col.cells t7.1), .vec A4 c5 2 1 m6 (ints t3.2)]) _ _) => hq.lend (φp := [IntsAt A30 c31 m32 t29]) (allRO_cons (hq.lendVec 0 rfl) (allRO_nil))) (hm.pick (own' := [] ++ [.vec A30 c31 2 1 m32 (ints t29), .vec A22 c23 2 1 m24 (ints t21.1), .blk b10 29 (Col.cells t9.1), .blk b8 29 (Col.cells t7.1), .vec A4 c5 2 1 m6 (ints t3.2)]) [0, 1, 2, 3, 4] rfl (by decide))) et33
                          refine wpl_call _ rfl rfl ht rfl rfl rfl rfl can_13 hcall ?_
                          clear hcall
                          rintro _ w ⟨rfl, hpost⟩ a ht
                          replace hm := (hm.pick (own' := [] ++ [.vec A30 c31 2 1 m32 (ints t29), .vec A22 c23 2 1 m24 (ints t21.1), .blk b10 29 (Col.cells t9.1), .blk b8 29 (Col.cells t7.1), .vec A4 c5 2 1 m6 (ints t3.2)]) [0, 1, 2, 3, 4] rfl (by decide)).backL hpost
                          clear hpost
                          refine wpl rfl rfl ht (ev_move ht rfl rfl) ?_
                          intro a ht
                          refine wpl rfl rfl ht (ev_extract ht rfl rfl rfl) ?_
                          intro a ht
                          refine wpl rfl rfl ht (ev_extract ht rfl rfl rfl) ?_
                          intro a ht
                          refine wpl rfl rfl ht (ev_assign ht rfl rfl) ?_
                          intro a ht
                          refine wpl rfl rfl ht (ev_assign ht rfl rfl) ?_
                          intro a ht
                          refine wpList_nil ?_
                          refine then_normal ?_
                          refine wp_seq ?_
                          refine wpr ?_
                          refine wpl rfl rfl ht (ev_move ht rfl rfl) ?_
                          intro a ht
                          obtain ⟨t34, et34, H⟩ := bind_get H
                          have hcall := spec_GreatestCircular.calls k _ _ A30 c31 m32 t29 _ ((fun (hq : Ms _ _ _ ([] ++ [.vec A30 c31 2 1 m32 (ints t29), .vec A22 c23 2 1 m24 (ints t21.1), .blk b10 29 (Col.cells t9.1), .blk b8 29 (Col.cells t7.1), .vec A4 c5 2 1 m6 (ints t3.2)]) _ _) => hq.lend (φp := [IntsAt A30 c31 m32 t29]) (allRO_cons (hq.lendVec 0 rfl) (allRO_nil))) (hm.pick (own' := [] ++ [.vec A30 c31 2 1 m32 (ints t29), .vec A22 c23 2 1 m24 (ints t21.1), .blk b10 29 (Col.cells t9.1), .blk b8 29 (Col.cells t7.1), .vec A4 c5 2 1 m6 (ints t3.2)]) [0, 1, 2, 3, 4] rfl (by decide))) et34
                          refine wpl_call _ rfl rfl ht rfl rfl rfl rfl can_14 hcall ?_
                          clear hcall
                          rintro _ w ⟨rfl, hpost⟩ a ht
                          replace hm := (hm.pick (own' := [] ++ [.vec A30 c31 2 1 m32 (ints t29), .vec A22 c23 2 1 m24 (ints t21.1), .blk b10 29 (Col.cells t9.1), .blk b8 29 (Col.cells t7.1), .vec A4 c5 2 1 m6 (ints t3.2)]) [0, 1, 2, 3, 4] rfl (by decide)).backL hpost
                          clear hpost
                          refine wpl rfl rfl ht (ev_move ht rfl rfl) ?_
                          intro a ht
                          refine wpl rfl rfl ht (ev_extract ht rfl rfl rfl) ?_
                          intro a ht
                          refine wpl rfl rfl ht (ev_extract ht rfl rfl rfl) ?_
                          intro a ht
                          refine wpl rfl rfl ht (ev_assign ht rfl rfl) ?_
                          intro a ht
                          refine wpl rfl rfl ht (ev_assign ht rfl rfl) ?_
                          intro a ht
                          refine wpList_nil ?_
                          refine then_normal ?_
                          refine wp_seq ?_
                          refine wp_seq ?_
                          refine wpr ?_
                          refine wpl rfl rfl ht (ev_move ht rfl rfl) ?_
                          intro a ht
                          refine wpl rfl rfl ht (ev_move ht rfl rfl) ?_
                          intro a ht
                          refine wpl rfl rfl ht (ev_cmp ht rfl rfl rfl rfl) ?_
                          intro a ht
                          refine wpl rfl rfl ht (ev_move ht rfl rfl) ?_
                          intro a ht
                          by_cases h35 : t33.2 ≠ t34.2
                          · replace H := ite_yes h35 H
                            refine wpl_no rfl rfl ht rfl (by rw [(decide_eq_true h35)]; decide) ?_
                            intro a ht
                            refine wpl_no rfl rfl ht rfl (by rw [(decide_eq_true h35)]; decide) ?_
                            intro a ht
                            refine wpl_no rfl rfl ht rfl (by rw [(decide_eq_true h35)]; decide) ?_
                            intro a ht
                            refine wpl rfl rfl ht (ev_pick_yes ht rfl rfl (decide_eq_true h35) rfl) ?_
                            intro a ht
                            refine wpList_nil ?_
                            refine then_normal ?_
                            refine wpc_yes ht rfl rfl ?_
                            refine wp_seq ?_
                            refine wpr ?_
                            refine wpl rfl rfl ht (ev_assign ht rfl rfl) ?_
                            intro a ht
                            refine wpList_nil ?_
                            refine then_normal ?_
                            refine wp_ret ?_
                            refine then_ret ?_
                            have hres := ht.res (P := Try.prog) (w := w) (rs := [.tmp 2]) (vs := [.bool false]) (.tmp rfl .nil)
                            obtain rfl := Option.some.inj H
                            exact leave ht rfl hres ⟨rfl, ((hm.pick [] rfl (by decide)).pickφ [] rfl).post fun _ h => h⟩
                          · replace H := ite_no h35 H
                            refine wpl_yes rfl ht rfl ((decide_eq_false h35)) ?_
                            refine wpl rfl rfl ht (ev_move ht rfl rfl) ?_
                            intro a ht
                            refine wpl_yes rfl ht rfl ((decide_eq_false h35)) ?_
                            refine wpl rfl rfl ht (ev_move ht rfl rfl) ?_
                            intro a ht
                            refine wpl_yes rfl ht rfl ((decide_eq_false h35)) ?_
                            refine wpl rfl rfl ht (ev_cmp ht rfl rfl rfl rfl) ?_
                            intro a ht
                            refine wpl rfl rfl ht (ev_pick_no ht rfl rfl (decide_eq_false h35) rfl) ?_
                            intro a ht
                            refine wpList_nil ?_
                            refine then_normal ?_
                            by_cases h36 : t33.1 ≠ t34.1
                            · replace H := ite_yes h36 H
                              refine wpc_yes ht rfl (decide_eq_true h36) ?_
                              refine wp_seq ?_
                              refine wpr ?_
                              refine wpl rfl rfl ht (ev_assign ht rfl rfl) ?_
                              intro a ht
                              refine wpList_nil ?_
                              refine then_normal ?_
                              refine wp_ret ?_
                              refine then_ret ?_
                              have hres := ht.res (P := Try.prog) (w := w) (rs := [.tmp 2]) (vs := [.bool false]) (.tmp rfl .nil)
                              obtain rfl := Option.some.inj H
                              exact leave ht rfl hres ⟨rfl, ((hm.pick [] rfl (by decide)).pickφ [] rfl).post fun _ h => h⟩
                            · replace H := ite_no h36 H
                              refine wpc_no ht rfl (decide_eq_false h36) ?_
                              refine wp_skip ?_
                              refine then_normal ?_
                              refine wp_seq ?_
                              refine wp_seq ?_
                              refine wpr ?_
                              refine wpl rfl rfl ht (ev_move ht rfl rfl) ?_
                              intro a ht
                              refine wpl rfl rfl ht (ev_cmp ht rfl rfl rfl rfl) ?_
                              intro a ht
                              refine wpList_nil ?_
                              refine then_normal ?_
                              by_cases h37 : t33.2 = 0
                              · replace H := ite_yes h37 H
                                refine wpc_yes ht rfl (decide_eq_true h37) ?_
                                refine wp_seq ?_
                                refine wpr ?_
                                refine wpl rfl rfl ht (ev_move ht rfl rfl) ?_
                                intro a ht
                                refine wpl rfl rfl ht (ev_move ht rfl rfl) ?_
                                intro a ht
                                obtain ⟨t38, et38, H⟩ := bind_get H
                                have hcall := impl_FirstCircular.calls k _ _ A30 c31 m32 t33.1 t29 _ ((fun (hq : Ms _ _ _ ([] ++ [.vec A30 c31 2 1 m32 (ints t29), .vec A22 c23 2 1 m24 (ints t21.1), .blk b10 29 (Col.cells t9.1), .blk b8 29 (Col.cells t7.1), .vec A4 c5 2 1 m6 (ints t3.2)]) _ _) => hq.lend (φp := [IntsAt A30 c31 m32 t29]) (allRO_cons (hq.lendVec 0 rfl) (allRO_nil))) (hm.pick (own' := [] ++ [.vec A30 c31 2 1 m32 (ints t29), .vec A22 c23 2 1 m24 (ints t21.1), .blk b10 29 (Col.cells t9.1), .blk b8 29 (Col.cells t7.1), .vec A4 c5 2 1 m6 (ints t3.2)]) [0, 1, 2, 3, 4] rfl (by decide))) et38
                                refine wpl_call _ rfl rfl ht rfl rfl rfl rfl can_6 hcall ?_
                                clear hcall
                                rintro _ w ⟨rfl, hpost⟩ a ht
                                replace hm := (hm.pick (own' := [] ++ [.vec A30 c31 2 1 m32 (ints t29), .vec A22 c23 2 1 m24 (ints t21.1), .blk b10 29 (Col.cells t9.1), .blk b8 29 (Col.cells t7.1), .vec A4 c5 2 1 m6 (ints t3.2)]) [0, 1, 2, 3, 4] rfl (by decide)).backL hpost
                                clear hpost
                                refine wpl rfl rfl ht (ev_move ht rfl rfl) ?_
                                intro a ht
                                refine wpl rfl rfl ht (ev_extract ht rfl rfl rfl) ?_
                                intro a ht
                                refine wpl rfl rfl ht (ev_extract ht rfl rfl rfl) ?_
                                intro a ht
                                refine wpl_alloc rfl rfl ht hm rfl zo_29 ?_
                                intro b39 a ht w hm
                                refine wpl_store_whole 0 rfl rfl ht hm rfl rfl rfl (szn_29.trans (by first | rw [Col.length_cells] | rfl)) rfl (by simp only [Col.length_cells]) (Col.cells_one _) ?_
                                intro a ht w hm
                                refine wpl rfl rfl ht (ev_assign ht rfl rfl) ?_
                                intro a ht
                                refine wpList_nil ?_
                                refine then_normal ?_
                                refine wp_seq ?_
                                refine wpr ?_
                                refine wpl rfl rfl ht (ev_load_agg ht rfl rfl (ag_29.trans (by first | rw [Col.length_cells] | rfl)) (hm.blk_all 0 rfl)) ?_
                                intro a ht
                                refine wpl rfl rfl ht (ev_move ht rfl rfl) ?_
                                intro a ht
                                obtain ⟨t40, et40, H⟩ := bind_get H
                                have hcall := impl_AvoidsSizes.calls k _ _ A30 c31 m32 t38.1 t29 _ ((fun (hq : Ms _ _ _ ([] ++ [.blk b39 29 (Col.cells t38.1), .vec A30 c31 2 1 m32 (ints t29), .vec A22 c23 2 1 m24 (ints t21.1), .blk b10 29 (Col.cells t9.1), .blk b8 29 (Col.cells t7.1), .vec A4 c5 2 1 m6 (ints t3.2)]) _ _) => hq.lend (φp := [IntsAt A30 c31 m32 t29]) (allRO_cons (hq.lendVec 1 rfl) (allRO_nil))) (hm.pick (own' := [] ++ [.blk b39 29 (Col.cells t38.1), .vec A30 c31 2 1 m32 (ints t29), .vec A22 c23 2 1 m24 (ints t21.1), .blk b10 29 (Col.cells t9.1), .blk b8 29 (Col.cells t7.1), .vec A4 c5 2 1 m6 (ints t3.2)]) [0, 1, 2, 3, 4, 5] rfl (by decide))) et40
                                refine wpl_call _ rfl rfl ht rfl rfl rfl rfl can_10 hcall ?_
                                clear hcall
                                rintro _ w ⟨rfl, hpost⟩ a ht
                                replace hm := (hm.pick (own' := [] ++ [.blk b39 29 (Col.cells t38.1), .vec A30 c31 2 1 m32 (ints t29), .vec A22 c23 2 1 m24 (ints t21.1), .blk b10 29 (Col.cells t9.1), .blk b8 29 (Col.cells t7.1), .vec A4 c5 2 1 m6 (ints t3.2)]) [0, 1, 2, 3, 4, 5] rfl (by decide)).backL hpost
                                clear hpost
                                refine wpl rfl rfl ht (ev_move ht rfl rfl) ?_
                                intro a ht
                                refine wpl rfl rfl ht (ev_extract ht rfl rfl rfl) ?_
                                intro a ht
                                refine wpl rfl rfl ht (ev_extract ht rfl rfl rfl) ?_
                                intro a ht
                                refine wpl rfl rfl ht (ev_assign ht rfl rfl) ?_
                                intro a ht
                                refine wpl rfl rfl ht (ev_assign ht rfl rfl) ?_
                                intro a ht
                                refine wpList_nil ?_
                                refine then_normal ?_
                                refine wp_seq ?_
                                refine wp_seq ?_
                                refine wpr ?_
                                refine wpl rfl rfl ht (ev_move ht rfl rfl) ?_
                                intro a ht
                                refine wpl rfl rfl ht (ev_cmp ht rfl rfl rfl rfl) ?_
                                intro a ht
                                refine wpl rfl rfl ht (ev_move ht rfl rfl) ?_
                                intro a ht
                                by_cases h41 : t38.2 ≠ 0
                                · replace H := ite_yes h41 H
                                  refine wpl_no rfl rfl ht rfl (by rw [(decide_eq_true h41)]; decide) ?_
                                  intro a ht
                                  refine wpl_no rfl rfl ht rfl (by rw [(decide_eq_true h41)]; decide) ?_
                                  intro a ht
                                  refine wpl rfl rfl ht (ev_pick_yes ht rfl rfl (decide_eq_true h41) rfl) ?_
                                  intro a ht
                                  refine wpl rfl rfl ht (ev_move ht rfl rfl) ?_
                                  intro a ht
                                  refine wpl_no rfl rfl ht rfl (by decide) ?_
                                  intro a ht
                                  refine wpl_no rfl rfl ht rfl (by decide) ?_
                                  intro a ht
                                  refine wpl rfl rfl ht (ev_pick_yes ht rfl rfl rfl rfl) ?_
                                  intro a ht
                                  refine wpList_nil ?_
                                  refine then_normal ?_
                                  refine wpc_yes ht rfl rfl ?_
                                  refine wp_seq ?_
                                  refine wpr ?_
                                  refine wpl rfl rfl ht (ev_assign ht rfl rfl) ?_
                                  intro a ht
                                  refine wpList_nil ?_
                                  refine then_normal ?_
                                  refine wp_ret ?_
                                  refine then_ret ?_
                                  refine then_ret ?_
                                  have hres := ht.res (P := Try.prog) (w := w) (rs := [.tmp 2]) (vs := [.bool false]) (.tmp rfl .nil)
                                  obtain rfl := Option.some.inj H
                                  exact leave ht rfl hres ⟨rfl, ((hm.pick [] rfl (by decide)).pickφ [] rfl).post fun _ h => h⟩
                                · replace H := ite_no h41 H
                                  refine wpl_yes rfl ht rfl ((decide_eq_false h41)) ?_
                                  refine wpl rfl rfl ht (ev_move ht rfl rfl) ?_
                                  intro a ht
                                  refine wpl_yes rfl ht rfl ((decide_eq_false h41)) ?_
                                  refine wpl rfl rfl ht (ev_cmp ht rfl rfl rfl rfl) ?_
                                  intro a ht
                                  refine wpl rfl rfl ht (ev_pick_no ht rfl rfl (decide_eq_false h41) rfl) ?_
                                  intro a ht
                                  refine wpl rfl rfl ht (ev_move ht rfl rfl) ?_
                                  intro a ht
                                  by_cases h42 : t40.2 ≠ 0
                                  · replace H := ite_yes h42 H
                                    refine wpl_no rfl rfl ht rfl (by rw [(decide_eq_true h42)]; decide) ?_
                                    intro a ht
                                    refine wpl_no rfl rfl ht rfl (by rw [(decide_eq_true h42)]; decide) ?_
                                    intro a ht
                                    refine wpl rfl rfl ht (ev_pick_yes ht rfl rfl (decide_eq_true h42) rfl) ?_
                                    intro a ht
                                    refine wpList_nil ?_
                                    refine then_normal ?_
                                    refine wpc_yes ht rfl rfl ?_
                                    refine wp_seq ?_
                                    refine wpr ?_
                                    refine wpl rfl rfl ht (ev_assign ht rfl rfl) ?_
                                    intro a ht
                                    refine wpList_nil ?_
                                    refine then_normal ?_
                                    refine wp_ret ?_
                                    refine then_ret ?_
                                    refine then_ret ?_
                                    have hres := ht.res (P := Try.prog) (w := w) (rs := [.tmp 2]) (vs := [.bool false]) (.tmp rfl .nil)
                                    obtain rfl := Option.some.inj H
                                    exact leave ht rfl hres ⟨rfl, ((hm.pick [] rfl (by decide)).pickφ [] rfl).post fun _ h => h⟩
                                  · replace H := ite_no h42 H
                                    refine wpl_yes rfl ht rfl ((decide_eq_false h42)) ?_
                                    refine wpl rfl rfl ht (ev_move ht rfl rfl) ?_
                                    intro a ht
                                    refine wpl_yes rfl ht rfl ((decide_eq_false h42)) ?_
                                    refine wpl rfl rfl ht (ev_not ht rfl rfl) ?_
                                    intro a ht
                                    refine wpl rfl rfl ht (ev_pick_no ht rfl rfl (decide_eq_false h42) rfl) ?_
                                    intro a ht
                                    refine wpList_nil ?_
                                    refine then_normal ?_
                                    by_cases h43 : t40.1 = true
                                    · replace H := ite_yes h43 H
                                      refine wpc_no ht rfl (not_t h43) ?_
                                      refine wp_skip ?_
                                      refine then_normal ?_
                                      refine wp_seq ?_
                                      refine wpr ?_
                                      refine wpl rfl rfl ht (ev_move ht rfl rfl) ?_
                                      intro a ht
                                      refine wpl rfl rfl ht (ev_cmp ht rfl rfl rfl rfl) ?_
                                      intro a ht
                                      refine wpList_nil ?_
                                      refine then_normal ?_
                                      by_cases h44 : t33.1 < 13
                                      · replace H := ite_yes h44 H
                                        refine wpc_yes ht rfl (decide_eq_true h44) ?_
                                        refine wp_seq ?_
                                        refine wpr ?_
                                        refine wpl rfl rfl ht (ev_move ht rfl rfl) ?_
                                        intro a ht
                                        refine wpl rfl rfl ht (ev_arith ht rfl rfl rfl rfl) ?_
                                        intro a ht
                                        refine wpl rfl rfl ht (ev_move ht rfl rfl) ?_
                                        intro a ht
                                        obtain ⟨t45, et45, H⟩ := bind_get H
                                        have hcall := impl_CountCircular.calls k _ _ A30 c31 m32 (w64 (t33.1 + 1)) t29 _ ((fun (hq : Ms _ _ _ ([] ++ [.blk b39 29 (Col.cells t38.1), .vec A30 c31 2 1 m32 (ints t29), .vec A22 c23 2 1 m24 (ints t21.1), .blk b10 29 (Col.cells t9.1), .blk b8 29 (Col.cells t7.1), .vec A4 c5 2 1 m6 (ints t3.2)]) _ _) => hq.lend (φp := [IntsAt A30 c31 m32 t29]) (allRO_cons (hq.lendVec 1 rfl) (allRO_nil))) (hm.pick (own' := [] ++ [.blk b39 29 (Col.cells t38.1), .vec A30 c31 2 1 m32 (ints t29), .vec A22 c23 2 1 m24 (ints t21.1), .blk b10 29 (Col.cells t9.1), .blk b8 29 (Col.cells t7.1), .vec A4 c5 2 1 m6 (ints t3.2)]) [0, 1, 2, 3, 4, 5] rfl (by decide))) et45
                                        refine wpl_call _ rfl rfl ht rfl rfl rfl rfl can_8 hcall ?_
                                        clear hcall
                                        rintro _ w ⟨rfl, hpost⟩ a ht
                                        replace hm := (hm.pick (own' := [] ++ [.blk b39 29 (Col.cells t38.1), .vec A30 c31 2 1 m32 (ints t29), .vec A22 c23 2 1 m24 (ints t21.1), .blk b10 29 (Col.cells t9.1), .blk b8 29 (Col.cells t7.1), .vec A4 c5 2 1 m6 (ints t3.2)]) [0, 1, 2, 3, 4, 5] rfl (by decide)).backL hpost
                                        clear hpost
                                        refine wpl rfl rfl ht (ev_move ht rfl rfl) ?_
                                        intro a ht
                                        refine wpl rfl rfl ht (ev_extract ht rfl rfl rfl) ?_
                                        intro a ht
                                        refine wpl rfl rfl ht (ev_extract ht rfl rfl rfl) ?_
                                        intro a ht
                                        refine wpl rfl rfl ht (ev_assign ht rfl rfl) ?_
                                        intro a ht
                                        refine wpl rfl rfl ht (ev_assign ht rfl rfl) ?_
                                        intro a ht
                                        refine wpList_nil ?_
                                        refine then_normal ?_
                                        refine wp_seq ?_
                                        refine wpr ?_
                                        refine wpl rfl rfl ht (ev_move ht rfl rfl) ?_
                                        intro a ht
                                        refine wpl rfl rfl ht (ev_cmp ht rfl rfl rfl rfl) ?_
                                        intro a ht
                                        refine wpl rfl rfl ht (ev_move ht rfl rfl) ?_
                                        intro a ht
                                        by_cases h46 : t45.2 ≠ 0
                                        · replace H := ite_yes h46 H
                                          refine wpl_no rfl rfl ht rfl (by rw [(decide_eq_true h46)]; decide) ?_
                                          intro a ht
                                          refine wpl_no rfl rfl ht rfl (by rw [(decide_eq_true h46)]; decide) ?_
                                          intro a ht
                                          refine wpl rfl rfl ht (ev_pick_yes ht rfl rfl (decide_eq_true h46) rfl) ?_
                                          intro a ht
                                          refine wpList_nil ?_
                                          refine then_normal ?_
                                          refine wpc_yes ht rfl rfl ?_
                                          refine wp_seq ?_
                                          refine wpr ?_
                                          refine wpl rfl rfl ht (ev_assign ht rfl rfl) ?_
                                          intro a ht
                                          refine wpList_nil ?_
                                          refine then_normal ?_
                                          refine wp_ret ?_
                                          refine then_ret ?_
                                          have hres := ht.res (P := Try.prog) (w := w) (rs := [.tmp 2]) (vs := [.bool false]) (.tmp rfl .nil)
                                          obtain rfl := Option.some.inj H
                                          exact leave ht rfl hres ⟨rfl, ((hm.pick [] rfl (by decide)).pickφ [] rfl).post fun _ h => h⟩
                                        · replace H := ite_no h46 H
                                          refine wpl_yes rfl ht rfl ((decide_eq_false h46)) ?_
                                          refine wpl rfl rfl ht (ev_move ht rfl rfl) ?_
                                          intro a ht
                                          refine wpl_yes rfl ht rfl ((decide_eq_false h46)) ?_
                                          refine wpl rfl rfl ht (ev_cmp ht rfl rfl rfl rfl) ?_
                                          intro a ht
                                          refine wpl rfl rfl ht (ev_pick_no ht rfl rfl (decide_eq_false h46) rfl) ?_
                                          intro a ht
                                          refine wpList_nil ?_
                                          refine then_normal ?_
                                          by_cases h47 : t45.1 ≠ 0
                                          · replace H := ite_yes h47 H
                                            refine wpc_yes ht rfl (decide_eq_true h47) ?_
                                            refine wp_seq ?_
                                            refine wpr ?_
                                            refine wpl rfl rfl ht (ev_assign ht rfl rfl) ?_
                                            intro a ht
                                            refine wpList_nil ?_
                                            refine then_normal ?_
                                            refine wp_ret ?_
                                            refine then_ret ?_
                                            have hres := ht.res (P := Try.prog) (w := w) (rs := [.tmp 2]) (vs := [.bool false]) (.tmp rfl .nil)
                                            obtain rfl := Option.some.inj H
                                            exact leave ht rfl hres ⟨rfl, ((hm.pick [] rfl (by decide)).pickφ [] rfl).post fun _ h => h⟩
                                          · replace H := ite_no h47 H
                                            refine wpc_no ht rfl (decide_eq_false h47) ?_
                                            refine wp_skip ?_
                                            refine then_normal ?_
                                            refine wp_seq ?_
                                            refine wpr ?_
                                            refine wpl rfl rfl ht (ev_assign ht rfl rfl) ?_
                                            intro a ht
                                            refine wpList_nil ?_
                                            refine then_normal ?_
                                            refine wp_ret ?_
                                            have hres := ht.res (P := Try.prog) (w := w) (rs := [.tmp 2]) (vs := [.bool true]) (.tmp rfl .nil)
                                            obtain rfl := Option.some.inj H
                                            exact leave ht rfl hres ⟨rfl, ((hm.pick [] rfl (by decide)).pickφ [] rfl).post fun _ h => h⟩
                                      · replace H := ite_no h44 H
                                        refine wpc_no ht rfl (decide_eq_false h44) ?_
                                        refine wp_skip ?_
                                        refine then_normal ?_
                                        refine wp_seq ?_
                                        refine wpr ?_
                                        refine wpl rfl rfl ht (ev_assign ht rfl rfl) ?_
                                        intro a ht
                                        refine wpList_nil ?_
                                        refine then_normal ?_
                                        refine wp_ret ?_
                                        have hres := ht.res (P := Try.prog) (w := w) (rs := [.tmp 2]) (vs := [.bool true]) (.tmp rfl .nil)
                                        obtain rfl := Option.some.inj H
                                        exact leave ht rfl hres ⟨rfl, ((hm.pick [] rfl (by decide)).pickφ [] rfl).post fun _ h => h⟩
                                    · replace H := ite_no h43 H
                                      refine wpc_yes ht rfl (not_f (Bool.eq_false_iff.mpr h43)) ?_
                                      refine wp_seq ?_
                                      refine wpr ?_
                                      refine wpl rfl rfl ht (ev_assign ht rfl rfl) ?_
                                      intro a ht
                                      refine wpList_nil ?_
                                      refine then_normal ?_
                                      refine wp_ret ?_
                                      refine then_ret ?_
                                      refine then_ret ?_
                                      have hres := ht.res (P := Try.prog) (w := w) (rs := [.tmp 2]) (vs := [.bool false]) (.tmp rfl .nil)
                                      obtain rfl := Option.some.inj H
                                      exact leave ht rfl hres ⟨rfl, ((hm.pick [] rfl (by decide)).pickφ [] rfl).post fun _ h => h⟩
                              · replace H := ite_no h37 H
                                refine wpc_no ht rfl (decide_eq_false h37) ?_
                                refine wp_skip ?_
                                refine then_normal ?_
                                refine wp_seq ?_
                                refine wpr ?_
                                refine wpl rfl rfl ht (ev_assign ht rfl rfl) ?_
                                intro a ht
                                refine wpList_nil ?_
                                refine then_normal ?_
                                refine wp_ret ?_
                                have hres := ht.res (P := Try.prog) (w := w) (rs := [.tmp 2]) (vs := [.bool true]) (.tmp rfl .nil)
                                obtain rfl := Option.some.inj H
                                exact leave ht rfl hres ⟨rfl, ((hm.pick [] rfl (by decide)).pickφ [] rfl).post fun _ h => h⟩
                      · replace H := ite_no h27 H
                        refine wpl_no rfl rfl ht rfl (by rw [(not_f (Bool.eq_false_iff.mpr h27))]; decide) ?_
                        intro a ht
                        refine wpl_no rfl rfl ht rfl (by rw [(not_f (Bool.eq_false_iff.mpr h27))]; decide) ?_
                        intro a ht
                        refine wpl_no rfl rfl ht rfl (by rw [(not_f (Bool.eq_false_iff.mpr h27))]; decide) ?_
                        intro a ht
                        refine wpl_no rfl rfl ht rfl (by rw [(not_f (Bool.eq_false_iff.mpr h27))]; decide) ?_
                        intro a ht
                        refine wpl_no rfl rfl ht rfl (by rw [(not_f (Bool.eq_false_iff.mpr h27))]; decide) ?_
                        intro a ht
                        refine wpl rfl rfl ht (ev_pick_yes ht rfl rfl (not_f (Bool.eq_false_iff.mpr h27)) rfl) ?_
                        intro a ht
                        refine wpList_nil ?_
                        refine then_normal ?_
                        refine wpc_yes ht rfl rfl ?_
                        refine wp_seq ?_
                        refine wpr ?_
                        refine wpl rfl rfl ht (ev_assign ht rfl rfl) ?_
                        intro a ht
                        refine wpList_nil ?_
                        refine then_normal ?_
                        refine wp_ret ?_
                        refine then_ret ?_
                        have hres := ht.res (P := Try.prog) (w := w) (rs := [.tmp 2]) (vs := [.bool false]) (.tmp rfl .nil)
                        obtain rfl := Option.some.inj H
                        exact leave ht rfl hres ⟨rfl, ((hm.pick [] rfl (by decide)).pickφ [] rfl).post fun _ h => h⟩
                · replace H := ite_no h19 H
                  refine wpc_no ht rfl (decide_eq_false h19) ?_
                  refine wp_skip ?_
                  refine then_normal ?_
                  refine wp_seq ?_
                  refine wpr ?_
                  refine wpl rfl rfl ht (ev_move ht rfl rfl) ?_
                  intro a ht
                  obtain ⟨t48, et48, H⟩ := bind_get H
                  have hcall := spec_DrawGreatestCircular.calls k _ _ A c m code _ ((fun (hq : Ms _ _ _ ([] ++ [.blk b10 29 (Col.cells t9.1), .blk b8 29 (Col.cells t7.1), .vec A4 c5 2 1 m6 (ints t3.2)]) _ _) => hq.lend (φp := [Bytes8At A c m code]) (allRO_cons (hq.lendFact 0 rfl) (allRO_nil))) (hm.pick (own' := [] ++ [.blk b10 29 (Col.cells t9.1), .blk b8 29 (Col.cells t7.1), .vec A4 c5 2 1 m6 (ints t3.2)]) [0, 1, 2] rfl (by decide))) et48
                  refine wpl_call _ rfl rfl ht rfl rfl rfl rfl can_12 hcall ?_
                  clear hcall
                  rintro _ w ⟨A49, c50, m51, rfl, hpost⟩ a ht
                  replace hm := (hm.pick (own' := [] ++ [.blk b10 29 (Col.cells t9.1), .blk b8 29 (Col.cells t7.1), .vec A4 c5 2 1 m6 (ints t3.2)]) [0, 1, 2] rfl (by decide)).backL hpost
                  clear hpost
                  refine wpl rfl rfl ht (ev_assign ht rfl rfl) ?_
                  intro a ht
                  refine wpList_nil ?_
                  refine then_normal ?_
                  refine wp_seq ?_
                  refine wpr ?_
                  refine wpl rfl rfl ht (ev_move ht rfl rfl) ?_
                  intro a ht
                  obtain ⟨t52, et52, H⟩ := bind_get H
                  have hcall := impl_GreatestCircular.calls k _ _ A49 c50 m51 t48 _ ((fun (hq : Ms _ _ _ ([] ++ [.vec A49 c50 2 1 m51 (ints t48), .blk b10 29 (Col.cells t9.1), .blk b8 29 (Col.cells t7.1), .vec A4 c5 2 1 m6 (ints t3.2)]) _ _) => hq.lend (φp := [IntsAt A49 c50 m51 t48]) (allRO_cons (hq.lendVec 0 rfl) (allRO_nil))) (hm.pick (own' := [] ++ [.vec A49 c50 2 1 m51 (ints t48), .blk b10 29 (Col.cells t9.1), .blk b8 29 (Col.cells t7.1), .vec A4 c5 2 1 m6 (ints t3.2)]) [0, 1, 2, 3] rfl (by decide))) et52
                  refine wpl_call _ rfl rfl ht rfl rfl rfl rfl can_13 hcall ?_
                  clear hcall
                  rintro _ w ⟨rfl, hpost⟩ a ht
                  replace hm := (hm.pick (own' := [] ++ [.vec A49 c50 2 1 m51 (ints t48), .blk b10 29 (Col.cells t9.1), .blk b8 29 (Col.cells t7.1), .vec A4 c5 2 1 m6 (ints t3.2)]) [0, 1, 2, 3] rfl (by decide)).backL hpost
                  clear hpost
                  refine wpl rfl rfl ht (ev_move ht rfl rfl) ?_
                  intro a ht
                  refine wpl rfl rfl ht (ev_extract ht rfl rfl rfl) ?_
                  intro a ht
                  refine wpl rfl rfl ht (ev_extract ht rfl rfl rfl) ?_
                  intro a ht
                  refine wpl rfl rfl ht (ev_assign ht rfl rfl) ?_
                  intro a ht
                  refine wpl rfl rfl ht (ev_assign ht rfl rfl) ?_
                  intro a ht
                  refine wpList_nil ?_
                  refine then_normal ?_
                  refine wp_seq ?_
                  refine wpr ?_
                  refine wpl rfl rfl ht (ev_move ht rfl rfl) ?_
                  intro a ht
                  obtain ⟨t53, et53, H⟩ := bind_get H
                  have hcall := spec_GreatestCircular.calls k _ _ A49 c50 m51 t48 _ ((fun (hq : Ms _ _ _ ([] ++ [.vec A49 c50 2 1 m51 (ints t48), .blk b10 29 (Col.cells t9.1), .blk b8 29 (Col.cells t7.1), .vec A4 c5 2 1 m6 (ints t3.2)]) _ _) => hq.lend (φp := [IntsAt A49 c50 m51 t48]) (allRO_cons (hq.lendVec 0 rfl) (allRO_nil))) (hm.pick (own' := [] ++ [.vec A49 c50 2 1 m51 (ints t48), .blk b10 29 (Col.cells t9.1), .blk b8 29 (Col.cells t7.1), .vec A4 c5 2 1 m6 (ints t3.2)]) [0, 1, 2, 3] rfl (by decide))) et53
                  refine wpl_call _ rfl rfl ht rfl rfl rfl rfl can_14 hcall ?_
                  clear hcall
                  rintro _ w ⟨rfl, hpost⟩ a ht
                  replace hm := (hm.pick (own' := [] ++ [.vec A49 c50 2 1 m51 (ints t48), .blk b10 29 (Col.cells t9.1), .blk b8 29 (Col.cells t7.1), .vec A4 c5 2 1 m6 (ints t3.2)]) [0, 1, 2, 3] rfl (by decide)).backL hpost
                  clear hpost
                  refine wpl rfl rfl ht (ev_move ht rfl rfl) ?_
                  intro a ht
                  refine wpl rfl rfl ht (ev_extract ht rfl rfl rfl) ?_
                  intro a ht
                  refine wpl rfl rfl ht (ev_extract ht rfl rfl rfl) ?_
                  intro a ht
                  refine wpl rfl rfl ht (ev_assign ht rfl rfl) ?_
                  intro a ht
                  refine wpl rfl rfl ht (ev_assign ht rfl rfl) ?_
                  intro a ht
                  refine wpList_nil ?_
                  refine then_normal ?_
                  refine wp_seq ?_
                  refine wp_seq ?_
                  refine wpr ?_
                  refine wpl rfl rfl ht (ev_move ht rfl rfl) ?_
                  intro a ht
                  refine wpl rfl rfl ht (ev_move ht rfl rfl) ?_
                  intro a ht
                  refine wpl rfl rfl ht (ev_cmp ht rfl rfl rfl rfl) ?_
                  intro a ht
                  refine wpl rfl rfl ht (ev_move ht rfl rfl) ?_
                  intro a ht
                  by_cases h54 : t52.2 ≠ t53.2
                  · replace H := ite_yes h54 H
                    refine wpl_no rfl rfl ht rfl (by rw [(decide_eq_true h54)]; decide) ?_
                    intro a ht
                    refine wpl_no rfl rfl ht rfl (by rw [(decide_eq_true h54)]; decide) ?_
                    intro a ht
                    refine wpl_no rfl rfl ht rfl (by rw [(decide_eq_true h54)]; decide) ?_
                    intro a ht
                    refine wpl rfl rfl ht (ev_pick_yes ht rfl rfl (decide_eq_true h54) rfl) ?_
                    intro a ht
                    refine wpList_nil ?_
                    refine then_normal ?_
                    refine wpc_yes ht rfl rfl ?_
                    refine wp_seq ?_
                    refine wpr ?_
                    refine wpl rfl rfl ht (ev_assign ht rfl rfl) ?_
                    intro a ht
                    refine wpList_nil ?_
                    refine then_normal ?_
                    refine wp_ret ?_
                    refine then_ret ?_
                    have hres := ht.res (P := Try.prog) (w := w) (rs := [.tmp 2]) (vs := [.bool false]) (.tmp rfl .nil)
                    obtain rfl := Option.some.inj H
                    exact leave ht rfl hres ⟨rfl, ((hm.pick [] rfl (by decide)).pickφ [] rfl).post fun _ h => h⟩
                  · replace H := ite_no h54 H
                    refine wpl_yes rfl ht rfl ((decide_eq_false h54)) ?_
                    refine wpl rfl rfl ht (ev_move ht rfl rfl) ?_
                    intro a ht
                    refine wpl_yes rfl ht rfl ((decide_eq_false h54)) ?_
                    refine wpl rfl rfl ht (ev_move ht rfl rfl) ?_
                    intro a ht
                    refine wpl_yes rfl ht rfl ((decide_eq_false h54)) ?_
                    refine wpl rfl rfl ht (ev_cmp ht rfl rfl rfl rfl) ?_
                    intro a ht
                    refine wpl rfl rfl ht (ev_pick_no ht rfl rfl (decide_eq_false h54) rfl) ?_
                    intro a ht
                    refine wpList_nil ?_
                    refine then_normal ?_
                    by_cases h55 : t52.1 ≠ t53.1
                    · replace H := ite_yes h55 H
                      refine wpc_yes ht rfl (decide_eq_true h55) ?_
                      refine wp_seq ?_
                      refine wpr ?_
                      refine wpl rfl rfl ht (ev_assign ht rfl rfl) ?_
                      intro a ht
                      refine wpList_nil ?_
                      refine then_normal ?_
                      refine wp_ret ?_
                      refine then_ret ?_
                      have hres := ht.res (P := Try.prog) (w := w) (rs := [.tmp 2]) (vs := [.bool false]) (.tmp rfl .nil)
                      obtain rfl := Option.some.inj H
                      exact leave ht rfl hres ⟨rfl, ((hm.pick [] rfl (by decide)).pickφ [] rfl).post fun _ h => h⟩
                    · replace H := ite_no h55 H
                      refine wpc_no ht rfl (decide_eq_false h55) ?_
                      refine wp_skip ?_
                      refine then_normal ?_
                      refine wp_seq ?_
                      refine wp_seq ?_
                      refine wpr ?_
                      refine wpl rfl rfl ht (ev_move ht rfl rfl) ?_
                      intro a ht
                      refine wpl rfl rfl ht (ev_cmp ht rfl rfl rfl rfl) ?_
                      intro a ht
                      refine wpList_nil ?_
                      refine then_normal ?_
                      by_cases h56 : t52.2 = 0
                      · replace H := ite_yes h56 H
                        refine wpc_yes ht rfl (decide_eq_true h56) ?_
                        refine wp_seq ?_
                        refine wpr ?_
                        refine wpl rfl rfl ht (ev_move ht rfl rfl) ?_
                        intro a ht
                        refine wpl rfl rfl ht (ev_move ht rfl rfl) ?_
                        intro a ht
                        obtain ⟨t57, et57, H⟩ := bind_get H
                        have hcall := impl_FirstCircular.calls k _ _ A49 c50 m51 t52.1 t48 _ ((fun (hq : Ms _ _ _ ([] ++ [.vec A49 c50 2 1 m51 (ints t48), .blk b10 29 (Col.cells t9.1), .blk b8 29 (Col.cells t7.1), .vec A4 c5 2 1 m6 (ints t3.2)]) _ _) => hq.lend (φp := [IntsAt A49 c50 m51 t48]) (allRO_cons (hq.lendVec 0 rfl) (allRO_nil))) (hm.pick (own' := [] ++ [.vec A49 c50 2 1 m51 (ints t48), .blk b10 29 (Col.cells t9.1), .blk b8 29 (Col.cells t7.1), .vec A4 c5 2 1 m6 (ints t3.2)]) [0, 1, 2, 3] rfl (by decide))) et57
                        refine wpl_call _ rfl rfl ht rfl rfl rfl rfl can_6 hcall ?_
                        clear hcall
                        rintro _ w ⟨rfl, hpost⟩ a ht
                        replace hm := (hm.pick (own' := [] ++ [.vec A49 c50 2 1 m51 (ints t48), .blk b10 29 (Col.cells t9.1), .blk b8 29 (Col.cells t7.1), .vec A4 c5 2 1 m6 (ints t3.2)]) [0, 1, 2, 3] rfl (by decide)).backL hpost
                        clear hpost
                        refine wpl rfl rfl ht (ev_move ht rfl rfl) ?_
                        intro a ht
                        refine wpl rfl rfl ht (ev_extract ht rfl rfl rfl) ?_
                        intro a ht
                        refine wpl rfl rfl ht (ev_extract ht rfl rfl rfl) ?_
                        intro a ht
                        refine wpl_alloc rfl rfl ht hm rfl zo_29 ?_
                        intro b58 a ht w hm
                        refine wpl_store_whole 0 rfl rfl ht hm rfl rfl rfl (szn_29.trans (by first | rw [Col.length_cells] | rfl)) rfl (by simp only [Col.length_cells]) (Col.cells_one _) ?_
                        intro a ht w hm
                        refine wpl rfl rfl ht (ev_assign ht rfl rfl) ?_
                        intro a ht
                        refine wpList_nil ?_
                        refine then_normal ?_
                        refine wp_seq ?_
                        refine wpr ?_
                        refine wpl rfl rfl ht (ev_load_agg ht rfl rfl (ag_29.trans (by first | rw [Col.length_cells] | rfl)) (hm.blk_all 0 rfl)) ?_
                        intro a ht
                        refine wpl rfl rfl ht (ev_move ht rfl rfl) ?_
                        intro a ht
                        obtain ⟨t59, et59, H⟩ := bind_get H
                        have hcall := impl_AvoidsSizes.calls k _ _ A49 c50 m51 t57.1 t48 _ ((fun (hq : Ms _ _ _ ([] ++ [.blk b58 29 (Col.cells t57.1), .vec A49 c50 2 1 m51 (ints t48), .blk b10 29 (Col.cells t9.1), .blk b8 29 (Col.cells t7.1), .vec A4 c5 2 1 m6 (ints t3.2)]) _ _) => hq.lend (φp := [IntsAt A49 c50 m51 t48]) (allRO_cons (hq.lendVec 1 rfl) (allRO_nil))) (hm.pick (own' := [] ++ [.blk b58 29 (Col.cells t57.1), .vec A49 c50 2 1 m51 (ints t48), .blk b10 29 (Col.cells t9.1), .blk b8 29 (Col.cells t7.1), .vec A4 c5 2 1 m6 (ints t3.2)]) [0, 1, 2, 3, 4] rfl (by decide))) et59
                        refine wpl_call _ rfl rfl ht rfl rfl rfl rfl can_10 hcall ?_
                        clear hcall
                        rintro _ w ⟨rfl, hpost⟩ a ht
                        replace hm := (hm.pick (own' := [] ++ [.blk b58 29 (Col.cells t57.1), .vec A49 c50 2 1 m51 (ints t48), .blk b10 29 (Col.cells t9.1), .blk b8 29 (Col.cells t7.1), .vec A4 c5 2 1 m6 (ints t3.2)]) [0, 1, 2, 3, 4] rfl (by decide)).backL hpost
                        clear hpost
                        refine wpl rfl rfl ht (ev_move ht rfl rfl) ?_
                        intro a ht
                        refine wpl rfl rfl ht (ev_extract ht rfl rfl rfl) ?_
                        intro a ht
                        refine wpl rfl rfl ht (ev_extract ht rfl rfl rfl) ?_
                        intro a ht
                        refine wpl rfl rfl ht (ev_assign ht rfl rfl) ?_
                        intro a ht
                        refine wpl rfl rfl ht (ev_assign ht rfl rfl) ?_
                        intro a ht
                        refine wpList_nil ?_
                        refine then_normal ?_
                        refine wp_seq ?_
                        refine wp_seq ?_
                        refine wpr ?_
                        refine wpl rfl rfl ht (ev_move ht rfl rfl) ?_
                        intro a ht
                        refine wpl rfl rfl ht (ev_cmp ht rfl rfl rfl rfl) ?_
                        intro a ht
                        refine wpl rfl rfl ht (ev_move ht rfl rfl) ?_
                        intro a ht
                        by_cases h60 : t57.2 ≠ 0
                        · replace H := ite_yes h60 H
                          refine wpl_no rfl rfl ht rfl (by rw [(decide_eq_true h60)]; decide) ?_
                          intro a ht
                          refine wpl_no rfl rfl ht rfl (by rw [(decide_eq_true h60)]; decide) ?_
                          intro a ht
                          refine wpl rfl rfl ht (ev_pick_yes ht rfl rfl (decide_eq_true h60) rfl) ?_
                          intro a ht
                          refine wpl rfl rfl ht (ev_move ht rfl rfl) ?_
                          intro a ht
                          refine wpl_no rfl rfl ht rfl (by decide) ?_
                          intro a ht
                          refine wpl_no rfl rfl ht rfl (by decide) ?_
                          intro a ht
                          refine wpl rfl rfl ht (ev_pick_yes ht rfl rfl rfl rfl) ?_
                          intro a ht
                          refine wpList_nil ?_
                          refine then_normal ?_
                          refine wpc_yes ht rfl rfl ?_
                          refine wp_seq ?_
                          refine wpr ?_
                          refine wpl rfl rfl ht (ev_assign ht rfl rfl) ?_
                          intro a ht
                          refine wpList_nil ?_
                          refine then_normal ?_
                          refine wp_ret ?_
                          refine then_ret ?_
                          refine then_ret ?_
                          have hres := ht.res (P := Try.prog) (w := w) (rs := [.tmp 2]) (vs := [.bool false]) (.tmp rfl .nil)
                          obtain rfl := Option.some.inj H
                          exact leave ht rfl hres ⟨rfl, ((hm.pick [] rfl (by decide)).pickφ [] rfl).post fun _ h => h⟩
                        · replace H := ite_no h60 H
                          refine wpl_yes rfl ht rfl ((decide_eq_false h60)) ?_
                          refine wpl rfl rfl ht (ev_move ht rfl rfl) ?_
                          intro a ht
                          refine wpl_yes rfl ht rfl ((decide_eq_false h60)) ?_
                          refine wpl rfl rfl ht (ev_cmp ht rfl rfl rfl rfl) ?_
                          intro a ht
                          refine wpl rfl rfl ht (ev_pick_no ht rfl rfl (decide_eq_false h60) rfl) ?_
                          intro a ht
                          refine wpl rfl rfl ht (ev_move ht rfl rfl) ?_
                          intro a ht
                          by_cases h61 : t59.2 ≠ 0
                          · replace H := ite_yes h61 H
                            refine wpl_no rfl rfl ht rfl (by rw [(decide_eq_true h61)]; decide) ?_
                            intro a ht
                            refine wpl_no rfl rfl ht rfl (by rw [(decide_eq_true h61)]; decide) ?_
                            intro a ht
                            refine wpl rfl rfl ht (ev_pick_yes ht rfl rfl (decide_eq_true h61) rfl) ?_
                            intro a ht
                            refine wpList_nil ?_
                            refine then_normal ?_
                            refine wpc_yes ht rfl rfl ?_
                            refine wp_seq ?_
                            refine wpr ?_
                            refine wpl rfl rfl ht (ev_assign ht rfl rfl) ?_
                            intro a ht
                            refine wpList_nil ?_
                            refine then_normal ?_
                            refine wp_ret ?_
                            refine then_ret ?_
                            refine then_ret ?_
                            have hres := ht.res (P := Try.prog) (w := w) (rs := [.tmp 2]) (vs := [.bool false]) (.tmp rfl .nil)
                            obtain rfl := Option.some.inj H
                            exact leave ht rfl hres ⟨rfl, ((hm.pick [] rfl (by decide)).pickφ [] rfl).post fun _ h => h⟩
                          · replace H := ite_no h61 H
                            refine wpl_yes rfl ht rfl ((decide_eq_false h61)) ?_
                            refine wpl rfl rfl ht (ev_move ht rfl rfl) ?_
                            intro a ht
                            refine wpl_yes rfl ht rfl ((decide_eq_false h61)) ?_
                            refine wpl rfl rfl ht (ev_not ht rfl rfl) ?_
                            intro a ht
                            refine wpl rfl rfl ht (ev_pick_no ht rfl rfl (decide_eq_false h61) rfl) ?_
                            intro a ht
                            refine wpList_nil ?_
                            refine then_normal ?_
                            by_cases h62 : t59.1 = true
                            · replace H := ite_yes h62 H
                              refine wpc_no ht rfl (not_t h62) ?_
                              refine wp_skip ?_
                              refine then_normal ?_
                              refine wp_seq ?_
                              refine wpr ?_
                              refine wpl rfl rfl ht (ev_move ht rfl rfl) ?_
                              intro a ht
                              refine wpl rfl rfl ht (ev_cmp ht rfl rfl rfl rfl) ?_
                              intro a ht
                              refine wpList_nil ?_
                              refine then_normal ?_
                              by_cases h63 : t52.1 < 13
                              · replace H := ite_yes h63 H
                                refine wpc_yes ht rfl (decide_eq_true h63) ?_
                                refine wp_seq ?_
                                refine wpr ?_
                                refine wpl rfl rfl ht (ev_move ht rfl rfl) ?_
                                intro a ht
                                refine wpl rfl rfl ht (ev_arith ht rfl rfl rfl rfl) ?_
                                intro a ht
                                refine wpl rfl rfl ht (ev_move ht rfl rfl) ?_
                                intro a ht
                                obtain ⟨t64, et64, H⟩ := bind_get H
                                have hcall := impl_CountCircular.calls k _ _ A49 c50 m51 (w64 (t52.1 + 1)) t48 _ ((fun (hq : Ms _ _ _ ([] ++ [.blk b58 29 (Col.cells t57.1), .vec A49 c50 2 1 m51 (ints t48), .blk b10 29 (Col.cells t9.1), .blk b8 29 (Col.cells t7.1), .vec A4 c5 2 1 m6 (ints t3.2)]) _ _) => hq.lend (φp := [IntsAt A49 c50 m51 t48]) (allRO_cons (hq.lendVec 1 rfl) (allRO_nil))) (hm.pick (own' := [] ++ [.blk b58 29 (Col.cells t57.1), .vec A49 c50 2 1 m51 (ints t48), .blk b10 29 (Col.cells t9.1), .blk b8 29 (Col.cells t7.1), .vec A4 c5 2 1 m6 (ints t3.2)]) [0, 1, 2, 3, 4] rfl (by decide))) et64
                                refine wpl_call _ rfl rfl ht rfl rfl rfl rfl can_8 hcall ?_
                                clear hcall
                                rintro _ w ⟨rfl, hpost⟩ a ht
                                replace hm := (hm.pick (own' := [] ++ [.blk b58 29 (Col.cells t57.1), .vec A49 c50 2 1 m51 (ints t48), .blk b10 29 (Col.cells t9.1), .blk b8 29 (Col.cells t7.1), .vec A4 c5 2 1 m6 (ints t3.2)]) [0, 1, 2, 3, 4] rfl (by decide)).backL hpost
                                clear hpost
                                refine wpl rfl rfl ht (ev_move ht rfl rfl) ?_
                                intro a ht
                                refine wpl rfl rfl ht (ev_extract ht rfl rfl rfl) ?_
                                intro a ht
                                refine wpl rfl rfl ht (ev_extract ht rfl rfl rfl) ?_
                                intro a ht
                                refine wpl rfl rfl ht (ev_assign ht rfl rfl) ?_
                                intro a ht
                                refine wpl rfl rfl ht (ev_assign ht rfl rfl) ?_
                                intro a ht
                                refine wpList_nil ?_
                                refine then_normal ?_
                                refine wp_seq ?_
                                refine wpr ?_
                                refine wpl rfl rfl ht (ev_move ht rfl rfl) ?_
                                intro a ht
                                refine wpl rfl rfl ht (ev_cmp ht rfl rfl rfl rfl) ?_
                                intro a ht
                                refine wpl rfl rfl ht (ev_move ht rfl rfl) ?_
                                intro a ht
                                by_cases h65 : t64.2 ≠ 0
                                · replace H := ite_yes h65 H
                                  refine wpl_no rfl rfl ht rfl (by rw [(decide_eq_true h65)]; decide) ?_
                                  intro a ht
                                  refine wpl_no rfl rfl ht rfl (by rw [(decide_eq_true h65)]; decide) ?_
                                  intro a ht
                                  refine wpl rfl rfl ht (ev_pick_yes ht rfl rfl (decide_eq_true h65) rfl) ?_
                                  intro a ht
                                  refine wpList_nil ?_
                                  refine then_normal ?_
                                  refine wpc_yes ht rfl rfl ?_
                                  refine wp_seq ?_
                                  refine wpr ?_
                                  refine wpl rfl rfl ht (ev_assign ht rfl rfl) ?_
                                  intro a ht
                                  refine wpList_nil ?_
                                  refine then_normal ?_
                                  refine wp_ret ?_
                                  refine then_ret ?_
                                  have hres := ht.res (P := Try.prog) (w := w) (rs := [.tmp 2]) (vs := [.bool false]) (.tmp rfl .nil)
                                  obtain rfl := Option.some.inj H
                                  exact leave ht rfl hres ⟨rfl, ((hm.pick [] rfl (by decide)).pickφ [] rfl).post fun _ h => h⟩
                                · replace H := ite_no h65 H
                                  refine wpl_yes rfl ht rfl ((decide_eq_false h65)) ?_
                                  refine wpl rfl rfl ht (ev_move ht rfl rfl) ?_
                                  intro a ht
                                  refine wpl_yes rfl ht rfl ((decide_eq_false h65)) ?_
                                  refine wpl rfl rfl ht (ev_cmp ht rfl rfl rfl rfl) ?_
                                  intro a ht
                                  refine wpl rfl rfl ht (ev_pick_no ht rfl rfl (decide_eq_false h65) rfl) ?_
                                  intro a ht
                                  refine wpList_nil ?_
                                  refine then_normal ?_
                                  by_cases h66 : t64.1 ≠ 0
                                  · replace H := ite_yes h66 H
                                    refine wpc_yes ht rfl (decide_eq_true h66) ?_
                                    refine wp_seq ?_
                                    refine wpr ?_
                                    refine wpl rfl rfl ht (ev_assign ht rfl rfl) ?_
                                    intro a ht
                                    refine wpList_nil ?_
                                    refine then_normal ?_
                                    refine wp_ret ?_
                                    refine then_ret ?_
                                    have hres := ht.res (P := Try.prog) (w := w) (rs := [.tmp 2]) (vs := [.bool false]) (.tmp rfl .nil)
                                    obtain rfl := Option.some.inj H
                                    exact leave ht rfl hres ⟨rfl, ((hm.pick [] rfl (by decide)).pickφ [] rfl).post fun _ h => h⟩
                                  · replace H := ite_no h66 H
                                    refine wpc_no ht rfl (decide_eq_false h66) ?_
                                    refine wp_skip ?_
                                    refine then_normal ?_
                                    refine wp_seq ?_
                                    refine wpr ?_
                                    refine wpl rfl rfl ht (ev_assign ht rfl rfl) ?_
                                    intro a ht
                                    refine wpList_nil ?_
                                    refine then_normal ?_
                                    refine wp_ret ?_
                                    have hres := ht.res (P := Try.prog) (w := w) (rs := [.tmp 2]) (vs := [.bool true]) (.tmp rfl .nil)
                                    obtain rfl := Option.some.inj H
                                    exact leave ht rfl hres ⟨rfl, ((hm.pick [] rfl (by decide)).pickφ [] rfl).post fun _ h => h⟩
                              · replace H := ite_no h63 H
                                refine wpc_no ht rfl (decide_eq_false h63) ?_
                                refine wp_skip ?_
                                refine then_normal ?_
                                refine wp_seq ?_
                                refine wpr ?_
                                refine wpl rfl rfl ht (ev_assign ht rfl rfl) ?_
                                intro a ht
                                refine wpList_nil ?_
                                refine then_normal ?_
                                refine wp_ret ?_
                                have hres := ht.res (P := Try.prog) (w := w) (rs := [.tmp 2]) (vs := [.bool true]) (.tmp rfl .nil)
                                obtain rfl := Option.some.inj H
                                exact leave ht rfl hres ⟨rfl, ((hm.pick [] rfl (by decide)).pickφ [] rfl).post fun _ h => h⟩
                            · replace H := ite_no h62 H
                              refine wpc_yes ht rfl (not_f (Bool.eq_false_iff.mpr h62)) ?_
                              refine wp_seq ?_
                              refine wpr ?_
                              refine wpl rfl rfl ht (ev_assign ht rfl rfl) ?_
                              intro a ht
                              refine wpList_nil ?_
                              refine then_normal ?_
                              refine wp_ret ?_
                              refine then_ret ?_
                              refine then_ret ?_
                              have hres := ht.res (P := Try.prog) (w := w) (rs := [.tmp 2]) (vs := [.bool false]) (.tmp rfl .nil)
                              obtain rfl := Option.some.inj H
                              exact leave ht rfl hres ⟨rfl, ((hm.pick [] rfl (by decide)).pickφ [] rfl).post fun _ h => h⟩
                      · replace H := ite_no h56 H
                        refine wpc_no ht rfl (decide_eq_false h56) ?_
                        refine wp_skip ?_
                        refine then_normal ?_
                        refine wp_seq ?_
                        refine wpr ?_
                        refine wpl rfl rfl ht (ev_assign ht rfl rfl) ?_
                        intro a ht
                        refine wpList_nil ?_
                        refine then_normal ?_
                        refine wp_ret ?_
                        have hres := ht.res (P := Try.prog) (w := w) (rs := [.tmp 2]) (vs := [.bool true]) (.tmp rfl .nil)
                        obtain rfl := Option.some.inj H
                        exact leave ht rfl hres ⟨rfl, ((hm.pick [] rfl (by decide)).pickφ [] rfl).post fun _ h => h⟩
            · replace H := ite_no h17 H
              refine wpl_no rfl rfl ht rfl (by rw [(decide_eq_false h17)]; decide) ?_
              intro a ht
              refine wpl_no rfl rfl ht rfl (by rw [(decide_eq_false h17)]; decide) ?_
              intro a ht
              refine wpl_no rfl rfl ht rfl (by rw [(decide_eq_false h17)]; decide) ?_
              intro a ht
              refine wpl_no rfl rfl ht rfl (by rw [(decide_eq_false h17)]; decide) ?_
              intro a ht
              refine wpl_no rfl rfl ht rfl (by rw [(decide_eq_false h17)]; decide) ?_
              intro a ht
              refine wpl_yes rfl ht rfl ((decide_eq_false h16)) ?_
              refine wpl rfl rfl ht (ev_pick_no ht rfl rfl (decide_eq_false h17) rfl) ?_
              intro a ht
              refine wpl rfl rfl ht (ev_pick_no ht rfl rfl (decide_eq_false h16) rfl) ?_
              intro a ht
              refine wpList_nil ?_
              refine then_normal ?_
              refine wpc_no ht rfl rfl ?_
              refine wp_skip ?_
              refine then_normal ?_
              refine wp_seq ?_
              refine wp_seq ?_
              refine wpr ?_
              refine wpl rfl rfl ht (ev_move ht rfl rfl) ?_
              intro a ht
              refine wpl rfl rfl ht (ev_cmp ht rfl rfl rfl rfl) ?_
              intro a ht
              refine wpList_nil ?_
              refine then_normal ?_
              by_cases h67 : t7.2 = 0
              · replace H := ite_yes h67 H
                refine wpc_yes ht rfl (decide_eq_true h67) ?_
                refine wp_seq ?_
                refine wpr ?_
                refine wpl rfl rfl ht (ev_load_agg ht rfl rfl (ag_29.trans (by first | rw [Col.length_cells] | rfl)) (hm.blk_all 1 rfl)) ?_
                intro a ht
                refine wpl rfl rfl ht (ev_move ht rfl rfl) ?_
                intro a ht
                obtain ⟨t68, et68, H⟩ := bind_get H
                have hcall := impl_AvoidsSizes.calls k _ _ A4 c5 m6 t7.1 t3.2 _ ((fun (hq : Ms _ _ _ ([] ++ [.blk b10 29 (Col.cells t9.1), .blk b8 29 (Col.cells t7.1), .vec A4 c5 2 1 m6 (ints t3.2)]) _ _) => hq.lend (φp := [IntsAt A4 c5 m6 t3.2]) (allRO_cons (hq.lendVec 2 rfl) (allRO_nil))) (hm.pick (own' := [] ++ [.blk b10 29 (Col.cells t9.1), .blk b8 29 (Col.cells t7.1), .vec A4 c5 2 1 m6 (ints t3.2)]) [0, 1, 2] rfl (by decide))) et68
                refine wpl_call _ rfl rfl ht rfl rfl rfl rfl can_10 hcall ?_
                clear hcall
                rintro _ w ⟨rfl, hpost⟩ a ht
                replace hm := (hm.pick (own' := [] ++ [.blk b10 29 (Col.cells t9.1), .blk b8 29 (Col.cells t7.1), .vec A4 c5 2 1 m6 (ints t3.2)]) [0, 1, 2] rfl (by decide)).backL hpost
                clear hpost
                refine wpl rfl rfl ht (ev_move ht rfl rfl) ?_
                intro a ht
                refine wpl rfl rfl ht (ev_extract ht rfl rfl rfl) ?_
                intro a ht
                refine wpl rfl rfl ht (ev_extract ht rfl rfl rfl) ?_
                intro a ht
                refine wpl rfl rfl ht (ev_assign ht rfl rfl) ?_
                intro a ht
                refine wpl rfl rfl ht (ev_assign ht rfl rfl) ?_
                intro a ht
                refine wpList_nil ?_
                refine then_normal ?_
                refine wp_seq ?_
                refine wpr ?_
                refine wpl rfl rfl ht (ev_load_agg ht rfl rfl (ag_29.trans (by first | rw [Col.length_cells] | rfl)) (hm.blk_all 1 rfl)) ?_
                intro a ht
                obtain ⟨t69, et69, H⟩ := bind_get H
                have hcall := impl_ListOfCircular.calls k _ _ t7.1 _ ((fun (hq : Ms _ _ _ ([] ++ [.blk b10 29 (Col.cells t9.1), .blk b8 29 (Col.cells t7.1), .vec A4 c5 2 1 m6 (ints t3.2)]) _ _) => hq.lend (φp := []) (allRO_nil)) (hm.pick (own' := [] ++ [.blk b10 29 (Col.cells t9.1), .blk b8 29 (Col.cells t7.1), .vec A4 c5 2 1 m6 (ints t3.2)]) [0, 1, 2] rfl (by decide))) et69
                refine wpl_call _ rfl rfl ht rfl rfl rfl rfl can_11 hcall ?_
                clear hcall
                rintro _ w ⟨A70, c71, m72, rfl, hpost⟩ a ht
                replace hm := (hm.pick (own' := [] ++ [.blk b10 29 (Col.cells t9.1), .blk b8 29 (Col.cells t7.1), .vec A4 c5 2 1 m6 (ints t3.2)]) [0, 1, 2] rfl (by decide)).backL hpost
                clear hpost
                refine wpl rfl rfl ht (ev_move ht rfl rfl) ?_
                intro a ht
                refine wpl rfl rfl ht (ev_extract ht rfl rfl rfl) ?_
                intro a ht
                refine wpl rfl rfl ht (ev_extract ht rfl rfl rfl) ?_
                intro a ht
                refine wpl rfl rfl ht (ev_assign ht rfl rfl) ?_
                intro a ht
                refine wpl rfl rfl ht (ev_assign ht rfl rfl) ?_
                intro a ht
                refine wpList_nil ?_
                refine then_normal ?_
                refine wp_seq ?_
                refine wpr ?_
                refine wpl rfl rfl ht (ev_move ht rfl rfl) ?_
                intro a ht
                refine wpl rfl rfl ht (ev_cmp ht rfl rfl rfl rfl) ?_
                intro a ht
                refine wpl rfl rfl ht (ev_move ht rfl rfl) ?_
                intro a ht
                by_cases h73 : t68.2 ≠ 0
                · replace H := ite_yes h73 H
                  refine wpl_no rfl rfl ht rfl (by rw [(decide_eq_true h73)]; decide) ?_
                  intro a ht
                  refine wpl_no rfl rfl ht rfl (by rw [(decide_eq_true h73)]; decide) ?_
                  intro a ht
                  refine wpl rfl rfl ht (ev_pick_yes ht rfl rfl (decide_eq_true h73) rfl) ?_
                  intro a ht
                  refine wpl rfl rfl ht (ev_move ht rfl rfl) ?_
                  intro a ht
                  refine wpl_no rfl rfl ht rfl (by decide) ?_
                  intro a ht
                  refine wpl_no rfl rfl ht rfl (by decide) ?_
                  intro a ht
                  refine wpl rfl rfl ht (ev_pick_yes ht rfl rfl rfl rfl) ?_
                  intro a ht
                  refine wpl rfl rfl ht (ev_move ht rfl rfl) ?_
                  intro a ht
                  refine wpl_no rfl rfl ht rfl (by decide) ?_
                  intro a ht
                  refine wpl_no rfl rfl ht rfl (by decide) ?_
                  intro a ht
                  refine wpl_no rfl rfl ht rfl (by decide) ?_
                  intro a ht
                  refine wpl_no rfl rfl ht rfl (by decide) ?_
                  intro a ht
                  refine wpl_no rfl rfl ht rfl (by decide) ?_
                  intro a ht
                  refine wpl rfl rfl ht (ev_pick_yes ht rfl rfl rfl rfl) ?_
                  intro a ht
                  refine wpList_nil ?_
                  refine then_normal ?_
                  refine wpc_yes ht rfl rfl ?_
                  refine wp_seq ?_
                  refine wpr ?_
                  refine wpl rfl rfl ht (ev_assign ht rfl rfl) ?_
                  intro a ht
                  refine wpList_nil ?_
                  refine then_normal ?_
                  refine wp_ret ?_
                  refine then_ret ?_
                  have hres := ht.res (P := Try.prog) (w := w) (rs := [.tmp 2]) (vs := [.bool false]) (.tmp rfl .nil)
                  obtain rfl := Option.some.inj H
                  exact leave ht rfl hres ⟨rfl, ((hm.pick [] rfl (by decide)).pickφ [] rfl).post fun _ h => h⟩
                · replace H := ite_no h73 H
                  refine wpl_yes rfl ht rfl ((decide_eq_false h73)) ?_
                  refine wpl rfl rfl ht (ev_move ht rfl rfl) ?_
                  intro a ht
                  refine wpl_yes rfl ht rfl ((decide_eq_false h73)) ?_
                  refine wpl rfl rfl ht (ev_cmp ht rfl rfl rfl rfl) ?_
                  intro a ht
                  refine wpl rfl rfl ht (ev_pick_no ht rfl rfl (decide_eq_false h73) rfl) ?_
                  intro a ht
                  refine wpl rfl rfl ht (ev_move ht rfl rfl) ?_
                  intro a ht
                  by_cases h74 : t69.2 ≠ 0
                  · replace H := ite_yes h74 H
                    refine wpl_no rfl rfl ht rfl (by rw [(decide_eq_true h74)]; decide) ?_
                    intro a ht
                    refine wpl_no rfl rfl ht rfl (by rw [(decide_eq_true h74)]; decide) ?_
                    intro a ht
                    refine wpl rfl rfl ht (ev_pick_yes ht rfl rfl (decide_eq_true h74) rfl) ?_
                    intro a ht
                    refine wpl rfl rfl ht (ev_move ht rfl rfl) ?_
                    intro a ht
                    refine wpl_no rfl rfl ht rfl (by decide) ?_
                    intro a ht
                    refine wpl_no rfl rfl ht rfl (by decide) ?_
                    intro a ht
                    refine wpl_no rfl rfl ht rfl (by decide) ?_
                    intro a ht
                    refine wpl_no rfl rfl ht rfl (by decide) ?_
                    intro a ht
                    refine wpl_no rfl rfl ht rfl (by decide) ?_
                    intro a ht
                    refine wpl rfl rfl ht (ev_pick_yes ht rfl rfl rfl rfl) ?_
                    intro a ht
                    refine wpList_nil ?_
                    refine then_normal ?_
                    refine wpc_yes ht rfl rfl ?_
                    refine wp_seq ?_
                    refine wpr ?_
                    refine wpl rfl rfl ht (ev_assign ht rfl rfl) ?_
                    intro a ht
                    refine wpList_nil ?_
                    refine then_normal ?_
                    refine wp_ret ?_
                    refine then_ret ?_
                    have hres := ht.res (P := Try.prog) (w := w) (rs := [.tmp 2]) (vs := [.bool false]) (.tmp rfl .nil)
                    obtain rfl := Option.some.inj H
                    exact leave ht rfl hres ⟨rfl, ((hm.pick [] rfl (by decide)).pickφ [] rfl).post fun _ h => h⟩
                  · replace H := ite_no h74 H
                    refine wpl_yes rfl ht rfl ((decide_eq_false h74)) ?_
                    refine wpl rfl rfl ht (ev_move ht rfl rfl) ?_
                    intro a ht
                    refine wpl_yes rfl ht rfl ((decide_eq_false h74)) ?_
                    refine wpl rfl rfl ht (ev_not ht rfl rfl) ?_
                    intro a ht
                    refine wpl rfl rfl ht (ev_pick_no ht rfl rfl (decide_eq_false h74) rfl) ?_
                    intro a ht
                    refine wpl rfl rfl ht (ev_move ht rfl rfl) ?_
                    intro a ht
                    by_cases h75 : t68.1 = true
                    · replace H := ite_yes h75 H
                      refine wpl_yes rfl ht rfl ((not_t h75)) ?_
                      refine wpl rfl rfl ht (ev_move ht rfl rfl) ?_
                      intro a ht
                      refine wpl_yes rfl ht rfl ((not_t h75)) ?_
                      refine wpl rfl rfl ht (ev_len_of ht rfl rfl und_24 (hm.vec_row 0 rfl)) ?_
                      intro a ht
                      refine wpl_yes rfl ht rfl ((not_t h75)) ?_
                      refine wpl rfl rfl ht (ev_move ht rfl rfl) ?_
                      intro a ht
                      refine wpl_yes rfl ht rfl ((not_t h75)) ?_
                      refine wpl rfl rfl ht (ev_quo ht rfl rfl rfl (by decide)) ?_
                      intro a ht
                      refine wpl_yes rfl ht rfl ((not_t h75)) ?_
                      refine wpl rfl rfl ht (ev_cmp ht rfl rfl rfl rfl) ?_
                      intro a ht
                      refine wpl rfl rfl ht (ev_pick_no ht rfl rfl (not_t h75) rfl) ?_
                      intro a ht
                      refine wpList_nil ?_
                      refine then_normal ?_
                      by_cases h76 : (t69.1.length : Int) ≠ (w64 (Int.tdiv t3.1 2))
                      · replace H := ite_yes h76 H
                        refine wpc_yes ht rfl (decide_eq_true h76) ?_
                        refine wp_seq ?_
                        refine wpr ?_
                        refine wpl rfl rfl ht (ev_assign ht rfl rfl) ?_
                        intro a ht
                        refine wpList_nil ?_
                        refine then_normal ?_
                        refine wp_ret ?_
                        refine then_ret ?_
                        have hres := ht.res (P := Try.prog) (w := w) (rs := [.tmp 2]) (vs := [.bool false]) (.tmp rfl .nil)
                        obtain rfl := Option.some.inj H
                        exact leave ht rfl hres ⟨rfl, ((hm.pick [] rfl (by decide)).pickφ [] rfl).post fun _ h => h⟩
                      · replace H := ite_no h76 H
                        refine wpc_no ht rfl (decide_eq_false h76) ?_
                        refine wp_skip ?_
                        refine then_normal ?_
                        refine wp_seq ?_
                        refine wpr ?_
                        refine wpl rfl rfl ht (ev_move ht rfl rfl) ?_
                        intro a ht
                        obtain ⟨t77, et77, H⟩ := bind_get H
                        have hcall := spec_DrawGreatestCircular.calls k _ _ A c m code _ ((fun (hq : Ms _ _ _ ([] ++ [.vec A70 c71 2 1 m72 (ints t69.1), .blk b10 29 (Col.cells t9.1), .blk b8 29 (Col.cells t7.1), .vec A4 c5 2 1 m6 (ints t3.2)]) _ _) => hq.lend (φp := [Bytes8At A c m code]) (allRO_cons (hq.lendFact 0 rfl) (allRO_nil))) (hm.pick (own' := [] ++ [.vec A70 c71 2 1 m72 (ints t69.1), .blk b10 29 (Col.cells t9.1), .blk b8 29 (Col.cells t7.1), .vec A4 c5 2 1 m6 (ints t3.2)]) [0, 1, 2, 3] rfl (by decide))) et77
                        refine wpl_call _ rfl rfl ht rfl rfl rfl rfl can_12 hcall ?_
                        clear hcall
                        rintro _ w ⟨A78, c79, m80, rfl, hpost⟩ a ht
                        replace hm := (hm.pick (own' := [] ++ [.vec A70 c71 2 1 m72 (ints t69.1), .blk b10 29 (Col.cells t9.1), .blk b8 29 (Col.cells t7.1), .vec A4 c5 2 1 m6 (ints t3.2)]) [0, 1, 2, 3] rfl (by decide)).backL hpost
                        clear hpost
                        refine wpl rfl rfl ht (ev_assign ht rfl rfl) ?_
                        intro a ht
                        refine wpList_nil ?_
                        refine then_normal ?_
                        refine wp_seq ?_
                        refine wpr ?_
                        refine wpl rfl rfl ht (ev_move ht rfl rfl) ?_
                        intro a ht
                        obtain ⟨t81, et81, H⟩ := bind_get H
                        have hcall := impl_GreatestCircular.calls k _ _ A78 c79 m80 t77 _ ((fun (hq : Ms _ _ _ ([] ++ [.vec A78 c79 2 1 m80 (ints t77), .vec A70 c71 2 1 m72 (ints t69.1), .blk b10 29 (Col.cells t9.1), .blk b8 29 (Col.cells t7.1), .vec A4 c5 2 1 m6 (ints t3.2)]) _ _) => hq.lend (φp := [IntsAt A78 c79 m80 t77]) (allRO_cons (hq.lendVec 0 rfl) (allRO_nil))) (hm.pick (own' := [] ++ [.vec A78 c79 2 1 m80 (ints t77), .vec A70 c71 2 1 m72 (ints t69.1), .blk b10 29 (Col.cells t9.1), .blk b8 29 (Col.cells t7.1), .vec A4 c5 2 1 m6 (ints t3.2)]) [0, 1, 2, 3, 4] rfl (by decide))) et81
                        refine wpl_call _ rfl rfl ht rfl rfl rfl rfl can_13 hcall ?_
                        clear hcall
                        rintro _ w ⟨rfl, hpost⟩ a ht
                        replace hm := (hm.pick (own' := [] ++ [.vec A78 c79 2 1 m80 (ints t77), .vec A70 c71 2 1 m72 (ints t69.1), .blk b10 29 (Col.cells t9.1), .blk b8 29 (Col.cells t7.1), .vec A4 c5 2 1 m6 (ints t3.2)]) [0, 1, 2, 3, 4] rfl (by decide)).backL hpost
                        clear hpost
                        refine wpl rfl rfl ht (ev_move ht rfl rfl) ?_
                        intro a ht
                        refine wpl rfl rfl ht (ev_extract ht rfl rfl rfl) ?_
                        intro a ht
                        refine wpl rfl rfl ht (ev_extract ht rfl rfl rfl) ?_
                        intro a ht
                        refine wpl rfl rfl ht (ev_assign ht rfl rfl) ?_
                        intro a ht
                        refine wpl rfl rfl ht (ev_assign ht rfl rfl) ?_
                        intro a ht
                        refine wpList_nil ?_
                        refine then_normal ?_
                        refine wp_seq ?_
                        refine wpr ?_
                        refine wpl rfl rfl ht (ev_move ht rfl rfl) ?_
                        intro a ht
                        obtain ⟨t82, et82, H⟩ := bind_get H
                        have hcall := spec_GreatestCircular.calls k _ _ A78 c79 m80 t77 _ ((fun (hq : Ms _ _ _ ([] ++ [.vec A78 c79 2 1 m80 (ints t77), .vec A70 c71 2 1 m72 (ints t69.1), .blk b10 29 (Col.cells t9.1), .blk b8 29 (Col.cells t7.1), .vec A4 c5 2 1 m6 (ints t3.2)]) _ _) => hq.lend (φp := [IntsAt A78 c79 m80 t77]) (allRO_cons (hq.lendVec 0 rfl) (allRO_nil))) (hm.pick (own' := [] ++ [.vec A78 c79 2 1 m80 (ints t77), .vec A70 c71 2 1 m72 (ints t69.1), .blk b10 29 (Col.cells t9.1), .blk b8 29 (Col.cells t7.1), .vec A4 c5 2 1 m6 (ints t3.2)]) [0, 1, 2, 3, 4] rfl (by decide))) et82
                        refine wpl_call _ rfl rfl ht rfl rfl rfl rfl can_14 hcall ?_
                        clear hcall
                        rintro _ w ⟨rfl, hpost⟩ a ht
                        replace hm := (hm.pick (own' := [] ++ [.vec A78 c79 2 1 m80 (ints t77), .vec A70 c71 2 1 m72 (ints t69.1), .blk b10 29 (Col.cells t9.1), .blk b8 29 (Col.cells t7.1), .vec A4 c5 2 1 m6 (ints t3.2)]) [0, 1, 2, 3, 4] rfl (by decide)).backL hpost
                        clear hpost
                        refine wpl rfl rfl ht (ev_move ht rfl rfl) ?_
                        intro a ht
                        refine wpl rfl rfl ht (ev_extract ht rfl rfl rfl) ?_
                        intro a ht
                        refine wpl rfl rfl ht (ev_extract ht rfl rfl rfl) ?_
                        intro a ht
                        refine wpl rfl rfl ht (ev_assign ht rfl rfl) ?_
                        intro a ht
                        refine wpl rfl rfl ht (ev_assign ht rfl rfl) ?_
                        intro a ht
                        refine wpList_nil ?_
                        refine then_normal ?_
                        refine wp_seq ?_
                        refine wp_seq ?_
                        refine wpr ?_
                        refine wpl rfl rfl ht (ev_move ht rfl rfl) ?_
                        intro a ht
                        refine wpl rfl rfl ht (ev_move ht rfl rfl) ?_
                        intro a ht
                        refine wpl rfl rfl ht (ev_cmp ht rfl rfl rfl rfl) ?_
                        intro a ht
                        refine wpl rfl rfl ht (ev_move ht rfl rfl) ?_
                        intro a ht
                        by_cases h83 : t81.2 ≠ t82.2
                        · replace H := ite_yes h83 H
                          refine wpl_no rfl rfl ht rfl (by rw [(decide_eq_true h83)]; decide) ?_
                          intro a ht
                          refine wpl_no rfl rfl ht rfl (by rw [(decide_eq_true h83)]; decide) ?_
                          intro a ht
                          refine wpl_no rfl rfl ht rfl (by rw [(decide_eq_true h83)]; decide) ?_
                          intro a ht
                          refine wpl rfl rfl ht (ev_pick_yes ht rfl rfl (decide_eq_true h83) rfl) ?_
                          intro a ht
                          refine wpList_nil ?_
                          refine then_normal ?_
                          refine wpc_yes ht rfl rfl ?_
                          refine wp_seq ?_
                          refine wpr ?_
                          refine wpl rfl rfl ht (ev_assign ht rfl rfl) ?_
                          intro a ht
                          refine wpList_nil ?_
                          refine then_normal ?_
                          refine wp_ret ?_
                          refine then_ret ?_
                          have hres := ht.res (P := Try.prog) (w := w) (rs := [.tmp 2]) (vs := [.bool false]) (.tmp rfl .nil)
                          obtain rfl := Option.some.inj H
                          exact leave ht rfl hres ⟨rfl, ((hm.pick [] rfl (by decide)).pickφ [] rfl).post fun _ h => h⟩
                        · replace H := ite_no h83 H
                          refine wpl_yes rfl ht rfl ((decide_eq_false h83)) ?_
                          refine wpl rfl rfl ht (ev_move ht rfl rfl) ?_
                          intro a ht
                          refine wpl_yes rfl ht rfl ((decide_eq_false h83)) ?_
                          refine wpl rfl rfl ht (ev_move ht rfl rfl) ?_
                          intro a ht
                          refine wpl_yes rfl ht rfl ((decide_eq_false h83)) ?_
                          refine wpl rfl rfl ht (ev_cmp ht rfl rfl rfl rfl) ?_
                          intro a ht
                          refine wpl rfl rfl ht (ev_pick_no ht rfl rfl (decide_eq_false h83) rfl) ?_
                          intro a ht
                          refine wpList_nil ?_
                          refine then_normal ?_
                          by_cases h84 : t81.1 ≠ t82.1
                          · replace H := ite_yes h84 H
                            refine wpc_yes ht rfl (decide_eq_true h84) ?_
                            refine wp_seq ?_
                            refine wpr ?_
                            refine wpl rfl rfl ht (ev_assign ht rfl rfl) ?_
                            intro a ht
                            refine wpList_nil ?_
                            refine then_normal ?_
                            refine wp_ret ?_
                            refine then_ret ?_
                            have hres := ht.res (P := Try.prog) (w := w) (rs := [.tmp 2]) (vs := [.bool false]) (.tmp rfl .nil)
                            obtain rfl := Option.some.inj H
                            exact leave ht rfl hres ⟨rfl, ((hm.pick [] rfl (by decide)).pickφ [] rfl).post fun _ h => h⟩
                          · replace H := ite_no h84 H
                            refine wpc_no ht rfl (decide_eq_false h84) ?_
                            refine wp_skip ?_
                            refine then_normal ?_
                            refine wp_seq ?_
                            refine wp_seq ?_
                            refine wpr ?_
                            refine wpl rfl rfl ht (ev_move ht rfl rfl) ?_
                            intro a ht
                            refine wpl rfl rfl ht (ev_cmp ht rfl rfl rfl rfl) ?_
                            intro a ht
                            refine wpList_nil ?_
                            refine then_normal ?_
                            by_cases h85 : t81.2 = 0
                            · replace H := ite_yes h85 H
                              refine wpc_yes ht rfl (decide_eq_true h85) ?_
                              refine wp_seq ?_
                              refine wpr ?_
                              refine wpl rfl rfl ht (ev_move ht rfl rfl) ?_
                              intro a ht
                              refine wpl rfl rfl ht (ev_move ht rfl rfl) ?_
                              intro a ht
                              obtain ⟨t86, et86, H⟩ := bind_get H
                              have hcall := impl_FirstCircular.calls k _ _ A78 c79 m80 t81.1 t77 _ ((fun (hq : Ms _ _ _ ([] ++ [.vec A78 c79 2 1 m80 (ints t77), .vec A70 c71 2 1 m72 (ints t69.1), .blk b10 29 (Col.cells t9.1), .blk b8 29 (Col.cells t7.1), .vec A4 c5 2 1 m6 (ints t3.2)]) _ _) => hq.lend (φp := [IntsAt A78 c79 m80 t77]) (allRO_cons (hq.lendVec 0 rfl) (allRO_nil))) (hm.pick (own' := [] ++ [.vec A78 c79 2 1 m80 (ints t77), .vec A70 c71 2 1 m72 (ints t69.1), .blk b10 29 (Col.cells t9.1), .blk b8 29 (Col.cells t7.1), .vec A4 c5 2 1 m6 (ints t3.2)]) [0, 1, 2, 3, 4] rfl (by decide))) et86
                              refine wpl_call _ rfl rfl ht rfl rfl rfl rfl can_6 hcall ?_
                              clear hcall
                              rintro _ w ⟨rfl, hpost⟩ a ht
                              replace hm := (hm.pick (own' := [] ++ [.vec A78 c79 2 1 m80 (ints t77), .vec A70 c71 2 1 m72 (ints t69.1), .blk b10 29 (Col.cells t9.1), .blk b8 29 (Col.cells t7.1), .vec A4 c5 2 1 m6 (ints t3.2)]) [0, 1, 2, 3, 4] rfl (by decide)).backL hpost
                              clear hpost
                              refine wpl rfl rfl ht (ev_move ht rfl rfl) ?_
                              intro a ht
                              refine wpl rfl rfl ht (ev_extract ht rfl rfl rfl) ?_
                              intro a ht
                              refine wpl rfl rfl ht (ev_extract ht rfl rfl rfl) ?_
                              intro a ht
                              refine wpl_alloc rfl rfl ht hm rfl zo_29 ?_
                              intro b87 a ht w hm
                              refine wpl_store_whole 0 rfl rfl ht hm rfl rfl rfl (szn_29.trans (by first | rw [Col.length_cells] | rfl)) rfl (by simp only [Col.length_cells]) (Col.cells_one _) ?_
                              intro a ht w hm
                              refine wpl rfl rfl ht (ev_assign ht rfl rfl) ?_
                              intro a ht
                              refine wpList_nil ?_
                              refine then_normal ?_
                              refine wp_seq ?_
                              refine wpr ?_
                              refine wpl rfl rfl ht (ev_load_agg ht rfl rfl (ag_29.trans (by first | rw [Col.length_cells] | rfl)) (hm.blk_all 0 rfl)) ?_
                              intro a ht
                              refine wpl rfl rfl ht (ev_move ht rfl rfl) ?_
                              intro a ht
                              obtain ⟨t88, et88, H⟩ := bind_get H
                              have hcall := impl_AvoidsSizes.calls k _ _ A78 c79 m80 t86.1 t77 _ ((fun (hq : Ms _ _ _ ([] ++ [.blk b87 29 (Col.cells t86.1), .vec A78 c79 2 1 m80 (ints t77), .vec A70 c71 2 1 m72 (ints t69.1), .blk b10 29 (Col.cells t9.1), .blk b8 29 (Col.cells t7.1), .vec A4 c5 2 1 m6 (ints t3.2)]) _ _) => hq.lend (φp := [IntsAt A78 c79 m80 t77]) (allRO_cons (hq.lendVec 1 rfl) (allRO_nil))) (hm.pick (own' := [] ++ [.blk b87 29 (Col.cells t86.1), .vec A78 c79 2 1 m80 (ints t77), .vec A70 c71 2 1 m72 (ints t69.1), .blk b10 29 (Col.cells t9.1), .blk b8 29 (Col.cells t7.1), .vec A4 c5 2 1 m6 (ints t3.2)]) [0, 1, 2, 3, 4, 5] rfl (by decide))) et88
                              refine wpl_call _ rfl rfl ht rfl rfl rfl rfl can_10 hcall ?_
                              clear hcall
                              rintro _ w ⟨rfl, hpost⟩ a ht
                              replace hm := (hm.pick (own' := [] ++ [.blk b87 29 (Col.cells t86.1), .vec A78 c79 2 1 m80 (ints t77), .vec A70 c71 2 1 m72 (ints t69.1), .blk b10 29 (Col.cells t9.1), .blk b8 29 (Col.cells t7.1), .vec A4 c5 2 1 m6 (ints t3.2)]) [0, 1, 2, 3, 4, 5] rfl (by decide)).backL hpost
                              clear hpost
                              refine wpl rfl rfl ht (ev_move ht rfl rfl) ?_
                              intro a ht
                              refine wpl rfl rfl ht (ev_extract ht rfl rfl rfl) ?_
                              intro a ht
                              refine wpl rfl rfl ht (ev_extract ht rfl rfl rfl) ?_
                              intro a ht
                              refine wpl rfl rfl ht (ev_assign ht rfl rfl) ?_
                              intro a ht
                              refine wpl rfl rfl ht (ev_assign ht rfl rfl) ?_
                              intro a ht
                              refine wpList_nil ?_
                              refine then_normal ?_
                              refine wp_seq ?_
                              refine wp_seq ?_
                              refine wpr ?_
                              refine wpl rfl rfl ht (ev_move ht rfl rfl) ?_
                              intro a ht
                              refine wpl rfl rfl ht (ev_cmp ht rfl rfl rfl rfl) ?_
                              intro a ht
                              refine wpl rfl rfl ht (ev_move ht rfl rfl) ?_
                              intro a ht
                              by_cases h89 : t86.2 ≠ 0
                              · replace H := ite_yes h89 H
                                refine wpl_no rfl rfl ht rfl (by rw [(decide_eq_true h89)]; decide) ?_
                                intro a ht
                                refine wpl_no rfl rfl ht rfl (by rw [(decide_eq_true h89)]; decide) ?_
                                intro a ht
                                refine wpl rfl rfl ht (ev_pick_yes ht rfl rfl (decide_eq_true h89) rfl) ?_
                                intro a ht
                                refine wpl rfl rfl ht (ev_move ht rfl rfl) ?_
                                intro a ht
                                refine wpl_no rfl rfl ht rfl (by decide) ?_
                                intro a ht
                                refine wpl_no rfl rfl ht rfl (by decide) ?_
                                intro a ht
                                refine wpl rfl rfl ht (ev_pick_yes ht rfl rfl rfl rfl) ?_
                                intro a ht
                                refine wpList_nil ?_
                                refine then_normal ?_
                                refine wpc_yes ht rfl rfl ?_
                                refine wp_seq ?_
                                refine wpr ?_
                                refine wpl rfl rfl ht (ev_assign ht rfl rfl) ?_
                                intro a ht
                                refine wpList_nil ?_
                                refine then_normal ?_
                                refine wp_ret ?_
                                refine then_ret ?_
                                refine then_ret ?_
                                have hres := ht.res (P := Try.prog) (w := w) (rs := [.tmp 2]) (vs := [.bool false]) (.tmp rfl .nil)
                                obtain rfl := Option.some.inj H
                                exact leave ht rfl hres ⟨rfl, ((hm.pick [] rfl (by decide)).pickφ [] rfl).post fun _ h => h⟩
                              · replace H := ite_no h89 H
                                refine wpl_yes rfl ht rfl ((decide_eq_false h89)) ?_
                                refine wpl rfl rfl ht (ev_move ht rfl rfl) ?_
                                intro a ht
                                refine wpl_yes rfl ht rfl ((decide_eq_false h89)) ?_
                                refine wpl rfl rfl ht (ev_cmp ht rfl rfl rfl rfl) ?_
                                intro a ht
                                refine wpl rfl rfl ht (ev_pick_no ht rfl rfl (decide_eq_false h89) rfl) ?_
                                intro a ht
                                refine wpl rfl rfl ht (ev_move ht rfl rfl) ?_
                                intro a ht
                                by_cases h90 : t88.2 ≠ 0
                                · replace H := ite_yes h90 H
                                  refine wpl_no rfl rfl ht rfl (by rw [(decide_eq_true h90)]; decide) ?_
                                  intro a ht
                                  refine wpl_no rfl rfl ht rfl (by rw [(decide_eq_true h90)]; decide) ?_
                                  intro a ht
                                  refine wpl rfl rfl ht (ev_pick_yes ht rfl rfl (decide_eq_true h90) rfl) ?_
                                  intro a ht
                                  refine wpList_nil ?_
                                  refine then_normal ?_
                                  refine wpc_yes ht rfl rfl ?_
                                  refine wp_seq ?_
                                  refine wpr ?_
                                  refine wpl rfl rfl ht (ev_assign ht rfl rfl) ?_
                                  intro a ht
                                  refine wpList_nil ?_
                                  refine then_normal ?_
                                  refine wp_ret ?_
                                  refine then_ret ?_
                                  refine then_ret ?_
                                  have hres := ht.res (P := Try.prog) (w := w) (rs := [.tmp 2]) (vs := [.bool false]) (.tmp rfl .nil)
                                  obtain rfl := Option.some.inj H
                                  exact leave ht rfl hres ⟨rfl, ((hm.pick [] rfl (by decide)).pickφ [] rfl).post fun _ h => h⟩
                                · replace H := ite_no h90 H
                                  refine wpl_yes rfl ht rfl ((decide_eq_false h90)) ?_
                                  refine wpl rfl rfl ht (ev_move ht rfl rfl) ?_
                                  intro a ht
                                  refine wpl_yes rfl ht rfl ((decide_eq_false h90)) ?_
                                  refine wpl rfl rfl ht (ev_not ht rfl rfl) ?_
                                  intro a ht
                                  refine wpl rfl rfl ht (ev_pick_no ht rfl rfl (decide_eq_false h90) rfl) ?_
                                  intro a ht
                                  refine wpList_nil ?_
                                  refine then_normal ?_
                                  by_cases h91 : t88.1 = true
                                  · replace H := ite_yes h91 H
                                    refine wpc_no ht rfl (not_t h91) ?_
                                    refine wp_skip ?_
                                    refine then_normal ?_
                                    refine wp_seq ?_
                                    refine wpr ?_
                                    refine wpl rfl rfl ht (ev_move ht rfl rfl) ?_
                                    intro a ht
                                    refine wpl rfl rfl ht (ev_cmp ht rfl rfl rfl rfl) ?_
                                    intro a ht
                                    refine wpList_nil ?_
                                    refine then_normal ?_
                                    by_cases h92 : t81.1 < 13
                                    · replace H := ite_yes h92 H
                                      refine wpc_yes ht rfl (decide_eq_true h92) ?_
                                      refine wp_seq ?_
                                      refine wpr ?_
                                      refine wpl rfl rfl ht (ev_move ht rfl rfl) ?_
                                      intro a ht
                                      refine wpl rfl rfl ht (ev_arith ht rfl rfl rfl rfl) ?_
                                      intro a ht
                                      refine wpl rfl rfl ht (ev_move ht rfl rfl) ?_
                                      intro a ht
                                      obtain ⟨t93, et93, H⟩ := bind_get H
                                      have hcall := impl_CountCircular.calls k _ _ A78 c79 m80 (w64 (t81.1 + 1)) t77 _ ((fun (hq : Ms _ _ _ ([] ++ [.blk b87 29 (Col.cells t86.1), .vec A78 c79 2 1 m80 (ints t77), .vec A70 c71 2 1 m72 (ints t69.1), .blk b10 29 (Col.cells t9.1), .blk b8 29 (Col.cells t7.1), .vec A4 c5 2 1 m6 (ints t3.2)]) _ _) => hq.lend (φp := [IntsAt A78 c79 m80 t77]) (allRO_cons (hq.lendVec 1 rfl) (allRO_nil))) (hm.pick (own' := [] ++ [.blk b87 29 (Col.cells t86.1), .vec A78 c79 2 1 m80 (ints t77), .vec A70 c71 2 1 m72 (ints t69.1), .blk b10 29 (Col.cells t9.1), .blk b8 29 (Col.cells t7.1), .vec A4 c5 2 1 m6 (ints t3.2)]) [0, 1, 2, 3, 4, 5] rfl (by decide))) et93
                                      refine wpl_call _ rfl rfl ht rfl rfl rfl rfl can_8 hcall ?_
                                      clear hcall
                                      rintro _ w ⟨rfl, hpost⟩ a ht
                                      replace hm := (hm.pick (own' := [] ++ [.blk b87 29 (Col.cells t86.1), .vec A78 c79 2 1 m80 (ints t77), .vec A70 c71 2 1 m72 (ints t69.1), .blk b10 29 (Col.cells t9.1), .blk b8 29 (Col.cells t7.1), .vec A4 c5 2 1 m6 (ints t3.2)]) [0, 1, 2, 3, 4, 5] rfl (by decide)).backL hpost
                                      clear hpost
                                      refine wpl rfl rfl ht (ev_move ht rfl rfl) ?_
                                      intro a ht
                                      refine wpl rfl rfl ht (ev_extract ht rfl rfl rfl) ?_
                                      intro a ht
                                      refine wpl rfl rfl ht (ev_extract ht rfl rfl rfl) ?_
                                      intro a ht
                                      refine wpl rfl rfl ht (ev_assign ht rfl rfl) ?_
                                      intro a ht
                                      refine wpl rfl rfl ht (ev_assign ht rfl rfl) ?_
                                      intro a ht
                                      refine wpList_nil ?_
                                      refine then_normal ?_
                                      refine wp_seq ?_
                                      refine wpr ?_
                                      refine wpl rfl rfl ht (ev_move ht rfl rfl) ?_
                                      intro a ht
                                      refine wpl rfl rfl ht (ev_cmp ht rfl rfl rfl rfl) ?_
                                      intro a ht
                                      refine wpl rfl rfl ht (ev_move ht rfl rfl) ?_
                                      intro a ht
                                      by_cases h94 : t93.2 ≠ 0
                                      · replace H := ite_yes h94 H
                                        refine wpl_no rfl rfl ht rfl (by rw [(decide_eq_true h94)]; decide) ?_
                                        intro a ht
                                        refine wpl_no rfl rfl ht rfl (by rw [(decide_eq_true h94)]; decide) ?_
                                        intro a ht
                                        refine wpl rfl rfl ht (ev_pick_yes ht rfl rfl (decide_eq_true h94) rfl) ?_
                                        intro a ht
                                        refine wpList_nil ?_
                                        refine then_normal ?_
                                        refine wpc_yes ht rfl rfl ?_
                                        refine wp_seq ?_
                                        refine wpr ?_
                                        refine wpl rfl rfl ht (ev_assign ht rfl rfl) ?_
                                        intro a ht
                                        refine wpList_nil ?_
                                        refine then_normal ?_
                                        refine wp_ret ?_
                                        refine then_ret ?_
                                        have hres := ht.res (P := Try.prog) (w := w) (rs := [.tmp 2]) (vs := [.bool false]) (.tmp rfl .nil)
                                        obtain rfl := Option.some.inj H
                                        exact leave ht rfl hres ⟨rfl, ((hm.pick [] rfl (by decide)).pickφ [] rfl).post fun _ h => h⟩
                                      · replace H := ite_no h94 H
                                        refine wpl_yes rfl ht rfl ((decide_eq_false h94)) ?_
                                        refine wpl rfl rfl ht (ev_move ht rfl rfl) ?_
                                        intro a ht
                                        refine wpl_yes rfl ht rfl ((decide_eq_false h94)) ?_
                                        refine wpl rfl rfl ht (ev_cmp ht rfl rfl rfl rfl) ?_
                                        intro a ht
                                        refine wpl rfl rfl ht (ev_pick_no ht rfl rfl (decide_eq_false h94) rfl) ?_
                                        intro a ht
                                        refine wpList_nil ?_
                                        refine then_normal ?_
                                        by_cases h95 : t93.1 ≠ 0
                                        · replace H := ite_yes h95 H
                                          refine wpc_yes ht rfl (decide_eq_true h95) ?_
                                          refine wp_seq ?_
                                          refine wpr ?_
                                          refine wpl rfl rfl ht (ev_assign ht rfl rfl) ?_
                                          intro a ht
                                          refine wpList_nil ?_
                                          refine then_normal ?_
                                          refine wp_ret ?_
                                          refine then_ret ?_
                                          have hres := ht.res (P := Try.prog) (w := w) (rs := [.tmp 2]) (vs := [.bool false]) (.tmp rfl .nil)
                                          obtain rfl := Option.some.inj H
                                          exact leave ht rfl hres ⟨rfl, ((hm.pick [] rfl (by decide)).pickφ [] rfl).post fun _ h => h⟩
                                        · replace H := ite_no h95 H
                                          refine wpc_no ht rfl (decide_eq_false h95) ?_
                                          refine wp_skip ?_
                                          refine then_normal ?_
                                          refine wp_seq ?_
                                          refine wpr ?_
                                          refine wpl rfl rfl ht (ev_assign ht rfl rfl) ?_
                                          intro a ht
                                          refine wpList_nil ?_
                                          refine then_normal ?_
                                          refine wp_ret ?_
                                          have hres := ht.res (P := Try.prog) (w := w) (rs := [.tmp 2]) (vs := [.bool true]) (.tmp rfl .nil)
                                          obtain rfl := Option.some.inj H
                                          exact leave ht rfl hres ⟨rfl, ((hm.pick [] rfl (by decide)).pickφ [] rfl).post fun _ h => h⟩
                                    · replace H := ite_no h92 H
                                      refine wpc_no ht rfl (decide_eq_false h92) ?_
                                      refine wp_skip ?_
                                      refine then_normal ?_
                                      refine wp_seq ?_
                                      refine wpr ?_
                                      refine wpl rfl rfl ht (ev_assign ht rfl rfl) ?_
                                      intro a ht
                                      refine wpList_nil ?_
                                      refine then_normal ?_
                                      refine wp_ret ?_
                                      have hres := ht.res (P := Try.prog) (w := w) (rs := [.tmp 2]) (vs := [.bool true]) (.tmp rfl .nil)
                                      obtain rfl := Option.some.inj H
                                      exact leave ht rfl hres ⟨rfl, ((hm.pick [] rfl (by decide)).pickφ [] rfl).post fun _ h => h⟩
                                  · replace H := ite_no h91 H
                                    refine wpc_yes ht rfl (not_f (Bool.eq_false_iff.mpr h91)) ?_
                                    refine wp_seq ?_
                                    refine wpr ?_
                                    refine wpl rfl rfl ht (ev_assign ht rfl rfl) ?_
                                    intro a ht
                                    refine wpList_nil ?_
                                    refine then_normal ?_
                                    refine wp_ret ?_
                                    refine then_ret ?_
                                    refine then_ret ?_
                                    have hres := ht.res (P := Try.prog) (w := w) (rs := [.tmp 2]) (vs := [.bool false]) (.tmp rfl .nil)
                                    obtain rfl := Option.some.inj H
                                    exact leave ht rfl hres ⟨rfl, ((hm.pick [] rfl (by decide)).pickφ [] rfl).post fun _ h => h⟩
                            · replace H := ite_no h85 H
                              refine wpc_no ht rfl (decide_eq_false h85) ?_
                              refine wp_skip ?_
                              refine then_normal ?_
                              refine wp_seq ?_
                              refine wpr ?_
                              refine wpl rfl rfl ht (ev_assign ht rfl rfl) ?_
                              intro a ht
                              refine wpList_nil ?_
                              refine then_normal ?_
                              refine wp_ret ?_
                              have hres := ht.res (P := Try.prog) (w := w) (rs := [.tmp 2]) (vs := [.bool true]) (.tmp rfl .nil)
                              obtain rfl := Option.some.inj H
                              exact leave ht rfl hres ⟨rfl, ((hm.pick [] rfl (by decide)).pickφ [] rfl).post fun _ h => h⟩
                    · replace H := ite_no h75 H
                      refine wpl_no rfl rfl ht rfl (by rw [(not_f (Bool.eq_false_iff.mpr h75))]; decide) ?_
                      intro a ht
                      refine wpl_no rfl rfl ht rfl (by rw [(not_f (Bool.eq_false_iff.mpr h75))]; decide) ?_
                      intro a ht
                      refine wpl_no rfl rfl ht rfl (by rw [(not_f (Bool.eq_false_iff.mpr h75))]; decide) ?_
                      intro a ht
                      refine wpl_no rfl rfl ht rfl (by rw [(not_f (Bool.eq_false_iff.mpr h75))]; decide) ?_
                      intro a ht
                      refine wpl_no rfl rfl ht rfl (by rw [(not_f (Bool.eq_false_iff.mpr h75))]; decide) ?_
                      intro a ht
                      refine wpl rfl rfl ht (ev_pick_yes ht rfl rfl (not_f (Bool.eq_false_iff.mpr h75)) rfl) ?_
                      intro a ht
                      refine wpList_nil ?_
                      refine then_normal ?_
                      refine wpc_yes ht rfl rfl ?_
                      refine wp_seq ?_
                      refine wpr ?_
                      refine wpl rfl rfl ht (ev_assign ht rfl rfl) ?_
                      intro a ht
                      refine wpList_nil ?_
                      refine then_normal ?_
                      refine wp_ret ?_
                      refine then_ret ?_
                      have hres := ht.res (P := Try.prog) (w := w) (rs := [.tmp 2]) (vs := [.bool false]) (.tmp rfl .nil)
                      obtain rfl := Option.some.inj H
                      exact leave ht rfl hres ⟨rfl, ((hm.pick [] rfl (by decide)).pickφ [] rfl).post fun _ h => h⟩
              · replace H := ite_no h67 H
                refine wpc_no ht rfl (decide_eq_false h67) ?_
                refine wp_skip ?_
                refine then_normal ?_
                refine wp_seq ?_
                refine wpr ?_
                refine wpl rfl rfl ht (ev_move ht rfl rfl) ?_
                intro a ht
                obtain ⟨t96, et96, H⟩ := bind_get H
                have hcall := spec_DrawGreatestCircular.calls k _ _ A c m code _ ((fun (hq : Ms _ _ _ ([] ++ [.blk b10 29 (Col.cells t9.1), .blk b8 29 (Col.cells t7.1), .vec A4 c5 2 1 m6 (ints t3.2)]) _ _) => hq.lend (φp := [Bytes8At A c m code]) (allRO_cons (hq.lendFact 0 rfl) (allRO_nil))) (hm.pick (own' := [] ++ [.blk b10 29 (Col.cells t9.1), .blk b8 29 (Col.cells t7.1), .vec A4 c5 2 1 m6 (ints t3.2)]) [0, 1, 2] rfl (by decide))) et96
                refine wpl_call _ rfl rfl ht rfl rfl rfl rfl can_12 hcall ?_
                clear hcall
                rintro _ w ⟨A97, c98, m99, rfl, hpost⟩ a ht
                replace hm := (hm.pick (own' := [] ++ [.blk b10 29 (Col.cells t9.1), .blk b8 29 (Col.cells t7.1), .vec A4 c5 2 1 m6 (ints t3.2)]) [0, 1, 2] rfl (by decide)).backL hpost
                clear hpost
                refine wpl rfl rfl ht (ev_assign ht rfl rfl) ?_
                intro a ht
                refine wpList_nil ?_
                refine then_normal ?_
                refine wp_seq ?_
                refine wpr ?_
                refine wpl rfl rfl ht (ev_move ht rfl rfl) ?_
                intro a ht
                obtain ⟨t100, et100, H⟩ := bind_get H
                have hcall := impl_GreatestCircular.calls k _ _ A97 c98 m99 t96 _ ((fun (hq : Ms _ _ _ ([] ++ [.vec A97 c98 2 1 m99 (ints t96), .blk b10 29 (Col.cells t9.1), .blk b8 29 (Col.cells t7.1), .vec A4 c5 2 1 m6 (ints t3.2)]) _ _) => hq.lend (φp := [IntsAt A97 c98 m99 t96]) (allRO_cons (hq.lendVec 0 rfl) (allRO_nil))) (hm.pick (own' := [] ++ [.vec A97 c98 2 1 m99 (ints t96), .blk b10 29 (Col.cells t9.1), .blk b8 29 (Col.cells t7.1), .vec A4 c5 2 1 m6 (ints t3.2)]) [0, 1, 2, 3] rfl (by decide))) et100
                refine wpl_call _ rfl rfl ht rfl rfl rfl rfl can_13 hcall ?_
                clear hcall
                rintro _ w ⟨rfl, hpost⟩ a ht
                replace hm := (hm.pick (own' := [] ++ [.vec A97 c98 2 1 m99 (ints t96), .blk b10 29 (Col.cells t9.1), .blk b8 29 (Col.cells t7.1), .vec A4 c5 2 1 m6 (ints t3.2)]) [0, 1, 2, 3] rfl (by decide)).backL hpost
                clear hpost
                refine wpl rfl rfl ht (ev_move ht rfl rfl) ?_
                intro a ht
                refine wpl rfl rfl ht (ev_extract ht rfl rfl rfl) ?_
                intro a ht
                refine wpl rfl rfl ht (ev_extract ht rfl rfl rfl) ?_
                intro a ht
                refine wpl rfl rfl ht (ev_assign ht rfl rfl) ?_
                intro a ht
                refine wpl rfl rfl ht (ev_assign ht rfl rfl) ?_
                intro a ht
                refine wpList_nil ?_
                refine then_normal ?_
                refine wp_seq ?_
                refine wpr ?_
                refine wpl rfl rfl ht (ev_move ht rfl rfl) ?_
                intro a ht
                obtain ⟨t101, et101, H⟩ := bind_get H
                have hcall := spec_GreatestCircular.calls k _ _ A97 c98 m99 t96 _ ((fun (hq : Ms _ _ _ ([] ++ [.vec A97 c98 2 1 m99 (ints t96), .blk b10 29 (Col.cells t9.1), .blk b8 29 (Col.cells t7.1), .vec A4 c5 2 1 m6 (ints t3.2)]) _ _) => hq.lend (φp := [IntsAt A97 c98 m99 t96]) (allRO_cons (hq.lendVec 0 rfl) (allRO_nil))) (hm.pick (own' := [] ++ [.vec A97 c98 2 1 m99 (ints t96), .blk b10 29 (Col.cells t9.1), .blk b8 29 (Col.cells t7.1), .vec A4 c5 2 1 m6 (ints t3.2)]) [0, 1, 2, 3] rfl (by decide))) et101
                refine wpl_call _ rfl rfl ht rfl rfl rfl rfl can_14 hcall ?_
                clear hcall
                rintro _ w ⟨rfl, hpost⟩ a ht
                replace hm := (hm.pick (own' := [] ++ [.vec A97 c98 2 1 m99 (ints t96), .blk b10 29 (Col.cells t9.1), .blk b8 29 (Col.cells t7.1), .vec A4 c5 2 1 m6 (ints t3.2)]) [0, 1, 2, 3] rfl (by decide)).backL hpost
                clear hpost
                refine wpl rfl rfl ht (ev_move ht rfl rfl) ?_
                intro a ht
                refine wpl rfl rfl ht (ev_extract ht rfl rfl rfl) ?_
                intro a ht
                refine wpl rfl rfl ht (ev_extract ht rfl rfl rfl) ?_
                intro a ht
                refine wpl rfl rfl ht (ev_assign ht rfl rfl) ?_
                intro a ht
                refine wpl rfl rfl ht (ev_assign ht rfl rfl) ?_
                intro a ht
                refine wpList_nil ?_
                refine then_normal ?_
                refine wp_seq ?_
                refine wp_seq ?_
                refine wpr ?_
                refine wpl rfl rfl ht (ev_move ht rfl rfl) ?_
                intro a ht
                refine wpl rfl rfl ht (ev_move ht rfl rfl) ?_
                intro a ht
                refine wpl rfl rfl ht (ev_cmp ht rfl rfl rfl rfl) ?_
                intro a ht
                refine wpl rfl rfl ht (ev_move ht rfl rfl) ?_
                intro a ht
                by_cases h102 : t100.2 ≠ t101.2
                · replace H := ite_yes h102 H
                  refine wpl_no rfl rfl ht rfl (by rw [(decide_eq_true h102)]; decide) ?_
                  intro a ht
                  refine wpl_no rfl rfl ht rfl (by rw [(decide_eq_true h102)]; decide) ?_
                  intro a ht
                  refine wpl_no rfl rfl ht rfl (by rw [(decide_eq_true h102)]; decide) ?_
                  intro a ht
                  refine wpl rfl rfl ht (ev_pick_yes ht rfl rfl (decide_eq_true h102) rfl) ?_
                  intro a ht
                  refine wpList_nil ?_
                  refine then_normal ?_
                  refine wpc_yes ht rfl rfl ?_
                  refine wp_seq ?_
                  refine wpr ?_
                  refine wpl rfl rfl ht (ev_assign ht rfl rfl) ?_
                  intro a ht
                  refine wpList_nil ?_
                  refine then_normal ?_
                  refine wp_ret ?_
                  refine then_ret ?_
                  have hres := ht.res (P := Try.prog) (w := w) (rs := [.tmp 2]) (vs := [.bool false]) (.tmp rfl .nil)
                  obtain rfl := Option.some.inj H
                  exact leave ht rfl hres ⟨rfl, ((hm.pick [] rfl (by decide)).pickφ [] rfl).post fun _ h => h⟩
                · replace H := ite_no h102 H
                  refine wpl_yes rfl ht rfl ((decide_eq_false h102)) ?_
                  refine wpl rfl rfl ht (ev_move ht rfl rfl) ?_
                  intro a ht
                  refine wpl_yes rfl ht rfl ((decide_eq_false h102)) ?_
                  refine wpl rfl rfl ht (ev_move ht rfl rfl) ?_
                  intro a ht
                  refine wpl_yes rfl ht rfl ((decide_eq_false h102)) ?_
                  refine wpl rfl rfl ht (ev_cmp ht rfl rfl rfl rfl) ?_
                  intro a ht
                  refine wpl rfl rfl ht (ev_pick_no ht rfl rfl (decide_eq_false h102) rfl) ?_
                  intro a ht
                  refine wpList_nil ?_
                  refine then_normal ?_
                  by_cases h103 : t100.1 ≠ t101.1
                  · replace H := ite_yes h103 H
                    refine wpc_yes ht rfl (decide_eq_true h103) ?_
                    refine wp_seq ?_
                    refine wpr ?_
                    refine wpl rfl rfl ht (ev_assign ht rfl rfl) ?_
                    intro a ht
                    refine wpList_nil ?_
                    refine then_normal ?_
                    refine wp_ret ?_
                    refine then_ret ?_
                    have hres := ht.res (P := Try.prog) (w := w) (rs := [.tmp 2]) (vs := [.bool false]) (.tmp rfl .nil)
                    obtain rfl := Option.some.inj H
                    exact leave ht rfl hres ⟨rfl, ((hm.pick [] rfl (by decide)).pickφ [] rfl).post fun _ h => h⟩
                  · replace H := ite_no h103 H
                    refine wpc_no ht rfl (decide_eq_false h103) ?_
                    refine wp_skip ?_
                    refine then_normal ?_
                    refine wp_seq ?_
                    refine wp_seq ?_
                    refine wpr ?_
                    refine wpl rfl rfl ht (ev_move ht rfl rfl) ?_
                    intro a ht
                    refine wpl rfl rfl ht (ev_cmp ht rfl rfl rfl rfl) ?_
                    intro a ht
                    refine wpList_nil ?_
                    refine then_normal ?_
                    by_cases h104 : t100.2 = 0
                    · replace H := ite_yes h104 H
                      refine wpc_yes ht rfl (decide_eq_true h104) ?_
                      refine wp_seq ?_
                      refine wpr ?_
                      refine wpl rfl rfl ht (ev_move ht rfl rfl) ?_
                      intro a ht
                      refine wpl rfl rfl ht (ev_move ht rfl rfl) ?_
                      intro a ht
                      obtain ⟨t105, et105, H⟩ := bind_get H
                      have hcall := impl_FirstCircular.calls k _ _ A97 c98 m99 t100.1 t96 _ ((fun (hq : Ms _ _ _ ([] ++ [.vec A97 c98 2 1 m99 (ints t96), .blk b10 29 (Col.cells t9.1), .blk b8 29 (Col.cells t7.1), .vec A4 c5 2 1 m6 (ints t3.2)]) _ _) => hq.lend (φp := [IntsAt A97 c98 m99 t96]) (allRO_cons (hq.lendVec 0 rfl) (allRO_nil))) (hm.pick (own' := [] ++ [.vec A97 c98 2 1 m99 (ints t96), .blk b10 29 (Col.cells t9.1), .blk b8 29 (Col.cells t7.1), .vec A4 c5 2 1 m6 (ints t3.2)]) [0, 1, 2, 3] rfl (by decide))) et105
                      refine wpl_call _ rfl rfl ht rfl rfl rfl rfl can_6 hcall ?_
                      clear hcall
                      rintro _ w ⟨rfl, hpost⟩ a ht
                      replace hm := (hm.pick (own' := [] ++ [.vec A97 c98 2 1 m99 (ints t96), .blk b10 29 (Col.cells t9.1), .blk b8 29 (Col.cells t7.1), .vec A4 c5 2 1 m6 (ints t3.2)]) [0, 1, 2, 3] rfl (by decide)).backL hpost
                      clear hpost
                      refine wpl rfl rfl ht (ev_move ht rfl rfl) ?_
                      intro a ht
                      refine wpl rfl rfl ht (ev_extract ht rfl rfl rfl) ?_
                      intro a ht
                      refine wpl rfl rfl ht (ev_extract ht rfl rfl rfl) ?_
                      intro a ht
                      refine wpl_alloc rfl rfl ht hm rfl zo_29 ?_
                      intro b106 a ht w hm
                      refine wpl_store_whole 0 rfl rfl ht hm rfl rfl rfl (szn_29.trans (by first | rw [Col.length_cells] | rfl)) rfl (by simp only [Col.length_cells]) (Col.cells_one _) ?_
                      intro a ht w hm
                      refine wpl rfl rfl ht (ev_assign ht rfl rfl) ?_
                      intro a ht
                      refine wpList_nil ?_
                      refine then_normal ?_
                      refine wp_seq ?_
                      refine wpr ?_
                      refine wpl rfl rfl ht (ev_load_agg ht rfl rfl (ag_29.trans (by first | rw [Col.length_cells] | rfl)) (hm.blk_all 0 rfl)) ?_
                      intro a ht
                      refine wpl rfl rfl ht (ev_move ht rfl rfl) ?_
                      intro a ht
                      obtain ⟨t107, et107, H⟩ := bind_get H
                      have hcall := impl_AvoidsSizes.calls k _ _ A97 c98 m99 t105.1 t96 _ ((fun (hq : Ms _ _ _ ([] ++ [.blk b106 29 (Col.cells t105.1), .vec A97 c98 2 1 m99 (ints t96), .blk b10 29 (Col.cells t9.1), .blk b8 29 (Col.cells t7.1), .vec A4 c5 2 1 m6 (ints t3.2)]) _ _) => hq.lend (φp := [IntsAt A97 c98 m99 t96]) (allRO_cons (hq.lendVec 1 rfl) (allRO_nil))) (hm.pick (own' := [] ++ [.blk b106 29 (Col.cells t105.1), .vec A97 c98 2 1 m99 (ints t96), .blk b10 29 (Col.cells t9.1), .blk b8 29 (Col.cells t7.1), .vec A4 c5 2 1 m6 (ints t3.2)]) [0, 1, 2, 3, 4] rfl (by decide))) et107
                      refine wpl_call _ rfl rfl ht rfl rfl rfl rfl can_10 hcall ?_
                      clear hcall
                      rintro _ w ⟨rfl, hpost⟩ a ht
                      replace hm := (hm.pick (own' := [] ++ [.blk b106 29 (Col.cells t105.1), .vec A97 c98 2 1 m99 (ints t96), .blk b10 29 (Col.cells t9.1), .blk b8 29 (Col.cells t7.1), .vec A4 c5 2 1 m6 (ints t3.2)]) [0, 1, 2, 3, 4] rfl (by decide)).backL hpost
                      clear hpost
                      refine wpl rfl rfl ht (ev_move ht rfl rfl) ?_
                      intro a ht
                      refine wpl rfl rfl ht (ev_extract ht rfl rfl rfl) ?_
                      intro a ht
                      refine wpl rfl rfl ht (ev_extract ht rfl rfl rfl) ?_
                      intro a ht
                      refine wpl rfl rfl ht (ev_assign ht rfl rfl) ?_
                      intro a ht
                      refine wpl rfl rfl ht (ev_assign ht rfl rfl) ?_
                      intro a ht
                      refine wpList_nil ?_
                      refine then_normal ?_
                      refine wp_seq ?_
                      refine wp_seq ?_
                      refine wpr ?_
                      refine wpl rfl rfl ht (ev_move ht rfl rfl) ?_
                      intro a ht
                      refine wpl rfl rfl ht (ev_cmp ht rfl rfl rfl rfl) ?_
                      intro a ht
                      refine wpl rfl rfl ht (ev_move ht rfl rfl) ?_
                      intro a ht
                      by_cases h108 : t105.2 ≠ 0
                      · replace H := ite_yes h108 H
                        refine wpl_no rfl rfl ht rfl (by rw [(decide_eq_true h108)]; decide) ?_
                        intro a ht
                        refine wpl_no rfl rfl ht rfl (by rw [(decide_eq_true h108)]; decide) ?_
                        intro a ht
                        refine wpl rfl rfl ht (ev_pick_yes ht rfl rfl (decide_eq_true h108) rfl) ?_
                        intro a ht
                        refine wpl rfl rfl ht (ev_move ht rfl rfl) ?_
                        intro a ht
                        refine wpl_no rfl rfl ht rfl (by decide) ?_
                        intro a ht
                        refine wpl_no rfl rfl ht rfl (by decide) ?_
                        intro a ht
                        refine wpl rfl rfl ht (ev_pick_yes ht rfl rfl rfl rfl) ?_
                        intro a ht
                        refine wpList_nil ?_
                        refine then_normal ?_
                        refine wpc_yes ht rfl rfl ?_
                        refine wp_seq ?_
                        refine wpr ?_
                        refine wpl rfl rfl ht (ev_assign ht rfl rfl) ?_
                        intro a ht
                        refine wpList_nil ?_
                        refine then_normal ?_
                        refine wp_ret ?_
                        refine then_ret ?_
                        refine then_ret ?_
                        have hres := ht.res (P := Try.prog) (w := w) (rs := [.tmp 2]) (vs := [.bool false]) (.tmp rfl .nil)
                        obtain rfl := Option.some.inj H
                        exact leave ht rfl hres ⟨rfl, ((hm.pick [] rfl (by decide)).pickφ [] rfl).post fun _ h => h⟩
                      · replace H := ite_no h108 H
                        refine wpl_yes rfl ht rfl ((decide_eq_false h108)) ?_
                        refine wpl rfl rfl ht (ev_move ht rfl rfl) ?_
                        intro a ht
                        refine wpl_yes rfl ht rfl ((decide_eq_false h108)) ?_
                        refine wpl rfl rfl ht (ev_cmp ht rfl rfl rfl rfl) ?_
                        intro a ht
                        refine wpl rfl rfl ht (ev_pick_no ht rfl rfl (decide_eq_false h108) rfl) ?_
                        intro a ht
                        refine wpl rfl rfl ht (ev_move ht rfl rfl) ?_
                        intro a ht
                        by_cases h109 : t107.2 ≠ 0
                        · replace H := ite_yes h109 H
                          refine wpl_no rfl rfl ht rfl (by rw [(decide_eq_true h109)]; decide) ?_
                          intro a ht
                          refine wpl_no rfl rfl ht rfl (by rw [(decide_eq_true h109)]; decide) ?_
                          intro a ht
                          refine wpl rfl rfl ht (ev_pick_yes ht rfl rfl (decide_eq_true h109) rfl) ?_
                          intro a ht
                          refine wpList_nil ?_
                          refine then_normal ?_
                          refine wpc_yes ht rfl rfl ?_
                          refine wp_seq ?_
                          refine wpr ?_
                          refine wpl rfl rfl ht (ev_assign ht rfl rfl) ?_
                          intro a ht
                          refine wpList_nil ?_
                          refine then_normal ?_
                          refine wp_ret ?_
                          refine then_ret ?_
                          refine then_ret ?_
                          have hres := ht.res (P := Try.prog) (w := w) (rs := [.tmp 2]) (vs := [.bool false]) (.tmp rfl .nil)
                          obtain rfl := Option.some.inj H
                          exact leave ht rfl hres ⟨rfl, ((hm.pick [] rfl (by decide)).pickφ [] rfl).post fun _ h => h⟩
                        · replace H := ite_no h109 H
                          refine wpl_yes rfl ht rfl ((decide_eq_false h109)) ?_
                          refine wpl rfl rfl ht (ev_move ht rfl rfl) ?_
                          intro a ht
                          refine wpl_yes rfl ht rfl ((decide_eq_false h109)) ?_
                          refine wpl rfl rfl ht (ev_not ht rfl rfl) ?_
                          intro a ht
                          refine wpl rfl rfl ht (ev_pick_no ht rfl rfl (decide_eq_false h109) rfl) ?_
                          intro a ht
                          refine wpList_nil ?_
                          refine then_normal ?_
                          by_cases h110 : t107.1 = true
                          · replace H := ite_yes h110 H
                            refine wpc_no ht rfl (not_t h110) ?_
                            refine wp_skip ?_
                            refine then_normal ?_
                            refine wp_seq ?_
                            refine wpr ?_
                            refine wpl rfl rfl ht (ev_move ht rfl rfl) ?_
                            intro a ht
                            refine wpl rfl rfl ht (ev_cmp ht rfl rfl rfl rfl) ?_
                            intro a ht
                            refine wpList_nil ?_
                            refine then_normal ?_
                            by_cases h111 : t100.1 < 13
                            · replace H := ite_yes h111 H
                              refine wpc_yes ht rfl (decide_eq_true h111) ?_
                              refine wp_seq ?_
                              refine wpr ?_
                              refine wpl rfl rfl ht (ev_move ht rfl rfl) ?_
                              intro a ht
                              refine wpl rfl rfl ht (ev_arith ht rfl rfl rfl rfl) ?_
                              intro a ht
                              refine wpl rfl rfl ht (ev_move ht rfl rfl) ?_
                              intro a ht
                              obtain ⟨t112, et112, H⟩ := bind_get H
                              have hcall := impl_CountCircular.calls k _ _ A97 c98 m99 (w64 (t100.1 + 1)) t96 _ ((fun (hq : Ms _ _ _ ([] ++ [.blk b106 29 (Col.cells t105.1), .vec A97 c98 2 1 m99 (ints t96), .blk b10 29 (Col.cells t9.1), .blk b8 29 (Col.cells t7.1), .vec A4 c5 2 1 m6 (ints t3.2)]) _ _) => hq.lend (φp := [IntsAt A97 c98 m99 t96]) (allRO_cons (hq.lendVec 1 rfl) (allRO_nil))) (hm.pick (own' := [] ++ [.blk b106 29 (Col.cells t105.1), .vec A97 c98 2 1 m99 (ints t96), .blk b10 29 (Col.cells t9.1), .blk b8 29 (Col.cells t7.1), .vec A4 c5 2 1 m6 (ints t3.2)]) [0, 1, 2, 3, 4] rfl (by decide))) et112
                              refine wpl_call _ rfl rfl ht rfl rfl rfl rfl can_8 hcall ?_
                              clear hcall
                              rintro _ w ⟨rfl, hpost⟩ a ht
                              replace hm := (hm.pick (own' := [] ++ [.blk b106 29 (Col.cells t105.1), .vec A97 c98 2 1 m99 (ints t96), .blk b10 29 (Col.cells t9.1), .blk b8 29 (Col.cells t7.1), .vec A4 c5 2 1 m6 (ints t3.2)]) [0, 1, 2, 3, 4] rfl (by decide)).backL hpost
                              clear hpost
                              refine wpl rfl rfl ht (ev_move ht rfl rfl) ?_
                              intro a ht
                              refine wpl rfl rfl ht (ev_extract ht rfl rfl rfl) ?_
                              intro a ht
                              refine wpl rfl rfl ht (ev_extract ht rfl rfl rfl) ?_
                              intro a ht
                              refine wpl rfl rfl ht (ev_assign ht rfl rfl) ?_
                              intro a ht
                              refine wpl rfl rfl ht (ev_assign ht rfl rfl) ?_
                              intro a ht
                              refine wpList_nil ?_
                              refine then_normal ?_
                              refine wp_seq ?_
                              refine wpr ?_
                              refine wpl rfl rfl ht (ev_move ht rfl rfl) ?_
                              intro a ht
                              refine wpl rfl rfl ht (ev_cmp ht rfl rfl rfl rfl) ?_
                              intro a ht
                              refine wpl rfl rfl ht (ev_move ht rfl rfl) ?_
                              intro a ht
                              by_cases h113 : t112.2 ≠ 0
                              · replace H := ite_yes h113 H
                                refine wpl_no rfl rfl ht rfl (by rw [(decide_eq_true h113)]; decide) ?_
                                intro a ht
                                refine wpl_no rfl rfl ht rfl (by rw [(decide_eq_true h113)]; decide) ?_
                                intro a ht
                                refine wpl rfl rfl ht (ev_pick_yes ht rfl rfl (decide_eq_true h113) rfl) ?_
                                intro a ht
                                refine wpList_nil ?_
                                refine then_normal ?_
                                refine wpc_yes ht rfl rfl ?_
                                refine wp_seq ?_
                                refine wpr ?_
                                refine wpl rfl rfl ht (ev_assign ht rfl rfl) ?_
                                intro a ht
                                refine wpList_nil ?_
                                refine then_normal ?_
                                refine wp_ret ?_
                                refine then_ret ?_
                                have hres := ht.res (P := Try.prog) (w := w) (rs := [.tmp 2]) (vs := [.bool false]) (.tmp rfl .nil)
                                obtain rfl := Option.some.inj H
                                exact leave ht rfl hres ⟨rfl, ((hm.pick [] rfl (by decide)).pickφ [] rfl).post fun _ h => h⟩
                              · replace H := ite_no h113 H
                                refine wpl_yes rfl ht rfl ((decide_eq_false h113)) ?_
                                refine wpl rfl rfl ht (ev_move ht rfl rfl) ?_
                                intro a ht
                                refine wpl_yes rfl ht rfl ((decide_eq_false h113)) ?_
                                refine wpl rfl rfl ht (ev_cmp ht rfl rfl rfl rfl) ?_
                                intro a ht
                                refine wpl rfl rfl ht (ev_pick_no ht rfl rfl (decide_eq_false h113) rfl) ?_
                                intro a ht
                                refine wpList_nil ?_
                                refine then_normal ?_
                                by_cases h114 : t112.1 ≠ 0
                                · replace H := ite_yes h114 H
                                  refine wpc_yes ht rfl (decide_eq_true h114) ?_
                                  refine wp_seq ?_
                                  refine wpr ?_
                                  refine wpl rfl rfl ht (ev_assign ht rfl rfl) ?_
                                  intro a ht
                                  refine wpList_nil ?_
                                  refine then_normal ?_
                                  refine wp_ret ?_
                                  refine then_ret ?_
                                  have hres := ht.res (P := Try.prog) (w := w) (rs := [.tmp 2]) (vs := [.bool false]) (.tmp rfl .nil)
                                  obtain rfl := Option.some.inj H
                                  exact leave ht rfl hres ⟨rfl, ((hm.pick [] rfl (by decide)).pickφ [] rfl).post fun _ h => h⟩
                                · replace H := ite_no h114 H
                                  refine wpc_no ht rfl (decide_eq_false h114) ?_
                                  refine wp_skip ?_
                                  refine then_normal ?_
                                  refine wp_seq ?_
                                  refine wpr ?_
                                  refine wpl rfl rfl ht (ev_assign ht rfl rfl) ?_
                                  intro a ht
                                  refine wpList_nil ?_
                                  refine then_normal ?_
                                  refine wp_ret ?_
                                  have hres := ht.res (P := Try.prog) (w := w) (rs := [.tmp 2]) (vs := [.bool true]) (.tmp rfl .nil)
                                  obtain rfl := Option.some.inj H
                                  exact leave ht rfl hres ⟨rfl, ((hm.pick [] rfl (by decide)).pickφ [] rfl).post fun _ h => h⟩
                            · replace H := ite_no h111 H
                              refine wpc_no ht rfl (decide_eq_false h111) ?_
                              refine wp_skip ?_
                              refine then_normal ?_
                              refine wp_seq ?_
                              refine wpr ?_
                              refine wpl rfl rfl ht (ev_assign ht rfl rfl) ?_
                              intro a ht
                              refine wpList_nil ?_
                              refine then_normal ?_
                              refine wp_ret ?_
                              have hres := ht.res (P := Try.prog) (w := w) (rs := [.tmp 2]) (vs := [.bool true]) (.tmp rfl .nil)
                              obtain rfl := Option.some.inj H
                              exact leave ht rfl hres ⟨rfl, ((hm.pick [] rfl (by decide)).pickφ [] rfl).post fun _ h => h⟩
                          · replace H := ite_no h110 H
                            refine wpc_yes ht rfl (not_f (Bool.eq_false_iff.mpr h110)) ?_
                            refine wp_seq ?_
                            refine wpr ?_
                            refine wpl rfl rfl ht (ev_assign ht rfl rfl) ?_
                            intro a ht
                            refine wpList_nil ?_
                            refine then_normal ?_
                            refine wp_ret ?_
                            refine then_ret ?_
                            refine then_ret ?_
                            have hres := ht.res (P := Try.prog) (w := w) (rs := [.tmp 2]) (vs := [.bool false]) (.tmp rfl .nil)
                            obtain rfl := Option.some.inj H
                            exact leave ht rfl hres ⟨rfl, ((hm.pick [] rfl (by decide)).pickφ [] rfl).post fun _ h => h⟩
                    · replace H := ite_no h104 H
                      refine wpc_no ht rfl (decide_eq_false h104) ?_
                      refine wp_skip ?_
                      refine then_normal ?_
                      refine wp_seq ?_
                      refine wpr ?_
                      refine wpl rfl rfl ht (ev_assign ht rfl rfl) ?_
                      intro a ht
                      refine wpList_nil ?_
                      refine then_normal ?_
                      refine wp_ret ?_
                      have hres := ht.res (P := Try.prog) (w := w) (rs := [.tmp 2]) (vs := [.bool true]) (.tmp rfl .nil)
                      obtain rfl := Option.some.inj H
                      exact leave ht rfl hres ⟨rfl, ((hm.pick [] rfl (by decide)).pickφ [] rfl).post fun _ h => h⟩
      · replace H := ite_no h14 H
        refine wpl_no rfl rfl ht rfl (by rw [(not_f (Bool.eq_false_iff.mpr h14))]; decide) ?_
        intro a ht
        refine wpl_no rfl rfl ht rfl (by rw [(not_f (Bool.eq_false_iff.mpr h14))]; decide) ?_
        intro a ht
        refine wpl_no rfl rfl ht rfl (by rw [(not_f (Bool.eq_false_iff.mpr h14))]; decide) ?_
        intro a ht
        refine wpl rfl rfl ht (ev_pick_yes ht rfl rfl (not_f (Bool.eq_false_iff.mpr h14)) rfl) ?_
        intro a ht
        refine wpl rfl rfl ht (ev_move ht rfl rfl) ?_
        intro a ht
        refine wpl_no rfl rfl ht rfl (by decide) ?_
        intro a ht
        refine wpl_no rfl rfl ht rfl (by decide) ?_
        intro a ht
        refine wpl_no rfl rfl ht rfl (by decide) ?_
        intro a ht
        refine wpl rfl rfl ht (ev_pick_yes ht rfl rfl rfl rfl) ?_
        intro a ht
        refine wpl rfl rfl ht (ev_move ht rfl rfl) ?_
        intro a ht
        refine wpl_no rfl rfl ht rfl (by decide) ?_
        intro a ht
        refine wpl_no rfl rfl ht rfl (by decide) ?_
        intro a ht
        refine wpl_no rfl rfl ht rfl (by decide) ?_
        intro a ht
        refine wpl_none rfl rfl ht rfl ?_
        intro a ht
        refine wpl_none rfl rfl ht rfl ?_
        intro a ht
        refine wpl_none rfl rfl ht rfl ?_
        intro a ht
        refine wpl_none rfl rfl ht rfl ?_
        intro a ht
        refine wpl_none rfl rfl ht rfl ?_
        intro a ht
        refine wpl_no rfl rfl ht rfl (by decide) ?_
        intro a ht
        refine wpl rfl rfl ht (ev_pick_yes ht rfl rfl rfl rfl) ?_
        intro a ht
        refine wpList_nil ?_
        refine then_normal ?_
        refine wpc_yes ht rfl rfl ?_
        refine wp_seq ?_
        refine wpr ?_
        refine wpl rfl rfl ht (ev_assign ht rfl rfl) ?_
        intro a ht
        refine wpList_nil ?_
        refine then_normal ?_
        refine wp_ret ?_
        refine then_ret ?_
        have hres := ht.res (P := Try.prog) (w := w) (rs := [.tmp 2]) (vs := [.bool false]) (.tmp rfl .nil)
        obtain rfl := Option.some.inj H
        exact leave ht rfl hres ⟨rfl, ((hm.pick [] rfl (by decide)).pickφ [] rfl).post fun _ h => h⟩

end Go.Proofs.Ytkceneefhbdifaa.G
