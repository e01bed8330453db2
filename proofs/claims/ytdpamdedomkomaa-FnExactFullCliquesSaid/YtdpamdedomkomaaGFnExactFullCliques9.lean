/- What each Go function computes, as a Lean function, and the proof that it does: written by a program of this session (wip/gen), part 9. -/
import Derived.Test.YtdpamdedomkomaaGFnExactFullCliques8
namespace Go.Proofs.Ytdpamdedomkomaa.G
open Go Go.RowKit Go.Proofs.Ytdpamdedomkomaa.K
set_option linter.unusedVariables false
set_option linter.unusedSimpArgs false

/-! ### laws_FnExactFullCliques: function 14 (loop.example/g01362/laws.FnExactFullCliques) -/
def laws_FnExactFullCliques.f (k : Nat) (aX : Col) (aC : Int) : Option (Bool) := (laws_toColouring.f k aX).bind fun t2 => (spec_FullCliques.f k t2 aC).bind fun t3 => (laws_toColouring.f k aX).bind fun t8 => (impl_FullCliques.f k t8 aC).bind fun t9 => (laws_eqInt64SS.f k t9.1 t3.1).bind fun t14 => if t14 = true then (if t9.2 ≠ t3.2 then (some false) else ((laws_markInt64SS.f k t9.1 1).bind fun t17 => (laws_heldInt64SS.f k t17.2 1).bind fun t18 => if t18 < 0 then (some false) else (if t18 ≠ t17.1 then (some false) else ((laws_toColouring.f k aX).bind fun t21 => (impl_FullCliques.f k t21 aC).bind fun t22 => (laws_eqInt64SS.f k t22.1 t3.1).bind fun t27 => if t27 = true then (if t22.2 ≠ t3.2 then (some false) else ((laws_heldInt64SS.f k t17.2 1).bind fun t30 => if t30 < 0 then (some false) else (if t30 ≠ t17.1 then (some false) else (some true)))) else (some false))))) else (some false)
set_option maxRecDepth 100000 in
set_option maxHeartbeats 1000000 in
theorem laws_FnExactFullCliques.calls (k : Nat) (X : List Nat) (w0 : World)  (aX : Col) (aC : Int) (r : Bool)
    (hp : Pre X w0 [] []) (H : laws_FnExactFullCliques.f k aX aC = some r) :
    Calls Try.prog 14 [.agg (Col.cells aX).toArray, .int .i64 aC].toArray w0 (Ret fun v w => v = .bool r ∧ Post X (fps []) w0 [] [] w) := by
  unfold laws_FnExactFullCliques.f at H
  refine enterM (n := 71) hp Try.func14 rfl rfl (Nat.le_of_ble_eq_true rfl) fun a w ht hm => ?_
  refine wp_seq ?_
  refine wpr ?_
  refine wpl_box rfl rfl ht hm rfl rfl rfl ?_
  intro b1 a ht w hm
  refine wpl rfl rfl ht (ev_assign ht rfl rfl) ?_
  intro a ht
  refine wpList_nil ?_
  refine then_normal ?_
  refine wp_seq ?_
  refine wpr ?_
  refine wpl rfl rfl ht (ev_load_agg ht rfl rfl (ag_24.trans (by first | rw [Col.length_cells] | rfl)) (hm.blk_all 0 rfl)) ?_
  intro a ht
  obtain ⟨t2, et2, H⟩ := bind_get H
  have hcall := laws_toColouring.calls k _ _ aX _ ((fun (hq : Ms _ _ _ ([] ++ [.blk b1 24 (Col.cells aX)]) _ _) => hq.lend (φp := []) (allRO_nil)) (hm.pick (own' := [] ++ [.blk b1 24 (Col.cells aX)]) [0] rfl (by decide))) et2
  refine wpl_call _ rfl rfl ht rfl rfl rfl rfl can_16 hcall ?_
  clear hcall
  rintro _ w ⟨rfl, hpost⟩ a ht
  replace hm := (hm.pick (own' := [] ++ [.blk b1 24 (Col.cells aX)]) [0] rfl (by decide)).backL hpost
  clear hpost
  refine wpl rfl rfl ht (ev_move ht rfl rfl) ?_
  intro a ht
  obtain ⟨t3, et3, H⟩ := bind_get H
  have hcall := spec_FullCliques.calls k _ _ t2 aC _ ((hm.pick (own' := [] ++ [.blk b1 24 (Col.cells aX)]) [0] rfl (by decide)).give (passed := []) (rest := [.blk b1 24 (Col.cells aX)]) (φp := []) [] rfl) et3
  refine wpl_call _ rfl rfl ht rfl rfl rfl rfl can_45 hcall ?_
  clear hcall
  rintro _ w ⟨A4, c5, m6, vs7, rfl, hpost⟩ a ht
  replace hm := (hm.pick (own' := [] ++ [.blk b1 24 (Col.cells aX)]) [0] rfl (by decide)).back hpost
  clear hpost
  refine wpl rfl rfl ht (ev_move ht rfl rfl) ?_
  intro a ht
  refine wpl rfl rfl ht (ev_extract ht rfl rfl rfl) ?_
  intro a ht
  refine wpl rfl rfl ht (ev_extract ht rfl rfl rfl) ?_
  intro a ht
  refine wpl rfl rfl ht (ev_assign ht rfl rfl) ?_
  intro a ht
  refine wpl rfl rfl ht (ev_assign ht rfl rfl) ?_
  intro a ht
  refine wpList_nil ?_
  refine then_normal ?_
  refine wp_seq ?_
  refine wpr ?_
  refine wpl rfl rfl ht (ev_load_agg ht rfl rfl (ag_24.trans (by first | rw [Col.length_cells] | rfl)) (hm.blk_all 1 rfl)) ?_
  intro a ht
  obtain ⟨t8, et8, H⟩ := bind_get H
  have hcall := laws_toColouring.calls k _ _ aX _ ((fun (hq : Ms _ _ _ ([] ++ [.vec A4 c5 25 1 m6 vs7, .blk b1 24 (Col.cells aX)]) _ _) => hq.lend (φp := []) (allRO_nil)) (hm.pick (own' := [] ++ [.vec A4 c5 25 1 m6 vs7, .blk b1 24 (Col.cells aX)]) [0, 1] rfl (by decide))) et8
  refine wpl_call _ rfl rfl ht rfl rfl rfl rfl can_16 hcall ?_
  clear hcall
  rintro _ w ⟨rfl, hpost⟩ a ht
  replace hm := (hm.pick (own' := [] ++ [.vec A4 c5 25 1 m6 vs7, .blk b1 24 (Col.cells aX)]) [0, 1] rfl (by decide)).backL hpost
  clear hpost
  refine wpl rfl rfl ht (ev_move ht rfl rfl) ?_
  intro a ht
  obtain ⟨t9, et9, H⟩ := bind_get H
  have hcall := impl_FullCliques.calls k _ _ t8 aC _ ((fun (hq : Ms _ _ _ ([] ++ [.vec A4 c5 25 1 m6 vs7, .blk b1 24 (Col.cells aX)]) _ _) => hq.lend (φp := []) (allRO_nil)) (hm.pick (own' := [] ++ [.vec A4 c5 25 1 m6 vs7, .blk b1 24 (Col.cells aX)]) [0, 1] rfl (by decide))) et9
  refine wpl_call _ rfl rfl ht rfl rfl rfl rfl can_46 hcall ?_
  clear hcall
  rintro _ w ⟨A10, c11, m12, vs13, rfl, hpost⟩ a ht
  replace hm := (hm.pick (own' := [] ++ [.vec A4 c5 25 1 m6 vs7, .blk b1 24 (Col.cells aX)]) [0, 1] rfl (by decide)).backL hpost
  clear hpost
  refine wpl rfl rfl ht (ev_move ht rfl rfl) ?_
  intro a ht
  refine wpl rfl rfl ht (ev_extract ht rfl rfl rfl) ?_
  intro a ht
  refine wpl rfl rfl ht (ev_extract ht rfl rfl rfl) ?_
  intro a ht
  refine wpl rfl rfl ht (ev_assign ht rfl rfl) ?_
  intro a ht
  refine wpl rfl rfl ht (ev_assign ht rfl rfl) ?_
  intro a ht
  refine wpList_nil ?_
  refine then_normal ?_
  refine wp_seq ?_
  refine wp_seq ?_
  refine wpr ?_
  refine wpl rfl rfl ht (ev_move ht rfl rfl) ?_
  intro a ht
  refine wpl rfl rfl ht (ev_move ht rfl rfl) ?_
  intro a ht
  obtain ⟨t14, et14, H⟩ := bind_get H
  have hcall := laws_eqInt64SS.calls k _ _ A10 c11 m12 vs13 A4 c5 m6 vs7 t9.1 t3.1 _ ((fun (hq : Ms _ _ _ ([] ++ [.vecs A10 c11 25 2 m12 vs13 t9.1, .vec A4 c5 25 1 m6 vs7, .blk b1 24 (Col.cells aX)]) _ _) => hq.lend (φp := [RowsAt A10 c11 m12 vs13 t9.1, RowsAt A4 c5 m6 vs7 t3.1]) (allRO_cons (hq.lendVecs 0 rfl) (allRO_cons (hq.lendRows 1 0 rfl rfl) (allRO_nil)))) (hm.pick (own' := [] ++ [.vecs A10 c11 25 2 m12 vs13 t9.1, .vec A4 c5 25 1 m6 vs7, .blk b1 24 (Col.cells aX)]) [0, 1, 2] rfl (by decide))) et14
  refine wpl_call _ rfl rfl ht rfl rfl rfl rfl can_40 hcall ?_
  clear hcall
  rintro _ w ⟨rfl, hpost⟩ a ht
  replace hm := (hm.pick (own' := [] ++ [.vecs A10 c11 25 2 m12 vs13 t9.1, .vec A4 c5 25 1 m6 vs7, .blk b1 24 (Col.cells aX)]) [0, 1, 2] rfl (by decide)).backL hpost
  clear hpost
  refine wpl rfl rfl ht (ev_not ht rfl rfl) ?_
  intro a ht
  refine wpl rfl rfl ht (ev_move ht rfl rfl) ?_
  intro a ht
  by_cases h15 : t14 = true
  · replace H := ite_yes h15 H
    refine wpl_yes rfl ht rfl ((not_t h15)) ?_
    refine wpl rfl rfl ht (ev_move ht rfl rfl) ?_
    intro a ht
    refine wpl_yes rfl ht rfl ((not_t h15)) ?_
    refine wpl rfl rfl ht (ev_move ht rfl rfl) ?_
    intro a ht
    refine wpl_yes rfl ht rfl ((not_t h15)) ?_
    refine wpl rfl rfl ht (ev_cmp ht rfl rfl rfl rfl) ?_
    intro a ht
    refine wpl rfl rfl ht (ev_pick_no ht rfl rfl (not_t h15) rfl) ?_
    intro a ht
    refine wpList_nil ?_
    refine then_normal ?_
    by_cases h16 : t9.2 ≠ t3.2
    · replace H := ite_yes h16 H
      refine wpc_yes ht rfl (decide_eq_true h16) ?_
      refine wp_seq ?_
      refine wpr ?_
      refine wpl rfl rfl ht (ev_assign ht rfl rfl) ?_
      intro a ht
      refine wpList_nil ?_
      refine then_normal ?_
      refine wp_ret ?_
      refine then_ret ?_
      have hres := ht.res (P := Try.prog) (w := w) (rs := [.tmp 4]) (vs := [.bool false]) (.tmp rfl .nil)
      obtain rfl := Option.some.inj H
      exact leave ht rfl hres ⟨rfl, ((hm.pick [] rfl (by decide)).pickφ [] rfl).post fun _ h => h⟩
    · replace H := ite_no h16 H
      refine wpc_no ht rfl (decide_eq_false h16) ?_
      refine wp_skip ?_
      refine then_normal ?_
      refine wp_seq ?_
      refine wpr ?_
      refine wpl rfl rfl ht (ev_assign ht rfl rfl) ?_
      intro a ht
      refine wpList_nil ?_
      refine then_normal ?_
      refine wp_seq ?_
      refine wpr ?_
      refine wpl rfl rfl ht (ev_move ht rfl rfl) ?_
      intro a ht
      refine wpl rfl rfl ht (ev_move ht rfl rfl) ?_
      intro a ht
      obtain ⟨t17, et17, H⟩ := bind_get H
      have hcall := laws_markInt64SS.calls k _ _ A10 c11 m12 vs13 t9.1 1 _ ((fun (hq : Ms _ _ _ ([.vecs A10 c11 25 2 m12 vs13 t9.1] ++ [.vec A4 c5 25 1 m6 vs7, .blk b1 24 (Col.cells aX)]) _ _) => hq.lend (φp := []) (allRO_nil)) (hm.pick (own' := [.vecs A10 c11 25 2 m12 vs13 t9.1] ++ [.vec A4 c5 25 1 m6 vs7, .blk b1 24 (Col.cells aX)]) [0, 1, 2] rfl (by decide))) et17
      refine wpl_call _ rfl rfl ht rfl rfl rfl rfl can_41 hcall ?_
      clear hcall
      rintro _ w ⟨rfl, hpost⟩ a ht
      replace hm := (hm.pick (own' := [.vecs A10 c11 25 2 m12 vs13 t9.1] ++ [.vec A4 c5 25 1 m6 vs7, .blk b1 24 (Col.cells aX)]) [0, 1, 2] rfl (by decide)).backL hpost
      clear hpost
      refine wpl rfl rfl ht (ev_assign ht rfl rfl) ?_
      intro a ht
      refine wpList_nil ?_
      refine then_normal ?_
      refine wp_seq ?_
      refine wpr ?_
      refine wpl rfl rfl ht (ev_assign ht rfl rfl) ?_
      intro a ht
      refine wpList_nil ?_
      refine then_normal ?_
      refine wp_seq ?_
      refine wpr ?_
      refine wpl rfl rfl ht (ev_move ht rfl rfl) ?_
      intro a ht
      refine wpl rfl rfl ht (ev_move ht rfl rfl) ?_
      intro a ht
      obtain ⟨t18, et18, H⟩ := bind_get H
      have hcall := laws_heldInt64SS.calls k _ _ A10 c11 m12 vs13 t17.2 1 _ ((fun (hq : Ms _ _ _ ([] ++ [.vecs A10 c11 25 2 m12 vs13 t17.2, .vec A4 c5 25 1 m6 vs7, .blk b1 24 (Col.cells aX)]) _ _) => hq.lend (φp := [RowsAt A10 c11 m12 vs13 t17.2]) (allRO_cons (hq.lendVecs 0 rfl) (allRO_nil))) (hm.pick (own' := [] ++ [.vecs A10 c11 25 2 m12 vs13 t17.2, .vec A4 c5 25 1 m6 vs7, .blk b1 24 (Col.cells aX)]) [0, 1, 2] rfl (by decide))) et18
      refine wpl_call _ rfl rfl ht rfl rfl rfl rfl can_42 hcall ?_
      clear hcall
      rintro _ w ⟨rfl, hpost⟩ a ht
      replace hm := (hm.pick (own' := [] ++ [.vecs A10 c11 25 2 m12 vs13 t17.2, .vec A4 c5 25 1 m6 vs7, .blk b1 24 (Col.cells aX)]) [0, 1, 2] rfl (by decide)).backL hpost
      clear hpost
      refine wpl rfl rfl ht (ev_assign ht rfl rfl) ?_
      intro a ht
      refine wpList_nil ?_
      refine then_normal ?_
      refine wp_seq ?_
      refine wp_seq ?_
      refine wpr ?_
      refine wpl rfl rfl ht (ev_move ht rfl rfl) ?_
      intro a ht
      refine wpl rfl rfl ht (ev_cmp ht rfl rfl rfl rfl) ?_
      intro a ht
      refine wpList_nil ?_
      refine then_normal ?_
      by_cases h19 : t18 < 0
      · replace H := ite_yes h19 H
        refine wpc_yes ht rfl (decide_eq_true h19) ?_
        refine wp_seq ?_
        refine wpr ?_
        refine wpl rfl rfl ht (ev_assign ht rfl rfl) ?_
        intro a ht
        refine wpList_nil ?_
        refine then_normal ?_
        refine wp_ret ?_
        refine then_ret ?_
        have hres := ht.res (P := Try.prog) (w := w) (rs := [.tmp 4]) (vs := [.bool false]) (.tmp rfl .nil)
        obtain rfl := Option.some.inj H
        exact leave ht rfl hres ⟨rfl, ((hm.pick [] rfl (by decide)).pickφ [] rfl).post fun _ h => h⟩
      · replace H := ite_no h19 H
        refine wpc_no ht rfl (decide_eq_false h19) ?_
        refine wp_skip ?_
        refine then_normal ?_
        refine wp_seq ?_
        refine wp_seq ?_
        refine wpr ?_
        refine wpl rfl rfl ht (ev_move ht rfl rfl) ?_
        intro a ht
        refine wpl rfl rfl ht (ev_move ht rfl rfl) ?_
        intro a ht
        refine wpl rfl rfl ht (ev_cmp ht rfl rfl rfl rfl) ?_
        intro a ht
        refine wpList_nil ?_
        refine then_normal ?_
        by_cases h20 : t18 ≠ t17.1
        · replace H := ite_yes h20 H
          refine wpc_yes ht rfl (decide_eq_true h20) ?_
          refine wp_seq ?_
          refine wpr ?_
          refine wpl rfl rfl ht (ev_assign ht rfl rfl) ?_
          intro a ht
          refine wpList_nil ?_
          refine then_normal ?_
          refine wp_ret ?_
          refine then_ret ?_
          have hres := ht.res (P := Try.prog) (w := w) (rs := [.tmp 4]) (vs := [.bool false]) (.tmp rfl .nil)
          obtain rfl := Option.some.inj H
          exact leave ht rfl hres ⟨rfl, ((hm.pick [] rfl (by decide)).pickφ [] rfl).post fun _ h => h⟩
        · replace H := ite_no h20 H
          refine wpc_no ht rfl (decide_eq_false h20) ?_
          refine wp_skip ?_
          refine then_normal ?_
          refine wp_seq ?_
          refine wpr ?_
          refine wpl rfl rfl ht (ev_load_agg ht rfl rfl (ag_24.trans (by first | rw [Col.length_cells] | rfl)) (hm.blk_all 2 rfl)) ?_
          intro a ht
          obtain ⟨t21, et21, H⟩ := bind_get H
          have hcall := laws_toColouring.calls k _ _ aX _ ((fun (hq : Ms _ _ _ ([] ++ [.vecs A10 c11 25 2 m12 vs13 t17.2, .vec A4 c5 25 1 m6 vs7, .blk b1 24 (Col.cells aX)]) _ _) => hq.lend (φp := []) (allRO_nil)) (hm.pick (own' := [] ++ [.vecs A10 c11 25 2 m12 vs13 t17.2, .vec A4 c5 25 1 m6 vs7, .blk b1 24 (Col.cells aX)]) [0, 1, 2] rfl (by decide))) et21
          refine wpl_call _ rfl rfl ht rfl rfl rfl rfl can_16 hcall ?_
          clear hcall
          rintro _ w ⟨rfl, hpost⟩ a ht
          replace hm := (hm.pick (own' := [] ++ [.vecs A10 c11 25 2 m12 vs13 t17.2, .vec A4 c5 25 1 m6 vs7, .blk b1 24 (Col.cells aX)]) [0, 1, 2] rfl (by decide)).backL hpost
          clear hpost
          refine wpl rfl rfl ht (ev_move ht rfl rfl) ?_
          intro a ht
          obtain ⟨t22, et22, H⟩ := bind_get H
          have hcall := impl_FullCliques.calls k _ _ t21 aC _ ((fun (hq : Ms _ _ _ ([] ++ [.vecs A10 c11 25 2 m12 vs13 t17.2, .vec A4 c5 25 1 m6 vs7, .blk b1 24 (Col.cells aX)]) _ _) => hq.lend (φp := []) (allRO_nil)) (hm.pick (own' := [] ++ [.vecs A10 c11 25 2 m12 vs13 t17.2, .vec A4 c5 25 1 m6 vs7, .blk b1 24 (Col.cells aX)]) [0, 1, 2] rfl (by decide))) et22
          refine wpl_call _ rfl rfl ht rfl rfl rfl rfl can_46 hcall ?_
          clear hcall
          rintro _ w ⟨A23, c24, m25, vs26, rfl, hpost⟩ a ht
          replace hm := (hm.pick (own' := [] ++ [.vecs A10 c11 25 2 m12 vs13 t17.2, .vec A4 c5 25 1 m6 vs7, .blk b1 24 (Col.cells aX)]) [0, 1, 2] rfl (by decide)).backL hpost
          clear hpost
          refine wpl rfl rfl ht (ev_move ht rfl rfl) ?_
          intro a ht
          refine wpl rfl rfl ht (ev_extract ht rfl rfl rfl) ?_
          intro a ht
          refine wpl rfl rfl ht (ev_extract ht rfl rfl rfl) ?_
          intro a ht
          refine wpl rfl rfl ht (ev_assign ht rfl rfl) ?_
          intro a ht
          refine wpl rfl rfl ht (ev_assign ht rfl rfl) ?_
          intro a ht
          refine wpList_nil ?_
          refine then_normal ?_
          refine wp_seq ?_
          refine wp_seq ?_
          refine wpr ?_
          refine wpl rfl rfl ht (ev_move ht rfl rfl) ?_
          intro a ht
          refine wpl rfl rfl ht (ev_move ht rfl rfl) ?_
          intro a ht
          obtain ⟨t27, et27, H⟩ := bind_get H
          have hcall := laws_eqInt64SS.calls k _ _ A23 c24 m25 vs26 A4 c5 m6 vs7 t22.1 t3.1 _ ((fun (hq : Ms _ _ _ ([] ++ [.vecs A23 c24 25 2 m25 vs26 t22.1, .vecs A10 c11 25 2 m12 vs13 t17.2, .vec A4 c5 25 1 m6 vs7, .blk b1 24 (Col.cells aX)]) _ _) => hq.lend (φp := [RowsAt A23 c24 m25 vs26 t22.1, RowsAt A4 c5 m6 vs7 t3.1]) (allRO_cons (hq.lendVecs 0 rfl) (allRO_cons (hq.lendRows 2 0 rfl rfl) (allRO_nil)))) (hm.pick (own' := [] ++ [.vecs A23 c24 25 2 m25 vs26 t22.1, .vecs A10 c11 25 2 m12 vs13 t17.2, .vec A4 c5 25 1 m6 vs7, .blk b1 24 (Col.cells aX)]) [0, 1, 2, 3] rfl (by decide))) et27
          refine wpl_call _ rfl rfl ht rfl rfl rfl rfl can_40 hcall ?_
          clear hcall
          rintro _ w ⟨rfl, hpost⟩ a ht
          replace hm := (hm.pick (own' := [] ++ [.vecs A23 c24 25 2 m25 vs26 t22.1, .vecs A10 c11 25 2 m12 vs13 t17.2, .vec A4 c5 25 1 m6 vs7, .blk b1 24 (Col.cells aX)]) [0, 1, 2, 3] rfl (by decide)).backL hpost
          clear hpost
          refine wpl rfl rfl ht (ev_not ht rfl rfl) ?_
          intro a ht
          refine wpl rfl rfl ht (ev_move ht rfl rfl) ?_
          intro a ht
          by_cases h28 : t27 = true
          · replace H := ite_yes h28 H
            refine wpl_yes rfl ht rfl ((not_t h28)) ?_
            refine wpl rfl rfl ht (ev_move ht rfl rfl) ?_
            intro a ht
            refine wpl_yes rfl ht rfl ((not_t h28)) ?_
            refine wpl rfl rfl ht (ev_move ht rfl rfl) ?_
            intro a ht
            refine wpl_yes rfl ht rfl ((not_t h28)) ?_
            refine wpl rfl rfl ht (ev_cmp ht rfl rfl rfl rfl) ?_
            intro a ht
            refine wpl rfl rfl ht (ev_pick_no ht rfl rfl (not_t h28) rfl) ?_
            intro a ht
            refine wpList_nil ?_
            refine then_normal ?_
            by_cases h29 : t22.2 ≠ t3.2
            · replace H := ite_yes h29 H
              refine wpc_yes ht rfl (decide_eq_true h29) ?_
              refine wp_seq ?_
              refine wpr ?_
              refine wpl rfl rfl ht (ev_assign ht rfl rfl) ?_
              intro a ht
              refine wpList_nil ?_
              refine then_normal ?_
              refine wp_ret ?_
              refine then_ret ?_
              have hres := ht.res (P := Try.prog) (w := w) (rs := [.tmp 4]) (vs := [.bool false]) (.tmp rfl .nil)
              obtain rfl := Option.some.inj H
              exact leave ht rfl hres ⟨rfl, ((hm.pick [] rfl (by decide)).pickφ [] rfl).post fun _ h => h⟩
            · replace H := ite_no h29 H
              refine wpc_no ht rfl (decide_eq_false h29) ?_
              refine wp_skip ?_
              refine then_normal ?_
              refine wp_seq ?_
              refine wpr ?_
              refine wpl rfl rfl ht (ev_assign ht rfl rfl) ?_
              intro a ht
              refine wpList_nil ?_
              refine then_normal ?_
              refine wp_seq ?_
              refine wpr ?_
              refine wpl rfl rfl ht (ev_move ht rfl rfl) ?_
              intro a ht
              refine wpl rfl rfl ht (ev_move ht rfl rfl) ?_
              intro a ht
              obtain ⟨t30, et30, H⟩ := bind_get H
              have hcall := laws_heldInt64SS.calls k _ _ A10 c11 m12 vs13 t17.2 1 _ ((fun (hq : Ms _ _ _ ([] ++ [.vecs A23 c24 25 2 m25 vs26 t22.1, .vecs A10 c11 25 2 m12 vs13 t17.2, .vec A4 c5 25 1 m6 vs7, .blk b1 24 (Col.cells aX)]) _ _) => hq.lend (φp := [RowsAt A10 c11 m12 vs13 t17.2]) (allRO_cons (hq.lendVecs 1 rfl) (allRO_nil))) (hm.pick (own' := [] ++ [.vecs A23 c24 25 2 m25 vs26 t22.1, .vecs A10 c11 25 2 m12 vs13 t17.2, .vec A4 c5 25 1 m6 vs7, .blk b1 24 (Col.cells aX)]) [0, 1, 2, 3] rfl (by decide))) et30
              refine wpl_call _ rfl rfl ht rfl rfl rfl rfl can_42 hcall ?_
              clear hcall
              rintro _ w ⟨rfl, hpost⟩ a ht
              replace hm := (hm.pick (own' := [] ++ [.vecs A23 c24 25 2 m25 vs26 t22.1, .vecs A10 c11 25 2 m12 vs13 t17.2, .vec A4 c5 25 1 m6 vs7, .blk b1 24 (Col.cells aX)]) [0, 1, 2, 3] rfl (by decide)).backL hpost
              clear hpost
              refine wpl rfl rfl ht (ev_assign ht rfl rfl) ?_
              intro a ht
              refine wpList_nil ?_
              refine then_normal ?_
              refine wp_seq ?_
              refine wp_seq ?_
              refine wpr ?_
              refine wpl rfl rfl ht (ev_move ht rfl rfl) ?_
              intro a ht
              refine wpl rfl rfl ht (ev_cmp ht rfl rfl rfl rfl) ?_
              intro a ht
              refine wpList_nil ?_
              refine then_normal ?_
              by_cases h31 : t30 < 0
              · replace H := ite_yes h31 H
                refine wpc_yes ht rfl (decide_eq_true h31) ?_
                refine wp_seq ?_
                refine wpr ?_
                refine wpl rfl rfl ht (ev_assign ht rfl rfl) ?_
                intro a ht
                refine wpList_nil ?_
                refine then_normal ?_
                refine wp_ret ?_
                refine then_ret ?_
                have hres := ht.res (P := Try.prog) (w := w) (rs := [.tmp 4]) (vs := [.bool false]) (.tmp rfl .nil)
                obtain rfl := Option.some.inj H
                exact leave ht rfl hres ⟨rfl, ((hm.pick [] rfl (by decide)).pickφ [] rfl).post fun _ h => h⟩
              · replace H := ite_no h31 H
                refine wpc_no ht rfl (decide_eq_false h31) ?_
                refine wp_skip ?_
                refine then_normal ?_
                refine wp_seq ?_
                refine wp_seq ?_
                refine wpr ?_
                refine wpl rfl rfl ht (ev_move ht rfl rfl) ?_
                intro a ht
                refine wpl rfl rfl ht (ev_move ht rfl rfl) ?_
                intro a ht
                refine wpl rfl rfl ht (ev_cmp ht rfl rfl rfl rfl) ?_
                intro a ht
                refine wpList_nil ?_
                refine then_normal ?_
                by_cases h32 : t30 ≠ t17.1
                · replace H := ite_yes h32 H
                  refine wpc_yes ht rfl (decide_eq_true h32) ?_
                  refine wp_seq ?_
                  refine wpr ?_
                  refine wpl rfl rfl ht (ev_assign ht rfl rfl) ?_
                  intro a ht
                  refine wpList_nil ?_
                  refine then_normal ?_
                  refine wp_ret ?_
                  refine then_ret ?_
                  have hres := ht.res (P := Try.prog) (w := w) (rs := [.tmp 4]) (vs := [.bool false]) (.tmp rfl .nil)
                  obtain rfl := Option.some.inj H
                  exact leave ht rfl hres ⟨rfl, ((hm.pick [] rfl (by decide)).pickφ [] rfl).post fun _ h => h⟩
                · replace H := ite_no h32 H
                  refine wpc_no ht rfl (decide_eq_false h32) ?_
                  refine wp_skip ?_
                  refine then_normal ?_
                  refine wp_seq ?_
                  refine wpr ?_
                  refine wpl rfl rfl ht (ev_assign ht rfl rfl) ?_
                  intro a ht
                  refine wpList_nil ?_
                  refine then_normal ?_
                  refine wp_ret ?_
                  have hres := ht.res (P := Try.prog) (w := w) (rs := [.tmp 4]) (vs := [.bool true]) (.tmp rfl .nil)
                  obtain rfl := Option.some.inj H
                  exact leave ht rfl hres ⟨rfl, ((hm.pick [] rfl (by decide)).pickφ [] rfl).post fun _ h => h⟩
          · replace H := ite_no h28 H
            refine wpl_no rfl rfl ht rfl (by rw [(not_f (Bool.eq_false_iff.mpr h28))]; decide) ?_
            intro a ht
            refine wpl_no rfl rfl ht rfl (by rw [(not_f (Bool.eq_false_iff.mpr h28))]; decide) ?_
            intro a ht
            refine wpl_no rfl rfl ht rfl (by rw [(not_f (Bool.eq_false_iff.mpr h28))]; decide) ?_
            intro a ht
            refine wpl rfl rfl ht (ev_pick_yes ht rfl rfl (not_f (Bool.eq_false_iff.mpr h28)) rfl) ?_
            intro a ht
            refine wpList_nil ?_
            refine then_normal ?_
            refine wpc_yes ht rfl rfl ?_
            refine wp_seq ?_
            refine wpr ?_
            refine wpl rfl rfl ht (ev_assign ht rfl rfl) ?_
            intro a ht
            refine wpList_nil ?_
            refine then_normal ?_
            refine wp_ret ?_
            refine then_ret ?_
            have hres := ht.res (P := Try.prog) (w := w) (rs := [.tmp 4]) (vs := [.bool false]) (.tmp rfl .nil)
            obtain rfl := Option.some.inj H
            exact leave ht rfl hres ⟨rfl, ((hm.pick [] rfl (by decide)).pickφ [] rfl).post fun _ h => h⟩
  · replace H := ite_no h15 H
    refine wpl_no rfl rfl ht rfl (by rw [(not_f (Bool.eq_false_iff.mpr h15))]; decide) ?_
    intro a ht
    refine wpl_no rfl rfl ht rfl (by rw [(not_f (Bool.eq_false_iff.mpr h15))]; decide) ?_
    intro a ht
    refine wpl_no rfl rfl ht rfl (by rw [(not_f (Bool.eq_false_iff.mpr h15))]; decide) ?_
    intro a ht
    refine wpl rfl rfl ht (ev_pick_yes ht rfl rfl (not_f (Bool.eq_false_iff.mpr h15)) rfl) ?_
    intro a ht
    refine wpList_nil ?_
    refine then_normal ?_
    refine wpc_yes ht rfl rfl ?_
    refine wp_seq ?_
    refine wpr ?_
    refine wpl rfl rfl ht (ev_assign ht rfl rfl) ?_
    intro a ht
    refine wpList_nil ?_
    refine then_normal ?_
    refine wp_ret ?_
    refine then_ret ?_
    have hres := ht.res (P := Try.prog) (w := w) (rs := [.tmp 4]) (vs := [.bool false]) (.tmp rfl .nil)
    obtain rfl := Option.some.inj H
    exact leave ht rfl hres ⟨rfl, ((hm.pick [] rfl (by decide)).pickφ [] rfl).post fun _ h => h⟩

end Go.Proofs.Ytdpamdedomkomaa.G
