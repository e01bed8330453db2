/- What each Go function computes, as a Lean function, and the proof that it does: written by a program of this session (wip/gen), part 10. -/
import Derived.Test.YtfbdcidedjocdaaGFnExactPlayOut9
namespace Go.Proofs.Ytfbdcidedjocdaa.G
open Go Go.RowKit Go.Proofs.Ytfbdcidedjocdaa.K
set_option linter.unusedVariables false
set_option linter.unusedSimpArgs false

/-! ### laws_FnExactPlayOut: function 4 (loop.example/g01362/laws.FnExactPlayOut) -/
def laws_FnExactPlayOut.f (k : Nat) (aN : Int) (aList : List Int) : Option (Bool) := if (aList.length : Int) > 1048576 then (some true) else ((laws_toInt64S.f k aList).bind fun t2 => (spec_PlayOut.f k aN t2).bind fun t6 => (laws_toInt64S.f k aList).bind fun t10 => (impl_PlayOut.f k aN t10).bind fun t14 => (laws_eqInt64S.f k t14.1 t6.1).bind fun t18 => if t18 = true then (if t14.2 ≠ t6.2 then (some false) else ((laws_toInt64S.f k aList).bind fun t21 => (laws_eqInt64S.f k t10 t21).bind fun t25 => if t25 = true then ((laws_markInt64S.f k t10 1).bind fun t27 => if t27.1 < 0 then (some false) else ((laws_eqInt64S.f k t14.1 t6.1).bind fun t29 => if t29 = true then ((laws_markInt64S.f k t14.1 1).bind fun t31 => (laws_heldInt64S.f k t31.2 1).bind fun t32 => if t32 < 0 then (some false) else (if t32 ≠ t31.1 then (some false) else ((laws_toInt64S.f k aList).bind fun t35 => (impl_PlayOut.f k aN t35).bind fun t39 => (laws_eqInt64S.f k t39.1 t6.1).bind fun t43 => if t43 = true then (if t39.2 ≠ t6.2 then (some false) else ((laws_heldInt64S.f k t31.2 1).bind fun t46 => if t46 < 0 then (some false) else (if t46 ≠ t31.1 then (some false) else (some true)))) else (some false)))) else (some false))) else (some false))) else (some false))
set_option maxRecDepth 100000 in
set_option maxHeartbeats 1000000 in
theorem laws_FnExactPlayOut.calls (k : Nat) (X : List Nat) (w0 : World) (A : Option Addr) (c : Nat) (m : Nat) (aN : Int) (aList : List Int) (r : Bool)
    (hp : Pre X w0 [] [IntsAt A c m aList]) (H : laws_FnExactPlayOut.f k aN aList = some r) :
    Calls Try.prog 4 [.int .i64 aN, .slice A m c].toArray w0 (Ret fun v w => v = .bool r ∧ Post X (fps []) w0 [] [] w) := by
  unfold laws_FnExactPlayOut.f at H
  refine enterM (n := 98) hp Try.func4 rfl rfl (Nat.le_of_ble_eq_true rfl) fun a w ht hm => ?_
  refine wp_seq ?_
  refine wpr ?_
  refine wpl rfl rfl ht (ev_assign ht rfl rfl) ?_
  intro a ht
  refine wpList_nil ?_
  refine then_normal ?_
  refine wp_seq ?_
  refine wp_seq ?_
  refine wpr ?_
  refine wpl rfl rfl ht (ev_move ht rfl rfl) ?_
  intro a ht
  refine wpl rfl rfl ht (ev_len_of ht rfl rfl und_22 (hm.fact (φ := IntsAt A c m aList) 0 rfl)) ?_
  intro a ht
  refine wpl rfl rfl ht (ev_cmp ht rfl rfl rfl rfl) ?_
  intro a ht
  refine wpList_nil ?_
  refine then_normal ?_
  by_cases h1 : (aList.length : Int) > 1048576
  · replace H := ite_yes h1 H
    refine wpc_yes ht rfl (decide_eq_true h1) ?_
    refine wp_seq ?_
    refine wpr ?_
    refine wpl rfl rfl ht (ev_assign ht rfl rfl) ?_
    intro a ht
    refine wpList_nil ?_
    refine then_normal ?_
    refine wp_ret ?_
    refine then_ret ?_
    have hres := ht.res (P := Try.prog) (w := w) (rs := [.tmp 4]) (vs := [.bool true]) (.tmp rfl .nil)
    obtain rfl := Option.some.inj H
    exact leave ht rfl hres ⟨rfl, ((hm.pick [] rfl (by decide)).pickφ [] rfl).post fun _ h => h⟩
  · replace H := ite_no h1 H
    refine wpc_no ht rfl (decide_eq_false h1) ?_
    refine wp_skip ?_
    refine then_normal ?_
    refine wp_seq ?_
    refine wpr ?_
    refine wpl rfl rfl ht (ev_move ht rfl rfl) ?_
    intro a ht
    refine wpl rfl rfl ht (ev_move ht rfl rfl) ?_
    intro a ht
    obtain ⟨t2, et2, H⟩ := bind_get H
    have hcall := laws_toInt64S.calls k _ _ A c m aList _ ((fun (hq : Ms _ _ _ ([] ++ []) _ _) => hq.lend (φp := [IntsAt A c m aList]) (allRO_cons (hq.lendFact 0 rfl) (allRO_nil))) (hm.pick (own' := [] ++ []) [] rfl (by decide))) et2
    refine wpl_call _ rfl rfl ht rfl rfl rfl rfl can_14 hcall ?_
    clear hcall
    rintro _ w ⟨A3, c4, m5, rfl, hpost⟩ a ht
    replace hm := (hm.pick (own' := [] ++ []) [] rfl (by decide)).backL hpost
    clear hpost
    obtain ⟨t6, et6, H⟩ := bind_get H
    have hcall := spec_PlayOut.calls k _ _ A3 c4 m5 aN t2 _ ((fun (hq : Ms _ _ _ ([] ++ [.vec A3 c4 2 1 m5 (ints t2)]) _ _) => hq.lend (φp := [IntsAt A3 c4 m5 t2]) (allRO_cons (hq.lendVec 0 rfl) (allRO_nil))) (hm.pick (own' := [] ++ [.vec A3 c4 2 1 m5 (ints t2)]) [0] rfl (by decide))) et6
    refine wpl_call _ rfl rfl ht rfl rfl rfl rfl can_17 hcall ?_
    clear hcall
    rintro _ w ⟨A7, c8, m9, rfl, hpost⟩ a ht
    replace hm := (hm.pick (own' := [] ++ [.vec A3 c4 2 1 m5 (ints t2)]) [0] rfl (by decide)).backL hpost
    clear hpost
    refine wpl rfl rfl ht (ev_move ht rfl rfl) ?_
    intro a ht
    refine wpl rfl rfl ht (ev_extract ht rfl rfl rfl) ?_
    intro a ht
    refine wpl rfl rfl ht (ev_extract ht rfl rfl rfl) ?_
    intro a ht
    refine wpl rfl rfl ht (ev_assign ht rfl rfl) ?_
    intro a ht
    refine wpl rfl rfl ht (ev_assign ht rfl rfl) ?_
    intro a ht
    refine wpList_nil ?_
    refine then_normal ?_
    refine wp_seq ?_
    refine wpr ?_
    refine wpl rfl rfl ht (ev_move ht rfl rfl) ?_
    intro a ht
    obtain ⟨t10, et10, H⟩ := bind_get H
    have hcall := laws_toInt64S.calls k _ _ A c m aList _ ((fun (hq : Ms _ _ _ ([] ++ [.vec A7 c8 2 1 m9 (ints t6.1), .vec A3 c4 2 1 m5 (ints t2)]) _ _) => hq.lend (φp := [IntsAt A c m aList]) (allRO_cons (hq.lendFact 0 rfl) (allRO_nil))) (hm.pick (own' := [] ++ [.vec A7 c8 2 1 m9 (ints t6.1), .vec A3 c4 2 1 m5 (ints t2)]) [0, 1] rfl (by decide))) et10
    refine wpl_call _ rfl rfl ht rfl rfl rfl rfl can_14 hcall ?_
    clear hcall
    rintro _ w ⟨A11, c12, m13, rfl, hpost⟩ a ht
    replace hm := (hm.pick (own' := [] ++ [.vec A7 c8 2 1 m9 (ints t6.1), .vec A3 c4 2 1 m5 (ints t2)]) [0, 1] rfl (by decide)).backL hpost
    clear hpost
    refine wpl rfl rfl ht (ev_assign ht rfl rfl) ?_
    intro a ht
    refine wpList_nil ?_
    refine then_normal ?_
    refine wp_seq ?_
    refine wpr ?_
    refine wpl rfl rfl ht (ev_move ht rfl rfl) ?_
    intro a ht
    refine wpl rfl rfl ht (ev_move ht rfl rfl) ?_
    intro a ht
    obtain ⟨t14, et14, H⟩ := bind_get H
    have hcall := impl_PlayOut.calls k _ _ A11 c12 m13 aN t10 _ ((fun (hq : Ms _ _ _ ([] ++ [.vec A11 c12 2 1 m13 (ints t10), .vec A7 c8 2 1 m9 (ints t6.1), .vec A3 c4 2 1 m5 (ints t2)]) _ _) => hq.lend (φp := [IntsAt A11 c12 m13 t10]) (allRO_cons (hq.lendVec 0 rfl) (allRO_nil))) (hm.pick (own' := [] ++ [.vec A11 c12 2 1 m13 (ints t10), .vec A7 c8 2 1 m9 (ints t6.1), .vec A3 c4 2 1 m5 (ints t2)]) [0, 1, 2] rfl (by decide))) et14
    refine wpl_call _ rfl rfl ht rfl rfl rfl rfl can_18 hcall ?_
    clear hcall
    rintro _ w ⟨A15, c16, m17, rfl, hpost⟩ a ht
    replace hm := (hm.pick (own' := [] ++ [.vec A11 c12 2 1 m13 (ints t10), .vec A7 c8 2 1 m9 (ints t6.1), .vec A3 c4 2 1 m5 (ints t2)]) [0, 1, 2] rfl (by decide)).backL hpost
    clear hpost
    refine wpl rfl rfl ht (ev_move ht rfl rfl) ?_
    intro a ht
    refine wpl rfl rfl ht (ev_extract ht rfl rfl rfl) ?_
    intro a ht
    refine wpl rfl rfl ht (ev_extract ht rfl rfl rfl) ?_
    intro a ht
    refine wpl rfl rfl ht (ev_assign ht rfl rfl) ?_
    intro a ht
    refine wpl rfl rfl ht (ev_assign ht rfl rfl) ?_
    intro a ht
    refine wpList_nil ?_
    refine then_normal ?_
    refine wp_seq ?_
    refine wp_seq ?_
    refine wpr ?_
    refine wpl rfl rfl ht (ev_move ht rfl rfl) ?_
    intro a ht
    refine wpl rfl rfl ht (ev_move ht rfl rfl) ?_
    intro a ht
    obtain ⟨t18, et18, H⟩ := bind_get H
    have hcall := laws_eqInt64S.calls k _ _ A15 c16 m17 A7 c8 m9 t14.1 t6.1 _ ((fun (hq : Ms _ _ _ ([] ++ [.vec A15 c16 2 1 m17 (ints t14.1), .vec A11 c12 2 1 m13 (ints t10), .vec A7 c8 2 1 m9 (ints t6.1), .vec A3 c4 2 1 m5 (ints t2)]) _ _) => hq.lend (φp := [IntsAt A15 c16 m17 t14.1, IntsAt A7 c8 m9 t6.1]) (allRO_cons (hq.lendVec 0 rfl) (allRO_cons (hq.lendVec 2 rfl) (allRO_nil)))) (hm.pick (own' := [] ++ [.vec A15 c16 2 1 m17 (ints t14.1), .vec A11 c12 2 1 m13 (ints t10), .vec A7 c8 2 1 m9 (ints t6.1), .vec A3 c4 2 1 m5 (ints t2)]) [0, 1, 2, 3] rfl (by decide))) et18
    refine wpl_call _ rfl rfl ht rfl rfl rfl rfl can_16 hcall ?_
    clear hcall
    rintro _ w ⟨rfl, hpost⟩ a ht
    replace hm := (hm.pick (own' := [] ++ [.vec A15 c16 2 1 m17 (ints t14.1), .vec A11 c12 2 1 m13 (ints t10), .vec A7 c8 2 1 m9 (ints t6.1), .vec A3 c4 2 1 m5 (ints t2)]) [0, 1, 2, 3] rfl (by decide)).backL hpost
    clear hpost
    refine wpl rfl rfl ht (ev_not ht rfl rfl) ?_
    intro a ht
    refine wpl rfl rfl ht (ev_move ht rfl rfl) ?_
    intro a ht
    by_cases h19 : t18 = true
    · replace H := ite_yes h19 H
      refine wpl_yes rfl ht rfl ((not_t h19)) ?_
      refine wpl rfl rfl ht (ev_move ht rfl rfl) ?_
      intro a ht
      refine wpl_yes rfl ht rfl ((not_t h19)) ?_
      refine wpl rfl rfl ht (ev_move ht rfl rfl) ?_
      intro a ht
      refine wpl_yes rfl ht rfl ((not_t h19)) ?_
      refine wpl rfl rfl ht (ev_cmp ht rfl rfl rfl rfl) ?_
      intro a ht
      refine wpl rfl rfl ht (ev_pick_no ht rfl rfl (not_t h19) rfl) ?_
      intro a ht
      refine wpList_nil ?_
      refine then_normal ?_
      by_cases h20 : t14.2 ≠ t6.2
      · replace H := ite_yes h20 H
        refine wpc_yes ht rfl (decide_eq_true h20) ?_
        refine wp_seq ?_
        refine wpr ?_
        refine wpl rfl rfl ht (ev_assign ht rfl rfl) ?_
        intro a ht
        refine wpList_nil ?_
        refine then_normal ?_
        refine wp_ret ?_
        refine then_ret ?_
        have hres := ht.res (P := Try.prog) (w := w) (rs := [.tmp 4]) (vs := [.bool false]) (.tmp rfl .nil)
        obtain rfl := Option.some.inj H
        exact leave ht rfl hres ⟨rfl, ((hm.pick [] rfl (by decide)).pickφ [] rfl).post fun _ h => h⟩
      · replace H := ite_no h20 H
        refine wpc_no ht rfl (decide_eq_false h20) ?_
        refine wp_skip ?_
        refine then_normal ?_
        refine wp_seq ?_
        refine wp_seq ?_
        refine wpr ?_
        refine wpl rfl rfl ht (ev_move ht rfl rfl) ?_
        intro a ht
        refine wpl rfl rfl ht (ev_move ht rfl rfl) ?_
        intro a ht
        obtain ⟨t21, et21, H⟩ := bind_get H
        have hcall := laws_toInt64S.calls k _ _ A c m aList _ ((fun (hq : Ms _ _ _ ([] ++ [.vec A15 c16 2 1 m17 (ints t14.1), .vec A11 c12 2 1 m13 (ints t10), .vec A7 c8 2 1 m9 (ints t6.1), .vec A3 c4 2 1 m5 (ints t2)]) _ _) => hq.lend (φp := [IntsAt A c m aList]) (allRO_cons (hq.lendFact 0 rfl) (allRO_nil))) (hm.pick (own' := [] ++ [.vec A15 c16 2 1 m17 (ints t14.1), .vec A11 c12 2 1 m13 (ints t10), .vec A7 c8 2 1 m9 (ints t6.1), .vec A3 c4 2 1 m5 (ints t2)]) [0, 1, 2, 3] rfl (by decide))) et21
        refine wpl_call _ rfl rfl ht rfl rfl rfl rfl can_14 hcall ?_
        clear hcall
        rintro _ w ⟨A22, c23, m24, rfl, hpost⟩ a ht
        replace hm := (hm.pick (own' := [] ++ [.vec A15 c16 2 1 m17 (ints t14.1), .vec A11 c12 2 1 m13 (ints t10), .vec A7 c8 2 1 m9 (ints t6.1), .vec A3 c4 2 1 m5 (ints t2)]) [0, 1, 2, 3] rfl (by decide)).backL hpost
        clear hpost
        obtain ⟨t25, et25, H⟩ := bind_get H
        have hcall := laws_eqInt64S.calls k _ _ A11 c12 m13 A22 c23 m24 t10 t21 _ ((fun (hq : Ms _ _ _ ([] ++ [.vec A22 c23 2 1 m24 (ints t21), .vec A15 c16 2 1 m17 (ints t14.1), .vec A11 c12 2 1 m13 (ints t10), .vec A7 c8 2 1 m9 (ints t6.1), .vec A3 c4 2 1 m5 (ints t2)]) _ _) => hq.lend (φp := [IntsAt A11 c12 m13 t10, IntsAt A22 c23 m24 t21]) (allRO_cons (hq.lendVec 2 rfl) (allRO_cons (hq.lendVec 0 rfl) (allRO_nil)))) (hm.pick (own' := [] ++ [.vec A22 c23 2 1 m24 (ints t21), .vec A15 c16 2 1 m17 (ints t14.1), .vec A11 c12 2 1 m13 (ints t10), .vec A7 c8 2 1 m9 (ints t6.1), .vec A3 c4 2 1 m5 (ints t2)]) [0, 1, 2, 3, 4] rfl (by decide))) et25
        refine wpl_call _ rfl rfl ht rfl rfl rfl rfl can_16 hcall ?_
        clear hcall
        rintro _ w ⟨rfl, hpost⟩ a ht
        replace hm := (hm.pick (own' := [] ++ [.vec A22 c23 2 1 m24 (ints t21), .vec A15 c16 2 1 m17 (ints t14.1), .vec A11 c12 2 1 m13 (ints t10), .vec A7 c8 2 1 m9 (ints t6.1), .vec A3 c4 2 1 m5 (ints t2)]) [0, 1, 2, 3, 4] rfl (by decide)).backL hpost
        clear hpost
        refine wpl rfl rfl ht (ev_not ht rfl rfl) ?_
        intro a ht
        refine wpList_nil ?_
        refine then_normal ?_
        by_cases h26 : t25 = true
        · replace H := ite_yes h26 H
          refine wpc_no ht rfl (not_t h26) ?_
          refine wp_skip ?_
          refine then_normal ?_
          refine wp_seq ?_
          refine wpr ?_
          refine wpl rfl rfl ht (ev_assign ht rfl rfl) ?_
          intro a ht
          refine wpList_nil ?_
          refine then_normal ?_
          refine wp_seq ?_
          refine wpr ?_
          refine wpl rfl rfl ht (ev_move ht rfl rfl) ?_
          intro a ht
          refine wpl rfl rfl ht (ev_move ht rfl rfl) ?_
          intro a ht
          obtain ⟨t27, et27, H⟩ := bind_get H
          have hcall := laws_markInt64S.calls k _ _ A11 c12 m13 t10 1 _ ((fun (hq : Ms _ _ _ ([.vec A11 c12 2 1 m13 (ints t10)] ++ [.vec A22 c23 2 1 m24 (ints t21), .vec A15 c16 2 1 m17 (ints t14.1), .vec A7 c8 2 1 m9 (ints t6.1), .vec A3 c4 2 1 m5 (ints t2)]) _ _) => hq.lend (φp := []) (allRO_nil)) (hm.pick (own' := [.vec A11 c12 2 1 m13 (ints t10)] ++ [.vec A22 c23 2 1 m24 (ints t21), .vec A15 c16 2 1 m17 (ints t14.1), .vec A7 c8 2 1 m9 (ints t6.1), .vec A3 c4 2 1 m5 (ints t2)]) [2, 0, 1, 3, 4] rfl (by decide))) et27
          refine wpl_call _ rfl rfl ht rfl rfl rfl rfl can_19 hcall ?_
          clear hcall
          rintro _ w ⟨rfl, hpost⟩ a ht
          replace hm := (hm.pick (own' := [.vec A11 c12 2 1 m13 (ints t10)] ++ [.vec A22 c23 2 1 m24 (ints t21), .vec A15 c16 2 1 m17 (ints t14.1), .vec A7 c8 2 1 m9 (ints t6.1), .vec A3 c4 2 1 m5 (ints t2)]) [2, 0, 1, 3, 4] rfl (by decide)).backL hpost
          clear hpost
          refine wpl rfl rfl ht (ev_assign ht rfl rfl) ?_
          intro a ht
          refine wpList_nil ?_
          refine then_normal ?_
          refine wp_seq ?_
          refine wp_seq ?_
          refine wpr ?_
          refine wpl rfl rfl ht (ev_move ht rfl rfl) ?_
          intro a ht
          refine wpl rfl rfl ht (ev_cmp ht rfl rfl rfl rfl) ?_
          intro a ht
          refine wpl rfl rfl ht (ev_move ht rfl rfl) ?_
          intro a ht
          by_cases h28 : t27.1 < 0
          · replace H := ite_yes h28 H
            refine wpl_no rfl rfl ht rfl (by rw [(decide_eq_true h28)]; decide) ?_
            intro a ht
            refine wpl_no rfl rfl ht rfl (by rw [(decide_eq_true h28)]; decide) ?_
            intro a ht
            refine wpl_no rfl rfl ht rfl (by rw [(decide_eq_true h28)]; decide) ?_
            intro a ht
            refine wpl_no rfl rfl ht rfl (by rw [(decide_eq_true h28)]; decide) ?_
            intro a ht
            refine wpl rfl rfl ht (ev_pick_yes ht rfl rfl (decide_eq_true h28) rfl) ?_
            intro a ht
            refine wpl rfl rfl ht (ev_move ht rfl rfl) ?_
            intro a ht
            refine wpl_no rfl rfl ht rfl (by decide) ?_
            intro a ht
            refine wpl_no rfl rfl ht rfl (by decide) ?_
            intro a ht
            refine wpl_no rfl rfl ht rfl (by decide) ?_
            intro a ht
            refine wpl rfl rfl ht (ev_pick_yes ht rfl rfl rfl rfl) ?_
            intro a ht
            refine wpList_nil ?_
            refine then_normal ?_
            refine wpc_yes ht rfl rfl ?_
            refine wp_seq ?_
            refine wpr ?_
            refine wpl rfl rfl ht (ev_assign ht rfl rfl) ?_
            intro a ht
            refine wpList_nil ?_
            refine then_normal ?_
            refine wp_ret ?_
            refine then_ret ?_
            have hres := ht.res (P := Try.prog) (w := w) (rs := [.tmp 4]) (vs := [.bool false]) (.tmp rfl .nil)
            obtain rfl := Option.some.inj H
            exact leave ht rfl hres ⟨rfl, ((hm.pick [] rfl (by decide)).pickφ [] rfl).post fun _ h => h⟩
          · replace H := ite_no h28 H
            refine wpl_yes rfl ht rfl ((decide_eq_false h28)) ?_
            refine wpl rfl rfl ht (ev_move ht rfl rfl) ?_
            intro a ht
            refine wpl_yes rfl ht rfl ((decide_eq_false h28)) ?_
            refine wpl rfl rfl ht (ev_move ht rfl rfl) ?_
            intro a ht
            refine wpl_yes rfl ht rfl ((decide_eq_false h28)) ?_
            obtain ⟨t29, et29, H⟩ := bind_get H
            have hcall := laws_eqInt64S.calls k _ _ A15 c16 m17 A7 c8 m9 t14.1 t6.1 _ ((fun (hq : Ms _ _ _ ([] ++ [.vec A11 c12 2 1 m13 (ints t27.2), .vec A22 c23 2 1 m24 (ints t21), .vec A15 c16 2 1 m17 (ints t14.1), .vec A7 c8 2 1 m9 (ints t6.1), .vec A3 c4 2 1 m5 (ints t2)]) _ _) => hq.lend (φp := [IntsAt A15 c16 m17 t14.1, IntsAt A7 c8 m9 t6.1]) (allRO_cons (hq.lendVec 2 rfl) (allRO_cons (hq.lendVec 3 rfl) (allRO_nil)))) (hm.pick (own' := [] ++ [.vec A11 c12 2 1 m13 (ints t27.2), .vec A22 c23 2 1 m24 (ints t21), .vec A15 c16 2 1 m17 (ints t14.1), .vec A7 c8 2 1 m9 (ints t6.1), .vec A3 c4 2 1 m5 (ints t2)]) [0, 1, 2, 3, 4] rfl (by decide))) et29
            refine wpl_call _ rfl rfl ht rfl rfl rfl rfl can_16 hcall ?_
            clear hcall
            rintro _ w ⟨rfl, hpost⟩ a ht
            replace hm := (hm.pick (own' := [] ++ [.vec A11 c12 2 1 m13 (ints t27.2), .vec A22 c23 2 1 m24 (ints t21), .vec A15 c16 2 1 m17 (ints t14.1), .vec A7 c8 2 1 m9 (ints t6.1), .vec A3 c4 2 1 m5 (ints t2)]) [0, 1, 2, 3, 4] rfl (by decide)).backL hpost
            clear hpost
            refine wpl_yes rfl ht rfl ((decide_eq_false h28)) ?_
            refine wpl rfl rfl ht (ev_not ht rfl rfl) ?_
            intro a ht
            refine wpl rfl rfl ht (ev_pick_no ht rfl rfl (decide_eq_false h28) rfl) ?_
            intro a ht
            refine wpl rfl rfl ht (ev_move ht rfl rfl) ?_
            intro a ht
            by_cases h30 : t29 = true
            · replace H := ite_yes h30 H
              refine wpl_yes rfl ht rfl ((not_t h30)) ?_
              refine wpl rfl rfl ht (ev_move ht rfl rfl) ?_
              intro a ht
              refine wpl_yes rfl ht rfl ((not_t h30)) ?_
              refine wpl rfl rfl ht (ev_move ht rfl rfl) ?_
              intro a ht
              refine wpl_yes rfl ht rfl ((not_t h30)) ?_
              refine wpl rfl rfl ht (ev_cmp ht rfl rfl rfl rfl) ?_
              intro a ht
              refine wpl rfl rfl ht (ev_pick_no ht rfl rfl (not_t h30) rfl) ?_
              intro a ht
              refine wpList_nil ?_
              refine then_normal ?_
              refine wpc_no ht rfl (decide_eq_false h20) ?_
              refine wp_skip ?_
              refine then_normal ?_
              refine wp_seq ?_
              refine wpr ?_
              refine wpl rfl rfl ht (ev_assign ht rfl rfl) ?_
              intro a ht
              refine wpList_nil ?_
              refine then_normal ?_
              refine wp_seq ?_
              refine wpr ?_
              refine wpl rfl rfl ht (ev_move ht rfl rfl) ?_
              intro a ht
              refine wpl rfl rfl ht (ev_move ht rfl rfl) ?_
              intro a ht
              obtain ⟨t31, et31, H⟩ := bind_get H
              have hcall := laws_markInt64S.calls k _ _ A15 c16 m17 t14.1 1 _ ((fun (hq : Ms _ _ _ ([.vec A15 c16 2 1 m17 (ints t14.1)] ++ [.vec A11 c12 2 1 m13 (ints t27.2), .vec A22 c23 2 1 m24 (ints t21), .vec A7 c8 2 1 m9 (ints t6.1), .vec A3 c4 2 1 m5 (ints t2)]) _ _) => hq.lend (φp := []) (allRO_nil)) (hm.pick (own' := [.vec A15 c16 2 1 m17 (ints t14.1)] ++ [.vec A11 c12 2 1 m13 (ints t27.2), .vec A22 c23 2 1 m24 (ints t21), .vec A7 c8 2 1 m9 (ints t6.1), .vec A3 c4 2 1 m5 (ints t2)]) [2, 0, 1, 3, 4] rfl (by decide))) et31
              refine wpl_call _ rfl rfl ht rfl rfl rfl rfl can_19 hcall ?_
              clear hcall
              rintro _ w ⟨rfl, hpost⟩ a ht
              replace hm := (hm.pick (own' := [.vec A15 c16 2 1 m17 (ints t14.1)] ++ [.vec A11 c12 2 1 m13 (ints t27.2), .vec A22 c23 2 1 m24 (ints t21), .vec A7 c8 2 1 m9 (ints t6.1), .vec A3 c4 2 1 m5 (ints t2)]) [2, 0, 1, 3, 4] rfl (by decide)).backL hpost
              clear hpost
              refine wpl rfl rfl ht (ev_assign ht rfl rfl) ?_
              intro a ht
              refine wpList_nil ?_
              refine then_normal ?_
              refine wp_seq ?_
              refine wpr ?_
              refine wpl rfl rfl ht (ev_assign ht rfl rfl) ?_
              intro a ht
              refine wpList_nil ?_
              refine then_normal ?_
              refine wp_seq ?_
              refine wpr ?_
              refine wpl rfl rfl ht (ev_move ht rfl rfl) ?_
              intro a ht
              refine wpl rfl rfl ht (ev_move ht rfl rfl) ?_
              intro a ht
              obtain ⟨t32, et32, H⟩ := bind_get H
              have hcall := laws_heldInt64S.calls k _ _ A15 c16 m17 t31.2 1 _ ((fun (hq : Ms _ _ _ ([] ++ [.vec A15 c16 2 1 m17 (ints t31.2), .vec A11 c12 2 1 m13 (ints t27.2), .vec A22 c23 2 1 m24 (ints t21), .vec A7 c8 2 1 m9 (ints t6.1), .vec A3 c4 2 1 m5 (ints t2)]) _ _) => hq.lend (φp := [IntsAt A15 c16 m17 t31.2]) (allRO_cons (hq.lendVec 0 rfl) (allRO_nil))) (hm.pick (own' := [] ++ [.vec A15 c16 2 1 m17 (ints t31.2), .vec A11 c12 2 1 m13 (ints t27.2), .vec A22 c23 2 1 m24 (ints t21), .vec A7 c8 2 1 m9 (ints t6.1), .vec A3 c4 2 1 m5 (ints t2)]) [0, 1, 2, 3, 4] rfl (by decide))) et32
              refine wpl_call _ rfl rfl ht rfl rfl rfl rfl can_20 hcall ?_
              clear hcall
              rintro _ w ⟨rfl, hpost⟩ a ht
              replace hm := (hm.pick (own' := [] ++ [.vec A15 c16 2 1 m17 (ints t31.2), .vec A11 c12 2 1 m13 (ints t27.2), .vec A22 c23 2 1 m24 (ints t21), .vec A7 c8 2 1 m9 (ints t6.1), .vec A3 c4 2 1 m5 (ints t2)]) [0, 1, 2, 3, 4] rfl (by decide)).backL hpost
              clear hpost
              refine wpl rfl rfl ht (ev_assign ht rfl rfl) ?_
              intro a ht
              refine wpList_nil ?_
              refine then_normal ?_
              refine wp_seq ?_
              refine wp_seq ?_
              refine wpr ?_
              refine wpl rfl rfl ht (ev_move ht rfl rfl) ?_
              intro a ht
              refine wpl rfl rfl ht (ev_cmp ht rfl rfl rfl rfl) ?_
              intro a ht
              refine wpList_nil ?_
              refine then_normal ?_
              by_cases h33 : t32 < 0
              · replace H := ite_yes h33 H
                refine wpc_yes ht rfl (decide_eq_true h33) ?_
                refine wp_seq ?_
                refine wpr ?_
                refine wpl rfl rfl ht (ev_assign ht rfl rfl) ?_
                intro a ht
                refine wpList_nil ?_
                refine then_normal ?_
                refine wp_ret ?_
                refine then_ret ?_
                have hres := ht.res (P := Try.prog) (w := w) (rs := [.tmp 4]) (vs := [.bool false]) (.tmp rfl .nil)
                obtain rfl := Option.some.inj H
                exact leave ht rfl hres ⟨rfl, ((hm.pick [] rfl (by decide)).pickφ [] rfl).post fun _ h => h⟩
              · replace H := ite_no h33 H
                refine wpc_no ht rfl (decide_eq_false h33) ?_
                refine wp_skip ?_
                refine then_normal ?_
                refine wp_seq ?_
                refine wp_seq ?_
                refine wpr ?_
                refine wpl rfl rfl ht (ev_move ht rfl rfl) ?_
                intro a ht
                refine wpl rfl rfl ht (ev_move ht rfl rfl) ?_
                intro a ht
                refine wpl rfl rfl ht (ev_cmp ht rfl rfl rfl rfl) ?_
                intro a ht
                refine wpList_nil ?_
                refine then_normal ?_
                by_cases h34 : t32 ≠ t31.1
                · replace H := ite_yes h34 H
                  refine wpc_yes ht rfl (decide_eq_true h34) ?_
                  refine wp_seq ?_
                  refine wpr ?_
                  refine wpl rfl rfl ht (ev_assign ht rfl rfl) ?_
                  intro a ht
                  refine wpList_nil ?_
                  refine then_normal ?_
                  refine wp_ret ?_
                  refine then_ret ?_
                  have hres := ht.res (P := Try.prog) (w := w) (rs := [.tmp 4]) (vs := [.bool false]) (.tmp rfl .nil)
                  obtain rfl := Option.some.inj H
                  exact leave ht rfl hres ⟨rfl, ((hm.pick [] rfl (by decide)).pickφ [] rfl).post fun _ h => h⟩
                · replace H := ite_no h34 H
                  refine wpc_no ht rfl (decide_eq_false h34) ?_
                  refine wp_skip ?_
                  refine then_normal ?_
                  refine wp_seq ?_
                  refine wpr ?_
                  refine wpl rfl rfl ht (ev_move ht rfl rfl) ?_
                  intro a ht
                  refine wpl rfl rfl ht (ev_move ht rfl rfl) ?_
                  intro a ht
                  obtain ⟨t35, et35, H⟩ := bind_get H
                  have hcall := laws_toInt64S.calls k _ _ A c m aList _ ((fun (hq : Ms _ _ _ ([] ++ [.vec A15 c16 2 1 m17 (ints t31.2), .vec A11 c12 2 1 m13 (ints t27.2), .vec A22 c23 2 1 m24 (ints t21), .vec A7 c8 2 1 m9 (ints t6.1), .vec A3 c4 2 1 m5 (ints t2)]) _ _) => hq.lend (φp := [IntsAt A c m aList]) (allRO_cons (hq.lendFact 0 rfl) (allRO_nil))) (hm.pick (own' := [] ++ [.vec A15 c16 2 1 m17 (ints t31.2), .vec A11 c12 2 1 m13 (ints t27.2), .vec A22 c23 2 1 m24 (ints t21), .vec A7 c8 2 1 m9 (ints t6.1), .vec A3 c4 2 1 m5 (ints t2)]) [0, 1, 2, 3, 4] rfl (by decide))) et35
                  refine wpl_call _ rfl rfl ht rfl rfl rfl rfl can_14 hcall ?_
                  clear hcall
                  rintro _ w ⟨A36, c37, m38, rfl, hpost⟩ a ht
                  replace hm := (hm.pick (own' := [] ++ [.vec A15 c16 2 1 m17 (ints t31.2), .vec A11 c12 2 1 m13 (ints t27.2), .vec A22 c23 2 1 m24 (ints t21), .vec A7 c8 2 1 m9 (ints t6.1), .vec A3 c4 2 1 m5 (ints t2)]) [0, 1, 2, 3, 4] rfl (by decide)).backL hpost
                  clear hpost
                  obtain ⟨t39, et39, H⟩ := bind_get H
                  have hcall := impl_PlayOut.calls k _ _ A36 c37 m38 aN t35 _ ((fun (hq : Ms _ _ _ ([] ++ [.vec A36 c37 2 1 m38 (ints t35), .vec A15 c16 2 1 m17 (ints t31.2), .vec A11 c12 2 1 m13 (ints t27.2), .vec A22 c23 2 1 m24 (ints t21), .vec A7 c8 2 1 m9 (ints t6.1), .vec A3 c4 2 1 m5 (ints t2)]) _ _) => hq.lend (φp := [IntsAt A36 c37 m38 t35]) (allRO_cons (hq.lendVec 0 rfl) (allRO_nil))) (hm.pick (own' := [] ++ [.vec A36 c37 2 1 m38 (ints t35), .vec A15 c16 2 1 m17 (ints t31.2), .vec A11 c12 2 1 m13 (ints t27.2), .vec A22 c23 2 1 m24 (ints t21), .vec A7 c8 2 1 m9 (ints t6.1), .vec A3 c4 2 1 m5 (ints t2)]) [0, 1, 2, 3, 4, 5] rfl (by decide))) et39
                  refine wpl_call _ rfl rfl ht rfl rfl rfl rfl can_18 hcall ?_
                  clear hcall
                  rintro _ w ⟨A40, c41, m42, rfl, hpost⟩ a ht
                  replace hm := (hm.pick (own' := [] ++ [.vec A36 c37 2 1 m38 (ints t35), .vec A15 c16 2 1 m17 (ints t31.2), .vec A11 c12 2 1 m13 (ints t27.2), .vec A22 c23 2 1 m24 (ints t21), .vec A7 c8 2 1 m9 (ints t6.1), .vec A3 c4 2 1 m5 (ints t2)]) [0, 1, 2, 3, 4, 5] rfl (by decide)).backL hpost
                  clear hpost
                  refine wpl rfl rfl ht (ev_move ht rfl rfl) ?_
                  intro a ht
                  refine wpl rfl rfl ht (ev_extract ht rfl rfl rfl) ?_
                  intro a ht
                  refine wpl rfl rfl ht (ev_extract ht rfl rfl rfl) ?_
                  intro a ht
                  refine wpl rfl rfl ht (ev_assign ht rfl rfl) ?_
                  intro a ht
                  refine wpl rfl rfl ht (ev_assign ht rfl rfl) ?_
                  intro a ht
                  refine wpList_nil ?_
                  refine then_normal ?_
                  refine wp_seq ?_
                  refine wp_seq ?_
                  refine wpr ?_
                  refine wpl rfl rfl ht (ev_move ht rfl rfl) ?_
                  intro a ht
                  refine wpl rfl rfl ht (ev_move ht rfl rfl) ?_
                  intro a ht
                  obtain ⟨t43, et43, H⟩ := bind_get H
                  have hcall := laws_eqInt64S.calls k _ _ A40 c41 m42 A7 c8 m9 t39.1 t6.1 _ ((fun (hq : Ms _ _ _ ([] ++ [.vec A40 c41 2 1 m42 (ints t39.1), .vec A36 c37 2 1 m38 (ints t35), .vec A15 c16 2 1 m17 (ints t31.2), .vec A11 c12 2 1 m13 (ints t27.2), .vec A22 c23 2 1 m24 (ints t21), .vec A7 c8 2 1 m9 (ints t6.1), .vec A3 c4 2 1 m5 (ints t2)]) _ _) => hq.lend (φp := [IntsAt A40 c41 m42 t39.1, IntsAt A7 c8 m9 t6.1]) (allRO_cons (hq.lendVec 0 rfl) (allRO_cons (hq.lendVec 5 rfl) (allRO_nil)))) (hm.pick (own' := [] ++ [.vec A40 c41 2 1 m42 (ints t39.1), .vec A36 c37 2 1 m38 (ints t35), .vec A15 c16 2 1 m17 (ints t31.2), .vec A11 c12 2 1 m13 (ints t27.2), .vec A22 c23 2 1 m24 (ints t21), .vec A7 c8 2 1 m9 (ints t6.1), .vec A3 c4 2 1 m5 (ints t2)]) [0, 1, 2, 3, 4, 5, 6] rfl (by decide))) et43
                  refine wpl_call _ rfl rfl ht rfl rfl rfl rfl can_16 hcall ?_
                  clear hcall
                  rintro _ w ⟨rfl, hpost⟩ a ht
                  replace hm := (hm.pick (own' := [] ++ [.vec A40 c41 2 1 m42 (ints t39.1), .vec A36 c37 2 1 m38 (ints t35), .vec A15 c16 2 1 m17 (ints t31.2), .vec A11 c12 2 1 m13 (ints t27.2), .vec A22 c23 2 1 m24 (ints t21), .vec A7 c8 2 1 m9 (ints t6.1), .vec A3 c4 2 1 m5 (ints t2)]) [0, 1, 2, 3, 4, 5, 6] rfl (by decide)).backL hpost
                  clear hpost
                  refine wpl rfl rfl ht (ev_not ht rfl rfl) ?_
                  intro a ht
                  refine wpl rfl rfl ht (ev_move ht rfl rfl) ?_
                  intro a ht
                  by_cases h44 : t43 = true
                  · replace H := ite_yes h44 H
                    refine wpl_yes rfl ht rfl ((not_t h44)) ?_
                    refine wpl rfl rfl ht (ev_move ht rfl rfl) ?_
                    intro a ht
                    refine wpl_yes rfl ht rfl ((not_t h44)) ?_
                    refine wpl rfl rfl ht (ev_move ht rfl rfl) ?_
                    intro a ht
                    refine wpl_yes rfl ht rfl ((not_t h44)) ?_
                    refine wpl rfl rfl ht (ev_cmp ht rfl rfl rfl rfl) ?_
                    intro a ht
                    refine wpl rfl rfl ht (ev_pick_no ht rfl rfl (not_t h44) rfl) ?_
                    intro a ht
                    refine wpList_nil ?_
                    refine then_normal ?_
                    by_cases h45 : t39.2 ≠ t6.2
                    · replace H := ite_yes h45 H
                      refine wpc_yes ht rfl (decide_eq_true h45) ?_
                      refine wp_seq ?_
                      refine wpr ?_
                      refine wpl rfl rfl ht (ev_assign ht rfl rfl) ?_
                      intro a ht
                      refine wpList_nil ?_
                      refine then_normal ?_
                      refine wp_ret ?_
                      refine then_ret ?_
                      have hres := ht.res (P := Try.prog) (w := w) (rs := [.tmp 4]) (vs := [.bool false]) (.tmp rfl .nil)
                      obtain rfl := Option.some.inj H
                      exact leave ht rfl hres ⟨rfl, ((hm.pick [] rfl (by decide)).pickφ [] rfl).post fun _ h => h⟩
                    · replace H := ite_no h45 H
                      refine wpc_no ht rfl (decide_eq_false h45) ?_
                      refine wp_skip ?_
                      refine then_normal ?_
                      refine wp_seq ?_
                      refine wpr ?_
                      refine wpl rfl rfl ht (ev_assign ht rfl rfl) ?_
                      intro a ht
                      refine wpList_nil ?_
                      refine then_normal ?_
                      refine wp_seq ?_
                      refine wpr ?_
                      refine wpl rfl rfl ht (ev_move ht rfl rfl) ?_
                      intro a ht
                      refine wpl rfl rfl ht (ev_move ht rfl rfl) ?_
                      intro a ht
                      obtain ⟨t46, et46, H⟩ := bind_get H
                      have hcall := laws_heldInt64S.calls k _ _ A15 c16 m17 t31.2 1 _ ((fun (hq : Ms _ _ _ ([] ++ [.vec A40 c41 2 1 m42 (ints t39.1), .vec A36 c37 2 1 m38 (ints t35), .vec A15 c16 2 1 m17 (ints t31.2), .vec A11 c12 2 1 m13 (ints t27.2), .vec A22 c23 2 1 m24 (ints t21), .vec A7 c8 2 1 m9 (ints t6.1), .vec A3 c4 2 1 m5 (ints t2)]) _ _) => hq.lend (φp := [IntsAt A15 c16 m17 t31.2]) (allRO_cons (hq.lendVec 2 rfl) (allRO_nil))) (hm.pick (own' := [] ++ [.vec A40 c41 2 1 m42 (ints t39.1), .vec A36 c37 2 1 m38 (ints t35), .vec A15 c16 2 1 m17 (ints t31.2), .vec A11 c12 2 1 m13 (ints t27.2), .vec A22 c23 2 1 m24 (ints t21), .vec A7 c8 2 1 m9 (ints t6.1), .vec A3 c4 2 1 m5 (ints t2)]) [0, 1, 2, 3, 4, 5, 6] rfl (by decide))) et46
                      refine wpl_call _ rfl rfl ht rfl rfl rfl rfl can_20 hcall ?_
                      clear hcall
                      rintro _ w ⟨rfl, hpost⟩ a ht
                      replace hm := (hm.pick (own' := [] ++ [.vec A40 c41 2 1 m42 (ints t39.1), .vec A36 c37 2 1 m38 (ints t35), .vec A15 c16 2 1 m17 (ints t31.2), .vec A11 c12 2 1 m13 (ints t27.2), .vec A22 c23 2 1 m24 (ints t21), .vec A7 c8 2 1 m9 (ints t6.1), .vec A3 c4 2 1 m5 (ints t2)]) [0, 1, 2, 3, 4, 5, 6] rfl (by decide)).backL hpost
                      clear hpost
                      refine wpl rfl rfl ht (ev_assign ht rfl rfl) ?_
                      intro a ht
                      refine wpList_nil ?_
                      refine then_normal ?_
                      refine wp_seq ?_
                      refine wp_seq ?_
                      refine wpr ?_
                      refine wpl rfl rfl ht (ev_move ht rfl rfl) ?_
                      intro a ht
                      refine wpl rfl rfl ht (ev_cmp ht rfl rfl rfl rfl) ?_
                      intro a ht
                      refine wpList_nil ?_
                      refine then_normal ?_
                      by_cases h47 : t46 < 0
                      · replace H := ite_yes h47 H
                        refine wpc_yes ht rfl (decide_eq_true h47) ?_
                        refine wp_seq ?_
                        refine wpr ?_
                        refine wpl rfl rfl ht (ev_assign ht rfl rfl) ?_
                        intro a ht
                        refine wpList_nil ?_
                        refine then_normal ?_
                        refine wp_ret ?_
                        refine then_ret ?_
                        have hres := ht.res (P := Try.prog) (w := w) (rs := [.tmp 4]) (vs := [.bool false]) (.tmp rfl .nil)
                        obtain rfl := Option.some.inj H
                        exact leave ht rfl hres ⟨rfl, ((hm.pick [] rfl (by decide)).pickφ [] rfl).post fun _ h => h⟩
                      · replace H := ite_no h47 H
                        refine wpc_no ht rfl (decide_eq_false h47) ?_
                        refine wp_skip ?_
                        refine then_normal ?_
                        refine wp_seq ?_
                        refine wp_seq ?_
                        refine wpr ?_
                        refine wpl rfl rfl ht (ev_move ht rfl rfl) ?_
                        intro a ht
                        refine wpl rfl rfl ht (ev_move ht rfl rfl) ?_
                        intro a ht
                        refine wpl rfl rfl ht (ev_cmp ht rfl rfl rfl rfl) ?_
                        intro a ht
                        refine wpList_nil ?_
                        refine then_normal ?_
                        by_cases h48 : t46 ≠ t31.1
                        · replace H := ite_yes h48 H
                          refine wpc_yes ht rfl (decide_eq_true h48) ?_
                          refine wp_seq ?_
                          refine wpr ?_
                          refine wpl rfl rfl ht (ev_assign ht rfl rfl) ?_
                          intro a ht
                          refine wpList_nil ?_
                          refine then_normal ?_
                          refine wp_ret ?_
                          refine then_ret ?_
                          have hres := ht.res (P := Try.prog) (w := w) (rs := [.tmp 4]) (vs := [.bool false]) (.tmp rfl .nil)
                          obtain rfl := Option.some.inj H
                          exact leave ht rfl hres ⟨rfl, ((hm.pick [] rfl (by decide)).pickφ [] rfl).post fun _ h => h⟩
                        · replace H := ite_no h48 H
                          refine wpc_no ht rfl (decide_eq_false h48) ?_
                          refine wp_skip ?_
                          refine then_normal ?_
                          refine wp_seq ?_
                          refine wpr ?_
                          refine wpl rfl rfl ht (ev_assign ht rfl rfl) ?_
                          intro a ht
                          refine wpList_nil ?_
                          refine then_normal ?_
                          refine wp_ret ?_
                          have hres := ht.res (P := Try.prog) (w := w) (rs := [.tmp 4]) (vs := [.bool true]) (.tmp rfl .nil)
                          obtain rfl := Option.some.inj H
                          exact leave ht rfl hres ⟨rfl, ((hm.pick [] rfl (by decide)).pickφ [] rfl).post fun _ h => h⟩
                  · replace H := ite_no h44 H
                    refine wpl_no rfl rfl ht rfl (by rw [(not_f (Bool.eq_false_iff.mpr h44))]; decide) ?_
                    intro a ht
                    refine wpl_no rfl rfl ht rfl (by rw [(not_f (Bool.eq_false_iff.mpr h44))]; decide) ?_
                    intro a ht
                    refine wpl_no rfl rfl ht rfl (by rw [(not_f (Bool.eq_false_iff.mpr h44))]; decide) ?_
                    intro a ht
                    refine wpl rfl rfl ht (ev_pick_yes ht rfl rfl (not_f (Bool.eq_false_iff.mpr h44)) rfl) ?_
                    intro a ht
                    refine wpList_nil ?_
                    refine then_normal ?_
                    refine wpc_yes ht rfl rfl ?_
                    refine wp_seq ?_
                    refine wpr ?_
                    refine wpl rfl rfl ht (ev_assign ht rfl rfl) ?_
                    intro a ht
                    refine wpList_nil ?_
                    refine then_normal ?_
                    refine wp_ret ?_
                    refine then_ret ?_
                    have hres := ht.res (P := Try.prog) (w := w) (rs := [.tmp 4]) (vs := [.bool false]) (.tmp rfl .nil)
                    obtain rfl := Option.some.inj H
                    exact leave ht rfl hres ⟨rfl, ((hm.pick [] rfl (by decide)).pickφ [] rfl).post fun _ h => h⟩
            · replace H := ite_no h30 H
              refine wpl_no rfl rfl ht rfl (by rw [(not_f (Bool.eq_false_iff.mpr h30))]; decide) ?_
              intro a ht
              refine wpl_no rfl rfl ht rfl (by rw [(not_f (Bool.eq_false_iff.mpr h30))]; decide) ?_
              intro a ht
              refine wpl_no rfl rfl ht rfl (by rw [(not_f (Bool.eq_false_iff.mpr h30))]; decide) ?_
              intro a ht
              refine wpl rfl rfl ht (ev_pick_yes ht rfl rfl (not_f (Bool.eq_false_iff.mpr h30)) rfl) ?_
              intro a ht
              refine wpList_nil ?_
              refine then_normal ?_
              refine wpc_yes ht rfl rfl ?_
              refine wp_seq ?_
              refine wpr ?_
              refine wpl rfl rfl ht (ev_assign ht rfl rfl) ?_
              intro a ht
              refine wpList_nil ?_
              refine then_normal ?_
              refine wp_ret ?_
              refine then_ret ?_
              have hres := ht.res (P := Try.prog) (w := w) (rs := [.tmp 4]) (vs := [.bool false]) (.tmp rfl .nil)
              obtain rfl := Option.some.inj H
              exact leave ht rfl hres ⟨rfl, ((hm.pick [] rfl (by decide)).pickφ [] rfl).post fun _ h => h⟩
        · replace H := ite_no h26 H
          refine wpc_yes ht rfl (not_f (Bool.eq_false_iff.mpr h26)) ?_
          refine wp_seq ?_
          refine wpr ?_
          refine wpl rfl rfl ht (ev_assign ht rfl rfl) ?_
          intro a ht
          refine wpList_nil ?_
          refine then_normal ?_
          refine wp_ret ?_
          refine then_ret ?_
          have hres := ht.res (P := Try.prog) (w := w) (rs := [.tmp 4]) (vs := [.bool false]) (.tmp rfl .nil)
          obtain rfl := Option.some.inj H
          exact leave ht rfl hres ⟨rfl, ((hm.pick [] rfl (by decide)).pickφ [] rfl).post fun _ h => h⟩
    · replace H := ite_no h19 H
      refine wpl_no rfl rfl ht rfl (by rw [(not_f (Bool.eq_false_iff.mpr h19))]; decide) ?_
      intro a ht
      refine wpl_no rfl rfl ht rfl (by rw [(not_f (Bool.eq_false_iff.mpr h19))]; decide) ?_
      intro a ht
      refine wpl_no rfl rfl ht rfl (by rw [(not_f (Bool.eq_false_iff.mpr h19))]; decide) ?_
      intro a ht
      refine wpl rfl rfl ht (ev_pick_yes ht rfl rfl (not_f (Bool.eq_false_iff.mpr h19)) rfl) ?_
      intro a ht
      refine wpList_nil ?_
      refine then_normal ?_
      refine wpc_yes ht rfl rfl ?_
      refine wp_seq ?_
      refine wpr ?_
      refine wpl rfl rfl ht (ev_assign ht rfl rfl) ?_
      intro a ht
      refine wpList_nil ?_
      refine then_normal ?_
      refine wp_ret ?_
      refine then_ret ?_
      have hres := ht.res (P := Try.prog) (w := w) (rs := [.tmp 4]) (vs := [.bool false]) (.tmp rfl .nil)
      obtain rfl := Option.some.inj H
      exact leave ht rfl hres ⟨rfl, ((hm.pick [] rfl (by decide)).pickφ [] rfl).post fun _ h => h⟩

end Go.Proofs.Ytfbdcidedjocdaa.G
