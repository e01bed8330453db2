/- What each Go function computes, as a Lean function, and the proof that it does: written by a program of this session (wip/gen), part 9. -/
import Derived.Test.YtfbdcidedjocdaaGFnExactOutcomeOf8
namespace Go.Proofs.Ytfbdcidedjocdaa.G
open Go Go.RowKit Go.Proofs.Ytfbdcidedjocdaa.K
set_option linter.unusedVariables false
set_option linter.unusedSimpArgs false

/-! ### laws_FnExactOutcomeOf: function 10 (loop.example/g01362/laws.FnExactOutcomeOf) -/
def laws_FnExactOutcomeOf.f (k : Nat) (aN : Int) (aList : List Int) : Option (Bool) := if (aList.length : Int) > 1048576 then (some true) else ((laws_toInt64S.f k aList).bind fun t2 => (spec_OutcomeOf.f k aN t2).bind fun t6 => (laws_toInt64S.f k aList).bind fun t7 => (impl_OutcomeOf.f k aN t7).bind fun t11 => if t11.1 ≠ t6.1 then (some false) else (if t11.2 ≠ t6.2 then (some false) else ((laws_toInt64S.f k aList).bind fun t14 => (laws_eqInt64S.f k t7 t14).bind fun t18 => if t18 = true then (some true) else (some false))))
set_option maxRecDepth 100000 in
set_option maxHeartbeats 1000000 in
theorem laws_FnExactOutcomeOf.calls (k : Nat) (X : List Nat) (w0 : World) (A : Option Addr) (c : Nat) (m : Nat) (aN : Int) (aList : List Int) (r : Bool)
    (hp : Pre X w0 [] [IntsAt A c m aList]) (H : laws_FnExactOutcomeOf.f k aN aList = some r) :
    Calls Try.prog 10 [.int .i64 aN, .slice A m c].toArray w0 (Ret fun v w => v = .bool r ∧ Post X (fps []) w0 [] [] w) := by
  unfold laws_FnExactOutcomeOf.f at H
  refine enterM (n := 41) hp Try.func10 rfl rfl (Nat.le_of_ble_eq_true rfl) fun a w ht hm => ?_
  refine wp_seq ?_
  refine wpr ?_
  refine wpl rfl rfl ht (ev_assign ht rfl rfl) ?_
  intro a ht
  refine wpList_nil ?_
  refine then_normal ?_
  refine wp_seq ?_
  refine wp_seq ?_
  refine wpr ?_
  refine wpl rfl rfl ht (ev_move ht rfl rfl) ?_
  intro a ht
  refine wpl rfl rfl ht (ev_len_of ht rfl rfl und_22 (hm.fact (φ := IntsAt A c m aList) 0 rfl)) ?_
  intro a ht
  refine wpl rfl rfl ht (ev_cmp ht rfl rfl rfl rfl) ?_
  intro a ht
  refine wpList_nil ?_
  refine then_normal ?_
  by_cases h1 : (aList.length : Int) > 1048576
  · replace H := ite_yes h1 H
    refine wpc_yes ht rfl (decide_eq_true h1) ?_
    refine wp_seq ?_
    refine wpr ?_
    refine wpl rfl rfl ht (ev_assign ht rfl rfl) ?_
    intro a ht
    refine wpList_nil ?_
    refine then_normal ?_
    refine wp_ret ?_
    refine then_ret ?_
    have hres := ht.res (P := Try.prog) (w := w) (rs := [.tmp 4]) (vs := [.bool true]) (.tmp rfl .nil)
    obtain rfl := Option.some.inj H
    exact leave ht rfl hres ⟨rfl, ((hm.pick [] rfl (by decide)).pickφ [] rfl).post fun _ h => h⟩
  · replace H := ite_no h1 H
    refine wpc_no ht rfl (decide_eq_false h1) ?_
    refine wp_skip ?_
    refine then_normal ?_
    refine wp_seq ?_
    refine wpr ?_
    refine wpl rfl rfl ht (ev_move ht rfl rfl) ?_
    intro a ht
    refine wpl rfl rfl ht (ev_move ht rfl rfl) ?_
    intro a ht
    obtain ⟨t2, et2, H⟩ := bind_get H
    have hcall := laws_toInt64S.calls k _ _ A c m aList _ ((fun (hq : Ms _ _ _ ([] ++ []) _ _) => hq.lend (φp := [IntsAt A c m aList]) (allRO_cons (hq.lendFact 0 rfl) (allRO_nil))) (hm.pick (own' := [] ++ []) [] rfl (by decide))) et2
    refine wpl_call _ rfl rfl ht rfl rfl rfl rfl can_14 hcall ?_
    clear hcall
    rintro _ w ⟨A3, c4, m5, rfl, hpost⟩ a ht
    replace hm := (hm.pick (own' := [] ++ []) [] rfl (by decide)).backL hpost
    clear hpost
    obtain ⟨t6, et6, H⟩ := bind_get H
    have hcall := spec_OutcomeOf.calls k _ _ A3 c4 m5 aN t2 _ ((fun (hq : Ms _ _ _ ([] ++ [.vec A3 c4 2 1 m5 (ints t2)]) _ _) => hq.lend (φp := [IntsAt A3 c4 m5 t2]) (allRO_cons (hq.lendVec 0 rfl) (allRO_nil))) (hm.pick (own' := [] ++ [.vec A3 c4 2 1 m5 (ints t2)]) [0] rfl (by decide))) et6
    refine wpl_call _ rfl rfl ht rfl rfl rfl rfl can_31 hcall ?_
    clear hcall
    rintro _ w ⟨rfl, hpost⟩ a ht
    replace hm := (hm.pick (own' := [] ++ [.vec A3 c4 2 1 m5 (ints t2)]) [0] rfl (by decide)).backL hpost
    clear hpost
    refine wpl rfl rfl ht (ev_move ht rfl rfl) ?_
    intro a ht
    refine wpl rfl rfl ht (ev_extract ht rfl rfl rfl) ?_
    intro a ht
    refine wpl rfl rfl ht (ev_extract ht rfl rfl rfl) ?_
    intro a ht
    refine wpl rfl rfl ht (ev_assign ht rfl rfl) ?_
    intro a ht
    refine wpl rfl rfl ht (ev_assign ht rfl rfl) ?_
    intro a ht
    refine wpList_nil ?_
    refine then_normal ?_
    refine wp_seq ?_
    refine wpr ?_
    refine wpl rfl rfl ht (ev_move ht rfl rfl) ?_
    intro a ht
    obtain ⟨t7, et7, H⟩ := bind_get H
    have hcall := laws_toInt64S.calls k _ _ A c m aList _ ((fun (hq : Ms _ _ _ ([] ++ [.vec A3 c4 2 1 m5 (ints t2)]) _ _) => hq.lend (φp := [IntsAt A c m aList]) (allRO_cons (hq.lendFact 0 rfl) (allRO_nil))) (hm.pick (own' := [] ++ [.vec A3 c4 2 1 m5 (ints t2)]) [0] rfl (by decide))) et7
    refine wpl_call _ rfl rfl ht rfl rfl rfl rfl can_14 hcall ?_
    clear hcall
    rintro _ w ⟨A8, c9, m10, rfl, hpost⟩ a ht
    replace hm := (hm.pick (own' := [] ++ [.vec A3 c4 2 1 m5 (ints t2)]) [0] rfl (by decide)).backL hpost
    clear hpost
    refine wpl rfl rfl ht (ev_assign ht rfl rfl) ?_
    intro a ht
    refine wpList_nil ?_
    refine then_normal ?_
    refine wp_seq ?_
    refine wpr ?_
    refine wpl rfl rfl ht (ev_move ht rfl rfl) ?_
    intro a ht
    refine wpl rfl rfl ht (ev_move ht rfl rfl) ?_
    intro a ht
    obtain ⟨t11, et11, H⟩ := bind_get H
    have hcall := impl_OutcomeOf.calls k _ _ A8 c9 m10 aN t7 _ ((fun (hq : Ms _ _ _ ([] ++ [.vec A8 c9 2 1 m10 (ints t7), .vec A3 c4 2 1 m5 (ints t2)]) _ _) => hq.lend (φp := [IntsAt A8 c9 m10 t7]) (allRO_cons (hq.lendVec 0 rfl) (allRO_nil))) (hm.pick (own' := [] ++ [.vec A8 c9 2 1 m10 (ints t7), .vec A3 c4 2 1 m5 (ints t2)]) [0, 1] rfl (by decide))) et11
    refine wpl_call _ rfl rfl ht rfl rfl rfl rfl can_32 hcall ?_
    clear hcall
    rintro _ w ⟨rfl, hpost⟩ a ht
    replace hm := (hm.pick (own' := [] ++ [.vec A8 c9 2 1 m10 (ints t7), .vec A3 c4 2 1 m5 (ints t2)]) [0, 1] rfl (by decide)).backL hpost
    clear hpost
    refine wpl rfl rfl ht (ev_move ht rfl rfl) ?_
    intro a ht
    refine wpl rfl rfl ht (ev_extract ht rfl rfl rfl) ?_
    intro a ht
    refine wpl rfl rfl ht (ev_extract ht rfl rfl rfl) ?_
    intro a ht
    refine wpl rfl rfl ht (ev_assign ht rfl rfl) ?_
    intro a ht
    refine wpl rfl rfl ht (ev_assign ht rfl rfl) ?_
    intro a ht
    refine wpList_nil ?_
    refine then_normal ?_
    refine wp_seq ?_
    refine wp_seq ?_
    refine wpr ?_
    refine wpl rfl rfl ht (ev_move ht rfl rfl) ?_
    intro a ht
    refine wpl rfl rfl ht (ev_move ht rfl rfl) ?_
    intro a ht
    refine wpl rfl rfl ht (ev_cmp ht rfl rfl rfl rfl) ?_
    intro a ht
    refine wpl rfl rfl ht (ev_move ht rfl rfl) ?_
    intro a ht
    by_cases h12 : t11.1 ≠ t6.1
    · replace H := ite_yes h12 H
      refine wpl_no rfl rfl ht rfl (by rw [(decide_eq_true h12)]; decide) ?_
      intro a ht
      refine wpl_no rfl rfl ht rfl (by rw [(decide_eq_true h12)]; decide) ?_
      intro a ht
      refine wpl_no rfl rfl ht rfl (by rw [(decide_eq_true h12)]; decide) ?_
      intro a ht
      refine wpl rfl rfl ht (ev_pick_yes ht rfl rfl (decide_eq_true h12) rfl) ?_
      intro a ht
      refine wpList_nil ?_
      refine then_normal ?_
      refine wpc_yes ht rfl rfl ?_
      refine wp_seq ?_
      refine wpr ?_
      refine wpl rfl rfl ht (ev_assign ht rfl rfl) ?_
      intro a ht
      refine wpList_nil ?_
      refine then_normal ?_
      refine wp_ret ?_
      refine then_ret ?_
      have hres := ht.res (P := Try.prog) (w := w) (rs := [.tmp 4]) (vs := [.bool false]) (.tmp rfl .nil)
      obtain rfl := Option.some.inj H
      exact leave ht rfl hres ⟨rfl, ((hm.pick [] rfl (by decide)).pickφ [] rfl).post fun _ h => h⟩
    · replace H := ite_no h12 H
      refine wpl_yes rfl ht rfl ((decide_eq_false h12)) ?_
      refine wpl rfl rfl ht (ev_move ht rfl rfl) ?_
      intro a ht
      refine wpl_yes rfl ht rfl ((decide_eq_false h12)) ?_
      refine wpl rfl rfl ht (ev_move ht rfl rfl) ?_
      intro a ht
      refine wpl_yes rfl ht rfl ((decide_eq_false h12)) ?_
      refine wpl rfl rfl ht (ev_cmp ht rfl rfl rfl rfl) ?_
      intro a ht
      refine wpl rfl rfl ht (ev_pick_no ht rfl rfl (decide_eq_false h12) rfl) ?_
      intro a ht
      refine wpList_nil ?_
      refine then_normal ?_
      by_cases h13 : t11.2 ≠ t6.2
      · replace H := ite_yes h13 H
        refine wpc_yes ht rfl (decide_eq_true h13) ?_
        refine wp_seq ?_
        refine wpr ?_
        refine wpl rfl rfl ht (ev_assign ht rfl rfl) ?_
        intro a ht
        refine wpList_nil ?_
        refine then_normal ?_
        refine wp_ret ?_
        refine then_ret ?_
        have hres := ht.res (P := Try.prog) (w := w) (rs := [.tmp 4]) (vs := [.bool false]) (.tmp rfl .nil)
        obtain rfl := Option.some.inj H
        exact leave ht rfl hres ⟨rfl, ((hm.pick [] rfl (by decide)).pickφ [] rfl).post fun _ h => h⟩
      · replace H := ite_no h13 H
        refine wpc_no ht rfl (decide_eq_false h13) ?_
        refine wp_skip ?_
        refine then_normal ?_
        refine wp_seq ?_
        refine wp_seq ?_
        refine wpr ?_
        refine wpl rfl rfl ht (ev_move ht rfl rfl) ?_
        intro a ht
        refine wpl rfl rfl ht (ev_move ht rfl rfl) ?_
        intro a ht
        obtain ⟨t14, et14, H⟩ := bind_get H
        have hcall := laws_toInt64S.calls k _ _ A c m aList _ ((fun (hq : Ms _ _ _ ([] ++ [.vec A8 c9 2 1 m10 (ints t7), .vec A3 c4 2 1 m5 (ints t2)]) _ _) => hq.lend (φp := [IntsAt A c m aList]) (allRO_cons (hq.lendFact 0 rfl) (allRO_nil))) (hm.pick (own' := [] ++ [.vec A8 c9 2 1 m10 (ints t7), .vec A3 c4 2 1 m5 (ints t2)]) [0, 1] rfl (by decide))) et14
        refine wpl_call _ rfl rfl ht rfl rfl rfl rfl can_14 hcall ?_
        clear hcall
        rintro _ w ⟨A15, c16, m17, rfl, hpost⟩ a ht
        replace hm := (hm.pick (own' := [] ++ [.vec A8 c9 2 1 m10 (ints t7), .vec A3 c4 2 1 m5 (ints t2)]) [0, 1] rfl (by decide)).backL hpost
        clear hpost
        obtain ⟨t18, et18, H⟩ := bind_get H
        have hcall := laws_eqInt64S.calls k _ _ A8 c9 m10 A15 c16 m17 t7 t14 _ ((fun (hq : Ms _ _ _ ([] ++ [.vec A15 c16 2 1 m17 (ints t14), .vec A8 c9 2 1 m10 (ints t7), .vec A3 c4 2 1 m5 (ints t2)]) _ _) => hq.lend (φp := [IntsAt A8 c9 m10 t7, IntsAt A15 c16 m17 t14]) (allRO_cons (hq.lendVec 1 rfl) (allRO_cons (hq.lendVec 0 rfl) (allRO_nil)))) (hm.pick (own' := [] ++ [.vec A15 c16 2 1 m17 (ints t14), .vec A8 c9 2 1 m10 (ints t7), .vec A3 c4 2 1 m5 (ints t2)]) [0, 1, 2] rfl (by decide))) et18
        refine wpl_call _ rfl rfl ht rfl rfl rfl rfl can_16 hcall ?_
        clear hcall
        rintro _ w ⟨rfl, hpost⟩ a ht
        replace hm := (hm.pick (own' := [] ++ [.vec A15 c16 2 1 m17 (ints t14), .vec A8 c9 2 1 m10 (ints t7), .vec A3 c4 2 1 m5 (ints t2)]) [0, 1, 2] rfl (by decide)).backL hpost
        clear hpost
        refine wpl rfl rfl ht (ev_not ht rfl rfl) ?_
        intro a ht
        refine wpList_nil ?_
        refine then_normal ?_
        by_cases h19 : t18 = true
        · replace H := ite_yes h19 H
          refine wpc_no ht rfl (not_t h19) ?_
          refine wp_skip ?_
          refine then_normal ?_
          refine wp_seq ?_
          refine wpr ?_
          refine wpl rfl rfl ht (ev_assign ht rfl rfl) ?_
          intro a ht
          refine wpList_nil ?_
          refine then_normal ?_
          refine wp_ret ?_
          have hres := ht.res (P := Try.prog) (w := w) (rs := [.tmp 4]) (vs := [.bool true]) (.tmp rfl .nil)
          obtain rfl := Option.some.inj H
          exact leave ht rfl hres ⟨rfl, ((hm.pick [] rfl (by decide)).pickφ [] rfl).post fun _ h => h⟩
        · replace H := ite_no h19 H
          refine wpc_yes ht rfl (not_f (Bool.eq_false_iff.mpr h19)) ?_
          refine wp_seq ?_
          refine wpr ?_
          refine wpl rfl rfl ht (ev_assign ht rfl rfl) ?_
          intro a ht
          refine wpList_nil ?_
          refine then_normal ?_
          refine wp_ret ?_
          refine then_ret ?_
          have hres := ht.res (P := Try.prog) (w := w) (rs := [.tmp 4]) (vs := [.bool false]) (.tmp rfl .nil)
          obtain rfl := Option.some.inj H
          exact leave ht rfl hres ⟨rfl, ((hm.pick [] rfl (by decide)).pickφ [] rfl).post fun _ h => h⟩

end Go.Proofs.Ytfbdcidedjocdaa.G
